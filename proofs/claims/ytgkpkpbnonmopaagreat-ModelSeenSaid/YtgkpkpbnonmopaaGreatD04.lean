/- Helpers. No condition. -/
import Derived.Test.YtgkpkpbnonmopaaGreatD02
import Derived.Test.YtgkpkpbnonmopaaGreatD03
import Derived.WalkKit
import Derived.Laws.StructEq
set_option maxRecDepth 20000
set_option linter.all false
namespace Go.Proofs.YtgkpkpbnonmopaaGreat
open Go Go.RowKit
def a3t (E:Env):Env->List Prop
 | []=>[]
 | s::r=>(E.get s.k=some s)::a3t E r
theorem Env.sub_of {E:Env}:∀{E':Env},Conj (a3t E E')->E.sub E'
 | [],_,k,s,h=>by cases h
 | s'::r,hc,k,s,h=>by
  simp only[Env.get]at h;split at h
  ·rename_i e;have:=Nat.eq_of_beq_eq_true e;injection h with h;subst h;rw[<- this];exact hc.1
  ·exact Env.sub_of hc.2 k s h
structure IsCx (X:Cx) (P:Program) (rs:List ResultVar) (N:Nat) (F:HP) (Post:Value->List Atom->Prop):Prop where
 hP:X.P=P
 hrs:X.fn.results.toList=rs
 hN:X.n=N
 hR:X.R=λe w'=>∃v As,e= .returned v/\Post v As/\Sep (.hp F::As) (hl w')/\Ext X.w0 w'
def a1C:List Nat->List Value->List Nat->Env
 | k::ks,v::r,[]=>⟨k,v,0, .tt⟩::a1C ks r []
 | k::ks,v::r,t::ts=>⟨k,v,t, .tt⟩::a1C ks r ts
 | _,_,_=>[]
def keys:List Nat:=[0,1,2,3,4,5,6,7,8,9,10,11]
def b6r:List Nat->Nat->Prop
 | [],_=>True
 | k::ks,n=>k=n/\b6r ks (n+1)
theorem a4r:∀(l:List Value) (k:Nat) (ks:List Nat) (ts:List Nat) (j:Nat) (s:Slot),b6r ks k->(a1C ks l ts).get j=some s->∃i,j=k+i/\l[i]? =some s.val
 | [],k,ks,ts,j,s,_,h=>by cases ks<;>simp[a1C,Env.get]at h
 | v::r,k,[],ts,j,s,_,h=>by simp[a1C,Env.get]at h
 | v::r,k,k'::ks,ts,j,s,hr,h=>by
  have key:∀(t:Nat) (ts':List Nat),Env.get (⟨k',v,t, .tt⟩::a1C ks r ts') j=some s->∃i,j=k+i/\(v::r)[i]? =some s.val:=by
   intro t ts' h;simp only[Env.get]at h;split at h
   ·rename_i e;have:=Nat.eq_of_beq_eq_true e;injection h with h;subst h;exact⟨0,by rw[<- this,hr.1];rfl,by simp[Slot.val,G.on]⟩
   ·obtain⟨i,e1,e2⟩:=a4r r (k+1) ks ts' j s hr.2 h;exact⟨i+1,by omega,by simpa using e2⟩
  cases ts with
  | nil=>exact key _ _ h
  | cons t ts=>exact key _ _ h
theorem Fn.enter {P:Program} {f:FuncId} {args:List Value} {Pre:List Atom} {Post:Value->List Atom->Prop} {fn:Func} {c:Code} {N:Nat} (tags:List Nat) (hf:P.funcs[f]? =some fn) (hb:fn.body=some c) (hN:fn.ntmps=N) (hl:Nat.ble args.length N=true)
  (h:∀(X:Cx) (F:HP),IsCx X P fn.results.toList N F Post->J X [.code c] (a1C keys args tags) (.hp F::Pre)):Fn P f args Pre Post:=by
 intro F w hs;have hle:=Nat.le_of_ble_eq_true hl;have hX:IsCx ⟨P,fn,N,λe w'=>∃v As,e= .returned v/\Post v As/\Sep (.hp F::As) (Go.Proofs.YtgkpkpbnonmopaaGreat.hl w')/\Ext w w',w⟩ P fn.results.toList N F Post:=⟨rfl,rfl,rfl,rfl⟩;have hJ:=h _ F hX;refine calls_of_wp hf hb ?_;refine hJ {tmps:=args.toArray++Array.replicate (fn.ntmps-args.toArray.size) undef,defers:=[]} w (Ext.refl w) ⟨by simp;omega,rfl,λk s hk=>?_⟩ hs;obtain⟨i,e1,e2⟩:=a4r args 0 keys tags k s ⟨rfl,rfl,rfl,rfl,rfl,rfl,rfl,rfl,rfl,rfl,rfl,rfl,trivial⟩ hk;have hi:i<args.length:=(List.getElem?_eq_some_iff.1 e2).1;have:k=i:=by omega
 subst this;rw[Array.getElem?_append,if_pos (by simpa using hi)];simpa using e2
section
variable {X : Cx} {P : Program} {T : Tab} {K : List KI} {E : Env} {L : List Atom} {N : Nat} {F : HP} {Post : Value → List Atom → Prop} {rs : List ResultVar}
theorem J.run (hX:IsCx X P rs N F Post) (hT:TabOK P T) (n:Nat) {K':(Nat->Nat)->List KI} {E':(Nat->Nat)->Env} {L':(Nat->Nat)->List Atom} {ob:(Nat->Nat)->List Prop}
  (h:∀bs,Go.Proofs.YtgkpkpbnonmopaaGreat.run T N bs n K E L [] 0=⟨K' bs,E' bs,L' bs,ob bs⟩) (hob:∀bs,Conj (ob bs)) (hJ:∀bs,J X (K' bs) (E' bs) (L' bs)):J X K E L:=by
 have hT':TabOK X.P T:=by rw[hX.hP];exact hT
 refine(a8Y hT' n K E L [] 0 (λ_=>0) λbs _=>?_).2;rw[hX.hN,h bs];exact⟨hob bs,hJ bs⟩
theorem J.r (hX:IsCx X P rs N F Post) (hT:TabOK P T) (n:Nat) {K':(Nat->Nat)->List KI} {E':(Nat->Nat)->Env} {L':(Nat->Nat)->List Atom} {ob:(Nat->Nat)->List Prop}
  (h:∀bs,Go.Proofs.YtgkpkpbnonmopaaGreat.run T N bs n K E L [] 0=⟨K' bs,E' bs,L' bs,ob bs⟩) (hJ:∀bs,J X (K' bs) (E' bs) (L' bs)) (hob:∀bs,Conj (ob bs):=by intro bs;(repeat' (first | exact Conj.nil | refine Conj.cons ?_ ?_ | omega | exact hq0 | (simpa using hq0) | (exactλh=>h) | exact rfl | (intro hq;have hq0:=hq;try simp only[Bool.and_eq_true,Bool.or_eq_true,decide_eq_true_eq,Bool.not_eq_true',decide_eq_false_iff_not]at hq) | (simp;done) | (simp;omega) | decide))):J X K E L:=J.run hX hT n h hob hJ
theorem J.loopN {c:Code} {α:Type} (I:α->Prop) (Ei:α->Env) (is:List Nat) (As:α->List Atom) (μ:α->Nat) (x0:α) {Li:α->List Atom} (h0:I x0) (hE:Conj (a3t E (Ei x0))) (ok:p6 L is=true) (hA:n6 L is=As x0) (hLi:∀x,H9 L is (As x)=some (Li x))
  (round:∀x,I x->J X (.code c:: .stop (λa w=>Ext X.w0 w/\∃x',I x'/\μ x'<μ x/\EnvOK X.n (Ei x') a/\Sep (Li x') (hl w))::K) (Ei x) (Li x)):J X (.code (.loop c)::K) E L:=
 J.loop I Ei Li μ x0 h0 (Env.sub_of hE) (λh s=>by
  have:=s.turn1 is ok (As:=As x0) (λh' s'=>by rw[hA]at s';exact s')
  rwa [<- X6 (D9 ok).1 (hLi x0)]at this) round
theorem J.lo {c:Code} {α:Type} (I:α->Prop) (Ei:α->Env) (is:List Nat) (As:α->List Atom) (μ:α->Nat) (x0:α) {Li:α->List Atom} (h0:I x0) (ok:p6 L is=true) (hA:n6 L is=As x0) (hLi:∀x,H9 L is (As x)=some (Li x))
  (round:∀x,I x->J X (.code c:: .stop (λa w=>Ext X.w0 w/\∃x',I x'/\μ x'<μ x/\EnvOK X.n (Ei x') a/\Sep (Li x') (hl w))::K) (Ei x) (Li x)) (hE:Conj (a3t E (Ei x0)):=by(repeat' (first | exact Conj.nil | refine Conj.cons ?_ ?_ | omega | exact hq0 | (simpa using hq0) | (exactλh=>h) | exact rfl | (intro hq;have hq0:=hq;try simp only[Bool.and_eq_true,Bool.or_eq_true,decide_eq_true_eq,Bool.not_eq_true',decide_eq_false_iff_not]at hq) | (simp;done) | (simp;omega) | decide))):J X (.code (.loop c)::K) E L:=J.loopN I Ei is As μ x0 h0 hE ok hA hLi round
theorem J.next {α:Type} {I:α->Prop} {Ei:α->Env} {Li:α->List Atom} {μ:α->Nat} {m:Nat} (x:α) (h1:I x) (h2:μ x<m) (h3:Conj (a3t E (Ei x))) (h4:∀h,Sep L h->Sep (Li x) h):
  J X (.stop (λa w=>Ext X.w0 w/\∃x',I x'/\μ x'<m/\EnvOK X.n (Ei x') a/\Sep (Li x') (hl w))::K) E L:=J.stop x h1 h2 (Env.sub_of h3) h4
theorem J.nx {α:Type} {I:α->Prop} {Ei:α->Env} {Li:α->List Atom} {μ:α->Nat} {m:Nat} (x:α) (h1:I x) (h2:μ x<m) (h4:∀h,Sep L h->Sep (Li x) h) (h3:Conj (a3t E (Ei x)):=by(repeat' (first | exact Conj.nil | refine Conj.cons ?_ ?_ | omega | exact hq0 | (simpa using hq0) | (exactλh=>h) | exact rfl | (intro hq;have hq0:=hq;try simp only[Bool.and_eq_true,Bool.or_eq_true,decide_eq_true_eq,Bool.not_eq_true',decide_eq_false_iff_not]at hq) | (simp;done) | (simp;omega) | decide))):
  J X (.stop (λa w=>Ext X.w0 w/\∃x',I x'/\μ x'<m/\EnvOK X.n (Ei x') a/\Sep (Li x') (hl w))::K) E L:=J.next x h1 h2 h3 h4
def b0G (T:Tab) (E:Env) (L:List Atom):ResultVar->Option (Value×List Prop)
 | .tmp t=>match E.get t with
  | some s=>some (s.v,H1 s)
  | none=>none
 | .cell p t=>match E.get p with
  | some s=>match a0a T L t s with
   | some r=>some (r.v,r.ob)
   | none=>none
  | none=>none
def a3L (T:Tab) (E:Env) (L:List Atom):List ResultVar->Option (List Value×List Prop)
 | []=>some ([],[])
 | r::l=>match b0G T E L r,a3L T E L l with
  | some (v,ob),some (vs,obs)=>some (v::vs,ob++obs)
  | _,_=>none
def a2o (T:Tab) (E:Env) (L:List Atom) (rs:List ResultVar):Option (Value×List Prop):=match a3L T E L rs with
 | some ([v],ob)=>some (v,ob)
 | some (vs,ob)=>some (.tuple vs.toArray,ob)
 | none=>none
theorem a3m {a:Act} {w:World}:∀K:List KI,bodyPost X.P X.fn X.R .ret a w->KW X K .ret a w
 | [],h=>h
 | .code c::K,h=>a3m K h
 | .reg o C t::K,h=>a3m K h
 | .blk id::K,h=>a3m K h
 | .stop R::K,h=>a3m K h
def b0H (tmps:Array Value):ResultVar->Sem Value
 | .tmp t=>pure (tmps.getD t undef)
 | .cell p t=>do loadVar t (<- asAddr (tmps.getD p undef))
theorem a7n (fn:Func) (tmps:Array Value):results fn tmps=(do
  let vs <- fn.results.mapM (b0H tmps)
  pure (if h:vs.size=1 then vs[0]else .tuple vs)):=rfl
theorem a3K (hT:TabOK P T) {a:Act} {w:World} {n:Nat} (he:EnvOK n E a) (hs:Sep L (hl w)):∀{rs:List ResultVar} {vs:List Value} {ob:List Prop},a3L T E L rs=some (vs,ob)->Conj ob->
  (rs.mapM (b0H a.tmps)).run P w= .ok vs w
 | [],vs,ob,h,_=>by simp only[a3L,Option.some.injEq,Prod.mk.injEq]at h;obtain⟨rfl,rfl⟩:=h;simp
 | r::l,vs,ob,h,hob=>by
  simp only[a3L]at h;split at h
  ·rename_i v ob1 vs' ob2 h1 h2;simp only[Option.some.injEq,Prod.mk.injEq]at h;obtain⟨rfl,rfl⟩:=h;obtain⟨o1,o2⟩:=Conj.app hob;have ih:=a3K hT he hs h2 o2;have h0:(b0H a.tmps r).run P w= .ok v w:=by
    cases r with
    | tmp t=>
     simp only[b0G]at h1;split at h1
     ·rename_i s hg;simp only[Option.some.injEq,Prod.mk.injEq]at h1;obtain⟨rfl,rfl⟩:=h1;have:=he.slot t s hg;rw[Z0 o1]at this;simp[b0H,this]
     ·cases h1
    | cell p t=>
     simp only[b0G]at h1;split at h1
     ·rename_i s hg;split at h1
      ·rename_i q hq;simp only[Option.some.injEq,Prod.mk.injEq]at h1;obtain⟨rfl,rfl⟩:=h1;have hv:Conj (H1 s):=by
        unfold a0a at hq
        (repeat' split at hq)<;>first | (cases hq;done) | (injection hq with hq;subst hq;exact o1.2)
       have:=he.slot p s hg;rw[Z0 hv]at this;have hr:=a2L (w:=w) hT hq o1 (λi A _ hA=>hs.get hA);have hsp:∃ad,s.v= .pointer (some ad):=by
        unfold a0a at hq;split at hq
        ·exact⟨_,rfl⟩
        ·cases hq
       obtain⟨ad,had⟩:=hsp;rw[had]at hr this;simp only[Instr.loadAt,Instr.sureAddr,Sem.run_bind,Sem.run_pure,Result.andThen_ok]at hr;simp[b0H,this,asAddr,hr]
      ·cases h1
     ·cases h1
   simp only[List.mapM_cons,Sem.run_bind,h0,Result.andThen_ok,ih,Sem.run_pure]
  ·cases h
theorem a6c (hT:TabOK P T) {a:Act} {w:World} {n:Nat} {fn:Func} (he:EnvOK n E a) (hs:Sep L (hl w)) {v:Value} {ob:List Prop} (h:a2o T E L fn.results.toList=some (v,ob)) (hob:Conj ob):(results fn a.tmps).run P w= .ok v w:=by
 have key:∀{vs:List Value} {ob':List Prop},a3L T E L fn.results.toList=some (vs,ob')->Conj ob'->(results fn a.tmps).run P w= .ok (if h:vs.toArray.size=1 then vs.toArray[0]else .tuple vs.toArray) w:=by
  intro vs ob' h1 h2;have:=a3K (P:=P) (w:=w) hT he hs h1 h2;rw[a7n,Array.mapM_eq_mapM_toList];simp only[map_eq_pure_bind,Sem.run_bind,this,Result.andThen_ok,Sem.run_pure]
 unfold a2o at h;split at h
 ·rename_i v' ob' h1;simp only[Option.some.injEq,Prod.mk.injEq]at h;obtain⟨rfl,rfl⟩:=h;rw[key h1 hob];simp
 ·rename_i vs ob' hne h1;simp only[Option.some.injEq,Prod.mk.injEq]at h;obtain⟨rfl,rfl⟩:=h;rw[key h1 hob];have:vs.toArray.size≠1:=by
   intro e
   match vs,e with
   | [x],_=>exact hne x rfl
  rw[dif_neg this]
 ·cases h
theorem Sep.sub {h:Hl} (s:Sep L h) (is:List Nat) (ok:p6 L is=true):Sep (n6 L is) h:=by
 obtain⟨own,hw⟩:=s.split ok;exact⟨λb=>own b-1,λj A hA=>Atom.up (λb o hb=>by
  rw[res_some]at hb ⊢;exact⟨by show own b-1=j;omega,hb.2⟩) (hw (j+1) A (by simpa using hA))⟩
theorem a6b (hX:IsCx X P rs N F Post) (hT:TabOK P T) {v:Value} {ob:List Prop} (is:List Nat) (h:a2o T E L rs=some (v,ob)) (hob:Conj ob) (ok:p6 L (0::is)=true) (h0:m6 L 0=some (.hp F)) (hP:Post v (n6 L is)) {a:Act} {w:World} (hx:Ext X.w0 w) (he:EnvOK X.n E a) (hs:Sep L (hl w)):
  a.defers=[]/\∃v,(results X.fn a.tmps).run X.P w= .ok v w/\X.R (.returned v) w:=by
 refine⟨he.defers,v,a6c (by rw[hX.hP];exact hT) he hs (by rw[hX.hrs];exact h) hob,?_⟩;rw[hX.hR];refine⟨v,n6 L is,rfl,hP,?_,hx⟩;have:=hs.sub (0::is) ok;rw[l9]at h0;simpa[n6,h0]using this
theorem J.ret (hX:IsCx X P rs N F Post) (hT:TabOK P T) {v:Value} {ob:List Prop} (is:List Nat) (h:a2o T E L rs=some (v,ob)) (hob:Conj ob) (ok:p6 L (0::is)=true) (h0:m6 L 0=some (.hp F)) (hP:Post v (n6 L is)):J X (.code .ret::K) E L:=
 λ_ _ hx he hs=>wp_ret (a3m K (a6b hX hT is h hob ok h0 hP hx he hs))
theorem J.fin (hX:IsCx X P rs N F Post) (hT:TabOK P T) {v:Value} {ob:List Prop} (is:List Nat) (h:a2o T E L rs=some (v,ob)) (hob:Conj ob) (ok:p6 L (0::is)=true) (h0:m6 L 0=some (.hp F)) (hP:Post v (n6 L is)):J X [] E L:=
 λ_ _ hx he hs=>a6b hX hT is h hob ok h0 hP hx he hs
theorem J.rt (hX:IsCx X P rs N F Post) (hT:TabOK P T) {v:Value} {ob:List Prop} (is:List Nat) (h:a2o T E L rs=some (v,ob)) (ok:p6 L (0::is)=true) (h0:m6 L 0=some (.hp F)) (hP:Post v (n6 L is)) (hob:Conj ob:=by(repeat' (first | exact Conj.nil | refine Conj.cons ?_ ?_ | omega | exact hq0 | (simpa using hq0) | (exactλh=>h) | exact rfl | (intro hq;have hq0:=hq;try simp only[Bool.and_eq_true,Bool.or_eq_true,decide_eq_true_eq,Bool.not_eq_true',decide_eq_false_iff_not]at hq) | (simp;done) | (simp;omega) | decide))):J X (.code .ret::K) E L:=J.ret hX hT is h hob ok h0 hP
theorem J.fi (hX:IsCx X P rs N F Post) (hT:TabOK P T) {v:Value} {ob:List Prop} (is:List Nat) (h:a2o T E L rs=some (v,ob)) (ok:p6 L (0::is)=true) (h0:m6 L 0=some (.hp F)) (hP:Post v (n6 L is)) (hob:Conj ob:=by(repeat' (first | exact Conj.nil | refine Conj.cons ?_ ?_ | omega | exact hq0 | (simpa using hq0) | (exactλh=>h) | exact rfl | (intro hq;have hq0:=hq;try simp only[Bool.and_eq_true,Bool.or_eq_true,decide_eq_true_eq,Bool.not_eq_true',decide_eq_false_iff_not]at hq) | (simp;done) | (simp;omega) | decide))):J X [] E L:=J.fin hX hT is h hob ok h0 hP
def a3g (E:Env) (op:Op):Option (FuncId×List Value×List Prop):=match op with
 | .call ⟨.value f,args,_⟩=>match ev E f,slots E args.toList with
  | some ⟨k, .func (.func g) fs cs,t,gg⟩,some l=>some (g,fs.toList++(vals l++cs.toList),H1 ⟨k, .func (.func g) fs cs,t,gg⟩++J0 l)
  | _,_=>none
 | _=>none
def m5 (P:Program) (f:FuncId):Bool:=match P.funcs[f]? with
 | some fn => fn.body.isSome && fn.name != "runtime.NumGoroutine"
 | none=>false
theorem a9S {f:FuncId} {vs:List Value} {ob:List Prop} {o:Oper} {a:Act} {w:World} {n:Nat} (he:EnvOK n E a) (hf:m5 P f=true) (h:a3g E o.op=some (f,vs,ob)) (hob:Conj ob):(execOp a.eval o).run P w= .ok (.enter f vs.toArray) w:=by
 unfold a3g at h;split at h
 ·rename_i fo args ts hop;split at h
  ·rename_i k g fs cs t gg l h1 h2;simp only[Option.some.injEq,Prod.mk.injEq]at h;obtain⟨rfl,rfl,rfl⟩:=h;obtain⟨o1,o2⟩:=Conj.app hob;have e1:=evs he h1 o1;have e2:=y4 he h2 o2;have e3:args.map a.eval=(vals l).toArray:=by apply Array.toList_inj.1;rw[Array.toList_map,e2]
   unfold m5 at hf;split at hf
   ·rename_i fn hfn;simp only[Bool.and_eq_true,Option.isSome_iff_exists,bne_iff_ne,ne_eq]at hf;obtain⟨⟨c,hc⟩,hn⟩:=hf;have hvs:(fs++(vals l).toArray++cs)=(fs.toList++(vals l++cs.toList)).toArray:=by
     apply Array.toList_inj.1;simp
    simp[execOp,hop,resolve,e1,e3,Deferred.ofValue,invoke,callFunc,hfn,hn,hc,hvs]
   ·cases hf
  ·cases h
 ·cases h
theorem J.call (hX:IsCx X P rs N F Post) {ops:Array Oper} {C:Cl} {l:Bool} {i:Nat} {t:PT} {o:Oper} {g:G} {f:FuncId} {vs:List Value} {ob:List Prop} {Pre:List Atom} {Po:Value->List Atom->Prop} {E':Value->Env}
  (hf:m5 P f=true) (c:Fn P f vs Pre Po) (is:List Nat) (tag:Nat) (ho:m6 ops.toList i=some o) (hg:gd ops.toList E o=some g) (hgo:g.on=true) (hc:a3g E o.op=some (f,vs,ob)) (hob:Conj ob) (ok:p6 L is=true) (hp:n6 L is=Pre)
  (hd:∀v,y9 N o.dst v tag .tt E=some (E' v)) (hJ:∀v As,Po v As->∃L',H9 L is As=some L'/\Conj (p4 l C L')/\J X (.reg ops C t::K) (E' v) L'):J X (.reg ops C (.alt l i t .non)::K) E L:=by
 intro a w hx he hs;rw[l9]at ho;have ho':ops[i]? =some o:=by simpa using ho
 refine⟨⟨o,ho',?_⟩,trivial⟩;have hw:=I6 he hg;unfold sOp;rw[if_pos (by rw[hw];exact hgo),a9S (P:=X.P) he (by rw[hX.hP];exact hf) hc hob];have hsp:=hs.split ok;rw[hp]at hsp;have hcall:=c (HP.of (D8 L is)) w hsp;rw[<- hX.hP]at hcall;refine Calls.mono hcall λe w' ⟨v,As,he',hpo,hs',hx'⟩=>⟨v,he',?_⟩;have hs2:=Sep.back ok hs';obtain⟨L',j0,j1,j2⟩:=hJ v As hpo;rw[<- X6 (D9 ok).1 j0]at hs2;exact⟨s7 j1 hs2,j2 _ w' (hx.trans hx') (u9 he (by rw[hX.hN];exact hd v) v rfl) hs2⟩
theorem J.ca (hX:IsCx X P rs N F Post) {ops:Array Oper} {C:Cl} {l:Bool} {i:Nat} {t:PT} {o:Oper} {g:G} {f:FuncId} {vs:List Value} {ob:List Prop} {Pre:List Atom} {Po:Value->List Atom->Prop} {E':Value->Env}
  (hf:m5 P f=true) (c:Fn P f vs Pre Po) (is:List Nat) (tag:Nat) (ho:m6 ops.toList i=some o) (hg:gd ops.toList E o=some g) (hgo:g.on=true) (hc:a3g E o.op=some (f,vs,ob)) (ok:p6 L is=true) (hp:n6 L is=Pre)
  (hd:∀v,y9 N o.dst v tag .tt E=some (E' v)) (hJ:∀v As,Po v As->∃L',H9 L is As=some L'/\Conj (p4 l C L')/\J X (.reg ops C t::K) (E' v) L') (hob:Conj ob:=by(repeat' (first | exact Conj.nil | refine Conj.cons ?_ ?_ | omega | exact hq0 | (simpa using hq0) | (exactλh=>h) | exact rfl | (intro hq;have hq0:=hq;try simp only[Bool.and_eq_true,Bool.or_eq_true,decide_eq_true_eq,Bool.not_eq_true',decide_eq_false_iff_not]at hq) | (simp;done) | (simp;omega) | decide))):J X (.reg ops C (.alt l i t .non)::K) E L:=J.call hX hf c is tag ho hg hgo hc hob ok hp hd hJ
theorem J.gcase (hX:IsCx X P rs N F Post) {ops:Array Oper} {C:Cl} {l:Bool} {i:Nat} {t:PT} {o:Oper} {b:Bool} {E':Env} (ho:m6 ops.toList i=some o) (hg:gd ops.toList E o=some (.when b)) (hd:y9 N o.dst undef 0 (.when false) E=some E') (hst:Conj (p4 l C L))
  (h1:b=true->J X (.reg ops C (.alt l i t .non)::K) E L) (h2:b=false->J X (.reg ops C t::K) E' L):J X (.reg ops C (.alt l i t .non)::K) E L:=by
 intro a w hx he hs;cases b with
 | true=>exact h1 rfl a w hx he hs
 | false=>
  rw[l9]at ho;have ho':ops[i]? =some o:=by simpa using ho
  refine⟨⟨o,ho',?_⟩,trivial⟩;have hw:=I6 he hg;unfold sOp;rw[if_neg (by rw[hw];simp[G.on])];exact⟨s7 hst hs,h2 rfl _ w hx (u9 he (by rw[hX.hN];exact hd) _ rfl) hs⟩
theorem J.op (hX:IsCx X P rs N F Post) {ops:Array Oper} {C:Cl} {l:Bool} {i:Nat} {t:PT} {o:Oper} {g:G} {S:Value->List Atom->Prop} {E':Value->Env} (tag:Nat) (ho:m6 ops.toList i=some o) (hg:gd ops.toList E o=some g) (hgo:g.on=true)
  (hr:∀a w,EnvOK N E a->Sep L (hl w)->∃v L' nv w',S v L'/\(execOp a.eval o).run P w= .ok nv w'/\(nv= .value v\/(nv= .skip/\v=undef))/\Sep L' (hl w')/\Ext w w')
  (hd:∀v,y9 N o.dst v tag .tt E=some (E' v)) (hJ:∀v L',S v L'->Conj (p4 l C L')/\J X (.reg ops C t::K) (E' v) L'):J X (.reg ops C (.alt l i t .non)::K) E L:=by
 intro a w hx he hs;rw[l9]at ho;have ho':ops[i]? =some o:=by simpa using ho
 refine⟨⟨o,ho',?_⟩,trivial⟩;have hw:=I6 he hg;have he2:=he;rw[hX.hN]at he2;obtain⟨v,L',nv,w',r0,r1,r2,r3,r4⟩:=hr a w he2 hs;unfold sOp;rw[<- hX.hP]at r1;rw[if_pos (by rw[hw];exact hgo),r1];obtain⟨j1,j2⟩:=hJ v L' r0;have he3:=u9 he2 (hd v) v rfl;rw[<- hX.hN]at he3;rcases r2 with rfl | ⟨rfl,rfl⟩
 ·exact⟨s7 j1 r3,j2 _ w' (hx.trans r4) he3 r3⟩
 ·exact⟨s7 j1 r3,j2 _ w' (hx.trans r4) he3 r3⟩
theorem J.val (hX:IsCx X P rs N F Post) {ops:Array Oper} {C:Cl} {l:Bool} {i:Nat} {t:PT} {o:Oper} {g:G} {E':Env} (v:Value) (tag:Nat) (ho:m6 ops.toList i=some o) (hg:gd ops.toList E o=some g)
  (hr:g.on=true->∀a w,EnvOK N E a->Sep L (hl w)->(execOp a.eval o).run P w= .ok (.value v) w)
  (hd:y9 N o.dst v tag g E=some E') (hst:Conj (p4 l C L)) (hJ:J X (.reg ops C t::K) E' L):J X (.reg ops C (.alt l i t .non)::K) E L:=by
 intro a w hx he hs;rw[l9]at ho;have ho':ops[i]? =some o:=by simpa using ho
 refine⟨⟨o,ho',?_⟩,trivial⟩;have hw:=I6 he hg;have he2:=he;rw[hX.hN]at he2;have he3:=u9 he2 hd _ rfl;rw[<- hX.hN]at he3;unfold sOp;cases hgo:g.on with
 | true=>
  have hr1:=hr hgo a w he2 hs;rw[<- hX.hP]at hr1;rw[if_pos (by rw[hw];exact hgo),hr1];rw[hgo]at he3;exact⟨s7 hst hs,hJ _ w hx he3 hs⟩
 | false=>
  rw[if_neg (by rw[hw,hgo];simp)];rw[hgo]at he3;exact⟨s7 hst hs,hJ _ w hx he3 hs⟩
theorem J.valT (hX:IsCx X P rs N F Post) {ops:Array Oper} {C:Cl} {p:Bool} {i:Nat} {t:PT} {o:Oper} {g:G} {E':Env} (v:Value) (tag:Nat) (ho:m6 ops.toList i=some o) (hg:gd ops.toList E o=some g)
  (hr:g.on=true->∀a w,EnvOK N E a->(p=false->CAt C w)->(execOp a.eval o).run P w= .ok (.value v) w)
  (hd:y9 N o.dst v tag g E=some E') (hJ:J X (.reg ops C t::K) E' L):J X (.reg ops C (.take p i t)::K) E L:=by
 intro a w hx he hs;rw[l9]at ho;have ho':ops[i]? =some o:=by simpa using ho
 have hw:=I6 he hg;have he2:=he;rw[hX.hN]at he2;have he3:=u9 he2 hd _ rfl;rw[<- hX.hN]at he3;cases hgo:g.on with
 | true=>
  rw[hgo]at he3;exact⟨o,v,ho', .inl ⟨by rw[hw];exact hgo,λw' hC=>by rw[hX.hP];exact hr hgo a w' he2 hC⟩,hJ _ w hx he3 hs⟩
 | false=>
  rw[hgo]at he3;exact⟨o,undef,ho', .inr ⟨by rw[hw];exact hgo,rfl⟩,hJ _ w hx he3 hs⟩
theorem J.slot {k:Nat} {s s':Slot} (h:E.get k=some s) (hk:s'.k=k) (hv:s'.val=s.val) (hJ:J X K (s'::E) L):J X K E L:=by
 intro a w hx he hs;refine hJ a w hx ⟨he.size,he.defers,λj u hu=>?_⟩ hs;simp only[Env.get]at hu;split at hu
 ·rename_i e;have:=Nat.eq_of_beq_eq_true e;injection hu with hu;subst hu;rw[<- this,hk,hv];exact he.slot k s h
 ·exact he.slot j u hu
end
theorem Fn.of_below {P:Program} {f:FuncId} {args:List Value} {v:Value} (h:∀w:World,Calls P f args.toArray w λe w'=>e= .returned v/\Below w.heap.size w w'):Fn P f args [] (λu As=>u=v/\As=[]):=λF w hs=>
 (h w).mono λe w' ⟨he,hb⟩=>⟨v,[],he,⟨rfl,rfl⟩,hs.up (λb o hb'=>by
  have hlt:b<w.heap.size:=by
   rcases Nat.lt_or_ge b w.heap.size with hlt | hge
   ·exact hlt
   ·simp only[hl]at hb';rw[Array.getElem?_eq_none hge]at hb';cases hb'
  exact(hb.block b hlt).trans hb'),⟨hb.os,hb.tape,hb.output,hb.size⟩⟩
theorem Fn.of_same {P:Program} {f:FuncId} {args:List Value} {v:Value} (h:∀w:World,Calls P f args.toArray w λe w'=>e= .returned v/\w=w'):Fn P f args [] (λu As=>u=v/\As=[]):=λF w hs=>
 (h w).mono λe w' ⟨he,hb⟩=>by subst hb;exact⟨v,[],he,⟨rfl,rfl⟩,hs,Ext.refl _⟩
theorem Fn.of_drew {P:Program} {f:FuncId} {args:List Value} {v:Value} (h:∀w:World,Calls P f args.toArray w λe w'=>e= .returned v/\∃n,w'=w.drewN n):Fn P f args [] (λu As=>u=v/\As=[]):=λF w hs=>
 (h w).mono λe w' ⟨he,n,hb⟩=>by subst hb;exact⟨v,[],he,⟨rfl,rfl⟩,hs,⟨rfl,rfl,rfl,Nat.le_refl _⟩⟩

inductive Lk where
 | int (k:IntKind)
 | bool
def Lk.fits:Lk->Value->Prop
 | .int k, .int k' _=>k'=k
 | .bool, .bool _=>True
 | _,_=>False
def Fits:List Lk->List Value->Prop
 | [],[]=>True
 | k::ks,v::vs=>k.fits v/\Fits ks vs
 | _,_=>False
def a0e:Value->Value->Bool
 | .int _ a, .int _ b=>a==b
 | .bool a, .bool b=>a==b
 | _,_=>false
def j8:List Value->List Value->Bool
 | [],[]=>true
 | x::xs,y::ys=>a0e x y&&j8 xs ys
 | _,_=>false

theorem Fits.length:∀{ks:List Lk} {vs:List Value},Fits ks vs->vs.length=ks.length
 | [],[],_=>rfl
 | _::_,_::_,h=>by simpa using Fits.length h.2
 | [],_::_,h=>h.elim
 | _::_,[],h=>h.elim
theorem Fits.split:∀{a b:List Lk} {vs:List Value},Fits (a++b) vs->Fits a (vs.take a.length)/\Fits b (vs.drop a.length)
 | [],_,_,h=>⟨by trivial,h⟩
 | _::a,_,v::vs,h=>⟨⟨h.1,(Fits.split (a:=a) h.2).1⟩,(Fits.split (a:=a) h.2).2⟩
 | _::_,_,[],h=>h.elim
theorem Fits.append:∀{a b:List Lk} {xs ys:List Value},Fits a xs->Fits b ys->Fits (a++b) (xs++ys)
 | [],_,[],_,_,h=>h
 | _::a,_,_::_,_,h,h'=>⟨h.1,Fits.append (a:=a) h.2 h'⟩
 | [],_,_::_,_,h,_=>h.elim
 | _::_,_,[],_,h,_=>h.elim
theorem y6:∀{a b c d:List Value},a.length=c.length->j8 (a++b) (c++d)=(j8 a c&&j8 b d)
 | [],_,[],_,_=>rfl
 | x::a,b,y::c,d,h=>by simp only[List.cons_append,j8,y6 (a:=a) (c:=c) (by simpa using h),Bool.and_assoc]
 | [],_,_::_,_,h=>by simp at h
 | _::_,_,[],_,h=>by simp at h

def L8 (v8:TypeId->Option (List Lk)):List Field->Nat->Option (List Lk)
 | [],_=>some []
 | f::fs,off=>
  if f.name ≠ "_" ∧ f.offset = off then
   match v8 f.type with
   | some l=>match L8 v8 fs (off+l.length)with
    | some r=>some (l++r)
    | none=>none
   | none=>none
  else none
def v8 (P:Program):Nat->TypeId->Option (List Lk)
 | 0,_=>none
 | d+1,t=>
  match P.underlying t with
  | some .bool=>some [.bool]
  | some (.int k)=>some [.int k]
  | some (.struct fs)=>
   match L8 (v8 P d) fs.toList 0 with
   | some l=>if P.stoodInHeld t=false/\(P.info? t).map (·.size)=some l.length then some l else none
   | none=>none
  | some (.array n e)=>
   match v8 P d e with
   | some l=>if(P.info? e).map (·.size)=some l.length/\(P.info? t).map (·.size)=some (List.replicate n l).flatten.length then some (List.replicate n l).flatten else none
   | none=>none
  | _=>none

def mkV (P:Program) (t:TypeId) (cs:List Value):Value:=
 match P.underlying t with
 | some (.struct _) | some (.array _ _)=> .agg cs.toArray
 | _=>cs.headD undef

section
variable {P : Program}
theorem V7 {d:Nat} {t:TypeId} {l:List Lk} (h:v8 P d t=some l) (cs:List Value) (off:Nat) (hf:Fits l ((cs.drop off).take l.length)) (w:World):
  (part t cs.toArray off).run P w= .ok (mkV P t ((cs.drop off).take l.length)) w:=by
 cases d with
 | zero=>cases h
 | succ d=>
  unfold v8 at h;unfold mkV;cases hu:P.underlying t with
  | none=>rw[hu]at h;cases h
  | some u=>
   rw[hu]at h;cases u with
   | bool=>
    injection h with h;subst h;simp only[part,isAgg,Sem.run_bind,run_underlying hu,Result.andThen_ok,Sem.run_pure,Bool.false_eq_true,if_false];have hl:=hf.length;cases hd:cs.drop off with
    | nil=>rw[hd]at hl;simp at hl
    | cons v r=>
     have:cs[off]? =some v:=by
      have:=congrArg (·[0]?) hd;simpa using this
     simp[this]
   | int k=>
    injection h with h;subst h;simp only[part,isAgg,Sem.run_bind,run_underlying hu,Result.andThen_ok,Sem.run_pure,Bool.false_eq_true,if_false];have hl:=hf.length;cases hd:cs.drop off with
    | nil=>rw[hd]at hl;simp at hl
    | cons v r=>
     have:cs[off]? =some v:=by
      have:=congrArg (·[0]?) hd;simpa using this
     simp[this]
   | struct fs=>
    simp only at h;split at h
    ·split at h
     ·rename_i l' _ hc;injection h with h;subst h;cases hi:P.info? t with
      | none=>rw[hi]at hc;simp at hc
      | some i=>
       rw[hi]at hc;have hs:i.size=l'.length:=by simpa using hc.2
       simp only[part,isAgg,Sem.run_bind,run_underlying hu,Result.andThen_ok,Sem.run_pure,if_true,sizeOf,typeInfo,run_program,hi,hs];congr 2;simp[List.extract_eq_take_drop]
     ·cases h
    ·cases h
   | array n e=>
    simp only at h;split at h
    ·split at h
     ·rename_i l' _ hc;injection h with h;subst h;cases hi:P.info? t with
      | none=>rw[hi]at hc;simp at hc
      | some i=>
       rw[hi]at hc;have hs:i.size=(List.replicate n l').flatten.length:=by simpa using hc.2
       simp only[part,isAgg,Sem.run_bind,run_underlying hu,Result.andThen_ok,Sem.run_pure,if_true,sizeOf,typeInfo,run_program,hi,hs];congr 2;simp[List.extract_eq_take_drop]
     ·cases h
    ·cases h
   | _=>cases h

theorem a1x {t:TypeId} {fs:Array Field} (h:P.underlying t=some (.struct fs)):P.fieldsOf t=fs:=by simp[Program.fieldsOf,h]

theorem T8 {d D:Nat} (ih:∀t l,v8 P d t=some l->∀xs ys,Fits l xs->Fits l ys->∀w,(Op.equalIn D t (mkV P t xs) (mkV P t ys)).run P w= .ok (j8 xs ys) w) (xs ys:List Value):
  ∀(fs:List Field) (off:Nat) (r:List Lk),L8 (v8 P d) fs off=some r->Fits r (xs.drop off)->Fits r (ys.drop off)->∀w,(Op.eqFields D xs.toArray ys.toArray fs).run P w= .ok (j8 (xs.drop off) (ys.drop off)) w
 | [],off,r,h,hx,hy,w=>by
  injection h with h;subst h;have h1:=List.eq_nil_of_length_eq_zero (Fits.length hx);have h2:=List.eq_nil_of_length_eq_zero (Fits.length hy);rw[h1,h2];simp[Op.eqFields,j8]
 | f::fs,off,r,h,hx,hy,w=>by
  unfold L8 at h;split at h
  ·rename_i hc;split at h
   ·rename_i l hl;split at h
    ·rename_i r' hr;injection h with h;subst h;obtain⟨hx1,hx2⟩:=Fits.split hx;obtain⟨hy1,hy2⟩:=Fits.split hy;rw[List.drop_drop]at hx2 hy2;have e:=T8 ih xs ys fs (off+l.length) r' hr hx2 hy2;have lx:=Fits.length hx1;have ly:=Fits.length hy1;unfold Op.eqFields;rw[if_pos hc.1];simp only[Sem.run_bind,hc.2,V7 hl xs off hx1,V7 hl ys off hy1,Result.andThen_ok,ih _ _ hl _ _ hx1 hy1];have key:j8 (xs.drop off) (ys.drop off)=(j8 ((xs.drop off).take l.length) ((ys.drop off).take l.length)&&j8 (xs.drop (off+l.length)) (ys.drop (off+l.length))):=by
      conv=>lhs;rw[<- List.take_append_drop l.length (xs.drop off),<- List.take_append_drop l.length (ys.drop off)]
      rw[y6 (by rw[lx,ly]),List.drop_drop,List.drop_drop]
     rw[key];cases j8 ((xs.drop off).take l.length) ((ys.drop off).take l.length)
     ·simp
     ·simp only[Bool.not_true,Bool.false_eq_true,if_false,Bool.true_and];exact e w
    ·cases h
   ·cases h
  ·cases h

theorem a0y {e D m:Nat} {l:List Lk} (hm:m=l.length) (hpart:∀(cs:List Value) (off:Nat),Fits l ((cs.drop off).take l.length)->∀w,(part e cs.toArray off).run P w= .ok (mkV P e ((cs.drop off).take l.length)) w)
  (ih:∀xs ys,Fits l xs->Fits l ys->∀w,(Op.equalIn D e (mkV P e xs) (mkV P e ys)).run P w= .ok (j8 xs ys) w) (xs ys:List Value):
  ∀(k i:Nat),Fits (List.replicate k l).flatten (xs.drop (i*m))->Fits (List.replicate k l).flatten (ys.drop (i*m))->∀w,
   (forIn (List.range' i k) ((none,()):Option Bool×Unit) (λj (_:Option Bool×Unit)=>do
    let a <- part e xs.toArray (j*m)
    let b <- part e ys.toArray (j*m)
    let r <- Op.equalIn D e a b
    if(!r)=true then pure (ForInStep.done (some false,()))else do
     pure (ForInStep.yield (none,()))):Sem (Option Bool×Unit)).run P w= .ok (if j8 (xs.drop (i*m)) (ys.drop (i*m))then none else some false,()) w
 | 0,i,hx,hy,w=>by
  have h1:=List.eq_nil_of_length_eq_zero (Fits.length hx);have h2:=List.eq_nil_of_length_eq_zero (Fits.length hy);rw[h1,h2];simp[j8]
 | k+1,i,hx,hy,w=>by
  rw[List.replicate_succ,List.flatten_cons]at hx hy;obtain⟨hx1,hx2⟩:=Fits.split hx;obtain⟨hy1,hy2⟩:=Fits.split hy;rw[List.drop_drop]at hx2 hy2;have ei:i*m+l.length=(i+1)*m:=by rw[Nat.add_mul,hm];omega
  rw[ei]at hx2 hy2;have e':=a0y hm hpart ih xs ys k (i+1) hx2 hy2;have lx:=Fits.length hx1;have ly:=Fits.length hy1;rw[List.range'_succ,List.forIn_cons];simp only[Sem.run_bind,hpart xs _ hx1,hpart ys _ hy1,Result.andThen_ok,ih _ _ hx1 hy1];have key:j8 (xs.drop (i*m)) (ys.drop (i*m))=(j8 ((xs.drop (i*m)).take l.length) ((ys.drop (i*m)).take l.length)&&j8 (xs.drop ((i+1)*m)) (ys.drop ((i+1)*m))):=by
   conv=>lhs;rw[<- List.take_append_drop l.length (xs.drop (i*m)),<- List.take_append_drop l.length (ys.drop (i*m))]
   rw[y6 (by rw[lx,ly]),List.drop_drop,List.drop_drop,ei]
  rw[key];cases j8 ((xs.drop (i*m)).take l.length) ((ys.drop (i*m)).take l.length)
  ·simp
  ·simp only[Bool.not_true,Bool.false_eq_true,if_false,Bool.true_and,Sem.run_pure,Result.andThen_ok];exact e' w

theorem y5:∀(d:Nat) (t:TypeId) (l:List Lk),v8 P d t=some l->∀D,d<=D->∀xs ys,Fits l xs->Fits l ys->∀w,(Op.equalIn D t (mkV P t xs) (mkV P t ys)).run P w= .ok (j8 xs ys) w
 | 0,_,_,h,_,_,_,_,_,_,_=>by cases h
 | d+1,t,l,h,0,hD,_,_,_,_,_=>by omega
 | d+1,t,l,h,D+1,hD,xs,ys,hx,hy,w=>by
  have ih:=λt l h xs ys hx hy w=>y5 d t l h D (by omega) xs ys hx hy w;unfold v8 at h;unfold mkV;cases hu:P.underlying t with
  | none=>rw[hu]at h;cases h
  | some u=>
   rw[hu]at h;cases u with
   | bool=>
    injection h with h;subst h
    match xs,ys,hx,hy with
    | [.bool a],[.bool b],_,_=>simp[Op.equalIn,run_underlying hu,j8,a0e]
   | int k=>
    injection h with h;subst h
    match xs,ys,hx,hy with
    | [.int k1 a],[.int k2 b],h1,h2=>
     have e1:k1=k:=h1.1;have e2:k2=k:=h2.1;subst e1;subst e2;simp[Op.equalIn,run_underlying hu,j8,a0e]
   | struct fs=>
    simp only at h;split at h
    ·split at h
     ·rename_i l' hl hc;injection h with h;subst h;simp only;rw[run_equalIn_struct w D t _ _ (by rw[a1x hu];exact hu) hc.1,a1x hu];have:=T8 (P:=P) (λt l h xs ys hx hy w=>ih t l h xs ys hx hy w) xs ys fs.toList 0 l' hl (by simpa using hx) (by simpa using hy) w;simpa using this
     ·cases h
    ·cases h
   | array n e=>
    simp only at h;split at h
    ·split at h
     ·rename_i l' hl hc;injection h with h;subst h;cases hi:P.info? e with
      | none=>rw[hi]at hc;simp at hc
      | some i=>
       rw[hi]at hc;have hs:i.size=l'.length:=by simpa using hc.1
       have key:=a0y (P:=P) (e:=e) (D:=D) (m:=i.size) (l:=l') hs (λcs off hf w=>V7 hl cs off hf w) (λxs ys hx hy w=>ih e l' hl xs ys hx hy w) xs ys n 0 (by simpa using hx) (by simpa using hy) w;simp only[Op.equalIn,Sem.run_bind,run_underlying hu,Result.andThen_ok,sizeOf,typeInfo,run_program,hi,Sem.run_pure];simp only[Nat.zero_mul,List.drop_zero]at key;rw[Std.Legacy.Range.forIn_eq_forIn_range'];simp only[Std.Legacy.Range.size,Nat.sub_zero,Nat.add_sub_cancel,Nat.div_one];rw[key];cases j8 xs ys<;>simp
     ·cases h
    ·cases h
   | _=>cases h

theorem a2n {t:TypeId} {l:List Lk} (h:v8 P 100 t=some l) {xs ys:List Value} (hx:Fits l xs) (hy:Fits l ys) (hagg:mkV P t xs= .agg xs.toArray) (hagg2:mkV P t ys= .agg ys.toArray) (w:World):
  (binOp .eql t (.agg xs.toArray) (.agg ys.toArray)).run P w= .ok (.bool (j8 xs ys)) w:=by
 rw[run_eql_struct,<- hagg,<- hagg2,y5 100 t l h 10000 (by omega) xs ys hx hy];rfl
end

theorem rgo {P:Program} {w:World} {r:Nat} {es:Array MapEntry} {clock:Nat} (h:w.heap[r]? =some (.map es clock)):(getObj r).run P w= .ok (.map es clock) w:=by simp[getObj,Sem.run,h]
theorem rso {P:Program} {w:World} {r:Nat} {es:Array MapEntry} {clock:Nat} (o:Obj) (h:w.heap[r]? =some (.map es clock)):(setObj r o).run P w= .ok () {w with heap:=w.heap.setIfInBounds r o}:=by simp[setObj,Sem.run,h]
structure KeyOk (P:Program) (T:TypeId) {K:Type} [DecidableEq K] (kv:K->Value):Prop where
 now:∃d,P.underlying T=some d/\∀a b,Instr.sameNow d (kv a) (kv b)=none\/Instr.sameNow d (kv a) (kv b)=some (decide (a=b))
 eq:∀a b w,(Op.equal T (kv a) (kv b)).run P w= .ok (decide (a=b)) w
 check:∀e a w,(Instr.checkKey e 10000 T (kv a)).run P w= .ok () w
 bits:∀a,Instr.sameBits 10000 (kv a) (kv a)=true

section
variable {P : Program} {K : Type} [DecidableEq K] {kv : K → Value}

def fi:List (K×Value)->K->Nat->Option (Nat×Value)
 | [],_,_=>none
 | x::l,k,i=>if k=x.1 then some (i,x.2)else fi l k (i+1)
def r6:List (K×Value)->K->Option Value
 | [],_=>none
 | x::l,k=>if k=x.1 then some x.2 else r6 l k
def I1:List (K×Value)->K->Value->List (K×Value)
 | [],k,v=>[(k,v)]
 | x::l,k,v=>if k=x.1 then(k,v)::l else x::I1 l k v
def a0f:List (K×Value)->K->List (K×Value)
 | [],_=>[]
 | x::l,k=>if k=x.1 then l else x::a0f l k

def a1E (w:World) (r:Nat) (kv:K->Value) (l:List (K×Value)):Prop:=
 ∃es clock,w.heap[r]? =some (.map es clock)/\es.toList.map (λe=>(e.key,e.val))=l.map (λx=>(kv x.1,x.2))/\(es.toList.map (·.born)).Nodup/\∀e∈es.toList,e.born<clock

theorem a3j (l:List (K×Value)) (k:K):∀i,(fi l k i).map (·.2)=r6 l k:=by
 induction l with
 | nil=>intro i;rfl
 | cons x l ih=>
  intro i;unfold fi r6;split
  ·rfl
  ·exact ih _

theorem U9 {T:TypeId} (hk:KeyOk P T kv) (k:K) (w:World):∀(es:List MapEntry) (l:List (K×Value)) (i:Nat),es.map (λe=>(e.key,e.val))=l.map (λx=>(kv x.1,x.2))->
  (Instr.findAsking T (kv k) es i).run P w= .ok (fi l k i) w
 | [],[],i,_=>by simp[Instr.findAsking,fi]
 | e::es,x::l,i,h=>by
  simp only[List.map_cons,List.cons.injEq,Prod.mk.injEq]at h;obtain⟨⟨h1,h2⟩,h3⟩:=h;have ih:=U9 hk k w es l (i+1) h3;unfold Instr.findAsking fi;rw[h1,h2]
  by_cases hh:k=x.1
  ·simp[Sem.run_bind,hk.eq,hh]
  ·simp[Sem.run_bind,hk.eq,hh,ih]
 | [],_::_,_,h=>by simp at h
 | _::_,[],_,h=>by simp at h

theorem a2T {d:TypeDesc} (hd:∀a b,Instr.sameNow d (kv a) (kv b)=none\/Instr.sameNow d (kv a) (kv b)=some (decide (a=b))) (k:K):∀(es:List MapEntry) (l:List (K×Value)) (i:Nat),
  es.map (λe=>(e.key,e.val))=l.map (λx=>(kv x.1,x.2))->Instr.findNow d (kv k) es i=none\/Instr.findNow d (kv k) es i=some (fi l k i)
 | [],[],i,_=> .inr rfl
 | e::es,x::l,i,h=>by
  simp only[List.map_cons,List.cons.injEq,Prod.mk.injEq]at h;obtain⟨⟨h1,h2⟩,h3⟩:=h;have ih:=a2T hd k es l (i+1) h3;unfold Instr.findNow fi;rw[h1,h2];rcases hd k x.1 with hs | hs
  ·rw[hs];exact .inl rfl
  ·rw[hs]
   by_cases hh:k=x.1
   ·simp[hh]
   ·simp[hh];exact ih
 | [],_::_,_,h=>by simp at h
 | _::_,[],_,h=>by simp at h

theorem I5 {T:TypeId} (hk:KeyOk P T kv) (k:K) (w:World) (es:List MapEntry) (l:List (K×Value)) (h:es.map (λe=>(e.key,e.val))=l.map (λx=>(kv x.1,x.2))):
  (Instr.findKey T (kv k) es).run P w= .ok (fi l k 0) w:=by
 obtain⟨d,hd,hn⟩:=hk.now;unfold Instr.findKey;rw[Sem.run_bind,run_underlying hd];rcases a2T hn k es l 0 h with h1 | h1
 ·simp only[Result.andThen_ok,h1];exact U9 hk k w es l 0 h
 ·simp only[Result.andThen_ok,h1];rfl

theorem a4H {MT T E:TypeId} (hk:KeyOk P T kv) (hm:P.underlying MT=some (.map T E)) {z:Value} (hz:∀w,(zeroValue E).run P w= .ok z w) {w:World} {r:Nat} {l:List (K×Value)} (h:a1E w r kv l) (k:K) (c:Bool):
  (Instr.lookup MT (.map (some r)) (kv k) c).run P w= .ok (if c then .tuple #[(r6 l k).getD z, .bool (r6 l k).isSome]else(r6 l k).getD z) w:=by
 obtain⟨es,clock,h1,h2,_,_⟩:=h;have hf:=I5 hk k w es.toList l h2;have ha:=a3j l k 0;unfold Instr.lookup;simp only[Sem.run_bind,run_underlying hm,Result.andThen_ok,rgo h1,Sem.run_pure,hk.check,hf];rw[<- ha];cases fi l k 0 with
 | none=>simp only[Sem.run_bind,hz,Result.andThen_ok,Sem.run_pure,Option.map_none,Option.getD_none,Option.isSome_none]
 | some x=>simp only[Sem.run_bind,Result.andThen_ok,Sem.run_pure,Option.map_some,Option.getD_some,Option.isSome_some]

theorem a2V (l:List (K×Value)) (k:K):∀i j v,fi l k i=some (j,v)->i<=j/\j<i+l.length:=by
 induction l with
 | nil=>intro i j v h;cases h
 | cons x l ih=>
  intro i j v h;unfold fi at h;split at h
  ·injection h with h;injection h with h1 h2;subst h1;simp
  ·have:=ih _ _ _ h;simp;omega

theorem Z7:∀(es:List MapEntry) (l:List (K×Value)) (k:K) (v:Value) (i j:Nat) (u:Value),es.map (λe=>(e.key,e.val))=l.map (λx=>(kv x.1,x.2))->fi l k i=some (j,u)->
  (es.modify (j-i) λe=>{e with key:=kv k,val:=v}).map (λe=>(e.key,e.val))=(I1 l k v).map (λx=>(kv x.1,x.2))/\(es.modify (j-i) λe=>{e with key:=kv k,val:=v}).map (·.born)=es.map (·.born)
 | [],[],k,v,i,j,u,_,h=>by cases h
 | e::es,x::l,k,v,i,j,u,h,hf=>by
  simp only[List.map_cons,List.cons.injEq,Prod.mk.injEq]at h;obtain⟨⟨h1,h2⟩,h3⟩:=h;unfold fi at hf;split at hf
  ·rename_i hh;injection hf with hf;injection hf with e1 e2;subst e1;simp[I1,hh,h3]
  ·rename_i hh;have hl:=a2V _ _ _ _ _ hf;have ih:=Z7 es l k v (i+1) j u h3 hf;obtain⟨m,hm⟩:∃m,j-i=m+1:=⟨j-(i+1),by omega⟩;have hm2:j-(i+1)=m:=by omega
   rw[hm2]at ih;simp[hm,I1,hh,h1,h2,ih.1,ih.2]
 | [],_::_,_,_,_,_,_,h,_=>by simp at h
 | _::_,[],_,_,_,_,_,h,_=>by simp at h
theorem b3R (l:List (K×Value)) (k:K) (v:Value):∀i,fi l k i=none->I1 l k v=l++[(k,v)]:=by
 induction l with
 | nil=>intro i _;rfl
 | cons x l ih=>
  intro i h;unfold fi at h;split at h
  ·cases h
  ·rename_i hh;simp[I1,hh,ih _ h]

def World.putObj' (w:World) (r:Nat) (o:Obj):World:={w with heap:=w.heap.setIfInBounds r o}
theorem x6 (w:World) (r:Nat) (o:Obj):w.grownBy (World.putObj' w r o) (some r):=
 ⟨rfl,rfl,rfl,by simp[World.putObj'],λk _ hk=>by simp only[World.putObj'];rw[Array.getElem?_setIfInBounds];rw[if_neg (λe=>hk (by rw[e]))]⟩

theorem a1H {MT T E:TypeId} (hk:KeyOk P T kv) (hm:P.underlying MT=some (.map T E)) {w:World} {r:Nat} {l:List (K×Value)} (h:a1E w r kv l) (k:K) (v:Value):
  ∃w',(Instr.mapUpdate MT (.map (some r)) (kv k) v).run P w= .ok () w'/\a1E w' r kv (I1 l k v)/\w.grownBy w' (some r)/\w'.heap.size=w.heap.size:=by
 obtain⟨es,clock,h1,h2,h3,h4⟩:=h;have hf:=I5 hk k w es.toList l h2;have hr:r<w.heap.size:=(Array.getElem?_eq_some_iff.1 h1).1;unfold Instr.mapUpdate;simp only[Sem.run_bind,run_underlying hm,Result.andThen_ok,rgo h1,hk.check,hf];cases hfi:fi l k 0 with
 | none=>
  have hp:=b3R l k v 0 hfi;refine⟨World.putObj' w r (.map (es.push {key:=kv k,val:=v,born:=clock}) (clock+1)),?_,⟨es.push {key:=kv k,val:=v,born:=clock},clock+1,?_,?_,?_,?_⟩,x6 _ _ _,by simp[World.putObj']⟩
  ·simp only[rso _ h1];rfl
  ·simp[World.putObj',hr]
  ·rw[hp];simp[h2]
  ·simp only[Array.toList_push,List.map_append,List.map_cons,List.map_nil];rw[List.nodup_append];refine⟨h3,by simp,?_⟩;intro a ha b hb;simp at hb;obtain⟨e,he,rfl⟩:=List.mem_map.1 ha;have:=h4 e he;omega
  ·intro e he;simp at he;rcases he with he | rfl
   ·have:=h4 e (by simpa using he);omega
   ·simp
 | some x=>
  obtain⟨j,u⟩:=x;have hl:=a2V _ _ _ _ _ hfi;have hmp:=Z7 es.toList l k v 0 j u h2 hfi;rw[Nat.sub_zero]at hmp;have hlen:es.toList.length=l.length:=by have:=congrArg List.length h2;simpa using this
  have hj:j<es.size:=by simp at hlen;omega
  have hkey:((es[j]?).map (·.key)).getD (kv k)=kv k:=by
   have hx:(es.toList.map (λe=>(e.key,e.val)))[j]? =(l.map (λx=>(kv x.1,x.2)))[j]?:=by rw[h2]
   have hfk:∀(l:List (K×Value)) i j u,fi l k i=some (j,u)->(l[j-i]?).map (·.1)=some k:=by
    intro l
    induction l with
    | nil=>intro i j u h;cases h
    | cons x l ih=>
     intro i j u h;unfold fi at h;split at h
     ·rename_i hh;injection h with h;injection h with e1 _;subst e1;simp[hh]
     ·have hl2:=a2V _ _ _ _ _ h;have:=ih _ _ _ h;rw[show j-i=(j-(i+1))+1 from by omega,List.getElem?_cons_succ];exact this
   have h5:=hfk l 0 j u hfi;rw[Nat.sub_zero]at h5;rw[List.getElem?_map,List.getElem?_map]at hx;simp only[Array.getElem?_toList]at hx;cases he:es[j]? with
   | none=>rfl
   | some e=>
    rw[he]at hx;cases hlj:l[j]? with
    | none=>rw[hlj]at hx;simp at hx
    | some y=>
     rw[hlj]at hx h5;simp only[Option.map_some,Option.some.injEq,Prod.mk.injEq]at hx h5;simp[hx.1,h5]
  refine⟨World.putObj' w r (.map (es.modify j λe=>{e with key:=kv k,val:=v}) clock),?_,⟨es.modify j λe=>{e with key:=kv k,val:=v},clock,?_,?_,?_,?_⟩,x6 _ _ _,by simp[World.putObj']⟩
  ·simp only[hkey,Instr.keyThatStays,hk.bits,if_true,Sem.run_bind,Sem.run_pure,Result.andThen_ok,rso _ h1];rfl
  ·simp[World.putObj',hr]
  ·rw[Array.toList_modify];exact hmp.1
  ·rw[Array.toList_modify,hmp.2];exact h3
  ·intro e he;have:e.born∈(es.modify j λe=>{e with key:=kv k,val:=v}).toList.map (·.born):=List.mem_map_of_mem he;rw[Array.toList_modify,hmp.2]at this;obtain⟨e',he',hb⟩:=List.mem_map.1 this;have:=h4 e' he';omega

theorem a4m:∀(es:List MapEntry) (l:List (K×Value)) (k:K) (i j:Nat) (u:Value),es.map (λe=>(e.key,e.val))=l.map (λx=>(kv x.1,x.2))->fi l k i=some (j,u)->
  (es.eraseIdx (j-i)).map (λe=>(e.key,e.val))=(a0f l k).map (λx=>(kv x.1,x.2))
 | [],[],k,i,j,u,_,h=>by cases h
 | e::es,x::l,k,i,j,u,h,hf=>by
  simp only[List.map_cons,List.cons.injEq,Prod.mk.injEq]at h;obtain⟨⟨h1,h2⟩,h3⟩:=h;unfold fi at hf;split at hf
  ·rename_i hh;injection hf with hf;injection hf with e1 e2;subst e1;simp[a0f,hh,h3]
  ·rename_i hh;have hl:=a2V _ _ _ _ _ hf;have ih:=a4m es l k (i+1) j u h3 hf;obtain⟨m,hm⟩:∃m,j-i=m+1:=⟨j-(i+1),by omega⟩;have hm2:j-(i+1)=m:=by omega
   rw[hm2]at ih;simp[hm,a0f,hh,h1,h2,ih]
 | [],_::_,_,_,_,_,h,_=>by simp at h
 | _::_,[],_,_,_,_,h,_=>by simp at h
theorem a1y (l:List (K×Value)) (k:K):∀i,fi l k i=none->a0f l k=l:=by
 induction l with
 | nil=>intro i _;rfl
 | cons x l ih=>
  intro i h;unfold fi at h;split at h
  ·cases h
  ·rename_i hh;simp[a0f,hh,ih _ h]
theorem a4I {MT T E ty:TypeId} {ats:Array TypeId} (hk:KeyOk P T kv) (hm:P.underlying MT=some (.map T E)) (hat:ats[0]? =some MT) {w:World} {r:Nat} {l:List (K×Value)} (h:a1E w r kv l) (k:K):
  ∃w',(Builtin.delete_ ats ty #[.map (some r),kv k]).run P w= .ok (.tuple #[]) w'/\a1E w' r kv (a0f l k)/\w.grownBy w' (some r)/\w'.heap.size=w.heap.size:=by
 obtain⟨es,clock,h1,h2,h3,h4⟩:=h;have hf:=I5 hk k w es.toList l h2;have hr:r<w.heap.size:=(Array.getElem?_eq_some_iff.1 h1).1;unfold Builtin.delete_;have e0:(#[Value.map (some r),kv k]:Array Value)[0]? =some (.map (some r)):=rfl;have e1:(#[Value.map (some r),kv k]:Array Value)[1]? =some (kv k):=rfl;simp only[hat,e0,e1,Sem.run_bind,run_underlying hm,Result.andThen_ok,rgo h1,hk.check,hf];cases hfi:fi l k 0 with
 | none=>
  have hp:=a1y l k 0 hfi;refine⟨World.putObj' w r (.map es clock),?_,⟨es,clock,by simp[World.putObj',hr],by rw[hp];exact h2,h3,h4⟩,x6 _ _ _,by simp[World.putObj']⟩;simp only[Sem.run_bind,rso _ h1,Result.andThen_ok,Sem.run_pure];rfl
 | some x=>
  obtain⟨j,u⟩:=x;have hl:=a2V _ _ _ _ _ hfi;have hmp:=a4m es.toList l k 0 j u h2 hfi;rw[Nat.sub_zero]at hmp;have hlen:es.toList.length=l.length:=by have:=congrArg List.length h2;simpa using this
  have hj:j<es.size:=by simp at hlen;omega
  have hto:(es.eraseIdxIfInBounds j).toList=es.toList.eraseIdx j:=by simp
  refine⟨World.putObj' w r (.map (es.eraseIdxIfInBounds j) clock),?_,⟨es.eraseIdxIfInBounds j,clock,by simp[World.putObj',hr],by rw[hto];exact hmp,?_,?_⟩,x6 _ _ _,by simp[World.putObj']⟩
  ·simp only[Sem.run_bind,rso _ h1,Result.andThen_ok,Sem.run_pure];rfl
  ·rw[hto];exact List.Nodup.sublist ((List.eraseIdx_sublist _ _).map _) h3
  ·intro e he;rw[hto]at he;exact h4 e (List.mem_of_mem_eraseIdx he)
end

section
variable {P : Program} {K : Type} [DecidableEq K] {kv : K → Value} {ops : Array Oper} {rest : List Oper} {dst : Option Tmp} {ty : TypeId} {pos : String} {after : Array Edge} {a : Act} {w : World} {Q : Exit → Act → World → Prop}
end
end Go.Proofs.YtgkpkpbnonmopaaGreat
