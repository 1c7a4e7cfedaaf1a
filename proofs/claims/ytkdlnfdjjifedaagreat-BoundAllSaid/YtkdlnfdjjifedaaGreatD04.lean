/- Helpers, proved here. No condition. -/
import Derived.Test.YtkdlnfdjjifedaaGreatD02
import Derived.Test.YtkdlnfdjjifedaaGreatD03
import Derived.WalkKit
import Derived.Laws.StructEq
set_option maxRecDepth 20000
set_option linter.all false
namespace Go.Proofs.YtkdlnfdjjifedaaGreat
open Go Go.RowKit
def subL (E:Env):Env->List Prop
 | []=>[]
 | s::r=>(E.get s.k=some s)::subL E r
theorem Env.sub_of {E:Env}:∀{E':Env},Conj (subL E E')->E.sub E'
 | [],_,k,s,h=>by cases h
 | s'::r,hc,k,s,h=>by
  simp only[Env.get]at h;split at h
  ·rename_i e;have:=Nat.eq_of_beq_eq_true e;injection h with h;subst h;rw[<- this];exact hc.1
  ·exact Env.sub_of hc.2 k s h
structure IsCx (X:Cx) (P:Program) (rs:List ResultVar) (N:Nat) (F:HP) (Post:Value->List Atom->Prop):Prop where
 hP:X.P=P
 hrs:X.fn.results.toList=rs
 hN:X.n=N
 hR:X.R=λe w'=>∃v As,e= .returned v/\Post v As/\Sep (.hp F::As) (hl w')/\Ext X.w0 w'
def argsE:List Nat->List Value->List Nat->Env
 | k::ks,v::r,[]=>⟨k,v,0, .tt⟩::argsE ks r []
 | k::ks,v::r,t::ts=>⟨k,v,t, .tt⟩::argsE ks r ts
 | _,_,_=>[]
def keys:List Nat:=[0,1,2,3,4,5,6,7,8,9,10,11]
def Runs:List Nat->Nat->Prop
 | [],_=>True
 | k::ks,n=>k=n/\Runs ks (n+1)
theorem argsE_get:∀(l:List Value) (k:Nat) (ks:List Nat) (ts:List Nat) (j:Nat) (s:Slot),Runs ks k->(argsE ks l ts).get j=some s->∃i,j=k+i/\l[i]? =some s.val
 | [],k,ks,ts,j,s,_,h=>by cases ks<;>simp[argsE,Env.get]at h
 | v::r,k,[],ts,j,s,_,h=>by simp[argsE,Env.get]at h
 | v::r,k,k'::ks,ts,j,s,hr,h=>by
  have key:∀(t:Nat) (ts':List Nat),Env.get (⟨k',v,t, .tt⟩::argsE ks r ts') j=some s->∃i,j=k+i/\(v::r)[i]? =some s.val:=by
   intro t ts' h;simp only[Env.get]at h;split at h
   ·rename_i e;have:=Nat.eq_of_beq_eq_true e;injection h with h;subst h;exact⟨0,by rw[<- this,hr.1];rfl,by simp[Slot.val,G.on]⟩
   ·obtain⟨i,e1,e2⟩:=argsE_get r (k+1) ks ts' j s hr.2 h;exact⟨i+1,by omega,by simpa using e2⟩
  cases ts with
  | nil=>exact key _ _ h
  | cons t ts=>exact key _ _ h
theorem Fn.enter {P:Program} {f:FuncId} {args:List Value} {Pre:List Atom} {Post:Value->List Atom->Prop} {fn:Func} {c:Code} {N:Nat} (tags:List Nat) (hf:P.funcs[f]? =some fn) (hb:fn.body=some c) (hN:fn.ntmps=N) (hl:Nat.ble args.length N=true)
  (h:∀(X:Cx) (F:HP),IsCx X P fn.results.toList N F Post->J X [.code c] (argsE keys args tags) (.hp F::Pre)):Fn P f args Pre Post:=by
 intro F w hs;have hle:=Nat.le_of_ble_eq_true hl;have hX:IsCx ⟨P,fn,N,λe w'=>∃v As,e= .returned v/\Post v As/\Sep (.hp F::As) (Go.Proofs.YtkdlnfdjjifedaaGreat.hl w')/\Ext w w',w⟩ P fn.results.toList N F Post:=⟨rfl,rfl,rfl,rfl⟩;have hJ:=h _ F hX;refine calls_of_wp hf hb ?_;refine hJ {tmps:=args.toArray++Array.replicate (fn.ntmps-args.toArray.size) undef,defers:=[]} w (Ext.refl w) ⟨by simp;omega,rfl,λk s hk=>?_⟩ hs;obtain⟨i,e1,e2⟩:=argsE_get args 0 keys tags k s ⟨rfl,rfl,rfl,rfl,rfl,rfl,rfl,rfl,rfl,rfl,rfl,rfl,trivial⟩ hk;have hi:i<args.length:=(List.getElem?_eq_some_iff.1 e2).1;have:k=i:=by omega
 subst this;rw[Array.getElem?_append,if_pos (by simpa using hi)];simpa using e2
section
variable {X : Cx} {P : Program} {T : Tab} {K : List KI} {E : Env} {L : List Atom} {N : Nat} {F : HP} {Post : Value → List Atom → Prop} {rs : List ResultVar}
theorem J.run (hX:IsCx X P rs N F Post) (hT:TabOK P T) (n:Nat) {K':(Nat->Nat)->List KI} {E':(Nat->Nat)->Env} {L':(Nat->Nat)->List Atom} {ob:(Nat->Nat)->List Prop}
  (h:∀bs,Go.Proofs.YtkdlnfdjjifedaaGreat.run T N bs n K E L [] 0=⟨K' bs,E' bs,L' bs,ob bs⟩) (hob:∀bs,Conj (ob bs)) (hJ:∀bs,J X (K' bs) (E' bs) (L' bs)):J X K E L:=by
 have hT':TabOK X.P T:=by rw[hX.hP];exact hT
 refine(run_sound hT' n K E L [] 0 (λ_=>0) λbs _=>?_).2;rw[hX.hN,h bs];exact⟨hob bs,hJ bs⟩
theorem J.r (hX:IsCx X P rs N F Post) (hT:TabOK P T) (n:Nat) {K':(Nat->Nat)->List KI} {E':(Nat->Nat)->Env} {L':(Nat->Nat)->List Atom} {ob:(Nat->Nat)->List Prop}
  (h:∀bs,Go.Proofs.YtkdlnfdjjifedaaGreat.run T N bs n K E L [] 0=⟨K' bs,E' bs,L' bs,ob bs⟩) (hJ:∀bs,J X (K' bs) (E' bs) (L' bs)) (hob:∀bs,Conj (ob bs):=by intro bs;(repeat' (first | exact Conj.nil | refine Conj.cons ?_ ?_ | omega | exact hq0 | (simpa using hq0) | (exactλh=>h) | exact rfl | (intro hq;have hq0:=hq;try simp only[Bool.and_eq_true,Bool.or_eq_true,decide_eq_true_eq,Bool.not_eq_true',decide_eq_false_iff_not]at hq) | (simp;done) | (simp;omega) | decide))):J X K E L:=J.run hX hT n h hob hJ
theorem J.loopN {c:Code} {α:Type} (I:α->Prop) (Ei:α->Env) (is:List Nat) (As:α->List Atom) (μ:α->Nat) (x0:α) {Li:α->List Atom} (h0:I x0) (hE:Conj (subL E (Ei x0))) (ok:okIdx L is=true) (hA:picks L is=As x0) (hLi:∀x,lupd L is (As x)=some (Li x))
  (round:∀x,I x->J X (.code c:: .stop (λa w=>Ext X.w0 w/\∃x',I x'/\μ x'<μ x/\EnvOK X.n (Ei x') a/\Sep (Li x') (hl w))::K) (Ei x) (Li x)):J X (.code (.loop c)::K) E L:=
 J.loop I Ei Li μ x0 h0 (Env.sub_of hE) (λh s=>by
  have:=s.turn1 is ok (As:=As x0) (λh' s'=>by rw[hA]at s';exact s')
  rwa [<- lupd_eq (okIdx_spec ok).1 (hLi x0)]at this) round
theorem J.lo {c:Code} {α:Type} (I:α->Prop) (Ei:α->Env) (is:List Nat) (As:α->List Atom) (μ:α->Nat) (x0:α) {Li:α->List Atom} (h0:I x0) (ok:okIdx L is=true) (hA:picks L is=As x0) (hLi:∀x,lupd L is (As x)=some (Li x))
  (round:∀x,I x->J X (.code c:: .stop (λa w=>Ext X.w0 w/\∃x',I x'/\μ x'<μ x/\EnvOK X.n (Ei x') a/\Sep (Li x') (hl w))::K) (Ei x) (Li x)) (hE:Conj (subL E (Ei x0)):=by(repeat' (first | exact Conj.nil | refine Conj.cons ?_ ?_ | omega | exact hq0 | (simpa using hq0) | (exactλh=>h) | exact rfl | (intro hq;have hq0:=hq;try simp only[Bool.and_eq_true,Bool.or_eq_true,decide_eq_true_eq,Bool.not_eq_true',decide_eq_false_iff_not]at hq) | (simp;done) | (simp;omega) | decide))):J X (.code (.loop c)::K) E L:=J.loopN I Ei is As μ x0 h0 hE ok hA hLi round
theorem J.next {α:Type} {I:α->Prop} {Ei:α->Env} {Li:α->List Atom} {μ:α->Nat} {m:Nat} (x:α) (h1:I x) (h2:μ x<m) (h3:Conj (subL E (Ei x))) (h4:∀h,Sep L h->Sep (Li x) h):
  J X (.stop (λa w=>Ext X.w0 w/\∃x',I x'/\μ x'<m/\EnvOK X.n (Ei x') a/\Sep (Li x') (hl w))::K) E L:=J.stop x h1 h2 (Env.sub_of h3) h4
theorem J.nx {α:Type} {I:α->Prop} {Ei:α->Env} {Li:α->List Atom} {μ:α->Nat} {m:Nat} (x:α) (h1:I x) (h2:μ x<m) (h4:∀h,Sep L h->Sep (Li x) h) (h3:Conj (subL E (Ei x)):=by(repeat' (first | exact Conj.nil | refine Conj.cons ?_ ?_ | omega | exact hq0 | (simpa using hq0) | (exactλh=>h) | exact rfl | (intro hq;have hq0:=hq;try simp only[Bool.and_eq_true,Bool.or_eq_true,decide_eq_true_eq,Bool.not_eq_true',decide_eq_false_iff_not]at hq) | (simp;done) | (simp;omega) | decide))):
  J X (.stop (λa w=>Ext X.w0 w/\∃x',I x'/\μ x'<m/\EnvOK X.n (Ei x') a/\Sep (Li x') (hl w))::K) E L:=J.next x h1 h2 h3 h4
def resV1 (T:Tab) (E:Env) (L:List Atom):ResultVar->Option (Value×List Prop)
 | .tmp t=>match E.get t with
  | some s=>some (s.v,valid s)
  | none=>none
 | .cell p t=>match E.get p with
  | some s=>match lkLoad T L t s with
   | some r=>some (r.v,r.ob)
   | none=>none
  | none=>none
def resVs (T:Tab) (E:Env) (L:List Atom):List ResultVar->Option (List Value×List Prop)
 | []=>some ([],[])
 | r::l=>match resV1 T E L r,resVs T E L l with
  | some (v,ob),some (vs,obs)=>some (v::vs,ob++obs)
  | _,_=>none
def resV (T:Tab) (E:Env) (L:List Atom) (rs:List ResultVar):Option (Value×List Prop):=match resVs T E L rs with
 | some ([v],ob)=>some (v,ob)
 | some (vs,ob)=>some (.tuple vs.toArray,ob)
 | none=>none
theorem KW_ret {a:Act} {w:World}:∀K:List KI,bodyPost X.P X.fn X.R .ret a w->KW X K .ret a w
 | [],h=>h
 | .code c::K,h=>KW_ret K h
 | .reg o C t::K,h=>KW_ret K h
 | .blk id::K,h=>KW_ret K h
 | .stop R::K,h=>KW_ret K h
def resF (tmps:Array Value):ResultVar->Sem Value
 | .tmp t=>pure (tmps.getD t undef)
 | .cell p t=>do loadVar t (<- asAddr (tmps.getD p undef))
theorem results_eq (fn:Func) (tmps:Array Value):results fn tmps=(do
  let vs <- fn.results.mapM (resF tmps)
  pure (if h:vs.size=1 then vs[0]else .tuple vs)):=rfl
theorem resVs_run (hT:TabOK P T) {a:Act} {w:World} {n:Nat} (he:EnvOK n E a) (hs:Sep L (hl w)):∀{rs:List ResultVar} {vs:List Value} {ob:List Prop},resVs T E L rs=some (vs,ob)->Conj ob->
  (rs.mapM (resF a.tmps)).run P w= .ok vs w
 | [],vs,ob,h,_=>by simp only[resVs,Option.some.injEq,Prod.mk.injEq]at h;obtain⟨rfl,rfl⟩:=h;simp
 | r::l,vs,ob,h,hob=>by
  simp only[resVs]at h;split at h
  ·rename_i v ob1 vs' ob2 h1 h2;simp only[Option.some.injEq,Prod.mk.injEq]at h;obtain⟨rfl,rfl⟩:=h;obtain⟨o1,o2⟩:=Conj.app hob;have ih:=resVs_run hT he hs h2 o2;have h0:(resF a.tmps r).run P w= .ok v w:=by
    cases r with
    | tmp t=>
     simp only[resV1]at h1;split at h1
     ·rename_i s hg;simp only[Option.some.injEq,Prod.mk.injEq]at h1;obtain⟨rfl,rfl⟩:=h1;have:=he.slot t s hg;rw[valid_spec o1]at this;simp[resF,this]
     ·cases h1
    | cell p t=>
     simp only[resV1]at h1;split at h1
     ·rename_i s hg;split at h1
      ·rename_i q hq;simp only[Option.some.injEq,Prod.mk.injEq]at h1;obtain⟨rfl,rfl⟩:=h1;have hv:Conj (valid s):=by
        unfold lkLoad at hq
        (repeat' split at hq)<;>first | (cases hq;done) | (injection hq with hq;subst hq;exact o1.2)
       have:=he.slot p s hg;rw[valid_spec hv]at this;have hr:=lkLoad_run (w:=w) hT hq o1 (λi A _ hA=>hs.get hA);have hsp:∃ad,s.v= .pointer (some ad):=by
        unfold lkLoad at hq;split at hq
        ·exact⟨_,rfl⟩
        ·cases hq
       obtain⟨ad,had⟩:=hsp;rw[had]at hr this;simp only[Instr.loadAt,Instr.sureAddr,Sem.run_bind,Sem.run_pure,Result.andThen_ok]at hr;simp[resF,this,asAddr,hr]
      ·cases h1
     ·cases h1
   simp only[List.mapM_cons,Sem.run_bind,h0,Result.andThen_ok,ih,Sem.run_pure]
  ·cases h
theorem results_run (hT:TabOK P T) {a:Act} {w:World} {n:Nat} {fn:Func} (he:EnvOK n E a) (hs:Sep L (hl w)) {v:Value} {ob:List Prop} (h:resV T E L fn.results.toList=some (v,ob)) (hob:Conj ob):(results fn a.tmps).run P w= .ok v w:=by
 have key:∀{vs:List Value} {ob':List Prop},resVs T E L fn.results.toList=some (vs,ob')->Conj ob'->(results fn a.tmps).run P w= .ok (if h:vs.toArray.size=1 then vs.toArray[0]else .tuple vs.toArray) w:=by
  intro vs ob' h1 h2;have:=resVs_run (P:=P) (w:=w) hT he hs h1 h2;rw[results_eq,Array.mapM_eq_mapM_toList];simp only[map_eq_pure_bind,Sem.run_bind,this,Result.andThen_ok,Sem.run_pure]
 unfold resV at h;split at h
 ·rename_i v' ob' h1;simp only[Option.some.injEq,Prod.mk.injEq]at h;obtain⟨rfl,rfl⟩:=h;rw[key h1 hob];simp
 ·rename_i vs ob' hne h1;simp only[Option.some.injEq,Prod.mk.injEq]at h;obtain⟨rfl,rfl⟩:=h;rw[key h1 hob];have:vs.toArray.size≠1:=by
   intro e
   match vs,e with
   | [x],_=>exact hne x rfl
  rw[dif_neg this]
 ·cases h
theorem Sep.sub {h:Hl} (s:Sep L h) (is:List Nat) (ok:okIdx L is=true):Sep (picks L is) h:=by
 obtain⟨own,hw⟩:=s.split ok;exact⟨λb=>own b-1,λj A hA=>Atom.up (λb o hb=>by
  rw[res_some]at hb ⊢;exact⟨by show own b-1=j;omega,hb.2⟩) (hw (j+1) A (by simpa using hA))⟩
theorem ret_post (hX:IsCx X P rs N F Post) (hT:TabOK P T) {v:Value} {ob:List Prop} (is:List Nat) (h:resV T E L rs=some (v,ob)) (hob:Conj ob) (ok:okIdx L (0::is)=true) (h0:lget L 0=some (.hp F)) (hP:Post v (picks L is)) {a:Act} {w:World} (hx:Ext X.w0 w) (he:EnvOK X.n E a) (hs:Sep L (hl w)):
  a.defers=[]/\∃v,(results X.fn a.tmps).run X.P w= .ok v w/\X.R (.returned v) w:=by
 refine⟨he.defers,v,results_run (by rw[hX.hP];exact hT) he hs (by rw[hX.hrs];exact h) hob,?_⟩;rw[hX.hR];refine⟨v,picks L is,rfl,hP,?_,hx⟩;have:=hs.sub (0::is) ok;rw[lget_eq]at h0;simpa[picks,h0]using this
theorem J.ret (hX:IsCx X P rs N F Post) (hT:TabOK P T) {v:Value} {ob:List Prop} (is:List Nat) (h:resV T E L rs=some (v,ob)) (hob:Conj ob) (ok:okIdx L (0::is)=true) (h0:lget L 0=some (.hp F)) (hP:Post v (picks L is)):J X (.code .ret::K) E L:=
 λ_ _ hx he hs=>wp_ret (KW_ret K (ret_post hX hT is h hob ok h0 hP hx he hs))
theorem J.fin (hX:IsCx X P rs N F Post) (hT:TabOK P T) {v:Value} {ob:List Prop} (is:List Nat) (h:resV T E L rs=some (v,ob)) (hob:Conj ob) (ok:okIdx L (0::is)=true) (h0:lget L 0=some (.hp F)) (hP:Post v (picks L is)):J X [] E L:=
 λ_ _ hx he hs=>ret_post hX hT is h hob ok h0 hP hx he hs
theorem J.rt (hX:IsCx X P rs N F Post) (hT:TabOK P T) {v:Value} {ob:List Prop} (is:List Nat) (h:resV T E L rs=some (v,ob)) (ok:okIdx L (0::is)=true) (h0:lget L 0=some (.hp F)) (hP:Post v (picks L is)) (hob:Conj ob:=by(repeat' (first | exact Conj.nil | refine Conj.cons ?_ ?_ | omega | exact hq0 | (simpa using hq0) | (exactλh=>h) | exact rfl | (intro hq;have hq0:=hq;try simp only[Bool.and_eq_true,Bool.or_eq_true,decide_eq_true_eq,Bool.not_eq_true',decide_eq_false_iff_not]at hq) | (simp;done) | (simp;omega) | decide))):J X (.code .ret::K) E L:=J.ret hX hT is h hob ok h0 hP
theorem J.fi (hX:IsCx X P rs N F Post) (hT:TabOK P T) {v:Value} {ob:List Prop} (is:List Nat) (h:resV T E L rs=some (v,ob)) (ok:okIdx L (0::is)=true) (h0:lget L 0=some (.hp F)) (hP:Post v (picks L is)) (hob:Conj ob:=by(repeat' (first | exact Conj.nil | refine Conj.cons ?_ ?_ | omega | exact hq0 | (simpa using hq0) | (exactλh=>h) | exact rfl | (intro hq;have hq0:=hq;try simp only[Bool.and_eq_true,Bool.or_eq_true,decide_eq_true_eq,Bool.not_eq_true',decide_eq_false_iff_not]at hq) | (simp;done) | (simp;omega) | decide))):J X [] E L:=J.fin hX hT is h hob ok h0 hP
def callV (E:Env) (op:Op):Option (FuncId×List Value×List Prop):=match op with
 | .call ⟨.value f,args,_⟩=>match ev E f,slots E args.toList with
  | some ⟨k, .func (.func g) fs cs,t,gg⟩,some l=>some (g,fs.toList++(vals l++cs.toList),valid ⟨k, .func (.func g) fs cs,t,gg⟩++valids l)
  | _,_=>none
 | _=>none
def callable (P:Program) (f:FuncId):Bool:=match P.funcs[f]? with
 | some fn => fn.body.isSome && fn.name != "runtime.NumGoroutine"
 | none=>false
theorem callV_run {f:FuncId} {vs:List Value} {ob:List Prop} {o:Oper} {a:Act} {w:World} {n:Nat} (he:EnvOK n E a) (hf:callable P f=true) (h:callV E o.op=some (f,vs,ob)) (hob:Conj ob):(execOp a.eval o).run P w= .ok (.enter f vs.toArray) w:=by
 unfold callV at h;split at h
 ·rename_i fo args ts hop;split at h
  ·rename_i k g fs cs t gg l h1 h2;simp only[Option.some.injEq,Prod.mk.injEq]at h;obtain⟨rfl,rfl,rfl⟩:=h;obtain⟨o1,o2⟩:=Conj.app hob;have e1:=evs he h1 o1;have e2:=slots_spec he h2 o2;have e3:args.map a.eval=(vals l).toArray:=by apply Array.toList_inj.1;rw[Array.toList_map,e2]
   unfold callable at hf;split at hf
   ·rename_i fn hfn;simp only[Bool.and_eq_true,Option.isSome_iff_exists,bne_iff_ne,ne_eq]at hf;obtain⟨⟨c,hc⟩,hn⟩:=hf;have hvs:(fs++(vals l).toArray++cs)=(fs.toList++(vals l++cs.toList)).toArray:=by
     apply Array.toList_inj.1;simp
    simp[execOp,hop,resolve,e1,e3,Deferred.ofValue,invoke,callFunc,hfn,hn,hc,hvs]
   ·cases hf
  ·cases h
 ·cases h
theorem J.call (hX:IsCx X P rs N F Post) {ops:Array Oper} {C:Cl} {l:Bool} {i:Nat} {t:PT} {o:Oper} {g:G} {f:FuncId} {vs:List Value} {ob:List Prop} {Pre:List Atom} {Po:Value->List Atom->Prop} {E':Value->Env}
  (hf:callable P f=true) (c:Fn P f vs Pre Po) (is:List Nat) (tag:Nat) (ho:lget ops.toList i=some o) (hg:gd ops.toList E o=some g) (hgo:g.on=true) (hc:callV E o.op=some (f,vs,ob)) (hob:Conj ob) (ok:okIdx L is=true) (hp:picks L is=Pre)
  (hd:∀v,putE N o.dst v tag .tt E=some (E' v)) (hJ:∀v As,Po v As->∃L',lupd L is As=some L'/\Conj (staysL l C L')/\J X (.reg ops C t::K) (E' v) L'):J X (.reg ops C (.alt l i t .non)::K) E L:=by
 intro a w hx he hs;rw[lget_eq]at ho;have ho':ops[i]? =some o:=by simpa using ho
 refine⟨⟨o,ho',?_⟩,trivial⟩;have hw:=gd_spec he hg;unfold sOp;rw[if_pos (by rw[hw];exact hgo),callV_run (P:=X.P) he (by rw[hX.hP];exact hf) hc hob];have hsp:=hs.split ok;rw[hp]at hsp;have hcall:=c (HP.of (drops L is)) w hsp;rw[<- hX.hP]at hcall;refine Calls.mono hcall λe w' ⟨v,As,he',hpo,hs',hx'⟩=>⟨v,he',?_⟩;have hs2:=Sep.back ok hs';obtain⟨L',j0,j1,j2⟩:=hJ v As hpo;rw[<- lupd_eq (okIdx_spec ok).1 j0]at hs2;exact⟨staysL_spec j1 hs2,j2 _ w' (hx.trans hx') (putE_spec he (by rw[hX.hN];exact hd v) v rfl) hs2⟩
theorem J.ca (hX:IsCx X P rs N F Post) {ops:Array Oper} {C:Cl} {l:Bool} {i:Nat} {t:PT} {o:Oper} {g:G} {f:FuncId} {vs:List Value} {ob:List Prop} {Pre:List Atom} {Po:Value->List Atom->Prop} {E':Value->Env}
  (hf:callable P f=true) (c:Fn P f vs Pre Po) (is:List Nat) (tag:Nat) (ho:lget ops.toList i=some o) (hg:gd ops.toList E o=some g) (hgo:g.on=true) (hc:callV E o.op=some (f,vs,ob)) (ok:okIdx L is=true) (hp:picks L is=Pre)
  (hd:∀v,putE N o.dst v tag .tt E=some (E' v)) (hJ:∀v As,Po v As->∃L',lupd L is As=some L'/\Conj (staysL l C L')/\J X (.reg ops C t::K) (E' v) L') (hob:Conj ob:=by(repeat' (first | exact Conj.nil | refine Conj.cons ?_ ?_ | omega | exact hq0 | (simpa using hq0) | (exactλh=>h) | exact rfl | (intro hq;have hq0:=hq;try simp only[Bool.and_eq_true,Bool.or_eq_true,decide_eq_true_eq,Bool.not_eq_true',decide_eq_false_iff_not]at hq) | (simp;done) | (simp;omega) | decide))):J X (.reg ops C (.alt l i t .non)::K) E L:=J.call hX hf c is tag ho hg hgo hc hob ok hp hd hJ
theorem J.gcase (hX:IsCx X P rs N F Post) {ops:Array Oper} {C:Cl} {l:Bool} {i:Nat} {t:PT} {o:Oper} {b:Bool} {E':Env} (ho:lget ops.toList i=some o) (hg:gd ops.toList E o=some (.when b)) (hd:putE N o.dst undef 0 (.when false) E=some E') (hst:Conj (staysL l C L))
  (h1:b=true->J X (.reg ops C (.alt l i t .non)::K) E L) (h2:b=false->J X (.reg ops C t::K) E' L):J X (.reg ops C (.alt l i t .non)::K) E L:=by
 intro a w hx he hs;cases b with
 | true=>exact h1 rfl a w hx he hs
 | false=>
  rw[lget_eq]at ho;have ho':ops[i]? =some o:=by simpa using ho
  refine⟨⟨o,ho',?_⟩,trivial⟩;have hw:=gd_spec he hg;unfold sOp;rw[if_neg (by rw[hw];simp[G.on])];exact⟨staysL_spec hst hs,h2 rfl _ w hx (putE_spec he (by rw[hX.hN];exact hd) _ rfl) hs⟩
theorem J.op (hX:IsCx X P rs N F Post) {ops:Array Oper} {C:Cl} {l:Bool} {i:Nat} {t:PT} {o:Oper} {g:G} {S:Value->List Atom->Prop} {E':Value->Env} (tag:Nat) (ho:lget ops.toList i=some o) (hg:gd ops.toList E o=some g) (hgo:g.on=true)
  (hr:∀a w,EnvOK N E a->Sep L (hl w)->∃v L' nv w',S v L'/\(execOp a.eval o).run P w= .ok nv w'/\(nv= .value v\/(nv= .skip/\v=undef))/\Sep L' (hl w')/\Ext w w')
  (hd:∀v,putE N o.dst v tag .tt E=some (E' v)) (hJ:∀v L',S v L'->Conj (staysL l C L')/\J X (.reg ops C t::K) (E' v) L'):J X (.reg ops C (.alt l i t .non)::K) E L:=by
 intro a w hx he hs;rw[lget_eq]at ho;have ho':ops[i]? =some o:=by simpa using ho
 refine⟨⟨o,ho',?_⟩,trivial⟩;have hw:=gd_spec he hg;have he2:=he;rw[hX.hN]at he2;obtain⟨v,L',nv,w',r0,r1,r2,r3,r4⟩:=hr a w he2 hs;unfold sOp;rw[<- hX.hP]at r1;rw[if_pos (by rw[hw];exact hgo),r1];obtain⟨j1,j2⟩:=hJ v L' r0;have he3:=putE_spec he2 (hd v) v rfl;rw[<- hX.hN]at he3;rcases r2 with rfl | ⟨rfl,rfl⟩
 ·exact⟨staysL_spec j1 r3,j2 _ w' (hx.trans r4) he3 r3⟩
 ·exact⟨staysL_spec j1 r3,j2 _ w' (hx.trans r4) he3 r3⟩
theorem J.val (hX:IsCx X P rs N F Post) {ops:Array Oper} {C:Cl} {l:Bool} {i:Nat} {t:PT} {o:Oper} {g:G} {E':Env} (v:Value) (tag:Nat) (ho:lget ops.toList i=some o) (hg:gd ops.toList E o=some g)
  (hr:g.on=true->∀a w,EnvOK N E a->Sep L (hl w)->(execOp a.eval o).run P w= .ok (.value v) w)
  (hd:putE N o.dst v tag g E=some E') (hst:Conj (staysL l C L)) (hJ:J X (.reg ops C t::K) E' L):J X (.reg ops C (.alt l i t .non)::K) E L:=by
 intro a w hx he hs;rw[lget_eq]at ho;have ho':ops[i]? =some o:=by simpa using ho
 refine⟨⟨o,ho',?_⟩,trivial⟩;have hw:=gd_spec he hg;have he2:=he;rw[hX.hN]at he2;have he3:=putE_spec he2 hd _ rfl;rw[<- hX.hN]at he3;unfold sOp;cases hgo:g.on with
 | true=>
  have hr1:=hr hgo a w he2 hs;rw[<- hX.hP]at hr1;rw[if_pos (by rw[hw];exact hgo),hr1];rw[hgo]at he3;exact⟨staysL_spec hst hs,hJ _ w hx he3 hs⟩
 | false=>
  rw[if_neg (by rw[hw,hgo];simp)];rw[hgo]at he3;exact⟨staysL_spec hst hs,hJ _ w hx he3 hs⟩
theorem J.valT (hX:IsCx X P rs N F Post) {ops:Array Oper} {C:Cl} {p:Bool} {i:Nat} {t:PT} {o:Oper} {g:G} {E':Env} (v:Value) (tag:Nat) (ho:lget ops.toList i=some o) (hg:gd ops.toList E o=some g)
  (hr:g.on=true->∀a w,EnvOK N E a->(p=false->CAt C w)->(execOp a.eval o).run P w= .ok (.value v) w)
  (hd:putE N o.dst v tag g E=some E') (hJ:J X (.reg ops C t::K) E' L):J X (.reg ops C (.take p i t)::K) E L:=by
 intro a w hx he hs;rw[lget_eq]at ho;have ho':ops[i]? =some o:=by simpa using ho
 have hw:=gd_spec he hg;have he2:=he;rw[hX.hN]at he2;have he3:=putE_spec he2 hd _ rfl;rw[<- hX.hN]at he3;cases hgo:g.on with
 | true=>
  rw[hgo]at he3;exact⟨o,v,ho', .inl ⟨by rw[hw];exact hgo,λw' hC=>by rw[hX.hP];exact hr hgo a w' he2 hC⟩,hJ _ w hx he3 hs⟩
 | false=>
  rw[hgo]at he3;exact⟨o,undef,ho', .inr ⟨by rw[hw];exact hgo,rfl⟩,hJ _ w hx he3 hs⟩
theorem J.slot {k:Nat} {s s':Slot} (h:E.get k=some s) (hk:s'.k=k) (hv:s'.val=s.val) (hJ:J X K (s'::E) L):J X K E L:=by
 intro a w hx he hs;refine hJ a w hx ⟨he.size,he.defers,λj u hu=>?_⟩ hs;simp only[Env.get]at hu;split at hu
 ·rename_i e;have:=Nat.eq_of_beq_eq_true e;injection hu with hu;subst hu;rw[<- this,hk,hv];exact he.slot k s h
 ·exact he.slot j u hu
end
theorem Fn.of_below {P:Program} {f:FuncId} {args:List Value} {v:Value} (h:∀w:World,Calls P f args.toArray w λe w'=>e= .returned v/\Below w.heap.size w w'):Fn P f args [] (λu As=>u=v/\As=[]):=λF w hs=>
 (h w).mono λe w' ⟨he,hb⟩=>⟨v,[],he,⟨rfl,rfl⟩,hs.up (λb o hb'=>by
  have hlt:b<w.heap.size:=by
   rcases Nat.lt_or_ge b w.heap.size with hlt | hge
   ·exact hlt
   ·simp only[hl]at hb';rw[Array.getElem?_eq_none hge]at hb';cases hb'
  exact(hb.block b hlt).trans hb'),⟨hb.os,hb.tape,hb.output,hb.size⟩⟩
theorem Fn.of_same {P:Program} {f:FuncId} {args:List Value} {v:Value} (h:∀w:World,Calls P f args.toArray w λe w'=>e= .returned v/\w=w'):Fn P f args [] (λu As=>u=v/\As=[]):=λF w hs=>
 (h w).mono λe w' ⟨he,hb⟩=>by subst hb;exact⟨v,[],he,⟨rfl,rfl⟩,hs,Ext.refl _⟩
theorem Fn.of_drew {P:Program} {f:FuncId} {args:List Value} {v:Value} (h:∀w:World,Calls P f args.toArray w λe w'=>e= .returned v/\∃n,w'=w.drewN n):Fn P f args [] (λu As=>u=v/\As=[]):=λF w hs=>
 (h w).mono λe w' ⟨he,n,hb⟩=>by subst hb;exact⟨v,[],he,⟨rfl,rfl⟩,hs,⟨rfl,rfl,rfl,Nat.le_refl _⟩⟩
end Go.Proofs.YtkdlnfdjjifedaaGreat
namespace Go.Proofs.YtkdlnfdjjifedaaGreat
open Go

inductive Lk where
 | int (k:IntKind)
 | bool
def Lk.fits:Lk->Value->Prop
 | .int k, .int k' _=>k'=k
 | .bool, .bool _=>True
 | _,_=>False
def Fits:List Lk->List Value->Prop
 | [],[]=>True
 | k::ks,v::vs=>k.fits v/\Fits ks vs
 | _,_=>False
def cellEq:Value->Value->Bool
 | .int _ a, .int _ b=>a==b
 | .bool a, .bool b=>a==b
 | _,_=>false
def eqCells:List Value->List Value->Bool
 | [],[]=>true
 | x::xs,y::ys=>cellEq x y&&eqCells xs ys
 | _,_=>false

theorem Fits.length:∀{ks:List Lk} {vs:List Value},Fits ks vs->vs.length=ks.length
 | [],[],_=>rfl
 | _::_,_::_,h=>by simpa using Fits.length h.2
 | [],_::_,h=>h.elim
 | _::_,[],h=>h.elim
theorem Fits.split:∀{a b:List Lk} {vs:List Value},Fits (a++b) vs->Fits a (vs.take a.length)/\Fits b (vs.drop a.length)
 | [],_,_,h=>⟨by trivial,h⟩
 | _::a,_,v::vs,h=>⟨⟨h.1,(Fits.split (a:=a) h.2).1⟩,(Fits.split (a:=a) h.2).2⟩
 | _::_,_,[],h=>h.elim
theorem Fits.append:∀{a b:List Lk} {xs ys:List Value},Fits a xs->Fits b ys->Fits (a++b) (xs++ys)
 | [],_,[],_,_,h=>h
 | _::a,_,_::_,_,h,h'=>⟨h.1,Fits.append (a:=a) h.2 h'⟩
 | [],_,_::_,_,h,_=>h.elim
 | _::_,_,[],_,h,_=>h.elim
theorem eqCells_append:∀{a b c d:List Value},a.length=c.length->eqCells (a++b) (c++d)=(eqCells a c&&eqCells b d)
 | [],_,[],_,_=>rfl
 | x::a,b,y::c,d,h=>by simp only[List.cons_append,eqCells,eqCells_append (a:=a) (c:=c) (by simpa using h),Bool.and_assoc]
 | [],_,_::_,_,h=>by simp at h
 | _::_,_,[],_,h=>by simp at h

def fieldLeaves (leaves:TypeId->Option (List Lk)):List Field->Nat->Option (List Lk)
 | [],_=>some []
 | f::fs,off=>
  if f.name ≠ "_" ∧ f.offset = off then
   match leaves f.type with
   | some l=>match fieldLeaves leaves fs (off+l.length)with
    | some r=>some (l++r)
    | none=>none
   | none=>none
  else none
def leaves (P:Program):Nat->TypeId->Option (List Lk)
 | 0,_=>none
 | d+1,t=>
  match P.underlying t with
  | some .bool=>some [.bool]
  | some (.int k)=>some [.int k]
  | some (.struct fs)=>
   match fieldLeaves (leaves P d) fs.toList 0 with
   | some l=>if P.stoodInHeld t=false/\(P.info? t).map (·.size)=some l.length then some l else none
   | none=>none
  | some (.array n e)=>
   match leaves P d e with
   | some l=>if(P.info? e).map (·.size)=some l.length/\(P.info? t).map (·.size)=some (List.replicate n l).flatten.length then some (List.replicate n l).flatten else none
   | none=>none
  | _=>none

def mkV (P:Program) (t:TypeId) (cs:List Value):Value:=
 match P.underlying t with
 | some (.struct _) | some (.array _ _)=> .agg cs.toArray
 | _=>cs.headD undef

section
variable {P : Program}
theorem leaves_part {d:Nat} {t:TypeId} {l:List Lk} (h:leaves P d t=some l) (cs:List Value) (off:Nat) (hf:Fits l ((cs.drop off).take l.length)) (w:World):
  (part t cs.toArray off).run P w= .ok (mkV P t ((cs.drop off).take l.length)) w:=by
 cases d with
 | zero=>cases h
 | succ d=>
  unfold leaves at h;unfold mkV;cases hu:P.underlying t with
  | none=>rw[hu]at h;cases h
  | some u=>
   rw[hu]at h;cases u with
   | bool=>
    injection h with h;subst h;simp only[part,isAgg,Sem.run_bind,run_underlying hu,Result.andThen_ok,Sem.run_pure,Bool.false_eq_true,if_false];have hl:=hf.length;cases hd:cs.drop off with
    | nil=>rw[hd]at hl;simp at hl
    | cons v r=>
     have:cs[off]? =some v:=by
      have:=congrArg (·[0]?) hd;simpa using this
     simp[this]
   | int k=>
    injection h with h;subst h;simp only[part,isAgg,Sem.run_bind,run_underlying hu,Result.andThen_ok,Sem.run_pure,Bool.false_eq_true,if_false];have hl:=hf.length;cases hd:cs.drop off with
    | nil=>rw[hd]at hl;simp at hl
    | cons v r=>
     have:cs[off]? =some v:=by
      have:=congrArg (·[0]?) hd;simpa using this
     simp[this]
   | struct fs=>
    simp only at h;split at h
    ·split at h
     ·rename_i l' _ hc;injection h with h;subst h;cases hi:P.info? t with
      | none=>rw[hi]at hc;simp at hc
      | some i=>
       rw[hi]at hc;have hs:i.size=l'.length:=by simpa using hc.2
       simp only[part,isAgg,Sem.run_bind,run_underlying hu,Result.andThen_ok,Sem.run_pure,if_true,sizeOf,typeInfo,run_program,hi,hs];congr 2;simp[List.extract_eq_take_drop]
     ·cases h
    ·cases h
   | array n e=>
    simp only at h;split at h
    ·split at h
     ·rename_i l' _ hc;injection h with h;subst h;cases hi:P.info? t with
      | none=>rw[hi]at hc;simp at hc
      | some i=>
       rw[hi]at hc;have hs:i.size=(List.replicate n l').flatten.length:=by simpa using hc.2
       simp only[part,isAgg,Sem.run_bind,run_underlying hu,Result.andThen_ok,Sem.run_pure,if_true,sizeOf,typeInfo,run_program,hi,hs];congr 2;simp[List.extract_eq_take_drop]
     ·cases h
    ·cases h
   | _=>cases h

theorem fieldsOf_eq {t:TypeId} {fs:Array Field} (h:P.underlying t=some (.struct fs)):P.fieldsOf t=fs:=by simp[Program.fieldsOf,h]

theorem eqFields_leaves {d D:Nat} (ih:∀t l,leaves P d t=some l->∀xs ys,Fits l xs->Fits l ys->∀w,(Op.equalIn D t (mkV P t xs) (mkV P t ys)).run P w= .ok (eqCells xs ys) w) (xs ys:List Value):
  ∀(fs:List Field) (off:Nat) (r:List Lk),fieldLeaves (leaves P d) fs off=some r->Fits r (xs.drop off)->Fits r (ys.drop off)->∀w,(Op.eqFields D xs.toArray ys.toArray fs).run P w= .ok (eqCells (xs.drop off) (ys.drop off)) w
 | [],off,r,h,hx,hy,w=>by
  injection h with h;subst h;have h1:=List.eq_nil_of_length_eq_zero (Fits.length hx);have h2:=List.eq_nil_of_length_eq_zero (Fits.length hy);rw[h1,h2];simp[Op.eqFields,eqCells]
 | f::fs,off,r,h,hx,hy,w=>by
  unfold fieldLeaves at h;split at h
  ·rename_i hc;split at h
   ·rename_i l hl;split at h
    ·rename_i r' hr;injection h with h;subst h;obtain⟨hx1,hx2⟩:=Fits.split hx;obtain⟨hy1,hy2⟩:=Fits.split hy;rw[List.drop_drop]at hx2 hy2;have e:=eqFields_leaves ih xs ys fs (off+l.length) r' hr hx2 hy2;have lx:=Fits.length hx1;have ly:=Fits.length hy1;unfold Op.eqFields;rw[if_pos hc.1];simp only[Sem.run_bind,hc.2,leaves_part hl xs off hx1,leaves_part hl ys off hy1,Result.andThen_ok,ih _ _ hl _ _ hx1 hy1];have key:eqCells (xs.drop off) (ys.drop off)=(eqCells ((xs.drop off).take l.length) ((ys.drop off).take l.length)&&eqCells (xs.drop (off+l.length)) (ys.drop (off+l.length))):=by
      conv=>lhs;rw[<- List.take_append_drop l.length (xs.drop off),<- List.take_append_drop l.length (ys.drop off)]
      rw[eqCells_append (by rw[lx,ly]),List.drop_drop,List.drop_drop]
     rw[key];cases eqCells ((xs.drop off).take l.length) ((ys.drop off).take l.length)
     ·simp
     ·simp only[Bool.not_true,Bool.false_eq_true,if_false,Bool.true_and];exact e w
    ·cases h
   ·cases h
  ·cases h

theorem forIn_leaves {e D m:Nat} {l:List Lk} (hm:m=l.length) (hpart:∀(cs:List Value) (off:Nat),Fits l ((cs.drop off).take l.length)->∀w,(part e cs.toArray off).run P w= .ok (mkV P e ((cs.drop off).take l.length)) w)
  (ih:∀xs ys,Fits l xs->Fits l ys->∀w,(Op.equalIn D e (mkV P e xs) (mkV P e ys)).run P w= .ok (eqCells xs ys) w) (xs ys:List Value):
  ∀(k i:Nat),Fits (List.replicate k l).flatten (xs.drop (i*m))->Fits (List.replicate k l).flatten (ys.drop (i*m))->∀w,
   (forIn (List.range' i k) ((none,()):Option Bool×Unit) (λj (_:Option Bool×Unit)=>do
    let a <- part e xs.toArray (j*m)
    let b <- part e ys.toArray (j*m)
    let r <- Op.equalIn D e a b
    if(!r)=true then pure (ForInStep.done (some false,()))else do
     pure (ForInStep.yield (none,()))):Sem (Option Bool×Unit)).run P w= .ok (if eqCells (xs.drop (i*m)) (ys.drop (i*m))then none else some false,()) w
 | 0,i,hx,hy,w=>by
  have h1:=List.eq_nil_of_length_eq_zero (Fits.length hx);have h2:=List.eq_nil_of_length_eq_zero (Fits.length hy);rw[h1,h2];simp[eqCells]
 | k+1,i,hx,hy,w=>by
  rw[List.replicate_succ,List.flatten_cons]at hx hy;obtain⟨hx1,hx2⟩:=Fits.split hx;obtain⟨hy1,hy2⟩:=Fits.split hy;rw[List.drop_drop]at hx2 hy2;have ei:i*m+l.length=(i+1)*m:=by rw[Nat.add_mul,hm];omega
  rw[ei]at hx2 hy2;have e':=forIn_leaves hm hpart ih xs ys k (i+1) hx2 hy2;have lx:=Fits.length hx1;have ly:=Fits.length hy1;rw[List.range'_succ,List.forIn_cons];simp only[Sem.run_bind,hpart xs _ hx1,hpart ys _ hy1,Result.andThen_ok,ih _ _ hx1 hy1];have key:eqCells (xs.drop (i*m)) (ys.drop (i*m))=(eqCells ((xs.drop (i*m)).take l.length) ((ys.drop (i*m)).take l.length)&&eqCells (xs.drop ((i+1)*m)) (ys.drop ((i+1)*m))):=by
   conv=>lhs;rw[<- List.take_append_drop l.length (xs.drop (i*m)),<- List.take_append_drop l.length (ys.drop (i*m))]
   rw[eqCells_append (by rw[lx,ly]),List.drop_drop,List.drop_drop,ei]
  rw[key];cases eqCells ((xs.drop (i*m)).take l.length) ((ys.drop (i*m)).take l.length)
  ·simp
  ·simp only[Bool.not_true,Bool.false_eq_true,if_false,Bool.true_and,Sem.run_pure,Result.andThen_ok];exact e' w

theorem equalIn_leaves:∀(d:Nat) (t:TypeId) (l:List Lk),leaves P d t=some l->∀D,d<=D->∀xs ys,Fits l xs->Fits l ys->∀w,(Op.equalIn D t (mkV P t xs) (mkV P t ys)).run P w= .ok (eqCells xs ys) w
 | 0,_,_,h,_,_,_,_,_,_,_=>by cases h
 | d+1,t,l,h,0,hD,_,_,_,_,_=>by omega
 | d+1,t,l,h,D+1,hD,xs,ys,hx,hy,w=>by
  have ih:=λt l h xs ys hx hy w=>equalIn_leaves d t l h D (by omega) xs ys hx hy w;unfold leaves at h;unfold mkV;cases hu:P.underlying t with
  | none=>rw[hu]at h;cases h
  | some u=>
   rw[hu]at h;cases u with
   | bool=>
    injection h with h;subst h
    match xs,ys,hx,hy with
    | [.bool a],[.bool b],_,_=>simp[Op.equalIn,run_underlying hu,eqCells,cellEq]
   | int k=>
    injection h with h;subst h
    match xs,ys,hx,hy with
    | [.int k1 a],[.int k2 b],h1,h2=>
     have e1:k1=k:=h1.1;have e2:k2=k:=h2.1;subst e1;subst e2;simp[Op.equalIn,run_underlying hu,eqCells,cellEq]
   | struct fs=>
    simp only at h;split at h
    ·split at h
     ·rename_i l' hl hc;injection h with h;subst h;simp only;rw[run_equalIn_struct w D t _ _ (by rw[fieldsOf_eq hu];exact hu) hc.1,fieldsOf_eq hu];have:=eqFields_leaves (P:=P) (λt l h xs ys hx hy w=>ih t l h xs ys hx hy w) xs ys fs.toList 0 l' hl (by simpa using hx) (by simpa using hy) w;simpa using this
     ·cases h
    ·cases h
   | array n e=>
    simp only at h;split at h
    ·split at h
     ·rename_i l' hl hc;injection h with h;subst h;cases hi:P.info? e with
      | none=>rw[hi]at hc;simp at hc
      | some i=>
       rw[hi]at hc;have hs:i.size=l'.length:=by simpa using hc.1
       have key:=forIn_leaves (P:=P) (e:=e) (D:=D) (m:=i.size) (l:=l') hs (λcs off hf w=>leaves_part hl cs off hf w) (λxs ys hx hy w=>ih e l' hl xs ys hx hy w) xs ys n 0 (by simpa using hx) (by simpa using hy) w;simp only[Op.equalIn,Sem.run_bind,run_underlying hu,Result.andThen_ok,sizeOf,typeInfo,run_program,hi,Sem.run_pure];simp only[Nat.zero_mul,List.drop_zero]at key;rw[Std.Legacy.Range.forIn_eq_forIn_range'];simp only[Std.Legacy.Range.size,Nat.sub_zero,Nat.add_sub_cancel,Nat.div_one];rw[key];cases eqCells xs ys<;>simp
     ·cases h
    ·cases h
   | _=>cases h

theorem run_eql_leaves {t:TypeId} {l:List Lk} (h:leaves P 100 t=some l) {xs ys:List Value} (hx:Fits l xs) (hy:Fits l ys) (hagg:mkV P t xs= .agg xs.toArray) (hagg2:mkV P t ys= .agg ys.toArray) (w:World):
  (binOp .eql t (.agg xs.toArray) (.agg ys.toArray)).run P w= .ok (.bool (eqCells xs ys)) w:=by
 rw[run_eql_struct,<- hagg,<- hagg2,equalIn_leaves 100 t l h 10000 (by omega) xs ys hx hy];rfl
end
end Go.Proofs.YtkdlnfdjjifedaaGreat
namespace Go.Proofs.YtkdlnfdjjifedaaGreat
open Go Go.RowKit

theorem rgo {P:Program} {w:World} {r:Nat} {es:Array MapEntry} {clock:Nat} (h:w.heap[r]? =some (.map es clock)):(getObj r).run P w= .ok (.map es clock) w:=by simp[getObj,Sem.run,h]
theorem rso {P:Program} {w:World} {r:Nat} {es:Array MapEntry} {clock:Nat} (o:Obj) (h:w.heap[r]? =some (.map es clock)):(setObj r o).run P w= .ok () {w with heap:=w.heap.setIfInBounds r o}:=by simp[setObj,Sem.run,h]
structure KeyOk (P:Program) (T:TypeId) {K:Type} [DecidableEq K] (kv:K->Value):Prop where
 now:∃d,P.underlying T=some d/\∀a b,Instr.sameNow d (kv a) (kv b)=none\/Instr.sameNow d (kv a) (kv b)=some (decide (a=b))
 eq:∀a b w,(Op.equal T (kv a) (kv b)).run P w= .ok (decide (a=b)) w
 check:∀e a w,(Instr.checkKey e 10000 T (kv a)).run P w= .ok () w
 bits:∀a,Instr.sameBits 10000 (kv a) (kv a)=true

section
variable {P : Program} {K : Type} [DecidableEq K] {kv : K → Value}

def fi:List (K×Value)->K->Nat->Option (Nat×Value)
 | [],_,_=>none
 | x::l,k,i=>if k=x.1 then some (i,x.2)else fi l k (i+1)
def alook:List (K×Value)->K->Option Value
 | [],_=>none
 | x::l,k=>if k=x.1 then some x.2 else alook l k
def aput:List (K×Value)->K->Value->List (K×Value)
 | [],k,v=>[(k,v)]
 | x::l,k,v=>if k=x.1 then(k,v)::l else x::aput l k v
def adel:List (K×Value)->K->List (K×Value)
 | [],_=>[]
 | x::l,k=>if k=x.1 then l else x::adel l k

def MapAt (w:World) (r:Nat) (kv:K->Value) (l:List (K×Value)):Prop:=
 ∃es clock,w.heap[r]? =some (.map es clock)/\es.toList.map (λe=>(e.key,e.val))=l.map (λx=>(kv x.1,x.2))/\(es.toList.map (·.born)).Nodup/\∀e∈es.toList,e.born<clock

theorem alook_fi (l:List (K×Value)) (k:K):∀i,(fi l k i).map (·.2)=alook l k:=by
 induction l with
 | nil=>intro i;rfl
 | cons x l ih=>
  intro i;unfold fi alook;split
  ·rfl
  ·exact ih _

theorem run_findAsking {T:TypeId} (hk:KeyOk P T kv) (k:K) (w:World):∀(es:List MapEntry) (l:List (K×Value)) (i:Nat),es.map (λe=>(e.key,e.val))=l.map (λx=>(kv x.1,x.2))->
  (Instr.findAsking T (kv k) es i).run P w= .ok (fi l k i) w
 | [],[],i,_=>by simp[Instr.findAsking,fi]
 | e::es,x::l,i,h=>by
  simp only[List.map_cons,List.cons.injEq,Prod.mk.injEq]at h;obtain⟨⟨h1,h2⟩,h3⟩:=h;have ih:=run_findAsking hk k w es l (i+1) h3;unfold Instr.findAsking fi;rw[h1,h2]
  by_cases hh:k=x.1
  ·simp[Sem.run_bind,hk.eq,hh]
  ·simp[Sem.run_bind,hk.eq,hh,ih]
 | [],_::_,_,h=>by simp at h
 | _::_,[],_,h=>by simp at h

theorem findNow_or {d:TypeDesc} (hd:∀a b,Instr.sameNow d (kv a) (kv b)=none\/Instr.sameNow d (kv a) (kv b)=some (decide (a=b))) (k:K):∀(es:List MapEntry) (l:List (K×Value)) (i:Nat),
  es.map (λe=>(e.key,e.val))=l.map (λx=>(kv x.1,x.2))->Instr.findNow d (kv k) es i=none\/Instr.findNow d (kv k) es i=some (fi l k i)
 | [],[],i,_=> .inr rfl
 | e::es,x::l,i,h=>by
  simp only[List.map_cons,List.cons.injEq,Prod.mk.injEq]at h;obtain⟨⟨h1,h2⟩,h3⟩:=h;have ih:=findNow_or hd k es l (i+1) h3;unfold Instr.findNow fi;rw[h1,h2];rcases hd k x.1 with hs | hs
  ·rw[hs];exact .inl rfl
  ·rw[hs]
   by_cases hh:k=x.1
   ·simp[hh]
   ·simp[hh];exact ih
 | [],_::_,_,h=>by simp at h
 | _::_,[],_,h=>by simp at h

theorem run_findKey' {T:TypeId} (hk:KeyOk P T kv) (k:K) (w:World) (es:List MapEntry) (l:List (K×Value)) (h:es.map (λe=>(e.key,e.val))=l.map (λx=>(kv x.1,x.2))):
  (Instr.findKey T (kv k) es).run P w= .ok (fi l k 0) w:=by
 obtain⟨d,hd,hn⟩:=hk.now;unfold Instr.findKey;rw[Sem.run_bind,run_underlying hd];rcases findNow_or hn k es l 0 h with h1 | h1
 ·simp only[Result.andThen_ok,h1];exact run_findAsking hk k w es l 0 h
 ·simp only[Result.andThen_ok,h1];rfl

theorem run_lookupAt {MT T E:TypeId} (hk:KeyOk P T kv) (hm:P.underlying MT=some (.map T E)) {z:Value} (hz:∀w,(zeroValue E).run P w= .ok z w) {w:World} {r:Nat} {l:List (K×Value)} (h:MapAt w r kv l) (k:K) (c:Bool):
  (Instr.lookup MT (.map (some r)) (kv k) c).run P w= .ok (if c then .tuple #[(alook l k).getD z, .bool (alook l k).isSome]else(alook l k).getD z) w:=by
 obtain⟨es,clock,h1,h2,_,_⟩:=h;have hf:=run_findKey' hk k w es.toList l h2;have ha:=alook_fi l k 0;unfold Instr.lookup;simp only[Sem.run_bind,run_underlying hm,Result.andThen_ok,rgo h1,Sem.run_pure,hk.check,hf];rw[<- ha];cases fi l k 0 with
 | none=>simp only[Sem.run_bind,hz,Result.andThen_ok,Sem.run_pure,Option.map_none,Option.getD_none,Option.isSome_none]
 | some x=>simp only[Sem.run_bind,Result.andThen_ok,Sem.run_pure,Option.map_some,Option.getD_some,Option.isSome_some]

theorem fi_lt (l:List (K×Value)) (k:K):∀i j v,fi l k i=some (j,v)->i<=j/\j<i+l.length:=by
 induction l with
 | nil=>intro i j v h;cases h
 | cons x l ih=>
  intro i j v h;unfold fi at h;split at h
  ·injection h with h;injection h with h1 h2;subst h1;simp
  ·have:=ih _ _ _ h;simp;omega

theorem modify_put:∀(es:List MapEntry) (l:List (K×Value)) (k:K) (v:Value) (i j:Nat) (u:Value),es.map (λe=>(e.key,e.val))=l.map (λx=>(kv x.1,x.2))->fi l k i=some (j,u)->
  (es.modify (j-i) λe=>{e with key:=kv k,val:=v}).map (λe=>(e.key,e.val))=(aput l k v).map (λx=>(kv x.1,x.2))/\(es.modify (j-i) λe=>{e with key:=kv k,val:=v}).map (·.born)=es.map (·.born)
 | [],[],k,v,i,j,u,_,h=>by cases h
 | e::es,x::l,k,v,i,j,u,h,hf=>by
  simp only[List.map_cons,List.cons.injEq,Prod.mk.injEq]at h;obtain⟨⟨h1,h2⟩,h3⟩:=h;unfold fi at hf;split at hf
  ·rename_i hh;injection hf with hf;injection hf with e1 e2;subst e1;simp[aput,hh,h3]
  ·rename_i hh;have hl:=fi_lt _ _ _ _ _ hf;have ih:=modify_put es l k v (i+1) j u h3 hf;obtain⟨m,hm⟩:∃m,j-i=m+1:=⟨j-(i+1),by omega⟩;have hm2:j-(i+1)=m:=by omega
   rw[hm2]at ih;simp[hm,aput,hh,h1,h2,ih.1,ih.2]
 | [],_::_,_,_,_,_,_,h,_=>by simp at h
 | _::_,[],_,_,_,_,_,h,_=>by simp at h
theorem fi_none (l:List (K×Value)) (k:K) (v:Value):∀i,fi l k i=none->aput l k v=l++[(k,v)]:=by
 induction l with
 | nil=>intro i _;rfl
 | cons x l ih=>
  intro i h;unfold fi at h;split at h
  ·cases h
  ·rename_i hh;simp[aput,hh,ih _ h]

def World.putObj' (w:World) (r:Nat) (o:Obj):World:={w with heap:=w.heap.setIfInBounds r o}
theorem grown_putObj (w:World) (r:Nat) (o:Obj):w.grownBy (World.putObj' w r o) (some r):=
 ⟨rfl,rfl,rfl,by simp[World.putObj'],λk _ hk=>by simp only[World.putObj'];rw[Array.getElem?_setIfInBounds];rw[if_neg (λe=>hk (by rw[e]))]⟩

theorem run_mapUpdateAt {MT T E:TypeId} (hk:KeyOk P T kv) (hm:P.underlying MT=some (.map T E)) {w:World} {r:Nat} {l:List (K×Value)} (h:MapAt w r kv l) (k:K) (v:Value):
  ∃w',(Instr.mapUpdate MT (.map (some r)) (kv k) v).run P w= .ok () w'/\MapAt w' r kv (aput l k v)/\w.grownBy w' (some r)/\w'.heap.size=w.heap.size:=by
 obtain⟨es,clock,h1,h2,h3,h4⟩:=h;have hf:=run_findKey' hk k w es.toList l h2;have hr:r<w.heap.size:=(Array.getElem?_eq_some_iff.1 h1).1;unfold Instr.mapUpdate;simp only[Sem.run_bind,run_underlying hm,Result.andThen_ok,rgo h1,hk.check,hf];cases hfi:fi l k 0 with
 | none=>
  have hp:=fi_none l k v 0 hfi;refine⟨World.putObj' w r (.map (es.push {key:=kv k,val:=v,born:=clock}) (clock+1)),?_,⟨es.push {key:=kv k,val:=v,born:=clock},clock+1,?_,?_,?_,?_⟩,grown_putObj _ _ _,by simp[World.putObj']⟩
  ·simp only[rso _ h1];rfl
  ·simp[World.putObj',hr]
  ·rw[hp];simp[h2]
  ·simp only[Array.toList_push,List.map_append,List.map_cons,List.map_nil];rw[List.nodup_append];refine⟨h3,by simp,?_⟩;intro a ha b hb;simp at hb;obtain⟨e,he,rfl⟩:=List.mem_map.1 ha;have:=h4 e he;omega
  ·intro e he;simp at he;rcases he with he | rfl
   ·have:=h4 e (by simpa using he);omega
   ·simp
 | some x=>
  obtain⟨j,u⟩:=x;have hl:=fi_lt _ _ _ _ _ hfi;have hmp:=modify_put es.toList l k v 0 j u h2 hfi;rw[Nat.sub_zero]at hmp;have hlen:es.toList.length=l.length:=by have:=congrArg List.length h2;simpa using this
  have hj:j<es.size:=by simp at hlen;omega
  have hkey:((es[j]?).map (·.key)).getD (kv k)=kv k:=by
   have hx:(es.toList.map (λe=>(e.key,e.val)))[j]? =(l.map (λx=>(kv x.1,x.2)))[j]?:=by rw[h2]
   have hfk:∀(l:List (K×Value)) i j u,fi l k i=some (j,u)->(l[j-i]?).map (·.1)=some k:=by
    intro l
    induction l with
    | nil=>intro i j u h;cases h
    | cons x l ih=>
     intro i j u h;unfold fi at h;split at h
     ·rename_i hh;injection h with h;injection h with e1 _;subst e1;simp[hh]
     ·have hl2:=fi_lt _ _ _ _ _ h;have:=ih _ _ _ h;rw[show j-i=(j-(i+1))+1 from by omega,List.getElem?_cons_succ];exact this
   have h5:=hfk l 0 j u hfi;rw[Nat.sub_zero]at h5;rw[List.getElem?_map,List.getElem?_map]at hx;simp only[Array.getElem?_toList]at hx;cases he:es[j]? with
   | none=>rfl
   | some e=>
    rw[he]at hx;cases hlj:l[j]? with
    | none=>rw[hlj]at hx;simp at hx
    | some y=>
     rw[hlj]at hx h5;simp only[Option.map_some,Option.some.injEq,Prod.mk.injEq]at hx h5;simp[hx.1,h5]
  refine⟨World.putObj' w r (.map (es.modify j λe=>{e with key:=kv k,val:=v}) clock),?_,⟨es.modify j λe=>{e with key:=kv k,val:=v},clock,?_,?_,?_,?_⟩,grown_putObj _ _ _,by simp[World.putObj']⟩
  ·simp only[hkey,Instr.keyThatStays,hk.bits,if_true,Sem.run_bind,Sem.run_pure,Result.andThen_ok,rso _ h1];rfl
  ·simp[World.putObj',hr]
  ·rw[Array.toList_modify];exact hmp.1
  ·rw[Array.toList_modify,hmp.2];exact h3
  ·intro e he;have:e.born∈(es.modify j λe=>{e with key:=kv k,val:=v}).toList.map (·.born):=List.mem_map_of_mem he;rw[Array.toList_modify,hmp.2]at this;obtain⟨e',he',hb⟩:=List.mem_map.1 this;have:=h4 e' he';omega

theorem erase_del:∀(es:List MapEntry) (l:List (K×Value)) (k:K) (i j:Nat) (u:Value),es.map (λe=>(e.key,e.val))=l.map (λx=>(kv x.1,x.2))->fi l k i=some (j,u)->
  (es.eraseIdx (j-i)).map (λe=>(e.key,e.val))=(adel l k).map (λx=>(kv x.1,x.2))
 | [],[],k,i,j,u,_,h=>by cases h
 | e::es,x::l,k,i,j,u,h,hf=>by
  simp only[List.map_cons,List.cons.injEq,Prod.mk.injEq]at h;obtain⟨⟨h1,h2⟩,h3⟩:=h;unfold fi at hf;split at hf
  ·rename_i hh;injection hf with hf;injection hf with e1 e2;subst e1;simp[adel,hh,h3]
  ·rename_i hh;have hl:=fi_lt _ _ _ _ _ hf;have ih:=erase_del es l k (i+1) j u h3 hf;obtain⟨m,hm⟩:∃m,j-i=m+1:=⟨j-(i+1),by omega⟩;have hm2:j-(i+1)=m:=by omega
   rw[hm2]at ih;simp[hm,adel,hh,h1,h2,ih]
 | [],_::_,_,_,_,_,h,_=>by simp at h
 | _::_,[],_,_,_,_,h,_=>by simp at h
theorem fi_none_del (l:List (K×Value)) (k:K):∀i,fi l k i=none->adel l k=l:=by
 induction l with
 | nil=>intro i _;rfl
 | cons x l ih=>
  intro i h;unfold fi at h;split at h
  ·cases h
  ·rename_i hh;simp[adel,hh,ih _ h]
theorem run_deleteAt {MT T E ty:TypeId} {ats:Array TypeId} (hk:KeyOk P T kv) (hm:P.underlying MT=some (.map T E)) (hat:ats[0]? =some MT) {w:World} {r:Nat} {l:List (K×Value)} (h:MapAt w r kv l) (k:K):
  ∃w',(Builtin.delete_ ats ty #[.map (some r),kv k]).run P w= .ok (.tuple #[]) w'/\MapAt w' r kv (adel l k)/\w.grownBy w' (some r)/\w'.heap.size=w.heap.size:=by
 obtain⟨es,clock,h1,h2,h3,h4⟩:=h;have hf:=run_findKey' hk k w es.toList l h2;have hr:r<w.heap.size:=(Array.getElem?_eq_some_iff.1 h1).1;unfold Builtin.delete_;have e0:(#[Value.map (some r),kv k]:Array Value)[0]? =some (.map (some r)):=rfl;have e1:(#[Value.map (some r),kv k]:Array Value)[1]? =some (kv k):=rfl;simp only[hat,e0,e1,Sem.run_bind,run_underlying hm,Result.andThen_ok,rgo h1,hk.check,hf];cases hfi:fi l k 0 with
 | none=>
  have hp:=fi_none_del l k 0 hfi;refine⟨World.putObj' w r (.map es clock),?_,⟨es,clock,by simp[World.putObj',hr],by rw[hp];exact h2,h3,h4⟩,grown_putObj _ _ _,by simp[World.putObj']⟩;simp only[Sem.run_bind,rso _ h1,Result.andThen_ok,Sem.run_pure];rfl
 | some x=>
  obtain⟨j,u⟩:=x;have hl:=fi_lt _ _ _ _ _ hfi;have hmp:=erase_del es.toList l k 0 j u h2 hfi;rw[Nat.sub_zero]at hmp;have hlen:es.toList.length=l.length:=by have:=congrArg List.length h2;simpa using this
  have hj:j<es.size:=by simp at hlen;omega
  have hto:(es.eraseIdxIfInBounds j).toList=es.toList.eraseIdx j:=by simp
  refine⟨World.putObj' w r (.map (es.eraseIdxIfInBounds j) clock),?_,⟨es.eraseIdxIfInBounds j,clock,by simp[World.putObj',hr],by rw[hto];exact hmp,?_,?_⟩,grown_putObj _ _ _,by simp[World.putObj']⟩
  ·simp only[Sem.run_bind,rso _ h1,Result.andThen_ok,Sem.run_pure];rfl
  ·rw[hto];exact List.Nodup.sublist ((List.eraseIdx_sublist _ _).map _) h3
  ·intro e he;rw[hto]at he;exact h4 e (List.mem_of_mem_eraseIdx he)
end

section
variable {P : Program} {K : Type} [DecidableEq K] {kv : K → Value} {ops : Array Oper} {rest : List Oper} {dst : Option Tmp} {ty : TypeId} {pos : String} {after : Array Edge} {a : Act} {w : World} {Q : Exit → Act → World → Prop}
end
end Go.Proofs.YtkdlnfdjjifedaaGreat
