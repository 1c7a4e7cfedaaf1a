/- Helpers. No condition. -/
import Derived.Test.YtpohajhbfllbbaaGreatE04
import Derived.Test.YtpohajhbfllbbaaGreatE05
import Derived.Laws.MakeOwn
import Derived.Laws.OwnMore
import Derived.WalkKit
set_option maxRecDepth 20000
set_option linter.all false
namespace Go.Proofs.YtpohajhbfllbbaaGreat
open Go Go.RowKit
theorem Sep.one {A:Atom} {h:Hl} (hA:A.sat h):Sep [A] h:=⟨λ_=>0,λi B hB=>by
 cases i with
 | zero=>simp at hB;subst hB;exact A.up (λb o hb=>res_some.2 ⟨rfl,hb⟩) hA
 | succ k=>simp at hB⟩
theorem a3J {α:Type}:∀(cs:List α) (off:Nat) (xs:List α),off+xs.length<=cs.length->P9 cs off xs=some (cs.take off++xs++cs.drop (off+xs.length))
 | cs,0,xs,h=>by
  simp only[List.take_zero,List.nil_append,Nat.zero_add];have e:P9 cs 0 xs=X9 cs xs:=by cases cs<;>rfl
  rw[e];clear e
  induction xs generalizing cs with
  | nil=>cases cs<;>rfl
  | cons x xs ih=>
   cases cs with
   | nil=>simp at h
   | cons c cs=>
    simp only[X9,ih cs (by simp at h ⊢;omega),List.cons_append,List.length_cons,List.drop_succ_cons]
 | [],k+1,xs,h=>by simp at h
 | c::cs,k+1,xs,h=>by
  simp only[P9,a3J cs k xs (by simp at h;omega),List.take_succ_cons,List.cons_append];rw[show k+1+xs.length=(k+xs.length)+1 from by omega,List.drop_succ_cons]
def subV (E:Env):Env->List Prop
 | []=>[]
 | s::r=>((E.get s.k).map Slot.val=some s.val)::subV E r
theorem EnvOK.subV {n:Nat} {E E':Env} {a:Act} (h:EnvOK n E a) (hs:Conj (subV E E')):EnvOK n E' a:=by
 refine⟨h.size,h.defers,?_⟩
 induction E' with
 | nil=>intro k s hk;cases hk
 | cons s' r ih=>
  intro k s hk;simp only[Env.get]at hk;split at hk
  ·rename_i e;have:=Nat.eq_of_beq_eq_true e;injection hk with hk;subst hk;subst this;have h1:=hs.1;cases h2:E.get s'.k with
   | none=>rw[h2]at h1;cases h1
   | some u=>
    rw[h2]at h1;have h3:u.val=s'.val:=by simpa using h1
    have:=h.slot _ _ h2;rw[h3]at this;exact this
  ·exact ih hs.2 k s hk
section
variable {X : Cx} {P : Program} {T : Tab} {K : List KI} {E : Env} {L : List Atom} {N : Nat} {F : HP} {Post : Value → List Atom → Prop} {rs : List ResultVar}
theorem J.openOwn {e size g n cap:Nat} {xs:List Value} {L':List Value->List Atom} (i:Nat) (ok:x5 L [i]=true) (hp:s6 L [i]=[c9 e size (some g) n cap xs]) (hL:∀r,K4 L [i] [.pt g e (xs++r)]=some (L' r))
  (h:∀r:List Value,xs.length=n*size->n<=cap->cap<=maxLen->xs.length+r.length=cap*size->J X K E (L' r)):J X K E L:=by
 refine J.turn [i] ok (α:={r:List Value//xs.length=n*size/\n<=cap/\cap<=maxLen/\xs.length+r.length=cap*size}) (As:=λr=>[.pt g e (xs++r.1)]) (L':=λr=>L' r.1) (λh' s=>?_) (λr=>hL r.1) (λr=>h r.1 r.2.1 r.2.2.1 r.2.2.2.1 r.2.2.2.2);rw[hp]at s;obtain⟨h0,cur,h1,h2,h3,h4,h5⟩:=s.get (i:=0) rfl;refine⟨⟨cur.toList.drop (n*size),h0,h2,h3,?_⟩,Sep.one ?_⟩
 ·have hle:n*size<=cap*size:=Nat.mul_le_mul_right _ h2;have h4':cur.toList.length=cap*size:=h4;rw[List.length_drop,h4',h0];omega
 ·show h' g=_;rw[h1];show some (Obj.cells cur e (0,0))=some (Obj.cells (xs++cur.toList.drop (n*size)).toArray e (0,0));rw[<- h5,List.take_append_drop]
theorem J.closeOwn {e size g n cap:Nat} {xs ys:List Value} {L':List Atom} (i:Nat) (ok:x5 L [i]=true) (hp:s6 L [i]=[.pt g e ys]) (h0:xs.length=n*size) (h2:n<=cap) (h3:cap<=maxLen) (h4:ys.length=cap*size) (h5:ys.take (n*size)=xs)
  (hL:K4 L [i] [c9 e size (some g) n cap xs]=some L') (h:J X K E L'):J X K E L:=by
 refine J.turn1 [i] ok (λh' s=>?_) hL h;rw[hp]at s;exact Sep.one (show M9 e size (some g) n cap xs h' from⟨h0,ys.toArray,s.get (i:=0) rfl,h2,h3,by simpa using h4,by simpa using h5⟩)
theorem J.storeN {T:Tab} (hX:IsCx X P rs N F Post) (hT:TabOK P T) {ops:Array Oper} {C:Cl} {lt:Bool} {i:Nat} {t:PT} {o:Oper} {g:G} {ty0:TypeId} {x y:Operand} {k1 k2 t1 t2 b off ty:Nat} {g1 g2:G} {v:Value} {cs vs:List Value} {ti:TI} {E':Value->Env} (is:Nat)
  (ho:n7 ops.toList i=some o) (hg:gd ops.toList E o=some g) (hgo:g.on=true) (hop:o.op= .store ty0 x y) (hx:ev E x=some ⟨k1, .pointer (some ⟨b,off,none⟩),t1,g1⟩) (v1:g1.on=true) (hy:ev E y=some ⟨k2,v,t2,g2⟩) (v2:g2.on=true)
  (hti:T.get ty0=some ti) (hc:v.cells.toList=vs) (hsz:ti.size=vs.length) (h1:vs.all (·.oneCell')=true) (hL:n7 L is=some (.pt b ty cs)) (hlt:off+vs.length<=cs.length) (cs':List Value) (hcs:cs.take off++vs++cs.drop (off+vs.length)=cs') {L2:List Atom} (hL2:A8 L is (.pt b ty cs')=some L2)
  (hd:∀v,C6 N o.dst v 0 .tt E=some (E' v)) (hJ:Conj (q9 lt C L2)/\J X (.reg ops C t::K) (E' undef) L2):J X (.reg ops C (.alt lt i t .non)::K) E L:=by
 refine J.op hX (S:=λv' L'=>v'=undef/\L'=L.set is (.pt b ty cs')) 0 ho hg hgo (λa0 w hen hs=>?_) hd (λv L' ⟨e1,e2⟩=>by subst e1;subst e2;rw[<- A7 hL2];exact hJ);rw[m9]at hL;have ex:=i6 hen hx;have ey:=i6 hen hy;simp only[Slot.val,v1,v2]at ex ey;obtain⟨d,f,z,ok⟩:=i3 (hT.get hti);have hblk:Blk w b ty cs.toArray:=hs.pt hL;have hput:P9 cs (off+0) vs=some cs':=by rw[Nat.add_zero,<- hcs];exact a3J _ _ _ hlt
 obtain⟨w',r1,r2,r3⟩:=D3 (P:=P) vs 0 w cs cs' hblk hput h1;have hsize:v.cells.size=f.size:=by
  rw[<- ok.hsize,hsz,<- Array.length_toList,hc]
 refine⟨undef,_, .skip,w',⟨rfl,rfl⟩,?_, .inr ⟨rfl,rfl⟩,?_,r3⟩
 ·simp only[execOp,hop,ex,ey,Instr.storeAt,Instr.sureAddr,Sem.run_bind,Sem.run_pure,Result.andThen_ok,storeVar,m6 ok.hf];simp[hsize,hc,r1]
 ·rw[r2];exact hs.setPt cs' hL
theorem J.makeSlice {T:Tab} (hX:IsCx X P rs N F Post) (hT:TabOK P T) {ops:Array Oper} {C:Cl} {lt:Bool} {i:Nat} {t:PT} {o:Oper} {g:G} {st e by_:Nat} {x y:Operand} {k1 k2 t1 t2 n s1 b1:Nat} {kl kc:IntKind} {g1 g2:G} {z1:List Value} {z:Value} {td:TD} {E':Value->Env} {L2:Nat->List Atom} (tag:Nat)
  (ho:n7 ops.toList i=some o) (hg:gd ops.toList E o=some g) (hgo:g.on=true) (hop:o.op= .makeSlice st x y) (hx:ev E x=some ⟨k1, .int kl n,t1,g1⟩) (v1:g1.on=true) (hy:ev E y=some ⟨k2, .int kc n,t2,g2⟩) (v2:g2.on=true)
  (hst:T.get st=some ⟨.slice e 1,s1,z1,b1⟩) (he:T.get e=some ⟨td,1,[z],by_⟩) (h63:n<=maxLen) (hbytes:by_*n<=281474976710656)
  (hL2:∀b,X8 a8u L (.pt b e (List.replicate n z))=some (L2 b,tag)) (hd:∀v,C6 N o.dst v tag .tt E=some (E' v)) (hJ:∀b,Conj (q9 lt C (L2 b))/\J X (.reg ops C t::K) (E' (.slice (some ⟨b,0,none⟩) n n)) (L2 b)):J X (.reg ops C (.alt lt i t .non)::K) E L:=by
 refine J.op hX (S:=λv' L'=>∃b,v'= .slice (some ⟨b,0,none⟩) n n/\L'=L++[.pt b e (List.replicate n z)]) tag ho hg hgo (λa0 w hen hs=>?_) hd (λv L' ⟨b,e1,e2⟩=>by subst e1;subst e2;rw[<- P8 (hL2 b)];exact hJ b);have ex:=i6 hen hx;have ey:=i6 hen hy;simp only[Slot.val,v1,v2]at ex ey;obtain⟨d,f,zv,ok⟩:=i3 (hT.get hst);obtain⟨fe,rfl,g1',g2'⟩:=ok.slice rfl;obtain⟨d',f',zv',ok'⟩:=i3 (hT.get he);have hf:fe=f':=by have:=g1'.symm.trans ok'.hf;injection this
 subst hf;have hb2:(fe.bytes:Int)*(n:Int)<=281474976710656:=by
  rw[<- ok'.hbytes];have h:((by_*n:Nat):Int)<=281474976710656:=by omega
  rwa [Int.natCast_mul]at h
 have hr:=run_make (P:=P) w st e fe zv' ok.hd ok'.hf ok'.hz kl kc n n (by omega) (Int.le_refl _) hb2 (by simp[maxLen]at h63;omega);have hz:zv'.cells= #[z]:=by apply Array.toList_inj.1;exact ok'.hzero.symm
 have hs1:fe.size=1:=ok'.hsize.symm;simp only[Int.toNat_natCast,hs1,Nat.mul_one,hz]at hr;refine⟨_,_, .value (.slice (some ⟨w.heap.size,0,none⟩) n n),w.alloc (.cells (madeCells #[z] n) e),⟨w.heap.size,rfl,rfl⟩,?_, .inl rfl,?_,⟨rfl,rfl,rfl,by show w.heap.size<=(w.heap.push _).size;simp⟩⟩
 ·simp only[execOp,hop,ex,ey,hr,Sem.run_bind,Result.andThen_ok,Sem.run_pure]
 ·have e1:Obj.cells (madeCells #[z] n) e (0,0)=Obj.cells (List.replicate n z).toArray e (0,0):=by
   congr 1;apply Array.toList_inj.1;rw[toList_madeCells_one]
  show Sep _ (hl {w with heap:=w.heap.push (Obj.cells (madeCells #[z] n) e (0,0))});rw[e1,a1e];exact hs.snoc (a1f w) (λh' hh=>hh)
theorem J.nextS {α:Type} {I:α->Prop} {Ei:α->Env} {Li:α->List Atom} {μ:α->Nat} {m:Nat} (x:α) (h1:I x) (h2:μ x<m) (is:List Nat) (h3:Conj (a4w E (Ei x))) (ok:x5 L is=true) (hL:s6 L is=Li x):
  J X (.stop (λa w=>Ext X.w0 w/\∃x',I x'/\μ x'<m/\EnvOK X.n (Ei x') a/\Sep (Li x') (hl w))::K) E L:=J.next x h1 h2 h3 (λh' s=>by have:=s.sub is ok;rwa [hL]at this)
theorem J.nS {α:Type} {I:α->Prop} {Ei:α->Env} {Li:α->List Atom} {μ:α->Nat} {m:Nat} (x:α) (h1:I x) (h2:μ x<m) (is:List Nat) (ok:x5 L is=true) (hL:s6 L is=Li x) (h3:Conj (a4w E (Ei x)):=by(repeat' (first | exact Conj.nil | refine Conj.cons ?_ ?_ | omega | exact hq0 | (simpa using hq0) | (exactλh=>h) | exact rfl | (intro hq;have hq0:=hq;try simp only[Bool.and_eq_true,Bool.or_eq_true,decide_eq_true_eq,Bool.not_eq_true',decide_eq_false_iff_not]at hq) | (simp;done) | (simp;omega) | decide))):
  J X (.stop (λa w=>Ext X.w0 w/\∃x',I x'/\μ x'<m/\EnvOK X.n (Ei x') a/\Sep (Li x') (hl w))::K) E L:=J.nextS x h1 h2 is h3 ok hL
theorem R7 {w:World} {n0:Nat} {a:Act} (hT:TabOK P T) {o:Oper} {src dst:TypeId} {x:Operand} {k tg sz b1:Nat} {z1:List Value} {g:G} {k0 k':IntKind} {n:Int} {ti:TI} (hop:o.op= .convert src dst x) (hx:ev E x=some ⟨k, .int k0 n,tg,g⟩) (he:EnvOK n0 E a) (hg:g.on=true) (hd:T.get dst=some ⟨.int k',sz,z1,b1⟩) (hs:T.get src=some ti):
  (execOp a.eval o).run P w= .ok (.value (.int k' (k'.wrap n))) w:=by
 have ex:=i6 he hx;simp only[Slot.val,hg]at ex;obtain⟨d,fi,zv,ok⟩:=i3 (hT.get hd);obtain⟨d',fi',zv',ok'⟩:=i3 (hT.get hs);have:=ok.int rfl;subst this;simp[execOp,hop,ex,convert,d7 ok.hd,d7 ok'.hd,Conv.intToInt]
theorem J.join {α:Type} {k:KI} (E0:α->Env) (L0:α->List Atom) (h1:(∀x,J X K (E0 x) (L0 x))->J X (k::K) E L) (h2:∀x,J X K (E0 x) (L0 x)):J X (k::K) E L:=h1 h2
theorem J.goto {E0:Env} {L0:List Atom} (is:List Nat) (h:J X K E0 L0) (h3:Conj (subV E E0)) (ok:x5 L is=true) (hL:s6 L is=L0):J X K E L:=
 λa w hx he s=>h a w hx (he.subV h3) (by have:=s.sub is ok;rwa [hL]at this)
end
theorem a3F (z:Array Value) (n:Nat):(madeCells z (n*z.size)).toList=(List.replicate n z.toList).flatten:=by
 have e0:∀k,(madeCells z k).toList=(List.range k).map λi=>z[i % z.size]!:=λk=>by simp[madeCells]
 induction n with
 | zero=>rw[e0];simp
 | succ n ih=>
  rw[e0]at ih ⊢;rw[Nat.succ_mul,List.range_add,List.map_append,ih,List.replicate_succ',List.flatten_append,List.flatten_singleton];congr 1;apply List.ext_getElem?;intro i;rw[List.map_map,List.getElem?_map]
  by_cases h:i<z.size
  ·rw[List.getElem?_range h,Option.map_some];simp only[Function.comp,Nat.mul_comm n,Nat.mul_add_mod,Nat.mod_eq_of_lt h];rw[Array.getElem?_toList,Array.getElem?_eq_getElem h,getElem!_pos z i h]
  ·rw[List.getElem?_eq_none (by rw[List.length_range];omega),Option.map_none,List.getElem?_eq_none (by rw[Array.length_toList];omega)]
section
variable {X : Cx} {P : Program} {K : List KI} {E : Env} {L : List Atom} {N : Nat} {F : HP} {Post : Value → List Atom → Prop} {rs : List ResultVar}
theorem J.makeMany {T:Tab} (hX:IsCx X P rs N F Post) (hT:TabOK P T) {ops:Array Oper} {C:Cl} {lt:Bool} {i:Nat} {t:PT} {o:Oper} {g:G} {st e by_ size:Nat} {x y:Operand} {k1 k2 t1 t2 n s1 b1:Nat} {kl kc:IntKind} {g1 g2:G} {z1 z:List Value} {td:TD} {E':Value->Env} {L2:Nat->List Atom} (tag:Nat)
  (ho:n7 ops.toList i=some o) (hg:gd ops.toList E o=some g) (hgo:g.on=true) (hop:o.op= .makeSlice st x y) (hx:ev E x=some ⟨k1, .int kl n,t1,g1⟩) (v1:g1.on=true) (hy:ev E y=some ⟨k2, .int kc n,t2,g2⟩) (v2:g2.on=true)
  (hst:T.get st=some ⟨.slice e size,s1,z1,b1⟩) (he:T.get e=some ⟨td,size,z,by_⟩) (hzs:Nat.beq z.length size=true) (h63:n<=maxLen) (hbytes:by_*n<=281474976710656)
  (hL2:∀b,X8 a8u L (.pt b e (List.replicate n z).flatten)=some (L2 b,tag)) (hd:∀v,C6 N o.dst v tag .tt E=some (E' v)) (hJ:∀b,Conj (q9 lt C (L2 b))/\J X (.reg ops C t::K) (E' (.slice (some ⟨b,0,none⟩) n n)) (L2 b)):J X (.reg ops C (.alt lt i t .non)::K) E L:=by
 refine J.op hX (S:=λv' L'=>∃b,v'= .slice (some ⟨b,0,none⟩) n n/\L'=L++[.pt b e (List.replicate n z).flatten]) tag ho hg hgo (λa0 w hen hs=>?_) hd (λv L' ⟨b,e1,e2⟩=>by subst e1;subst e2;rw[<- P8 (hL2 b)];exact hJ b);have ex:=i6 hen hx;have ey:=i6 hen hy;simp only[Slot.val,v1,v2]at ex ey;obtain⟨d,f,zv,ok⟩:=i3 (hT.get hst);obtain⟨fe,rfl,g1',g2'⟩:=ok.slice rfl;obtain⟨d',f',zv',ok'⟩:=i3 (hT.get he);have hf:fe=f':=by have:=g1'.symm.trans ok'.hf;injection this
 subst hf;have hb2:(fe.bytes:Int)*(n:Int)<=281474976710656:=by
  rw[<- ok'.hbytes];have h:((by_*n:Nat):Int)<=281474976710656:=by omega
  rwa [Int.natCast_mul]at h
 have hr:=run_make (P:=P) w st e fe zv' ok.hd ok'.hf ok'.hz kl kc n n (by omega) (Int.le_refl _) hb2 (by simp[maxLen]at h63;omega);have hz:zv'.cells.toList=z:=ok'.hzero.symm;have hs1:fe.size=size:=ok'.hsize.symm;have hzl:zv'.cells.size=size:=by rw[<- Array.length_toList,hz];exact Nat.eq_of_beq_eq_true hzs
 simp only[Int.toNat_natCast,hs1]at hr;rw[<- hzl]at hr;refine⟨_,_, .value (.slice (some ⟨w.heap.size,0,none⟩) n n),w.alloc (.cells (madeCells zv'.cells (n*zv'.cells.size)) e),⟨w.heap.size,rfl,rfl⟩,?_, .inl rfl,?_,⟨rfl,rfl,rfl,by show w.heap.size<=(w.heap.push _).size;simp⟩⟩
 ·simp only[execOp,hop,ex,ey,hr,Sem.run_bind,Result.andThen_ok,Sem.run_pure]
 ·have e1:Obj.cells (madeCells zv'.cells (n*zv'.cells.size)) e (0,0)=Obj.cells (List.replicate n z).flatten.toArray e (0,0):=by
   congr 1;apply Array.toList_inj.1;rw[a3F,hz]
  show Sep _ (hl {w with heap:=w.heap.push (Obj.cells (madeCells zv'.cells (n*zv'.cells.size)) e (0,0))});rw[e1,a1e];exact hs.snoc (a1f w) (λh' hh=>hh)
end
abbrev pp (n:Nat):Value:= .pointer (some ⟨n,0,none⟩)
abbrev iI (x:Int):Value:= .int .i64 x
abbrev si (k:Nat) (x:Int):Slot:=⟨k, .int .i64 x,0, .tt⟩
abbrev sp (k n:Nat):Slot:=⟨k, .pointer (some ⟨n,0,none⟩),0, .tt⟩
abbrev sv (k:Nat) (v:Value):Slot:=⟨k,v,0, .tt⟩
abbrev FP:=Fn Tryz.prog
theorem FE {f:FuncId} {args:List Value} {Pre:List Atom} {Post:Value->List Atom->Prop} {fn:Func} {c:Code} {N:Nat} (tags:List Nat) (hf:Tryz.prog.funcs[f]? =some fn)
  (h:∀(X:Cx) (F:HP),IsCx X Tryz.prog fn.results.toList N F Post->J X [.code c] (a2s keys args tags) (.hp F::Pre)) (hb:fn.body=some c:=by exact rfl) (hN:fn.ntmps=N:=by exact rfl) (hl:Nat.ble args.length N=true:=by exact rfl):Fn Tryz.prog f args Pre Post:=Fn.enter tags hf hb hN hl h
abbrev Ps (V:Value) (M:List Atom):Value->List Atom->Prop:=λv As=>v=V/\As=M
theorem aq_ (h:True:=by intros;(repeat' (first | exact Conj.nil | refine Conj.cons ?_ ?_ | omega | exact hq0 | (simpa using hq0) | (exactλh=>h) | exact rfl | (intro hq;have hq0:=hq;try simp only[Bool.and_eq_true,Bool.or_eq_true,decide_eq_true_eq,Bool.not_eq_true',decide_eq_false_iff_not]at hq) | (simp;done) | (simp;omega) | decide))):True:=h
theorem cpq {V:Value} {M:List Atom} {R:Value->List Atom->Prop} (h:R V M):∀v As,(v=V/\As=M)->R v As:=by
 rintro v As ⟨rfl,rfl⟩;exact h
section
variable {X : Cx} {K : List KI} {E : Env} {L : List Atom} {N : Nat} {F : HP} {Post : Value → List Atom → Prop} {rs : List ResultVar}
theorem J.q {K':(Nat->Nat)->List KI} {E':(Nat->Nat)->Env} {L':(Nat->Nat)->List Atom} {ob:(Nat->Nat)->List Prop} (hJ:∀bs,J X (K' bs) (E' bs) (L' bs))
  (hX:IsCx X Tryz.prog rs N F Post:=by assumption) (h:∀bs,Go.Proofs.YtpohajhbfllbbaaGreat.run tab N bs 400 K E L [] 0=⟨K' bs,E' bs,L' bs,ob bs⟩:=by exactλ_=>rfl) (hob:autoParam (∀bs,Conj (ob bs)) aq_._auto_1):J X K E L:=J.run hX tk 400 h hob hJ
theorem J.ru (hX:IsCx X Tryz.prog rs N F Post) {v:Value} {ob:List Prop} (is:List Nat) (hP:Post v (s6 L is)) (h:a3m tab E L rs=some (v,ob):=by exact rfl) (ok:x5 L (0::is)=true:=by exact rfl) (h0:n7 L 0=some (.hp F):=by exact rfl) (hob:autoParam (Conj ob) aq_._auto_1):J X (.code .ret::K) E L:=J.ret hX tk is h hob ok h0 hP
theorem J.cb {ops:Array Oper} {C:Cl} {l:Bool} {i:Nat} {t:PT} {o:Oper} {g:G} {f:FuncId} {vs:List Value} {ob:List Prop} {Pre:List Atom} {Po:Value->List Atom->Prop} {E':Value->Env}
  (c:Fn Tryz.prog f vs Pre Po) (is:List Nat) (hJ:∀v As,Po v As->∃L',K4 L is As=some L'/\Conj (q9 l C L')/\J X (.reg ops C t::K) (E' v) L') (hX:IsCx X Tryz.prog rs N F Post:=by assumption) (ho:n7 ops.toList i=some o:=by exact rfl) (hg:gd ops.toList E o=some g:=by exact rfl) (hgo:g.on=true:=by exact rfl) (hc:a2r E o.op=some (f,vs,ob):=by exact rfl) (hf:n9 Tryz.prog f=true:=by kernel_rfl) (ok:x5 L is=true:=by exact rfl) (hp:s6 L is=Pre:=by exact rfl)
  (hd:∀v,C6 N o.dst v 0 .tt E=some (E' v):=by exactλ_=>rfl) (hob:autoParam (Conj ob) aq_._auto_1):J X (.reg ops C (.alt l i t .non)::K) E L:=J.call hX hf c is 0 ho hg hgo hc hob ok hp hd hJ
theorem J.qn (n:Nat) {K':(Nat->Nat)->List KI} {E':(Nat->Nat)->Env} {L':(Nat->Nat)->List Atom} {ob:(Nat->Nat)->List Prop} (hJ:∀bs,J X (K' bs) (E' bs) (L' bs))
  (hX:IsCx X Tryz.prog rs N F Post:=by assumption) (h:∀bs,Go.Proofs.YtpohajhbfllbbaaGreat.run tab N bs n K E L [] 0=⟨K' bs,E' bs,L' bs,ob bs⟩:=by exactλ_=>rfl) (hob:autoParam (∀bs,Conj (ob bs)) aq_._auto_1):J X K E L:=J.run hX tk n h hob hJ
theorem J.cF {c:Operand} {x y:Code} {k tag:Nat} {b:Bool} (hJ:J X (.code y::K) E L) (hc:ev E c=some ⟨k, .bool b,tag, .tt⟩:=by exact rfl) (hb:b=false:=by first | exact rfl | decide | simp):J X (.code (.cond c x y)::K) E L:=J.cond hc (λh=>by rw[hb]at h;cases h) (λ_=>hJ)
theorem J.cT {c:Operand} {x y:Code} {k tag:Nat} {b:Bool} (hJ:J X (.code x::K) E L) (hc:ev E c=some ⟨k, .bool b,tag, .tt⟩:=by exact rfl) (hb:b=true:=by first | exact rfl | decide | simp):J X (.code (.cond c x y)::K) E L:=J.cond hc (λ_=>hJ) (λh=>by rw[hb]at h;cases h)
theorem J.qd {K' K2:(Nat->Nat)->List KI} {E':(Nat->Nat)->Env} {L':(Nat->Nat)->List Atom} {ob:(Nat->Nat)->List Prop} {c:(Nat->Nat)->Operand} {x y:(Nat->Nat)->Code} {k tag:(Nat->Nat)->Nat} {b:(Nat->Nat)->Bool} (h1:∀bs,b bs=true->J X (.code (x bs)::K2 bs) (E' bs) (L' bs)) (h2:∀bs,b bs=false->J X (.code (y bs)::K2 bs) (E' bs) (L' bs))
  (hX:IsCx X Tryz.prog rs N F Post:=by assumption) (h:∀bs,Go.Proofs.YtpohajhbfllbbaaGreat.run tab N bs 400 K E L [] 0=⟨K' bs,E' bs,L' bs,ob bs⟩:=by exactλ_=>rfl) (hob:autoParam (∀bs,Conj (ob bs)) aq_._auto_1) (hk:∀bs,K' bs= .code (.cond (c bs) (x bs) (y bs))::K2 bs:=by exactλ_=>rfl) (hc:∀bs,ev (E' bs) (c bs)=some ⟨k bs, .bool (b bs),tag bs, .tt⟩:=by exactλ_=>rfl):J X K E L:=J.run hX tk 400 h hob λbs=>by rw[hk bs];exact J.cond (hc bs) (h1 bs) (h2 bs)
theorem J.qF {K' K2:(Nat->Nat)->List KI} {E':(Nat->Nat)->Env} {L':(Nat->Nat)->List Atom} {ob:(Nat->Nat)->List Prop} {c:(Nat->Nat)->Operand} {x y:(Nat->Nat)->Code} {k tag:(Nat->Nat)->Nat} {b:(Nat->Nat)->Bool} (hJ:∀bs,J X (.code (y bs)::K2 bs) (E' bs) (L' bs))
  (hX:IsCx X Tryz.prog rs N F Post:=by assumption) (h:∀bs,Go.Proofs.YtpohajhbfllbbaaGreat.run tab N bs 400 K E L [] 0=⟨K' bs,E' bs,L' bs,ob bs⟩:=by exactλ_=>rfl) (hob:autoParam (∀bs,Conj (ob bs)) aq_._auto_1) (hk:∀bs,K' bs= .code (.cond (c bs) (x bs) (y bs))::K2 bs:=by exactλ_=>rfl) (hc:∀bs,ev (E' bs) (c bs)=some ⟨k bs, .bool (b bs),tag bs, .tt⟩:=by exactλ_=>rfl) (hb:∀bs,b bs=false:=by intro bs;first | exact rfl | decide | simp):J X K E L:=J.run hX tk 400 h hob λbs=>by rw[hk bs];exact J.cond (hc bs) (λh=>by rw[hb]at h;cases h) (λ_=>hJ bs)
theorem J.qT {K' K2:(Nat->Nat)->List KI} {E':(Nat->Nat)->Env} {L':(Nat->Nat)->List Atom} {ob:(Nat->Nat)->List Prop} {c:(Nat->Nat)->Operand} {x y:(Nat->Nat)->Code} {k tag:(Nat->Nat)->Nat} {b:(Nat->Nat)->Bool} (hJ:∀bs,J X (.code (x bs)::K2 bs) (E' bs) (L' bs))
  (hX:IsCx X Tryz.prog rs N F Post:=by assumption) (h:∀bs,Go.Proofs.YtpohajhbfllbbaaGreat.run tab N bs 400 K E L [] 0=⟨K' bs,E' bs,L' bs,ob bs⟩:=by exactλ_=>rfl) (hob:autoParam (∀bs,Conj (ob bs)) aq_._auto_1) (hk:∀bs,K' bs= .code (.cond (c bs) (x bs) (y bs))::K2 bs:=by exactλ_=>rfl) (hc:∀bs,ev (E' bs) (c bs)=some ⟨k bs, .bool (b bs),tag bs, .tt⟩:=by exactλ_=>rfl) (hb:∀bs,b bs=true:=by intro bs;first | exact rfl | decide | simp):J X K E L:=J.run hX tk 400 h hob λbs=>by rw[hk bs];exact J.cond (hc bs) (λ_=>hJ bs) (λh=>by rw[hb]at h;cases h)
theorem J.qr {K':(Nat->Nat)->List KI} {E':(Nat->Nat)->Env} {L':(Nat->Nat)->List Atom} {ob ob2:(Nat->Nat)->List Prop} {K2:(Nat->Nat)->List KI} {v:(Nat->Nat)->Value} (is:List Nat) (hP:∀bs,Post (v bs) (s6 (L' bs) is))
  (hX:IsCx X Tryz.prog rs N F Post:=by assumption) (h:∀bs,Go.Proofs.YtpohajhbfllbbaaGreat.run tab N bs 400 K E L [] 0=⟨K' bs,E' bs,L' bs,ob bs⟩:=by exactλ_=>rfl) (hob:autoParam (∀bs,Conj (ob bs)) aq_._auto_1) (hk:∀bs,K' bs= .code .ret::K2 bs:=by exactλ_=>rfl) (hr:∀bs,a3m tab (E' bs) (L' bs) rs=some (v bs,ob2 bs):=by exactλ_=>rfl) (ok:∀bs,x5 (L' bs) (0::is)=true:=by exactλ_=>rfl) (h0:∀bs,n7 (L' bs) 0=some (.hp F):=by exactλ_=>rfl) (hob2:autoParam (∀bs,Conj (ob2 bs)) aq_._auto_1):J X K E L:=J.run hX tk 400 h hob λbs=>by rw[hk bs];exact J.ret hX tk is (hr bs) (hob2 bs) (ok bs) (h0 bs) (hP bs)
theorem J.qc {K' K2:(Nat->Nat)->List KI} {E':(Nat->Nat)->Env} {L':(Nat->Nat)->List Atom} {ob:(Nat->Nat)->List Prop} {ob2:(Nat->Nat)->List Prop} {ops:(Nat->Nat)->Array Oper} {C:(Nat->Nat)->Cl} {l:(Nat->Nat)->Bool} {i:(Nat->Nat)->Nat} {t:(Nat->Nat)->PT} {o:(Nat->Nat)->Oper} {g:(Nat->Nat)->G} {f:FuncId} {vs:List Value} {Pre:List Atom} {Po:Value->List Atom->Prop} {E2:(Nat->Nat)->Value->Env}
  (c:Fn Tryz.prog f vs Pre Po) (is:List Nat) (hJ:∀bs,∀v As,Po v As->∃L2,K4 (L' bs) is As=some L2/\Conj (q9 (l bs) (C bs) L2)/\J X (.reg (ops bs) (C bs) (t bs)::K2 bs) (E2 bs v) L2)
  (hX:IsCx X Tryz.prog rs N F Post:=by assumption) (h:∀bs,Go.Proofs.YtpohajhbfllbbaaGreat.run tab N bs 400 K E L [] 0=⟨K' bs,E' bs,L' bs,ob bs⟩:=by exactλ_=>rfl) (hob:autoParam (∀bs,Conj (ob bs)) aq_._auto_1) (hk:∀bs,K' bs= .reg (ops bs) (C bs) (.alt (l bs) (i bs) (t bs) .non)::K2 bs:=by exactλ_=>rfl) (ho:∀bs,n7 (ops bs).toList (i bs)=some (o bs):=by exactλ_=>rfl) (hg:∀bs,gd (ops bs).toList (E' bs) (o bs)=some (g bs):=by exactλ_=>rfl) (hgo:∀bs,(g bs).on=true:=by exactλ_=>rfl) (hc:∀bs,a2r (E' bs) (o bs).op=some (f,vs,ob2 bs):=by exactλ_=>rfl) (hf:n9 Tryz.prog f=true:=by kernel_rfl) (ok:∀bs,x5 (L' bs) is=true:=by exactλ_=>rfl) (hp:∀bs,s6 (L' bs) is=Pre:=by exactλ_=>rfl)
  (hd:∀bs v,C6 N (o bs).dst v 0 .tt (E' bs)=some (E2 bs v):=by exactλ_ _=>rfl) (hob2:autoParam (∀bs,Conj (ob2 bs)) aq_._auto_1):J X K E L:=J.run hX tk 400 h hob λbs=>by rw[hk bs];exact J.call hX hf c is 0 (ho bs) (hg bs) (hgo bs) (hc bs) (hob2 bs) (ok bs) (hp bs) (hd bs) (hJ bs)
theorem J.qp {K' K2:(Nat->Nat)->List KI} {E':(Nat->Nat)->Env} {L':(Nat->Nat)->List Atom} {ob:(Nat->Nat)->List Prop} {ob2:(Nat->Nat)->List Prop} {ops:(Nat->Nat)->Array Oper} {C:(Nat->Nat)->Cl} {l:(Nat->Nat)->Bool} {i:(Nat->Nat)->Nat} {t:(Nat->Nat)->PT} {o:(Nat->Nat)->Oper} {g:(Nat->Nat)->G} {f:FuncId} {vs:List Value} {Pre M:List Atom} {V:Value} {E2:(Nat->Nat)->Value->Env} {L2:(Nat->Nat)->List Atom}
  (c:Fn Tryz.prog f vs Pre (λv As=>v=V/\As=M)) (is:List Nat) (hJ:∀bs,J X (.reg (ops bs) (C bs) (t bs)::K2 bs) (E2 bs V) (L2 bs))
  (hX:IsCx X Tryz.prog rs N F Post:=by assumption) (h:∀bs,Go.Proofs.YtpohajhbfllbbaaGreat.run tab N bs 400 K E L [] 0=⟨K' bs,E' bs,L' bs,ob bs⟩:=by exactλ_=>rfl) (hob:autoParam (∀bs,Conj (ob bs)) aq_._auto_1) (hk:∀bs,K' bs= .reg (ops bs) (C bs) (.alt (l bs) (i bs) (t bs) .non)::K2 bs:=by exactλ_=>rfl) (ho:∀bs,n7 (ops bs).toList (i bs)=some (o bs):=by exactλ_=>rfl) (hg:∀bs,gd (ops bs).toList (E' bs) (o bs)=some (g bs):=by exactλ_=>rfl) (hgo:∀bs,(g bs).on=true:=by exactλ_=>rfl) (hc:∀bs,a2r (E' bs) (o bs).op=some (f,vs,ob2 bs):=by exactλ_=>rfl) (hf:n9 Tryz.prog f=true:=by kernel_rfl) (ok:∀bs,x5 (L' bs) is=true:=by exactλ_=>rfl) (hp:∀bs,s6 (L' bs) is=Pre:=by exactλ_=>rfl)
  (hd:∀bs v,C6 N (o bs).dst v 0 .tt (E' bs)=some (E2 bs v):=by exactλ_ _=>rfl) (hob2:autoParam (∀bs,Conj (ob2 bs)) aq_._auto_1) (hl:∀bs,K4 (L' bs) is M=some (L2 bs):=by exactλ_=>rfl) (hs:∀bs,Conj (q9 (l bs) (C bs) (L2 bs)):=by intro bs;first | exact trivial | (repeat' (first | exact trivial | refine⟨rfl,?_⟩))):J X K E L:=J.qc c is (λbs v As ⟨e1,e2⟩=>by subst e1;subst e2;exact⟨_,hl bs,hs bs,hJ bs⟩) hX h hob hk ho hg hgo hc hf ok hp hd hob2
theorem b2K:Tryz.prog.follows .mixedOrders=true:=by kernel_rfl
theorem J.p {K' K2:(Nat->Nat)->List KI} {E':(Nat->Nat)->Env} {L':(Nat->Nat)->List Atom} {ob:(Nat->Nat)->List Prop} {id:(Nat->Nat)->Nat} {ops:(Nat->Nat)->Array Oper} (t:PT) (lt ro:List Nat) (hJ:∀bs,J X (.reg (ops bs) (snap (L' bs) ro) t::K2 bs) (E' bs) (L' bs)) (hX:IsCx X Tryz.prog rs N F Post:=by assumption) (h:∀bs,Go.Proofs.YtpohajhbfllbbaaGreat.run tab N bs 400 K E L [] 0=⟨K' bs,E' bs,L' bs,ob bs⟩:=by exactλ_=>rfl) (hob:autoParam (∀bs,Conj (ob bs)) aq_._auto_1) (hk:∀bs,K' bs= .code (.region (id bs) (ops bs) true)::K2 bs:=by exactλ_=>rfl) (ht:∀bs,t.good (ops bs) lt=true:=by intro bs;kernel_rfl):J X K E L:=J.run hX tk 400 h hob λbs=>by rw[hk bs];exact J.plan t lt ro (by rw[hX.hP];exact b2K) (ht bs) (hJ bs)
theorem J.pq {K' K2:(Nat->Nat)->List KI} {E':(Nat->Nat)->Env} {L':(Nat->Nat)->List Atom} {ob:(Nat->Nat)->List Prop} {id:(Nat->Nat)->Nat} {ops:(Nat->Nat)->Array Oper} {K3:(Nat->Nat)->(Nat->Nat)->List KI} {E3:(Nat->Nat)->(Nat->Nat)->Env} {L3:(Nat->Nat)->(Nat->Nat)->List Atom} {ob3:(Nat->Nat)->(Nat->Nat)->List Prop} (t:PT) (lt ro:List Nat) (hJ:∀bs cs,J X (K3 bs cs) (E3 bs cs) (L3 bs cs)) (hX:IsCx X Tryz.prog rs N F Post:=by assumption) (h:∀bs,Go.Proofs.YtpohajhbfllbbaaGreat.run tab N bs 400 K E L [] 0=⟨K' bs,E' bs,L' bs,ob bs⟩:=by exactλ_=>rfl) (hob:autoParam (∀bs,Conj (ob bs)) aq_._auto_1) (hk:∀bs,K' bs= .code (.region (id bs) (ops bs) true)::K2 bs:=by exactλ_=>rfl) (ht:∀bs,t.good (ops bs) lt=true:=by intro bs;kernel_rfl) (h3:∀bs cs,Go.Proofs.YtpohajhbfllbbaaGreat.run tab N cs 400 (.reg (ops bs) (snap (L' bs) ro) t::K2 bs) (E' bs) (L' bs) [] 0=⟨K3 bs cs,E3 bs cs,L3 bs cs,ob3 bs cs⟩:=by exactλ_ _=>rfl) (hob3:autoParam (∀bs cs,Conj (ob3 bs cs)) aq_._auto_1):J X K E L:=J.p t lt ro (λbs=>J.run hX tk 400 (h3 bs) (hob3 bs) (hJ bs)) hX h hob hk ht
theorem J.pn {K' K2:(Nat->Nat)->List KI} {E':(Nat->Nat)->Env} {L':(Nat->Nat)->List Atom} {ob:(Nat->Nat)->List Prop} {id:(Nat->Nat)->Nat} {ops:(Nat->Nat)->Array Oper} {K3:(Nat->Nat)->(Nat->Nat)->List KI} {E3:(Nat->Nat)->(Nat->Nat)->Env} {L3:(Nat->Nat)->(Nat->Nat)->List Atom} {ob3:(Nat->Nat)->(Nat->Nat)->List Prop} (n:Nat) (t:PT) (lt ro:List Nat) (hJ:∀bs cs,J X (K3 bs cs) (E3 bs cs) (L3 bs cs)) (hX:IsCx X Tryz.prog rs N F Post:=by assumption) (h:∀bs,Go.Proofs.YtpohajhbfllbbaaGreat.run tab N bs 400 K E L [] 0=⟨K' bs,E' bs,L' bs,ob bs⟩:=by exactλ_=>rfl) (hob:autoParam (∀bs,Conj (ob bs)) aq_._auto_1) (hk:∀bs,K' bs= .code (.region (id bs) (ops bs) true)::K2 bs:=by exactλ_=>rfl) (ht:∀bs,t.good (ops bs) lt=true:=by intro bs;kernel_rfl) (h3:∀bs cs,Go.Proofs.YtpohajhbfllbbaaGreat.run tab N cs n (.reg (ops bs) (snap (L' bs) ro) t::K2 bs) (E' bs) (L' bs) [] 0=⟨K3 bs cs,E3 bs cs,L3 bs cs,ob3 bs cs⟩:=by exactλ_ _=>rfl) (hob3:autoParam (∀bs cs,Conj (ob3 bs cs)) aq_._auto_1):J X K E L:=J.p t lt ro (λbs=>J.run hX tk n (h3 bs) (hob3 bs) (hJ bs)) hX h hob hk ht
theorem J.v {ops:Array Oper} {C:Cl} {l:Bool} {i:Nat} {t:PT} {o:Oper} {g:G} {E':Env} (v:Value) (ho:n7 ops.toList i=some o) (hg:gd ops.toList E o=some g)
  (hr:g.on=true->∀a w,EnvOK N E a->Sep L (hl w)->(execOp a.eval o).run Tryz.prog w= .ok (.value v) w) (hJ:J X (.reg ops C t::K) E' L) (hX:IsCx X Tryz.prog rs N F Post:=by assumption) (hd:C6 N o.dst v 0 g E=some E':=by exact rfl) (hst:Conj (q9 l C L):=by trivial):J X (.reg ops C (.alt l i t .non)::K) E L:=J.val hX v 0 ho hg hr hd hst hJ
theorem J.vT {ops:Array Oper} {C:Cl} {q:Bool} {i:Nat} {t:PT} {o:Oper} {g:G} {E':Env} (v:Value) (ho:n7 ops.toList i=some o) (hg:gd ops.toList E o=some g)
  (hr:g.on=true->∀a w,EnvOK N E a->(q=false->CAt C w)->(execOp a.eval o).run Tryz.prog w= .ok (.value v) w) (hJ:J X (.reg ops C t::K) E' L) (hX:IsCx X Tryz.prog rs N F Post:=by assumption) (hd:C6 N o.dst v 0 g E=some E':=by exact rfl):J X (.reg ops C (.take q i t)::K) E L:=J.valT hX v 0 ho hg hr hd hJ
theorem J.qx {K':(Nat->Nat)->List KI} {E':(Nat->Nat)->Env} {L':(Nat->Nat)->List Atom} {ob ob2:(Nat->Nat)->List Prop} {K2:(Nat->Nat)->List KI} {v:(Nat->Nat)->Value} (is:List Nat)
  (hX:IsCx X Tryz.prog rs N F Post:=by assumption) (h:∀bs,Go.Proofs.YtpohajhbfllbbaaGreat.run tab N bs 400 K E L [] 0=⟨K' bs,E' bs,L' bs,ob bs⟩:=by exactλ_=>rfl) (hob:autoParam (∀bs,Conj (ob bs)) aq_._auto_1) (hk:∀bs,K' bs= .code .ret::K2 bs:=by exactλ_=>rfl) (hr:∀bs,a3m tab (E' bs) (L' bs) rs=some (v bs,ob2 bs):=by exactλ_=>rfl) (ok:∀bs,x5 (L' bs) (0::is)=true:=by exactλ_=>rfl) (h0:∀bs,n7 (L' bs) 0=some (.hp F):=by exactλ_=>rfl) (hob2:autoParam (∀bs,Conj (ob2 bs)) aq_._auto_1) (hP:∀bs,Post (v bs) (s6 (L' bs) is):=by exactλ_=>⟨rfl,rfl⟩):J X K E L:=J.qr is hP hX h hob hk hr ok h0 hob2
theorem J.f {v:Value} {ob:List Prop} (is:List Nat) (hP:Post v (s6 L is)) (hX:IsCx X Tryz.prog rs N F Post:=by assumption) (h:a3m tab E L rs=some (v,ob):=by exact rfl) (ok:x5 L (0::is)=true:=by exact rfl) (h0:n7 L 0=some (.hp F):=by exact rfl) (hob:autoParam (Conj ob) aq_._auto_1):J X [] E L:=J.fin hX tk is h hob ok h0 hP
theorem J.o {α:Type} {f:α->List Atom} {L':α->List Atom} (i:Nat) (h:∀x,J X K E (L' x)) (ok:x5 L [i]=true:=by exact rfl) (hp:s6 L [i]=[exA f]:=by exact rfl) (hL:∀x,K4 L [i] (f x)=some (L' x):=by exactλ_=>rfl):J X K E L:=J.open_ i ok hp hL h
theorem J.cl {α:Type} (f:α->List Atom) {L':List Atom} (x:α) (is:List Nat) (h:J X K E L') (ok:x5 L is=true:=by exact rfl) (hp:s6 L is=f x:=by exact rfl) (hL:K4 L is [exA f]=some L':=by exact rfl):J X K E L:=J.close x is ok hp hL h
theorem J.s1 {ops:Array Oper} {C:Cl} {lt:Bool} {i:Nat} {t:PT} {o:Oper} {g:G} {ty0:TypeId} {x y:Operand} {k1 k2 t1 t2 b off ty:Nat} {g1 g2:G} {v:Value} {cs:List Value} {ti:TI} {E':Value->Env} {L2:List Atom} (is:Nat) (cs':List Value) (hlt:off<cs.length) (hcs:cs.set off v=cs') (hJ:J X (.reg ops C t::K) (E' undef) L2) (hX:IsCx X Tryz.prog rs N F Post:=by assumption)
  (ho:n7 ops.toList i=some o:=by exact rfl) (hg:gd ops.toList E o=some g:=by exact rfl) (hgo:g.on=true:=by exact rfl) (hop:o.op= .store ty0 x y:=by exact rfl) (hx:ev E x=some ⟨k1, .pointer (some ⟨b,off,none⟩),t1,g1⟩:=by exact rfl) (v1:g1.on=true:=by exact rfl) (hy:ev E y=some ⟨k2,v,t2,g2⟩:=by exact rfl) (v2:g2.on=true:=by exact rfl)
  (hti:tab.get ty0=some ti:=by exact rfl) (hsz:Nat.beq ti.size 1=true:=by exact rfl) (hc:v.cells.toList=[v]:=by exact rfl) (h1:v.oneCell'=true:=by exact rfl) (hL:n7 L is=some (.pt b ty cs):=by exact rfl) (hL2:A8 L is (.pt b ty cs')=some L2:=by exact rfl)
  (hd:∀v,C6 N o.dst v 0 .tt E=some (E' v):=by exactλ_=>rfl) (hs:Conj (q9 lt C L2):=by first | exact trivial | (repeat' (first | exact trivial | refine⟨rfl,?_⟩))):J X (.reg ops C (.alt lt i t .non)::K) E L:=J.store1 hX tk is ho hg hgo hop hx v1 hy v2 hti hsz hc h1 hL hlt cs' hcs hL2 hd ⟨hs,hJ⟩
theorem J.mk {ops:Array Oper} {C:Cl} {lt:Bool} {i:Nat} {t:PT} {o:Oper} {g:G} {st e by_ size:Nat} {x y:Operand} {k1 k2 t1 t2 n s1 b1:Nat} {kl kc:IntKind} {g1 g2:G} {z1 z:List Value} {td:TD} {E':Value->Env} {L2:Nat->List Atom} (tag:Nat) (hJ:∀b,J X (.reg ops C t::K) (E' (.slice (some ⟨b,0,none⟩) n n)) (L2 b)) (hX:IsCx X Tryz.prog rs N F Post:=by assumption)
  (ho:n7 ops.toList i=some o:=by exact rfl) (hg:gd ops.toList E o=some g:=by exact rfl) (hgo:g.on=true:=by exact rfl) (hop:o.op= .makeSlice st x y:=by exact rfl) (hx:ev E x=some ⟨k1, .int kl n,t1,g1⟩:=by exact rfl) (v1:g1.on=true:=by exact rfl) (hy:ev E y=some ⟨k2, .int kc n,t2,g2⟩:=by exact rfl) (v2:g2.on=true:=by exact rfl)
  (hst:tab.get st=some ⟨.slice e size,s1,z1,b1⟩:=by exact rfl) (he:tab.get e=some ⟨td,size,z,by_⟩:=by exact rfl) (hzs:Nat.beq z.length size=true:=by exact rfl) (h63:n<=maxLen:=by first | decide | (simp only[maxLen];omega)) (hbytes:by_*n<=281474976710656:=by first | omega | decide)
  (hL2:∀b,X8 a8u L (.pt b e (List.replicate n z).flatten)=some (L2 b,tag):=by exactλ_=>rfl) (hd:∀v,C6 N o.dst v tag .tt E=some (E' v):=by exactλ_=>rfl) (hs:∀b,Conj (q9 lt C (L2 b)):=by intro b;first | exact trivial | (repeat' (first | exact trivial | refine⟨rfl,?_⟩))):J X (.reg ops C (.alt lt i t .non)::K) E L:=J.makeMany hX tk tag ho hg hgo hop hx v1 hy v2 hst he hzs h63 hbytes hL2 hd λb=>⟨hs b,hJ b⟩
theorem J.ap {ops:Array Oper} {C:Cl} {lt:Bool} {i:Nat} {t:PT} {o:Oper} {g:G} {x y:Operand} {st e size by_:Nat} {ks tgs:Nat} {gs:G} {a:Option Nat} {n cap:Nat} {xs ys:List Value} {ky tgy:Nat} {gy:G} {b m c ty:Nat} {cs:List Value} {s1 b1:Nat} {z1:List Value} {E':Value->Env} {L':Option Nat->Nat->List Atom} {td:TD} {z:List Value} (is iy tag:Nat) (hys:xs++cs=ys) (hJ:∀a' cap',J X (.reg ops C t::K) (E' (slv a' (n+m) cap')) (L' a' cap')) (hX:IsCx X Tryz.prog rs N F Post:=by assumption)
  (ho:n7 ops.toList i=some o:=by exact rfl) (hg:gd ops.toList E o=some g:=by exact rfl) (hgo:g.on=true:=by exact rfl) (hop:o.op= .call ⟨.builtin .append,#[x,y],#[st,st]⟩:=by exact rfl)
  (hx:ev E x=some ⟨ks,slv a n cap,tgs,gs⟩:=by exact rfl) (hvx:gs.on=true:=by exact rfl) (hy:ev E y=some ⟨ky, .slice (some ⟨b,0,none⟩) m c,tgy,gy⟩:=by exact rfl) (hvy:gy.on=true:=by exact rfl)
  (hLs:n7 L is=some (c9 e size a n cap xs):=by exact rfl) (hLy:n7 L iy=some (.pt b ty cs):=by exact rfl) (hst:tab.get st=some ⟨.slice e size,s1,z1,b1⟩:=by exact rfl) (he:tab.get e=some ⟨td,size,z,by_⟩:=by exact rfl) (hz:Nat.beq z.length size=true:=by exact rfl)
  (hsz:Nat.blt 0 size=true:=by exact rfl) (hcs:cs.length=m*size:=by exact rfl) (h1:cs.all (·.oneCell')=true:=by exact rfl) (h63:n+m<=maxLen:=by first | decide | (simp only[maxLen];omega)) (hbytes:(n+m)*by_<=140737488355328:=by first | omega | decide)
  (hd:∀v,C6 N o.dst v tag .tt E=some (E' v):=by exactλ_=>rfl) (hL:∀a' cap',A8 L is (c9 e size a' (n+m) cap' ys)=some (L' a' cap'):=by exactλ_ _=>rfl) (hs:∀a' cap',Conj (q9 lt C (L' a' cap')):=by intro _ _;first | exact trivial | (repeat' (first | exact trivial | refine⟨rfl,?_⟩))):J X (.reg ops C (.alt lt i t .non)::K) E L:=
 J.append hX tk is iy tag ho hg hgo hop hx hvx hy hvy hLs hLy hst he hz hsz hcs h1 h63 hbytes hd λa' cap'=>⟨L' a' cap',by rw[hys];exact hL a' cap',hs a' cap',hJ a' cap'⟩
theorem J.cO {g:Nat} {ys:List Value} {L':List Atom} (e size n cap:Nat) (xs:List Value) (i:Nat) (h:J X K E L') (ok:x5 L [i]=true:=by exact rfl) (hp:s6 L [i]=[.pt g e ys]:=by exact rfl) (h0:xs.length=n*size:=by exact rfl) (h2:n<=cap:=by decide) (h3:cap<=maxLen:=by decide) (h4:ys.length=cap*size:=by exact rfl) (h5:ys.take (n*size)=xs:=by exact rfl) (hL:K4 L [i] [c9 e size (some g) n cap xs]=some L':=by exact rfl):J X K E L:=J.closeOwn i ok hp h0 h2 h3 h4 h5 hL h
theorem J.sN {ops:Array Oper} {C:Cl} {lt:Bool} {i:Nat} {t:PT} {o:Oper} {g:G} {ty0:TypeId} {x y:Operand} {k1 k2 t1 t2 b off ty:Nat} {g1 g2:G} {v:Value} {cs:List Value} {ti:TI} {E':Value->Env} {L2:List Atom} (vs:List Value) (is:Nat) (cs':List Value) (hlt:off+vs.length<=cs.length) (hcs:cs.take off++vs++cs.drop (off+vs.length)=cs') (hJ:J X (.reg ops C t::K) (E' undef) L2) (hX:IsCx X Tryz.prog rs N F Post:=by assumption)
  (ho:n7 ops.toList i=some o:=by exact rfl) (hg:gd ops.toList E o=some g:=by exact rfl) (hgo:g.on=true:=by exact rfl) (hop:o.op= .store ty0 x y:=by exact rfl) (hx:ev E x=some ⟨k1, .pointer (some ⟨b,off,none⟩),t1,g1⟩:=by exact rfl) (v1:g1.on=true:=by exact rfl) (hy:ev E y=some ⟨k2,v,t2,g2⟩:=by exact rfl) (v2:g2.on=true:=by exact rfl)
  (hti:tab.get ty0=some ti:=by exact rfl) (hc:v.cells.toList=vs:=by exact rfl) (hsz:ti.size=vs.length:=by exact rfl) (h1:vs.all (·.oneCell')=true:=by exact rfl) (hL:n7 L is=some (.pt b ty cs):=by exact rfl) (hL2:A8 L is (.pt b ty cs')=some L2:=by exact rfl)
  (hd:∀v,C6 N o.dst v 0 .tt E=some (E' v):=by exactλ_=>rfl) (hs:Conj (q9 lt C L2):=by first | exact trivial | (repeat' (first | exact trivial | refine⟨rfl,?_⟩))):J X (.reg ops C (.alt lt i t .non)::K) E L:=J.storeN hX tk is ho hg hgo hop hx v1 hy v2 hti hc hsz h1 hL hlt cs' hcs hL2 hd ⟨hs,hJ⟩
theorem stq {p:Prop} (h:p:=by first | exact trivial | (repeat' (first | exact trivial | refine⟨rfl,?_⟩))):p:=h
theorem J.n {α:Type} {I:α->Prop} {Ei:α->Env} {Li:α->List Atom} {μ:α->Nat} {m:Nat} (x:α) (h1:I x) (h2:μ x<m) (is:List Nat) (ok:x5 L is=true:=by exact rfl) (hL:s6 L is=Li x:=by exact rfl) (h3:autoParam (Conj (a4w E (Ei x))) aq_._auto_1):
  J X (.stop (λa w=>Ext X.w0 w/\∃x',I x'/\μ x'<m/\EnvOK X.n (Ei x') a/\Sep (Li x') (hl w))::K) E L:=J.nextS x h1 h2 is h3 ok hL
theorem J.l {c:Code} {α:Type} (I:α->Prop) (Ei:α->Env) (is:List Nat) (As:α->List Atom) (μ:α->Nat) (x0:α) {Li:α->List Atom} (h0:I x0)
  (round:∀x,I x->J X (.code c:: .stop (λa w=>Ext X.w0 w/\∃x',I x'/\μ x'<μ x/\EnvOK X.n (Ei x') a/\Sep (Li x') (hl w))::K) (Ei x) (Li x)) (ok:x5 L is=true:=by exact rfl) (hA:s6 L is=As x0:=by exact rfl) (hLi:∀x,K4 L is (As x)=some (Li x):=by exactλ_=>rfl) (hE:autoParam (Conj (a4w E (Ei x0))) aq_._auto_1):J X (.code (.loop c)::K) E L:=J.loopN I Ei is As μ x0 h0 hE ok hA hLi round
end
def O2 (q:Nat) (l:List A3):Atom:=exA λmr:Nat=>[.pt q 181 [.map (some mr)],B4 mr a3v (D1 l)]
theorem b4t:Tryz.prog.underlying 179=some (.map 33 4):=by kernel_rfl
theorem a6X:FP 73 [] [] (λv As=>∃q,v=pp q/\As=[O2 q []]):=by
 refine FE [] Tryz.func73 λX F hX=>?_;refine J.q λbs=>?_;refine J.turn1 [1] rfl (As:=[B4 (bs 0) a3v (D1 [])]) (λh s=>?_) rfl ?_
 ·refine⟨λ_=>0,λi A hA=>?_⟩;cases i with
  | zero=>simp at hA;subst hA;exact⟨#[],0,res_some.2 ⟨rfl,s.get (i:=0) rfl⟩,rfl,by simp,by simp⟩
  | succ k=>simp at hA
 refine J.cl (λmr:Nat=>[.pt (bs 1) 181 [.map (some mr)],B4 mr a3v (D1 [])]) (bs 0) [2,1] ?_;refine J.qr [2] λ_=>?_;exact⟨bs 1,rfl,rfl⟩
theorem b5X (q:Nat) (l:List A3) (x y z:Int):FP 243 [pp q, .agg #[iI x,iI y,iI z]] [O2 q l]
  (Ps (.tuple #[.bool (decide ((x,y,z)∈l)), .bool (decide ((x,y,z)∈l))]) [O2 q l]):=by
 refine FE [2,0] Tryz.func243 λX F hX=>?_;refine J.o (α:=Nat) 1 λmr=>?_;refine J.qF λ_=>?_;refine J.pq (.of [0,4,8,13,17,21,24,28,32,36,40]) [10] [1,2,3] λ_ _=>?_;refine J.vT (.tuple #[.bool (decide ((x,y,z)∈l)), .bool (decide ((x,y,z)∈l))]) rfl rfl (λ_ a w he hC=>?_) ?_
 ·refine(l8 (key:=(x,y,z)) J9 b4t (z:= .bool false) (λw=>by kernel_rfl) rfl rfl rfl rfl he rfl rfl (hC rfl _ (g7 (i:=2) rfl))).trans ?_;simp only[(a2t l _).1,(a2t l _).2]
 refine J.cl (λmr:Nat=>[.pt q 181 [.map (some mr)],B4 mr a3v (D1 l)]) mr [1,2] ?_;exact J.qx [1]
theorem b7z (q:Nat) (l:List A3) (x y z:Int):FP 110 [pp q, .agg #[iI x,iI y,iI z], .bool true] [O2 q l]
  (Ps (.tuple #[]) [O2 q (b1u l (x,y,z))]):=by
 refine FE [2,0,0] Tryz.func110 λX F hX=>?_;refine J.o (α:=Nat) 1 λmr=>?_;refine J.qT λ_=>?_;refine J.pq (.of [0,4,8,13,17,20,27]) [6] [1,2,3] λ_ _=>?_;refine J.mapUpdate hX J9 b4t (x,y,z) 2 rfl rfl rfl rfl rfl rfl rfl rfl rfl rfl rfl rfl (λ_=>rfl) (by rw[a8V];rfl) ⟨trivial,?_⟩;refine J.cl (λmr:Nat=>[.pt q 181 [.map (some mr)],B4 mr a3v (D1 (b1u l (x,y,z)))]) mr [1,2] ?_;refine J.q λ_=>?_;refine J.f [1] ?_;exact⟨rfl,rfl⟩
theorem b2e (q:Nat) (l:List A3) (x y z:Int):FP 224 [pp q, .agg #[iI x,iI y,iI z]] [O2 q l]
  (Ps (.bool (decide ((x,y,z)∈l))) [O2 q (l.erase (x,y,z))]):=by
 refine FE [2,0] Tryz.func224 λX F hX=>?_;refine J.qp (b5X q l x y z) [1] λ_=>?_;refine J.qd (λ_ h=>?_) λ_ h=>?_
 ·refine J.o (α:=Nat) 1 λmr=>?_;refine J.pq (.of [0,4,8,13,17,22]) [] [1,2] λ_ _=>?_;refine J.delete hX J9 b4t (x,y,z) 3 rfl rfl rfl rfl rfl rfl rfl rfl rfl rfl (λ_=>rfl) (by rw[a8Y];rfl) ⟨⟨rfl,rfl,trivial⟩,?_⟩;refine J.cl (λmr:Nat=>[.pt q 181 [.map (some mr)],B4 mr a3v (D1 (l.erase (x,y,z)))]) mr [1,3] ?_;exact J.qx [1]
 ·refine J.qr [1] λ_=>?_;simp only[decide_eq_false_iff_not]at h;exact⟨rfl,by rw[List.erase_of_not_mem h];rfl⟩
end Go.Proofs.YtpohajhbfllbbaaGreat
