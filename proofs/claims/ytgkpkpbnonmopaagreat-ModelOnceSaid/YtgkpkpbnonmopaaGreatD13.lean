/- Helpers. No condition. -/
import Derived.Test.YtgkpkpbnonmopaaGreatD05
import Derived.Test.YtgkpkpbnonmopaaGreatD06
import Derived.Test.YtgkpkpbnonmopaaGreatD08
import Derived.Test.YtgkpkpbnonmopaaGreatD09
import Derived.Test.YtgkpkpbnonmopaaGreatD11
import Derived.Test.YtgkpkpbnonmopaaGreatD12
set_option maxRecDepth 20000
set_option linter.all false
namespace Go.Proofs.YtgkpkpbnonmopaaGreat
open Go Go.RowKit
theorem a2F (z:Array Value) (n:Nat):(madeCells z (n*z.size)).toList=(List.replicate n z.toList).flatten:=by
 have e0:∀k,(madeCells z k).toList=(List.range k).map λi=>z[i % z.size]!:=λk=>by simp[madeCells]
 induction n with
 | zero=>rw[e0];simp
 | succ n ih=>
  rw[e0]at ih ⊢;rw[Nat.succ_mul,List.range_add,List.map_append,ih,List.replicate_succ',List.flatten_append,List.flatten_singleton];congr 1;apply List.ext_getElem?;intro i;rw[List.map_map,List.getElem?_map]
  by_cases h:i<z.size
  ·rw[List.getElem?_range h,Option.map_some];simp only[Function.comp,Nat.mul_comm n,Nat.mul_add_mod,Nat.mod_eq_of_lt h];rw[Array.getElem?_toList,Array.getElem?_eq_getElem h,getElem!_pos z i h]
  ·rw[List.getElem?_eq_none (by rw[List.length_range];omega),Option.map_none,List.getElem?_eq_none (by rw[Array.length_toList];omega)]
section
variable {X : Cx} {P : Program} {K : List KI} {E : Env} {L : List Atom} {N : Nat} {F : HP} {Post : Value → List Atom → Prop} {rs : List ResultVar}
theorem J.makeMany {T:Tab} (hX:IsCx X P rs N F Post) (hT:TabOK P T) {ops:Array Oper} {C:Cl} {lt:Bool} {i:Nat} {t:PT} {o:Oper} {g:G} {st e by_ size:Nat} {x y:Operand} {k1 k2 t1 t2 n s1 b1:Nat} {kl kc:IntKind} {g1 g2:G} {z1 z:List Value} {td:TD} {E':Value->Env} {L2:Nat->List Atom} (tag:Nat)
  (ho:m6 ops.toList i=some o) (hg:gd ops.toList E o=some g) (hgo:g.on=true) (hop:o.op= .makeSlice st x y) (hx:ev E x=some ⟨k1, .int kl n,t1,g1⟩) (v1:g1.on=true) (hy:ev E y=some ⟨k2, .int kc n,t2,g2⟩) (v2:g2.on=true)
  (hst:T.get st=some ⟨.slice e size,s1,z1,b1⟩) (he:T.get e=some ⟨td,size,z,by_⟩) (hzs:Nat.beq z.length size=true) (h63:n<=maxLen) (hbytes:by_*n<=281474976710656)
  (hL2:∀b,V5 a9l L (.pt b e (List.replicate n z).flatten)=some (L2 b,tag)) (hd:∀v,y9 N o.dst v tag .tt E=some (E' v)) (hJ:∀b,Conj (p4 lt C (L2 b))/\J X (.reg ops C t::K) (E' (.slice (some ⟨b,0,none⟩) n n)) (L2 b)):J X (.reg ops C (.alt lt i t .non)::K) E L:=by
 refine J.op hX (S:=λv' L'=>∃b,v'= .slice (some ⟨b,0,none⟩) n n/\L'=L++[.pt b e (List.replicate n z).flatten]) tag ho hg hgo (λa0 w hen hs=>?_) hd (λv L' ⟨b,e1,e2⟩=>by subst e1;subst e2;rw[<- J2 (hL2 b)];exact hJ b);have ex:=i7 hen hx;have ey:=i7 hen hy;simp only[Slot.val,v1,v2]at ex ey;obtain⟨d,f,zv,ok⟩:=d8 (hT.get hst);obtain⟨fe,rfl,g1',g2'⟩:=ok.slice rfl;obtain⟨d',f',zv',ok'⟩:=d8 (hT.get he);have hf:fe=f':=by have:=g1'.symm.trans ok'.hf;injection this
 subst hf;have hb2:(fe.bytes:Int)*(n:Int)<=281474976710656:=by
  rw[<- ok'.hbytes];have h:((by_*n:Nat):Int)<=281474976710656:=by omega
  rwa [Int.natCast_mul]at h
 have hr:=run_make (P:=P) w st e fe zv' ok.hd ok'.hf ok'.hz kl kc n n (by omega) (Int.le_refl _) hb2 (by simp[maxLen]at h63;omega);have hz:zv'.cells.toList=z:=ok'.hzero.symm;have hs1:fe.size=size:=ok'.hsize.symm;have hzl:zv'.cells.size=size:=by rw[<- Array.length_toList,hz];exact Nat.eq_of_beq_eq_true hzs
 simp only[Int.toNat_natCast,hs1]at hr;rw[<- hzl]at hr;refine⟨_,_, .value (.slice (some ⟨w.heap.size,0,none⟩) n n),w.alloc (.cells (madeCells zv'.cells (n*zv'.cells.size)) e),⟨w.heap.size,rfl,rfl⟩,?_, .inl rfl,?_,⟨rfl,rfl,rfl,by show w.heap.size<=(w.heap.push _).size;simp⟩⟩
 ·simp only[execOp,hop,ex,ey,hr,Sem.run_bind,Result.andThen_ok,Sem.run_pure]
 ·have e1:Obj.cells (madeCells zv'.cells (n*zv'.cells.size)) e (0,0)=Obj.cells (List.replicate n z).flatten.toArray e (0,0):=by
   congr 1;apply Array.toList_inj.1;rw[a2F,hz]
  show Sep _ (hl {w with heap:=w.heap.push (Obj.cells (madeCells zv'.cells (n*zv'.cells.size)) e (0,0))});rw[e1,a0v];exact hs.snoc (a0w w) (λh' hh=>hh)
end
structure Sb where
 wear:Int
 bad:Int
 used:Bool
 held:Bool
def Sb.zero:Sb:=⟨0,0,false,false⟩
def sbL (s:Sb):List Value:=[iI s.wear,iI s.bad, .bool s.used, .bool s.held]
structure Tl where
 d:Nat
 b:Nat
 p:Nat
 l:List Sb
 dead:Int
namespace Tl
def new (d b p:Nat):Tl:=⟨d,b,p,List.replicate b Sb.zero,0⟩
def has (t:Tl) (k:Int):Bool:=decide (0<=k)&&decide (k<t.b)
def at_ (t:Tl) (k:Int):Sb:=t.l.getD k.toNat Sb.zero
def adr (t:Tl) (g:Nat) (k:Int):Option Addr:=if t.has k=true then some ⟨g,k.toNat*4,none⟩else none
def set (t:Tl) (k:Int) (s:Sb):Tl:=if t.has k=true then⟨t.d,t.b,t.p,t.l.set k.toNat s,t.dead⟩else t
def wear (t:Tl) (k:Int):Int:=if t.has k=true then(t.at_ k).wear else 0
def hasDie (t:Tl) (d:Int):Bool:=decide (0<=d)&&decide (d<t.d)
end Tl
def TlP (q:Nat) (t:Tl) (g:Nat):List Atom:=[.pt q 197 [iI t.d,iI t.b,iI t.p, .slice (some ⟨g,0,none⟩) t.b t.b,iI t.dead], .pt g 207 (t.l.flatMap sbL)]
def TlA (q:Nat) (t:Tl):Atom:=exA λg:Nat=>TlP q t g
theorem C7 {α:Type} (f:α->List Value) (w:Nat) (hw:∀x,(f x).length=w):∀{l:List α} {k:Nat} {x:α},l[k]? =some x->∀j,j<w->(l.flatMap f)[k*w+j]? =(f x)[j]?
 | [],k,x,h,j,hj=>by simp at h
 | y::l,0,x,h,j,hj=>by
  simp only[List.getElem?_cons_zero,Option.some.injEq]at h;subst h;rw[Nat.zero_mul,Nat.zero_add,List.flatMap_cons,List.getElem?_append_left (by rw[hw];exact hj)]
 | y::l,k+1,x,h,j,hj=>by
  rw[List.flatMap_cons,List.getElem?_append_right (by rw[hw,Nat.succ_mul];omega),hw,show(k+1)*w+j-w=k*w+j by rw[Nat.succ_mul];omega];exact C7 f w hw (by simpa using h) j hj
theorem l8 {α:Type} (f:α->List Value) (w:Nat) (hw:∀x,(f x).length=w) (j:Nat) (v:Value):∀{l:List α} {k:Nat} {x y:α},l[k]? =some x->j<w->(f x).set j v=f y->(l.flatMap f).set (k*w+j) v=(l.set k y).flatMap f
 | [],k,x,y,h,hj,e=>by simp at h
 | z::l,0,x,y,h,hj,e=>by
  simp only[List.getElem?_cons_zero,Option.some.injEq]at h;subst h;rw[Nat.zero_mul,Nat.zero_add,List.flatMap_cons,List.set_append_left _ _ (by rw[hw];exact hj),e];rfl
 | z::l,k+1,x,y,h,hj,e=>by
  rw[List.flatMap_cons,List.set_append_right _ _ (by rw[hw,Nat.succ_mul];omega),hw,show(k+1)*w+j-w=k*w+j by rw[Nat.succ_mul];omega,l8 f w hw j v (by simpa using h) hj e];rfl
theorem a4G (s:Sb):(sbL s).length=4:=rfl
namespace Tl
theorem get_at {t:Tl} (hl:t.l.length=t.b) {k:Int} (h:t.has k=true):t.l[k.toNat]? =some (t.at_ k):=by
 simp only[has,Bool.and_eq_true,decide_eq_true_eq]at h;rw[at_,List.getD_eq_getElem?_getD,List.getElem?_eq_getElem (by omega),Option.getD_some]
theorem cell_at {t:Tl} (hl:t.l.length=t.b) {k:Int} (h:t.has k=true) (j:Nat) (hj:j<4):(t.l.flatMap sbL)[k.toNat*4+j]? =(sbL (t.at_ k))[j]?:=C7 sbL 4 a4G (get_at hl h) j hj
theorem set_at {t:Tl} (hl:t.l.length=t.b) {k:Int} (h:t.has k=true) (j:Nat) (hj:j<4) (v:Value) (s:Sb) (e:(sbL (t.at_ k)).set j v=sbL s):(t.l.flatMap sbL).set (k.toNat*4+j) v=((t.set k s).l.flatMap sbL):=by
 rw[set,if_pos h];exact l8 sbL 4 a4G j v (get_at hl h) hj e
end Tl
namespace Tl
theorem len_l (t:Tl):(t.l.flatMap sbL).length=t.l.length*4:=by
 induction t.l with
 | nil=>rfl
 | cons x l ih=>rw[List.flatMap_cons,List.length_append,ih,a4G,List.length_cons];omega
theorem set_d (t:Tl) (k:Int) (s:Sb):(t.set k s).d=t.d:=by unfold set;split<;>rfl
theorem set_b (t:Tl) (k:Int) (s:Sb):(t.set k s).b=t.b:=by unfold set;split<;>rfl
theorem set_p (t:Tl) (k:Int) (s:Sb):(t.set k s).p=t.p:=by unfold set;split<;>rfl
theorem set_dead (t:Tl) (k:Int) (s:Sb):(t.set k s).dead=t.dead:=by unfold set;split<;>rfl
def wore (t:Tl) (k n:Int):Tl:=t.set k {t.at_ k with wear:=if n>(t.at_ k).wear then n else(t.at_ k).wear}
def bad (t:Tl) (d k:Int):Tl:=if t.hasDie d=true then t.set k {t.at_ k with bad:=L.with_ (t.at_ k).bad d}else t
def andN (a b:Int):Int:=IntKind.i64.wrap ((BitVec.ofInt IntKind.i64.bits a&&& ~~~BitVec.ofInt IntKind.i64.bits b).toNat:Int)
def alive (t:Tl):Int:=andN (L.all t.d) t.dead
def mask (t:Tl) (k:Int):Int:=if t.has k=true then andN t.alive (t.at_ k).bad else 0
def usable (t:Tl) (k:Int):Bool:=decide (G.slots (t.mask k)>0)
def blank (t:Tl) (k:Int):Bool:=t.has k&& !(t.at_ k).used
def held (t:Tl) (k:Int):Bool:=t.has k&&(t.at_ k).held
end Tl
theorem a7g (d b p:Nat) (hg:m7 d b p=true):FP 117 [.agg #[iI d,iI b,iI p]] [] (λv As=>∃q,v=pp q/\As=[TlA q (Tl.new d b p)]):=by
 have hbd:(3<=d/\d<=6)/\(8<=b/\b<=16)/\(2<=p/\p<=8):=by simp[m7]at hg;omega
 refine FE [0] Tryz.func117 λX F hX=>?_;refine J.qp (a0B d b p) [] λ_=>?_;rw[hg];refine J.qF λ_=>?_;refine J.pq (.of [1,4,9,14,16,23,24]) [4,5,6] [1] λ_ _=>?_;refine J.makeMany hX tk 3 rfl rfl rfl rfl rfl rfl rfl rfl rfl rfl rfl ?_ ?_ (λ_=>rfl) (λ_=>rfl) λdd=>⟨⟨rfl,trivial⟩,?_⟩
 ·simp only[maxLen];omega
 ·omega
 refine J.q λnn=>?_;rw[show(List.replicate b [Value.int .i64 0,Value.int .i64 0,Value.bool false,Value.bool false]).flatten=(Tl.new d b p).l.flatMap sbL from by rw[Tl.new,List.flatMap_def,List.map_replicate];rfl];refine J.cl (λg:Nat=>TlP (nn 0) (Tl.new d b p) g) dd [3,2] ?_;refine J.qr [3] λ_=>?_;exact⟨nn 0,rfl,rfl⟩
theorem b2T:FP 117 [.agg #[iI 0,iI 0,iI 0]] [] (Ps (.pointer none) []):=by
 refine FE [0] Tryz.func117 λX F hX=>?_;refine J.qp (a0B 0 0 0) [] λ_=>?_;rw[show m7 0 0 0=false from by decide];refine J.qT λ_=>?_;exact J.qx []
theorem a1j (q:Nat) (t:Tl) (hb:t.b<=1000) (g:Nat) (k:Int):FP 124 [pp q,iI k] (TlP q t g) (Ps (.pointer (t.adr g k)) (TlP q t g)):=by
 refine FE [2,0] Tryz.func124 λX F hX=>?_;refine J.run hX tk 400 (λb9=>rfl) (λb9=>?_) (λb9=>?_)
 ·(repeat' (first | exact Conj.nil | refine Conj.cons ?_ ?_ | exact rfl | exact hq | (rw[hq];rfl) | (rw[(Bool.not_eq_true' _).mp hq]) | intro hq | omega | (simp;done) | (simp_all;done)))
 refine J.qd (λ_ h1=>?_) λ_ h1=>?_
 ·have hh:t.has k=false:=by simp[Tl.has]at h1 ⊢;omega
  refine J.qr [1,2] λ_=>?_;exact⟨by rw[Tl.adr,hh];rfl,rfl⟩
 ·have hh:t.has k=true:=by simp[Tl.has]at h1 ⊢;omega
  have hh2:=hh;simp only[Tl.has,Bool.and_eq_true,decide_eq_true_eq]at hh2;refine J.qr [1,2] λ_=>?_;exact⟨by rw[Tl.adr,hh,if_pos rfl];simp,rfl⟩
theorem a0j (q:Nat) (t:Tl) (hb:t.b<=1000) (hl:t.l.length=t.b) (k:Int):FP 191 [pp q,iI k] [TlA q t] (Ps (iI (t.wear k)) [TlA q t]):=by
 refine FE [2,0] Tryz.func191 λX F hX=>?_;refine J.o (α:=Nat) 1 λg=>?_;refine J.qp (a1j q t hb g k) [1,2] λ_=>?_;cases hh:t.has k with
 | false=>
  rw[Tl.adr,hh,if_neg (by simp)];refine J.qF λ_=>?_;refine J.q λ_=>?_;refine J.cl (λg:Nat=>TlP q t g) g [1,2] ?_;refine J.qr [1] λ_=>?_;exact⟨by rw[Tl.wear,hh];rfl,rfl⟩
 | true=>
  rw[Tl.adr,hh,if_pos rfl];refine J.qT λ_=>?_;refine J.q λ_=>?_;refine J.v (iI (t.at_ k).wear) rfl rfl (λhg a w he hs=>?_) ?_
  ·exact f9 tk rfl rfl he rfl rfl rfl (hs.get (i:=2) rfl) (t.cell_at hl hh 0 (by omega))
  refine J.cl (λg:Nat=>TlP q t g) g [1,2] ?_;refine J.qr [1] λ_=>?_;exact⟨by rw[Tl.wear,hh];rfl,rfl⟩
theorem a4B (q:Nat) (t:Tl) (hb:t.b<=1000) (hl:t.l.length=t.b) (k n:Int):FP 118 [pp q,iI k,iI n] [TlA q t] (Ps (.tuple #[]) [TlA q (t.wore k n)]):=by
 refine FE [2,0,0] Tryz.func118 λX F hX=>?_;refine J.o (α:=Nat) 1 λg=>?_;refine J.qp (a1j q t hb g k) [1,2] λ_=>?_;cases hh:t.has k with
 | false=>
  rw[Tl.adr,hh,if_neg (by simp)];refine J.qF λ_=>?_;refine J.q λ_=>?_;refine J.cl (λg:Nat=>TlP q t g) g [1,2] ?_;refine J.q λ_=>?_;refine J.f [1] ?_;exact⟨rfl,by rw[Tl.wore,Tl.set,hh];rfl⟩
 | true=>
  rw[Tl.adr,hh,if_pos rfl];refine J.qT λ_=>?_;refine J.q λ_=>?_;refine J.v (iI (t.at_ k).wear) rfl rfl (λhg a w he hs=>?_) ?_
  ·exact f9 tk rfl rfl he rfl rfl rfl (hs.get (i:=2) rfl) (t.cell_at hl hh 0 (by omega))
  refine J.q λ_=>?_;refine J.s1 2 ((t.wore k n).l.flatMap sbL) ?_ ?_ ?_
  ·rw[t.len_l,hl];simp only[Tl.has,Bool.and_eq_true,decide_eq_true_eq]at hh;omega
  ·exact t.set_at hl hh 0 (by omega) _ _ rfl
  refine J.close (f:=λg:Nat=>TlP q (t.wore k n) g) g [1,2] rfl (by simp only[TlP,Tl.wore,Tl.set_d,Tl.set_b,Tl.set_p,Tl.set_dead];rfl) rfl ?_;refine J.q λ_=>?_;refine J.f [1] ?_;exact⟨rfl,rfl⟩
theorem b0p (q:Nat) (t:Tl) (g:Nat) (k:Int):FP 146 [pp q,iI k] (TlP q t g) (Ps (.bool (t.hasDie k)) (TlP q t g)):=by
 refine FE [2,0] Tryz.func146 λX F hX=>?_;refine J.run hX tk 400 (λb30=>rfl) (λb30=>?_) (λb30=>?_)
 ·(repeat' (first | exact Conj.nil | refine Conj.cons ?_ ?_ | exact rfl | exact hq | (rw[hq];rfl) | (rw[(Bool.not_eq_true' _).mp hq]) | intro hq | omega | (simp;done) | (simp_all;done)))
 refine J.qr [1,2] λ_=>?_;exact⟨by simp[Tl.hasDie],rfl⟩
theorem a7h (q:Nat) (t:Tl) (hb:t.b<=1000) (hl:t.l.length=t.b) (d k:Int):FP 185 [pp q,iI d,iI k] [TlA q t] (Ps (.tuple #[]) [TlA q (t.bad d k)]):=by
 refine FE [2,0,0] Tryz.func185 λX F hX=>?_;refine J.o (α:=Nat) 1 λg=>?_;refine J.qp (a1j q t hb g k) [1,2] λ_=>?_;cases hh:t.has k with
 | false=>
  rw[Tl.adr,hh,if_neg (by simp)];refine J.q λ_=>?_;refine J.v (.bool false) rfl rfl (λhg a w he hs=>absurd hg (by simp[G.on])) ?_;refine J.qF λ_=>?_;refine J.q λ_=>?_;refine J.cl (λg:Nat=>TlP q t g) g [1,2] ?_;refine J.q λ_=>?_;refine J.f [1] ?_;exact⟨rfl,by rw[Tl.bad,Tl.set,hh];simp;rfl⟩
 | true=>
  rw[Tl.adr,hh,if_pos rfl];refine J.qp (b0p q t g d) [1,2] λ_=>?_;refine J.qd (λ_ h2=>?_) λ_ h2=>?_
  ·simp only[Bool.not_false,Bool.true_and]at h2;refine J.q λ_=>?_;refine J.v (iI (t.at_ k).bad) rfl rfl (λhg a w he hs=>?_) ?_
   ·exact f9 tk rfl rfl he rfl rfl rfl (hs.get (i:=2) rfl) (t.cell_at hl hh 1 (by omega))
   refine J.qp (a5d (t.at_ k).bad d) [] λ_=>?_;refine J.q λ_=>?_;have he:t.bad d k=t.set k {t.at_ k with bad:=L.with_ (t.at_ k).bad d}:=by rw[Tl.bad,h2];rfl
   refine J.s1 2 ((t.bad d k).l.flatMap sbL) ?_ ?_ ?_
   ·rw[t.len_l,hl];simp only[Tl.has,Bool.and_eq_true,decide_eq_true_eq]at hh;omega
   ·rw[he];exact t.set_at hl hh 1 (by omega) _ _ rfl
   refine J.close (f:=λg:Nat=>TlP q (t.bad d k) g) g [1,2] rfl (by simp only[he,TlP,Tl.set_d,Tl.set_b,Tl.set_p,Tl.set_dead];rfl) rfl ?_;refine J.q λ_=>?_;refine J.f [1] ?_;exact⟨rfl,rfl⟩
  ·simp only[Bool.not_false,Bool.true_and]at h2;refine J.cl (λg:Nat=>TlP q t g) g [1,2] ?_;refine J.q λ_=>?_;refine J.f [1] ?_;exact⟨rfl,by rw[Tl.bad,h2];rfl⟩
theorem a8S (q:Nat) (t:Tl) (g:Nat):FP 173 [pp q] (TlP q t g) (Ps (iI t.alive) (TlP q t g)):=by
 refine FE [2] Tryz.func173 λX F hX=>?_;refine J.qF λ_=>?_;refine J.p (.of [0,4,8,12,17,24,28,32,37,22,40,44]) [11] [1,2] λ_=>?_;refine J.qp (a8x t.d) [] λ_=>?_;exact J.qx [1,2]
theorem a2c (q:Nat) (t:Tl) (hb:t.b<=1000) (hl:t.l.length=t.b) (k:Int):FP 182 [pp q,iI k] [TlA q t] (Ps (.bool (t.blank k)) [TlA q t]):=by
 refine FE [2,0] Tryz.func182 λX F hX=>?_;refine J.o (α:=Nat) 1 λg=>?_;refine J.qp (a1j q t hb g k) [1,2] λ_=>?_;cases hh:t.has k with
 | false=>
  rw[Tl.adr,hh,if_neg (by simp)];refine J.q λ_=>?_;refine J.v (pp g) rfl rfl (λhg a w he hs=>absurd hg (by simp[G.on])) ?_;refine J.q λ_=>?_;refine J.v (.bool false) rfl rfl (λhg a w he hs=>absurd hg (by simp[G.on])) ?_;refine J.q λ_=>?_;refine J.cl (λg:Nat=>TlP q t g) g [1,2] ?_;refine J.qr [1] λ_=>?_;exact⟨by rw[Tl.blank,hh];rfl,rfl⟩
 | true=>
  rw[Tl.adr,hh,if_pos rfl];refine J.q λ_=>?_;refine J.v (.bool (t.at_ k).used) rfl rfl (λhg a w he hs=>?_) ?_
  ·exact f9 tk rfl rfl he rfl rfl rfl (hs.get (i:=2) rfl) (t.cell_at hl hh 2 (by omega))
  refine J.q λ_=>?_;refine J.cl (λg:Nat=>TlP q t g) g [1,2] ?_;refine J.qr [1] λ_=>?_;exact⟨by rw[Tl.blank,hh];rfl,rfl⟩
theorem a8b (q:Nat) (t:Tl) (hb:t.b<=1000) (hl:t.l.length=t.b) (k:Int):FP 183 [pp q,iI k] [TlA q t] (Ps (.bool (t.held k)) [TlA q t]):=by
 refine FE [2,0] Tryz.func183 λX F hX=>?_;refine J.o (α:=Nat) 1 λg=>?_;refine J.qp (a1j q t hb g k) [1,2] λ_=>?_;cases hh:t.has k with
 | false=>
  rw[Tl.adr,hh,if_neg (by simp)];refine J.q λ_=>?_;refine J.v (pp g) rfl rfl (λhg a w he hs=>absurd hg (by simp[G.on])) ?_;refine J.q λ_=>?_;refine J.v (.bool false) rfl rfl (λhg a w he hs=>absurd hg (by simp[G.on])) ?_;refine J.q λ_=>?_;refine J.cl (λg:Nat=>TlP q t g) g [1,2] ?_;refine J.qr [1] λ_=>?_;exact⟨by rw[Tl.held,hh];rfl,rfl⟩
 | true=>
  rw[Tl.adr,hh,if_pos rfl];refine J.q λ_=>?_;refine J.v (.bool (t.at_ k).held) rfl rfl (λhg a w he hs=>?_) ?_
  ·exact f9 tk rfl rfl he rfl rfl rfl (hs.get (i:=2) rfl) (t.cell_at hl hh 3 (by omega))
  refine J.q λ_=>?_;refine J.cl (λg:Nat=>TlP q t g) g [1,2] ?_;refine J.qr [1] λ_=>?_;exact⟨by rw[Tl.held,hh];rfl,rfl⟩
theorem b0q (q:Nat) (t:Tl):FP 173 [pp q] [TlA q t] (Ps (iI t.alive) [TlA q t]):=by
 refine FE [2] Tryz.func173 λX F hX=>?_;refine J.o (α:=Nat) 1 λg=>?_;refine J.qF λ_=>?_;refine J.p (.of [0,4,8,12,17,24,28,32,37,22,40,44]) [11] [1,2] λ_=>?_;refine J.qp (a8x t.d) [] λ_=>?_;refine J.q λ_=>?_;refine J.cl (λg:Nat=>TlP q t g) g [1,2] ?_;exact J.qx [1]
theorem a2a (q:Nat) (t:Tl):FP 128 [pp q] [TlA q t] (Ps (.agg #[iI t.d,iI t.b,iI t.p]) [TlA q t]):=by
 refine FE [2] Tryz.func128 λX F hX=>?_;refine J.o (α:=Nat) 1 λg=>?_;refine J.qF λ_=>?_;refine J.q λ_=>?_;refine J.cl (λg:Nat=>TlP q t g) g [1,2] ?_;exact J.qx [1]
theorem K9 (q:Nat) (t:Tl) (hb:t.b<=1000) (hl:t.l.length=t.b) (k:Int):FP 121 [pp q,iI k] [TlA q t] (Ps (iI (t.mask k)) [TlA q t]):=by
 refine FE [2,0] Tryz.func121 λX F hX=>?_;refine J.o (α:=Nat) 1 λg=>?_;refine J.qp (a1j q t hb g k) [1,2] λ_=>?_;cases hh:t.has k with
 | false=>
  rw[Tl.adr,hh,if_neg (by simp)];refine J.qT λ_=>?_;refine J.cl (λg:Nat=>TlP q t g) g [1,2] ?_;refine J.qr [1] λ_=>?_;exact⟨by rw[Tl.mask,hh];rfl,rfl⟩
 | true=>
  rw[Tl.adr,hh,if_pos rfl];refine J.qF λ_=>?_;refine J.pq (.of [0,8,12,16,21,6,24,28]) [6,7] [1,2] λ_ _=>?_;refine J.vT (iI (t.at_ k).bad) rfl rfl (λhg a w he hC=>?_) ?_
  ·exact f9 tk rfl rfl he hg rfl rfl (hC rfl _ (d7 (i:=2) rfl)) (t.cell_at hl hh 1 (by omega))
  refine J.qp (a8S q t g) [1,2] λ_=>?_;refine J.q λ_=>?_;refine J.cl (λg:Nat=>TlP q t g) g [1,2] ?_;refine J.qr [1] λ_=>?_;exact⟨by rw[Tl.mask,hh];rfl,rfl⟩
theorem W9 (q:Nat) (t:Tl) (hb:t.b<=1000) (hl:t.l.length=t.b) (k:Int):FP 181 [pp q,iI k] [TlA q t] (Ps (.bool (t.usable k)) [TlA q t]):=by
 refine FE [2,0] Tryz.func181 λX F hX=>?_;refine J.qp (K9 q t hb hl k) [1] λ_=>?_;refine J.qp (G9 (t.mask k)) [] λ_=>?_;exact J.qx [1]
def j4 (kind:Int->Bool) (open_:Int) (k:Nat):List Int:=((List.range k).filter λi:Nat=>((i:Int) !=open_)&&kind i).map λi:Nat=>(i:Int)
theorem V1 (kind:Int->Bool) (o:Int) (k:Nat):j4 kind o (k+1)=if(((k:Int) !=o)&&kind k)=true then j4 kind o k++[(k:Int)]else j4 kind o k:=by
 unfold j4;rw[List.range_succ,List.filter_append,List.map_append];cases h:(((k:Int) !=o)&&kind k)<;>simp[List.filter_cons,h]
theorem B6 (kind:Int->Bool) (o:Int) (k:Nat):(j4 kind o k).length<=k:=by
 unfold j4;rw[List.length_map];exact Nat.le_trans (List.length_filter_le _ _) (by rw[List.length_range];exact Nat.le_refl _)
theorem a4R (q:Nat) (t:Tl) (hb:t.b<=1000) (o:Int) (c:Nat) (cs:List Value) (kind:Int->Bool) (A:Atom) (hcal:m5 Tryz.prog c=true) (hf:∀x,Fn Tryz.prog c (iI x::cs) [TlA q t,A] (Ps (.bool (kind x)) [TlA q t,A])):FP 179 [pp q,iI o,fnC c cs] [TlA q t,A]
  (λv As=>∃a cc,v=slv a (j4 kind o t.b).length cc/\As=[TlA q t,A,c8 3 1 a (j4 kind o t.b).length cc (d5 (j4 kind o t.b))]):=by
 refine FE [2,0,0] Tryz.func179 λX F hX=>?_;refine J.qp (a2a q t) [1] λ_=>?_;refine J.turn1 [] rfl (As:=[c8 3 1 none 0 0 (d5 [])]) (λh s=>Sep.one ⟨rfl,rfl,rfl⟩) rfl ?_;refine J.q λ_=>?_;refine J.l (α:=(Nat×Option Nat×Nat)) (λz=>z.1<=t.b) (λz=>[si 12 z.1,si 11 t.b,sv 7 (slv z.2.1 (j4 kind o z.1).length z.2.2),si 1 o,⟨2,fnC c cs,0, .tt⟩]) [3] (λz=>[c8 3 1 z.2.1 (j4 kind o z.1).length z.2.2 (d5 (j4 kind o z.1))]) (λz=>t.b-z.1) ((0,none,0)) (Nat.zero_le _) λz hI=>?_;obtain⟨k,a1,c1⟩:=z;dsimp only at hI ⊢;refine J.qd (λ_ h2=>?_) λ_ h2=>?_
 ·simp only[decide_eq_true_eq,Int.ofNat_lt]at h2;have hkl:=B6 kind o k;refine J.q λ_=>?_;cases ho:((k:Int) !=o)with
  | false=>
   refine J.v (.bool false) rfl rfl (λhg a w he hs=>absurd hg (by simp[G.on])) ?_;refine J.qF λ_=>?_;have hs:j4 kind o (k+1)=j4 kind o k:=by rw[V1,if_neg (by rw[ho];simp)]
   rw[<- hs];refine J.q λ_=>?_;refine J.n ((k+1,a1,c1)) (by dsimp only;omega) (by dsimp only;omega) [0,1,2,3]
  | true=>
   refine J.call hX hcal (hf (k:Int)) [1,2] 0 rfl rfl rfl rfl (by(repeat' (first | exact Conj.nil | refine Conj.cons ?_ ?_ | omega | exact hq0 | (simpa using hq0) | (exactλh=>h) | exact rfl | (intro hq;have hq0:=hq;try simp only[Bool.and_eq_true,Bool.or_eq_true,decide_eq_true_eq,Bool.not_eq_true',decide_eq_false_iff_not]at hq) | (simp;done) | (simp;omega) | decide))) rfl rfl (λ_=>rfl) ?_;refine cpq ⟨_,rfl,trivial,?_⟩;refine J.qd (λ_ h3=>?_) λ_ h3=>?_
   ·have hs:j4 kind o (k+1)=j4 kind o k++[(k:Int)]:=by rw[V1,if_pos (by rw[ho];exact h3)]
    refine J.q λ_=>?_;refine J.append hX tk 3 4 0 rfl rfl rfl rfl rfl rfl rfl rfl rfl rfl rfl rfl rfl rfl rfl rfl ?_ ?_ (λ_=>rfl) λa3 c3=>⟨_,(congrArg (λz=>n5 _ 3 (c8 _ _ _ _ _ z)) (H4 _ (k:Int)).symm).trans rfl,trivial,?_⟩
    ·simp only[maxLen];omega
    ·omega
    rw[<- hs,show(j4 kind o k).length+1=(j4 kind o (k+1)).length from by rw[hs];simp];refine J.q λ_=>?_;refine J.n ((k+1,a3,c3)) (by dsimp only;omega) (by dsimp only;omega) [0,1,2,3]
   ·have hs:j4 kind o (k+1)=j4 kind o k:=by rw[V1,if_neg (by rw[ho,h3];simp)]
    rw[<- hs];refine J.q λ_=>?_;refine J.n ((k+1,a1,c1)) (by dsimp only;omega) (by dsimp only;omega) [0,1,2,3]
 ·simp only[decide_eq_false_iff_not,Int.ofNat_lt]at h2;obtain rfl:k=t.b:=by omega
  refine J.qr [1,2,3] λ_=>?_;exact⟨a1,c1,rfl,rfl⟩
def O3 (f:Int->Int->Int):List Int->Int->Int
 | [],m=>m
 | x::l,m=>O3 f l (if f x m<0 then x else m)
theorem b5H (c:Nat) (cs:List Value) (f:Int->Int->Int) (A:Atom) (hcal:m5 Tryz.prog c=true) (hf:∀x y,Fn Tryz.prog c (iI x::iI y::cs) [A] (Ps (iI (f x y)) [A]))
  (a:Option Nat) (cap:Nat) (x:Int) (l:List Int) (hn:l.length<1000000):FP 240 [slv a (x::l).length cap,fnC c cs] [c8 3 1 a (x::l).length cap (d5 (x::l)),A]
  (Ps (iI (O3 f l x)) [c8 3 1 a (x::l).length cap (d5 (x::l)),A]):=by
 refine FE [0,0] Tryz.func240 λX F hX=>?_;cases a with
 | none=>
  refine J.know (λh' s=>(s.get (i:=1) rfl).2.1) λhn0=>?_;simp at hn0
 | some g=>
  refine J.qd (λ_ h0=>?_) λ_ h0=>?_
  ·simp only[decide_eq_true_eq,List.length_cons]at h0;omega
  refine J.q λ_=>?_;refine J.v (iI x) rfl rfl (λhg a w he hs=>?_) ?_
  ·exact j9 tk rfl rfl he rfl rfl rfl (hs.get (i:=1) rfl) rfl
  refine J.q λ_=>?_;refine J.l (α:=(Nat×Int)) (λz=>z.1<=l.length/\O3 f (l.drop z.1) z.2=O3 f l x) (λz=>[⟨6,iI ((z.1+1:Nat):Int),0, .tt⟩,si 5 z.2,sv 0 (slv (some g) (x::l).length cap),⟨1,fnC c cs,0, .tt⟩]) [] (λz=>[]) (λz=>l.length-z.1) ((0,x)) (⟨Nat.zero_le _,rfl⟩) λz hI=>?_;obtain⟨j,m⟩:=z;dsimp only at hI ⊢;refine J.qd (λ_ h1=>?_) λ_ h1=>?_
  ·simp only[decide_eq_true_eq,Int.ofNat_lt,List.length_cons]at h1;have hj:j<l.length:=by omega
   have hk:(x::l)[j+1]? =some (l.getD j 0):=by rw[List.getElem?_cons_succ,List.getD_eq_getElem?_getD,List.getElem?_eq_getElem hj,Option.getD_some]
   have hget:(d5 (x::l))[0+((j+1:Nat):Int).toNat*1]? =some (iI (l.getD j 0)):=by
    rw[show 0+((j+1:Nat):Int).toNat*1=j+1 from by omega,d5,List.getElem?_map,hk];rfl
   have hstep:O3 f (l.drop (j+1)) (if f (l.getD j 0) m<0 then l.getD j 0 else m)=O3 f l x:=by
    rw[<- hI.2,List.drop_eq_getElem_cons hj,O3];have:l.getD j 0=l[j]:=by rw[List.getD_eq_getElem?_getD,List.getElem?_eq_getElem hj,Option.getD_some]
    rw[this]
   refine J.q λ_=>?_;refine J.v (iI (l.getD j 0)) rfl rfl (λhg a w he hs=>?_) ?_
   ·exact j9 tk rfl rfl he rfl rfl rfl (hs.get (i:=1) rfl) hget
   refine J.q λ_=>?_;refine J.call hX hcal (hf (l.getD j 0) m) [2] 0 rfl rfl rfl rfl (by(repeat' (first | exact Conj.nil | refine Conj.cons ?_ ?_ | omega | exact hq0 | (simpa using hq0) | (exactλh=>h) | exact rfl | (intro hq;have hq0:=hq;try simp only[Bool.and_eq_true,Bool.or_eq_true,decide_eq_true_eq,Bool.not_eq_true',decide_eq_false_iff_not]at hq) | (simp;done) | (simp;omega) | decide))) rfl rfl (λ_=>rfl) ?_;refine cpq ⟨_,rfl,trivial,?_⟩;refine J.qd (λ_ h2=>?_) λ_ h2=>?_
   ·simp only[decide_eq_true_eq]at h2;refine J.q λ_=>?_;refine J.v (iI (l.getD j 0)) rfl rfl (λhg a w he hs=>?_) ?_
    ·exact j9 tk rfl rfl he rfl rfl rfl (hs.get (i:=1) rfl) hget
    rw[if_pos h2]at hstep;refine J.q λ_=>?_;refine J.n ((j+1,l.getD j 0)) (⟨by dsimp only;omega,hstep⟩) (by dsimp only;omega) [0,1,2]
   ·simp only[decide_eq_false_iff_not]at h2;rw[if_neg h2]at hstep;refine J.q λ_=>?_;refine J.n ((j+1,m)) (⟨by dsimp only;omega,hstep⟩) (by dsimp only;omega) [0,1,2]
  ·simp only[decide_eq_false_iff_not,Int.ofNat_lt,List.length_cons]at h1;obtain rfl:j=l.length:=by omega
   have:=hI.2;rw[List.drop_length,O3]at this;refine J.qr [1,2] λ_=>?_;exact⟨by rw[this],rfl⟩
def B5 (f:Int->Int->Int) (l:List Int):Int:=match l with
 | []=> -1
 | x::l=>O3 f l x
theorem a8k (c:Nat) (cs:List Value) (f:Int->Int->Int) (A:Atom) (hcal:m5 Tryz.prog c=true) (hf:∀x y,Fn Tryz.prog c (iI x::iI y::cs) [A] (Ps (iI (f x y)) [A]))
  (a:Option Nat) (cap:Nat) (l:List Int) (hn:l.length<1000000):FP 188 [slv a l.length cap,fnC c cs] [c8 3 1 a l.length cap (d5 l),A]
  (Ps (iI (B5 f l)) [c8 3 1 a l.length cap (d5 l),A]):=by
 refine FE [0,0] Tryz.func188 λX F hX=>?_;cases l with
 | nil=>
  refine J.qT λ_=>?_;exact J.qx [1,2]
 | cons x l=>
  refine J.qd (λ_ h0=>?_) λ_ h0=>?_
  ·simp only[beq_iff_eq,List.length_cons]at h0;omega
  refine J.qp (b5H c cs f A hcal hf a cap x l (by simp at hn;omega)) [1,2] λ_=>?_;exact J.qx [1,2]
def PkE (bt q bl r:Nat) (T:Tb):Atom:= .hp (HP.of [.pt bt 119 [pp q], .pt bl 113 [pp r],TbA r T])
theorem PkE_un {bt q bl r:Nat} {T:Tb} {h:Hl}:Sep [PkE bt q bl r T] h↔Sep [.pt bt 119 [pp q], .pt bl 113 [pp r],TbA r T] h:=Sep.hpOf
def v6 (t:Tl) (T:Tb) (k:Int):Bool:=t.usable k&&t.blank k&&(T.count k==0)
def M5 (t:Tl) (T:Tb) (k:Int):Bool:=decide (T.count k>0)&& !t.held k
def y0 (t:Tl) (T:Tb) (k:Int):Bool:=t.usable k&& !t.blank k&& !t.held k&&(T.count k==0)
theorem b3k (q:Nat) (t:Tl) (hb:t.b<=1000) (hl:t.l.length=t.b) (bt bl r:Nat) (T:Tb) (k:Int):FP 239 [iI k,pp bt,pp bl] [TlA q t,PkE bt q bl r T]
  (Ps (.bool (v6 t T k)) [TlA q t,PkE bt q bl r T]):=by
 refine FE [0,3,4] Tryz.func239 λX F hX=>?_;refine J.turn1 [2] rfl (λh s=>PkE_un.1 s) rfl ?_;refine J.qp (W9 q t hb hl k) [1] λ_=>?_;cases h3:t.usable k with
 | false=>
  refine J.q λ_=>?_;refine J.v (.bool false) rfl rfl (λhg a w he hs=>absurd hg (by simp[G.on])) ?_;refine J.q λ_=>?_;refine J.v (iI 0) rfl rfl (λhg a w he hs=>absurd hg (by simp[G.on])) ?_;refine J.q λ_=>?_;refine J.turn1 [2,3,4] rfl (λh s=>PkE_un.2 s) rfl ?_;refine J.qr [1,2] λ_=>?_;exact⟨by simp[v6,h3],rfl⟩
 | true=>
  refine J.qp (a2c q t hb hl k) [1] λ_=>?_;cases h2:t.blank k with
  | false=>
   refine J.q λ_=>?_;refine J.v (iI 0) rfl rfl (λhg a w he hs=>absurd hg (by simp[G.on])) ?_;refine J.q λ_=>?_;refine J.turn1 [2,3,4] rfl (λh s=>PkE_un.2 s) rfl ?_;refine J.qr [1,2] λ_=>?_;exact⟨by simp[v6,h3,h2],rfl⟩
  | true=>
   refine J.qp (A8 r T k) [4] λ_=>?_;refine J.q λ_=>?_;refine J.turn1 [2,3,4] rfl (λh s=>PkE_un.2 s) rfl ?_;refine J.qr [1,2] λ_=>?_;exact⟨by simp[v6,h3,h2],rfl⟩
theorem b0S (q:Nat) (t:Tl) (hb:t.b<=1000) (hl:t.l.length=t.b) (bt bl r:Nat) (T:Tb) (k:Int):FP 180 [iI k,pp bt,pp bl] [TlA q t,PkE bt q bl r T]
  (Ps (.bool (y0 t T k)) [TlA q t,PkE bt q bl r T]):=by
 refine FE [0,3,4] Tryz.func180 λX F hX=>?_;refine J.turn1 [2] rfl (λh s=>PkE_un.1 s) rfl ?_;refine J.qp (W9 q t hb hl k) [1] λ_=>?_;cases h4:t.usable k with
 | false=>
  refine J.q λ_=>?_;refine J.v (.bool false) rfl rfl (λhg a w he hs=>absurd hg (by simp[G.on])) ?_;refine J.q λ_=>?_;refine J.v (.bool false) rfl rfl (λhg a w he hs=>absurd hg (by simp[G.on])) ?_;refine J.q λ_=>?_;refine J.v (iI 0) rfl rfl (λhg a w he hs=>absurd hg (by simp[G.on])) ?_;refine J.q λ_=>?_;refine J.turn1 [2,3,4] rfl (λh s=>PkE_un.2 s) rfl ?_;refine J.qr [1,2] λ_=>?_;exact⟨by simp[y0,h4],rfl⟩
 | true=>
  refine J.qp (a2c q t hb hl k) [1] λ_=>?_;cases h3:t.blank k with
  | true=>
   refine J.q λ_=>?_;refine J.v (.bool false) rfl rfl (λhg a w he hs=>absurd hg (by simp[G.on])) ?_;refine J.q λ_=>?_;refine J.v (iI 0) rfl rfl (λhg a w he hs=>absurd hg (by simp[G.on])) ?_;refine J.q λ_=>?_;refine J.turn1 [2,3,4] rfl (λh s=>PkE_un.2 s) rfl ?_;refine J.qr [1,2] λ_=>?_;exact⟨by simp[y0,h4,h3],rfl⟩
  | false=>
   refine J.qp (a8b q t hb hl k) [1] λ_=>?_;cases h2:t.held k with
   | true=>
    refine J.q λ_=>?_;refine J.v (iI 0) rfl rfl (λhg a w he hs=>absurd hg (by simp[G.on])) ?_;refine J.q λ_=>?_;refine J.turn1 [2,3,4] rfl (λh s=>PkE_un.2 s) rfl ?_;refine J.qr [1,2] λ_=>?_;exact⟨by simp[y0,h4,h3,h2],rfl⟩
   | false=>
    refine J.qp (A8 r T k) [4] λ_=>?_;refine J.q λ_=>?_;refine J.turn1 [2,3,4] rfl (λh s=>PkE_un.2 s) rfl ?_;refine J.qr [1,2] λ_=>?_;exact⟨by simp[y0,h4,h3,h2],rfl⟩
theorem b3j (q:Nat) (t:Tl) (hb:t.b<=1000) (hl:t.l.length=t.b) (bt bl r:Nat) (T:Tb) (k:Int):FP 187 [iI k,pp bl,pp bt] [TlA q t,PkE bt q bl r T]
  (Ps (.bool (M5 t T k)) [TlA q t,PkE bt q bl r T]):=by
 refine FE [0,4,3] Tryz.func187 λX F hX=>?_;refine J.turn1 [2] rfl (λh s=>PkE_un.1 s) rfl ?_;refine J.qp (A8 r T k) [4] λ_=>?_;refine J.q λ_=>?_;cases hc:decide (T.count k>0)with
 | false=>
  refine J.v (.bool false) rfl rfl (λhg a w he hs=>absurd hg (by simp[G.on])) ?_;refine J.q λ_=>?_;refine J.turn1 [2,3,4] rfl (λh s=>PkE_un.2 s) rfl ?_;refine J.qr [1,2] λ_=>?_;exact⟨by simp only[M5,hc];rfl,rfl⟩
 | true=>
  refine J.qp (a8b q t hb hl k) [1] λ_=>?_;refine J.q λ_=>?_;refine J.turn1 [2,3,4] rfl (λh s=>PkE_un.2 s) rfl ?_;refine J.qr [1,2] λ_=>?_;exact⟨by simp only[M5,hc],rfl⟩
def b1P (p:Int->Bool) (l:List Int):Int:=match l.findIdx? p with
 | some k=>k
 | none=> -1
theorem a9B {p:Int->Bool} {l:List Int} {k:Nat} {x:Int} (h:l[k]? =some x) (h0:∀i<k,p (l.getD i 0)=false) (hp:p x=true):l.findIdx? p=some k:=by
 rw[List.findIdx?_eq_some_iff_getElem];obtain⟨h1,h2⟩:=List.getElem?_eq_some_iff.1 h;refine⟨h1,by rw[h2];exact hp,λj hj=>?_⟩;have:=h0 j hj;rw[List.getD_eq_getElem?_getD,List.getElem?_eq_getElem (by omega),Option.getD_some]at this;simp[this]
theorem a9C {p:Int->Bool} {l:List Int} (h0:∀i<l.length,p (l.getD i 0)=false):l.findIdx? p=none:=by
 rw[List.findIdx?_eq_none_iff];intro x hx;obtain⟨i,hi,rfl⟩:=List.mem_iff_getElem.1 hx;have:=h0 i hi
 rwa [List.getD_eq_getElem?_getD,List.getElem?_eq_getElem hi,Option.getD_some]at this
theorem b1O (p:Int->Bool) (l:List Int):decide (b1P p l>=0)=l.any p:=by
 unfold b1P;cases h:l.findIdx? p with
 | none=>
  rw[List.findIdx?_eq_none_iff]at h;have:l.any p=false:=by rw[List.any_eq_false];exactλx hx=>by simp[h x hx]
  rw[this];rfl
 | some k=>
  rw[List.findIdx?_eq_some_iff_getElem]at h;obtain⟨h1,h2,_⟩:=h;have:l.any p=true:=List.any_eq_true.2 ⟨l[k],List.getElem_mem _,h2⟩;rw[this];simp
theorem b0c (c:Nat) (cs:List Value) (p:Int->Bool) (A:Atom) (hcal:m5 Tryz.prog c=true) (l:List Int) (hf:∀x∈l,Fn Tryz.prog c (iI x::cs) [A] (Ps (.bool (p x)) [A]))
  (a:Option Nat) (n cap:Nat) (hl:l.length=n) (hn:n<=4611686018427387904):FP 216 [slv a n cap,fnC c cs] [c8 3 1 a n cap (d5 l),A]
  (Ps (iI (b1P p l)) [c8 3 1 a n cap (d5 l),A]):=by
 refine FE [0,0] Tryz.func216 λX F hX=>?_;refine J.q λ_=>?_;refine J.l (α:=Nat) (λk=>k<=n/\∀i<k,p (l.getD i 0)=false) (λk=>[si 8 k,si 7 n,sv 0 (slv a n cap),⟨1,fnC c cs,0, .tt⟩]) [] (λk=>[]) (λk=>n-k) (0) (⟨by omega,by omega⟩) λk hI=>?_;refine J.qd (λ_ h1=>?_) λ_ h1=>?_
 ·simp only[decide_eq_true_eq,Int.ofNat_lt]at h1;cases a with
  | none=>
   refine J.know (λh' s=>(s.get (i:=1) rfl).2.1) λhn0=>?_;omega
  | some g=>
   have hk:l[k]? =some (l.getD k 0):=by rw[List.getD_eq_getElem?_getD,List.getElem?_eq_getElem (by omega),Option.getD_some]
   refine J.q λ_=>?_;refine J.v (iI (l.getD k 0)) rfl rfl (λhg a w he hs=>?_) ?_
   ·exact j9 tk rfl rfl he rfl rfl rfl (hs.get (i:=1) rfl) (by rw[show 0+(k:Int).toNat*1=k from by omega,d5,List.getElem?_map,hk];rfl)
   refine J.q λ_=>?_;refine J.call hX hcal (hf (l.getD k 0) (List.mem_of_getElem? hk)) [2] 0 rfl rfl rfl rfl (by(repeat' (first | exact Conj.nil | refine Conj.cons ?_ ?_ | omega | exact hq0 | (simpa using hq0) | (exactλh=>h) | exact rfl | (intro hq;have hq0:=hq;try simp only[Bool.and_eq_true,Bool.or_eq_true,decide_eq_true_eq,Bool.not_eq_true',decide_eq_false_iff_not]at hq) | (simp;done) | (simp;omega) | decide))) rfl rfl (λ_=>rfl) ?_;refine cpq ⟨_,rfl,trivial,?_⟩;refine J.qd (λ_ h2=>?_) λ_ h2=>?_
   ·refine J.qr [1,2] λ_=>?_;exact⟨by rw[b1P,a9B hk hI.2 h2],rfl⟩
   ·refine J.q λ_=>?_;refine J.nx (k+1) (⟨by omega,λi hi=>by
     rcases Nat.lt_succ_iff_lt_or_eq.1 hi with h3 | h3
     ·exact hI.2 i h3
     ·rw[h3];exact h2⟩) (by omega) (λ_ s=>s)
 ·simp only[decide_eq_false_iff_not,Int.ofNat_lt]at h1;refine J.qr [1,2] λ_=>?_;exact⟨by rw[b1P,a9C (λi hi=>hI.2 i (by omega))],rfl⟩
theorem a1i (c:Nat) (cs:List Value) (p:Int->Bool) (A:Atom) (hcal:m5 Tryz.prog c=true) (l:List Int) (hf:∀x∈l,Fn Tryz.prog c (iI x::cs) [A] (Ps (.bool (p x)) [A]))
  (a:Option Nat) (n cap:Nat) (hl:l.length=n) (hn:n<=4611686018427387904):FP 162 [slv a n cap,fnC c cs] [c8 3 1 a n cap (d5 l),A]
  (Ps (.bool (l.any p)) [c8 3 1 a n cap (d5 l),A]):=by
 refine FE [0,0] Tryz.func162 λX F hX=>?_;refine J.qp (b0c c cs p A hcal l hf a n cap hl hn) [1,2] λ_=>?_;refine J.qr [1,2] λ_=>?_;exact⟨by rw[<- b1O],rfl⟩
theorem b0T (q:Nat) (t:Tl) (hb:t.b<=1000) (hl:t.l.length=t.b) (r:Nat) (T:Tb) (o:Int):FP 186 [pp q,pp r,iI o] [TlA q t,TbA r T]
  (λv As=>∃a c,v=slv a (j4 (v6 t T) o t.b).length c/\As=[TlA q t,TbA r T,c8 3 1 a (j4 (v6 t T) o t.b).length c (d5 (j4 (v6 t T) o t.b))]):=by
 refine FE [2,3,0] Tryz.func186 λX F hX=>?_;refine J.q λbb=>?_;refine J.turn1 [3,4,2] rfl (As:=[PkE (bb 0) q (bb (0+1)) r T]) (λh s=>PkE_un.2 s) rfl ?_;refine J.qc (a4R q t hb o 239 [pp (bb 0),pp (bb (0+1))] (v6 t T) (PkE (bb 0) q (bb (0+1)) r T) (by kernel_rfl) (λx=>b3k q t hb hl (bb 0) (bb (0+1)) r T x)) [1,3] λ_=>?_;rintro v As ⟨a,c,rfl,rfl⟩;refine⟨_,rfl,trivial,?_⟩;refine J.turn1 [3] rfl (λh s=>PkE_un.1 s) rfl ?_;refine J.qr [1,7,5] λ_=>?_;exact⟨a,c,rfl,rfl⟩
theorem b0V (q:Nat) (t:Tl) (hb:t.b<=1000) (hl:t.l.length=t.b) (r:Nat) (T:Tb) (o:Int):FP 129 [pp q,pp r,iI o] [TlA q t,TbA r T]
  (λv As=>v=iI (j4 (v6 t T) o t.b).length/\As=[TlA q t,TbA r T]):=by
 refine FE [2,3,0] Tryz.func129 λX F hX=>?_;refine J.qc (b0T q t hb hl r T o) [1,2] λ_=>?_;rintro v As ⟨a,c,rfl,rfl⟩;refine⟨_,rfl,trivial,?_⟩;exact J.qx [1,2]
theorem b3n (q:Nat) (t:Tl) (hb:t.b<=1000) (hl:t.l.length=t.b) (bt:Nat) (x y:Int):FP 248 [iI x,iI y,pp bt] [.pt bt 119 [pp q],TlA q t]
  (λv As=>v=iI (B3 (t.wear x) (t.wear y))/\As=[.pt bt 119 [pp q],TlA q t]):=by
 refine FE [0,0,2] Tryz.func248 λX F hX=>?_;refine J.p (.of [1,4,13,16,10,23,27,28]) [5,6,7] [1,2] λ_=>?_;refine J.qp (a0j q t hb hl x) [2] λ_=>?_;refine J.qp (a0j q t hb hl y) [2] λ_=>?_;refine J.qp (E8 (t.wear x) (t.wear y)) [] λ_=>?_;exact J.qx [1,2]
theorem a7s (q:Nat) (t:Tl) (hb:t.b<=1000) (hl:t.l.length=t.b) (r:Nat) (T:Tb) (o:Int):FP 199 [pp q,pp r,iI o] [TlA q t,TbA r T]
  (λv As=>v=iI (B5 (λx y=>B3 (t.wear x) (t.wear y)) (j4 (v6 t T) o t.b))/\As=[TlA q t,TbA r T]):=by
 have hlen:=B6 (v6 t T) o t.b;refine FE [2,3,0] Tryz.func199 λX F hX=>?_;refine J.q λbb=>?_;refine J.cb (b0T q t hb hl r T o) [1,2] ?_;rintro v As ⟨a,c,rfl,rfl⟩;refine⟨_,rfl,trivial,?_⟩;refine J.q λ_=>?_;refine J.turn1 [3,1] rfl (As:=[.hp (HP.of [.pt (bb 0) 119 [pp q],TlA q t])]) (λh s=>Sep.hpOf.2 s) rfl ?_;refine J.q λ_=>?_;refine J.ca hX (by kernel_rfl) (a8k 248 [pp (bb 0)] (λx y=>B3 (t.wear x) (t.wear y)) _ (by kernel_rfl) (λx y=>Fn.pack (b3n q t hb hl (bb 0) x y)) a c (j4 (v6 t T) o t.b) (by omega)) [4,3] 0 rfl rfl rfl rfl rfl rfl (λ_=>rfl) ?_;refine cpq ⟨_,rfl,trivial,?_⟩;refine J.turn1 [3] rfl (As:=[.pt (bb 0) 119 [pp q],TlA q t]) (λh s=>Sep.hpOf.1 s) rfl ?_;exact J.qx [5,2]
theorem b6o (b:Nat) (x y:Int):FP 190 [.slice (some ⟨b,0,none⟩) 2 2] [.pt b 3 [iI x,iI y]] (λv As=>v=iI (orI [x,y])/\As=[.pt b 3 [iI x,iI y]]):=by
 refine FE [2] Tryz.func190 λX F hX=>?_;refine J.q λ_=>?_;refine J.l (α:=Nat) (λk=>k<=2/\orI ([x,y].drop k)=orI [x,y]) (λk=>[si 8 k,si 7 2,⟨6, .slice (some ⟨b,0,none⟩) 2 2,2, .tt⟩,si 3 0]) [] (λk=>[]) (λk=>2-k) (0) (⟨by omega,rfl⟩) λk hI=>?_;refine J.qd (λ_ h1=>?_) λ_ h1=>?_
 ·simp only[decide_eq_true_eq]at h1;obtain⟨v,hv⟩:∃v,([x,y]:List Int)[k]? =some v:=⟨_,List.getElem?_eq_getElem (by simp;omega)⟩;have hd:([x,y]:List Int).drop k=v::([x,y]:List Int).drop (k+1):=by
   obtain⟨h2,h3⟩:=List.getElem?_eq_some_iff.1 hv;rw[List.drop_eq_getElem_cons h2,h3]
  refine J.q λ_=>?_;refine J.v (iI v) rfl rfl (λhg a w he hs=>?_) ?_
  ·exact f9 tk rfl rfl he rfl rfl rfl (hs.get (i:=1) rfl) (by
    rw[show 0+(k:Int).toNat*1=k from by omega,show([iI x,iI y]:List Value)=([x,y]:List Int).map (.int .i64)from rfl,List.getElem?_map,hv];rfl)
  refine J.qd (λ_ h2=>?_) λ_ h2=>?_
  ·simp only[bne_iff_ne,ne_eq]at h2;refine J.qr [1] λ_=>?_;refine⟨?_,rfl⟩;rw[<- hI.2,hd];simp[orI,h2]
  ·simp only[bne_eq_false_iff_eq]at h2;refine J.q λ_=>?_;refine J.nx (k+1) (⟨by omega,by rw[<- hI.2,hd,orI,if_neg (by simp[h2])]⟩) (by omega) (λ_ s=>s)
 ·simp only[decide_eq_false_iff_not]at h1;refine J.qr [1] λ_=>?_;refine⟨?_,rfl⟩;rw[<- hI.2,List.drop_of_length_le (by simp;omega)];rfl
theorem a9f (q:Nat) (t:Tl) (hb:t.b<=1000) (hl:t.l.length=t.b) (bt bl r:Nat) (T:Tb) (x y:Int):FP 189 [iI x,iI y,pp bl,pp bt] [TlA q t,PkE bt q bl r T]
  (λv As=>v=iI (orI [B3 (T.count x) (T.count y),B3 (t.wear x) (t.wear y)])/\As=[TlA q t,PkE bt q bl r T]):=by
 refine FE [0,0,4,3] Tryz.func189 λX F hX=>?_;refine J.turn1 [2] rfl (λh s=>PkE_un.1 s) rfl ?_;refine J.p (.of [1,4,13,16,29,32,41,44,10,22,26,38,51,55,59,63,64]) [12,13,14,15,16] [1,2,3,4] λ_=>?_;refine J.qp (A8 r T x) [4] λ_=>?_;refine J.qp (A8 r T y) [4] λ_=>?_;refine J.qp (E8 (T.count x) (T.count y)) [] λ_=>?_;refine J.qp (a0j q t hb hl x) [1] λ_=>?_;refine J.qp (a0j q t hb hl y) [1] λ_=>?_;refine J.qp (E8 (t.wear x) (t.wear y)) [] λ_=>?_;refine J.q λbs=>?_;refine J.cb (b6o (bs 0) (B3 (T.count x) (T.count y)) (B3 (t.wear x) (t.wear y))) [5] ?_;refine cpq ⟨_,rfl,(by first | exact trivial | (repeat' (first | exact trivial | refine⟨rfl,?_⟩))),?_⟩;refine J.q λ_=>?_;refine J.turn1 [2,3,4] rfl (λh s=>PkE_un.2 s) rfl ?_;exact J.qx [1,2]
theorem a6m (q:Nat) (t:Tl) (hb:t.b<=1000) (hl:t.l.length=t.b) (r:Nat) (T:Tb) (o:Int):FP 130 [pp q,pp r,iI o] [TlA q t,TbA r T]
  (λv As=>v=iI (B5 (λx y=>orI [B3 (T.count x) (T.count y),B3 (t.wear x) (t.wear y)]) (j4 (M5 t T) o t.b))/\As=[TlA q t,TbA r T]):=by
 have hlen:=B6 (M5 t T) o t.b;refine FE [2,3,0] Tryz.func130 λX F hX=>?_;refine J.q λbb=>?_;refine J.turn1 [3,4,2] rfl (As:=[PkE (bb 0) q (bb (0+1)) r T]) (λh s=>PkE_un.2 s) rfl ?_;refine J.qc (a4R q t hb o 187 [pp (bb (0+1)),pp (bb 0)] (M5 t T) (PkE (bb 0) q (bb (0+1)) r T) (by kernel_rfl) (λx=>b3j q t hb hl (bb 0) (bb (0+1)) r T x)) [1,3] λ_=>?_;rintro v As ⟨a,c,rfl,rfl⟩;refine⟨_,rfl,trivial,?_⟩;refine J.q λ_=>?_;refine J.turn1 [1,3] rfl (As:=[.hp (HP.of [TlA q t,PkE (bb 0) q (bb (0+1)) r T])]) (λh s=>Sep.hpOf.2 s) rfl ?_;refine J.q λ_=>?_;refine J.ca hX (by kernel_rfl) (a8k 189 [pp (bb (0+1)),pp (bb 0)] (λx y=>orI [B3 (T.count x) (T.count y),B3 (t.wear x) (t.wear y)]) _ (by kernel_rfl) (λx y=>Fn.pack (a9f q t hb hl (bb 0) (bb (0+1)) r T x y)) a c (j4 (M5 t T) o t.b) (by omega)) [5,1] 0 rfl rfl rfl rfl rfl rfl (λ_=>rfl) ?_;refine cpq ⟨_,rfl,trivial,?_⟩;refine J.turn1 [1] rfl (As:=[TlA q t,PkE (bb 0) q (bb (0+1)) r T]) (λh s=>Sep.hpOf.1 s) rfl ?_;refine J.turn1 [6] rfl (λh s=>PkE_un.1 s) rfl ?_;exact J.qx [1,8]
theorem a8l (q:Nat) (t:Tl) (hb:t.b<=1000) (hl:t.l.length=t.b) (r:Nat) (T:Tb) (o:Int):FP 126 [pp q,pp r,iI o] [TlA q t,TbA r T]
  (λv As=>∃a c,v=slv a (j4 (y0 t T) o t.b).length c/\As=[TlA q t,TbA r T,c8 3 1 a (j4 (y0 t T) o t.b).length c (d5 (j4 (y0 t T) o t.b))]):=by
 refine FE [2,3,0] Tryz.func126 λX F hX=>?_;refine J.q λbb=>?_;refine J.turn1 [3,4,2] rfl (As:=[PkE (bb 0) q (bb (0+1)) r T]) (λh s=>PkE_un.2 s) rfl ?_;refine J.qc (a4R q t hb o 180 [pp (bb 0),pp (bb (0+1))] (y0 t T) (PkE (bb 0) q (bb (0+1)) r T) (by kernel_rfl) (λx=>b0S q t hb hl (bb 0) (bb (0+1)) r T x)) [1,3] λ_=>?_;rintro v As ⟨a,c,rfl,rfl⟩;refine⟨_,rfl,trivial,?_⟩;refine J.turn1 [3] rfl (λh s=>PkE_un.1 s) rfl ?_;refine J.qr [1,7,5] λ_=>?_;exact⟨a,c,rfl,rfl⟩
def a7p (t:Tl) (T:Tb) (b i:Int):Bool:=IntKind.i64.wrap ((BitVec.ofInt IntKind.i64.bits ((Tb.look T.at_ i).getD AtV.zero).mask&&& BitVec.ofInt IntKind.i64.bits (Tl.andN (L.all t.d) (t.mask b))).toNat:Int) !=0
theorem b3o (q:Nat) (t:Tl) (hb:t.b<=1000) (hl:t.l.length=t.b) (bt bl bb r:Nat) (T:Tb) (b i:Int):FP 207 [iI i,pp bl,pp bt,pp bb] [TlA q t, .pt bt 119 [pp q], .pt bl 113 [pp r],TbA r T, .pt bb 3 [iI b]]
  (λv As=>v= .bool (a7p t T b i)/\As=[TlA q t, .pt bt 119 [pp q], .pt bl 113 [pp r],TbA r T, .pt bb 3 [iI b]]):=by
 refine FE [0,4,3,6] Tryz.func207 λX F hX=>?_;refine J.qp (a0P r T i) [4] λ_=>?_;refine J.p (.of [1,17,21,6,8,14,27,28,32]) [6,7,8] [1,2,3,4,5] λ_=>?_;refine J.qp (a2a q t) [1] λ_=>?_;refine J.qp (a8x t.d) [] λ_=>?_;refine J.qp (K9 q t hb hl b) [1] λ_=>?_;exact J.qx [1,2,3,4,5]
def J1 (t:Tl) (T:Tb) (b:Int):Bool:=(T.ins b).any (a7p t T b)
theorem b3p (q:Nat) (t:Tl) (hb:t.b<=1000) (hl:t.l.length=t.b) (bt bl r:Nat) (T:Tb) (n:Nat) (hlog:T.logical=(n:Int)) (hn:n<=65536) (b:Int):FP 206 [iI b,pp bl,pp bt] [TlA q t,PkE bt q bl r T]
  (λv As=>v= .bool (J1 t T b)/\As=[TlA q t,PkE bt q bl r T]):=by
 have hlen:(T.ins b).length<=65536:=by
  unfold Tb.ins;split
  ·simp
  ·refine Nat.le_trans (T.inK_len b _) ?_;rw[hlog];omega
 refine FE [0,4,3] Tryz.func206 λX F hX=>?_;refine J.turn1 [2] rfl (λh s=>PkE_un.1 s) rfl ?_;refine J.q λbb=>?_;refine J.cb (b0v r T n hlog hn b) [4] ?_;rintro v As ⟨a,c,rfl,rfl⟩;refine⟨_,rfl,trivial,?_⟩;refine J.q λ_=>?_;refine J.turn1 [1,2,3,4,5] rfl (As:=[.hp (HP.of [TlA q t, .pt bt 119 [pp q], .pt bl 113 [pp r],TbA r T, .pt (bb 0) 3 [iI b]])]) (λh s=>Sep.hpOf.2 s) rfl ?_;refine J.q λ_=>?_;refine J.ca hX (by kernel_rfl) (a1i 207 [pp bl,pp bt,pp (bb 0)] (a7p t T b) _ (by kernel_rfl) (T.ins b) (λi _=>Fn.pack (b3o q t hb hl bt bl (bb 0) r T b i)) a (T.ins b).length c rfl (by omega)) [6,1] 0 rfl rfl rfl rfl rfl rfl (λ_=>rfl) ?_;refine cpq ⟨_,rfl,trivial,?_⟩;refine J.turn1 [1] rfl (As:=[TlA q t, .pt bt 119 [pp q], .pt bl 113 [pp r],TbA r T, .pt (bb 0) 3 [iI b]]) (λh s=>Sep.hpOf.1 s) rfl ?_;refine J.turn1 [7,8,9] rfl (λh s=>PkE_un.2 s) rfl ?_;exact J.qx [1,7]
theorem a7t (q:Nat) (t:Tl) (hb:t.b<=1000) (hl:t.l.length=t.b) (r:Nat) (T:Tb) (n:Nat) (hlog:T.logical=(n:Int)) (hn:n<=65536):FP 145 [pp q,pp r] [TlA q t,TbA r T]
  (λv As=>∃a c,v=slv a (j4 (J1 t T) (-1) t.b).length c/\As=[TlA q t,TbA r T,c8 3 1 a (j4 (J1 t T) (-1) t.b).length c (d5 (j4 (J1 t T) (-1) t.b))]):=by
 refine FE [2,3] Tryz.func145 λX F hX=>?_;refine J.q λbb=>?_;refine J.turn1 [3,4,2] rfl (As:=[PkE (bb 0) q (bb (0+1)) r T]) (λh s=>PkE_un.2 s) rfl ?_;refine J.qc (a4R q t hb (-1) 206 [pp (bb (0+1)),pp (bb 0)] (J1 t T) (PkE (bb 0) q (bb (0+1)) r T) (by kernel_rfl) (λx=>b3p q t hb hl (bb 0) (bb (0+1)) r T n hlog hn x)) [1,3] λ_=>?_;rintro v As ⟨a,c,rfl,rfl⟩;refine⟨_,rfl,trivial,?_⟩;refine J.turn1 [3] rfl (λh s=>PkE_un.1 s) rfl ?_;refine J.qr [1,7,5] λ_=>?_;exact⟨a,c,rfl,rfl⟩
end Go.Proofs.YtgkpkpbnonmopaaGreat
