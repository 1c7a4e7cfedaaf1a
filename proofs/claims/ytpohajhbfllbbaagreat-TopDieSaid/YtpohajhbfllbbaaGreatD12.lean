/- Helpers. No condition. -/
import Derived.Test.YtpohajhbfllbbaaGreatD05
import Derived.Test.YtpohajhbfllbbaaGreatD06
import Derived.Test.YtpohajhbfllbbaaGreatD08
import Derived.Test.YtpohajhbfllbbaaGreatD09
import Derived.Test.YtpohajhbfllbbaaGreatD10
import Derived.Test.YtpohajhbfllbbaaGreatD11
set_option maxRecDepth 20000
set_option linter.all false
namespace Go.Proofs.YtpohajhbfllbbaaGreat
open Go Go.RowKit
theorem b0T (q:Nat) (t:Tb) (n:Nat) (hlog:t.logical=(n:Int)) (hn:n<=65536) (b:Int):FP 151 [pp q,iI b] [TbA q t]
  (λv As=>∃a c,v=slv a (t.ins b).length c/\As=[TbA q t,c9 3 1 a (t.ins b).length c (f8 (t.ins b))]):=by
 refine FE [2,0] Tryz.func151 λX F hX=>?_;refine J.qp (E5 q t b) [1] λ_=>?_;refine J.turn1 [] rfl (As:=[c9 3 1 none 0 0 (f8 [])]) (λh s=>Sep.one ⟨rfl,rfl,rfl⟩) rfl ?_;refine J.qd (λ_ h1=>?_) λ_ h1=>?_
 ·simp only[beq_iff_eq]at h1;refine J.qr [1,2] λ_=>?_;have:t.ins b=[]:=by unfold Tb.ins;rw[if_pos h1]
  rw[this];exact⟨none,0,rfl,rfl⟩
 simp only[beq_eq_false_iff_ne,ne_eq]at h1;have hins:t.ins b=t.inK b n:=by unfold Tb.ins;rw[if_neg h1,hlog];rfl
 refine J.o (α:=(Nat×Nat)) 1 λx=>?_;refine J.q λ_=>?_;refine J.l (α:=(Nat×Option Nat×Nat)) (λz=>z.1<=n) (λz=>[si 17 z.1,si 16 t.logical,sv 5 (slv z.2.1 (t.inK b z.1).length z.2.2),⟨0,pp q,2, .tt⟩,si 1 b]) [2] (λz=>[c9 3 1 z.2.1 (t.inK b z.1).length z.2.2 (f8 (t.inK b z.1))]) (λz=>n-z.1) ((0,none,0)) (Nat.zero_le _) λz hI=>?_;obtain⟨k,a1,c1⟩:=z;dsimp only at hI ⊢;refine J.qd (λ_ h2=>?_) λ_ h2=>?_
 ·simp only[decide_eq_true_eq]at h2;have hkl:=t.inK_len b k;refine J.q λ_=>?_;refine J.v (.tuple #[atV ((Tb.look t.at_ k).getD AtV.zero), .bool (Tb.look t.at_ k).isSome]) rfl rfl (λhg a w he hs=>?_) ?_
  ·refine(l8 (key:=(k:Int)) a1U a0S (z:=atV AtV.zero) (λw=>by kernel_rfl) rfl rfl rfl rfl he rfl rfl (hs.get (i:=3) rfl)).trans ?_;simp only[a3D,a1d,a2N]
  have hin:((Tb.look t.at_ k).isSome&&(((Tb.look t.at_ k).getD AtV.zero).block==b))=t.inB b k:=by
   unfold Tb.inB;cases Tb.look t.at_ k<;>rfl
  refine J.qd (λ_ h3=>?_) λ_ h3=>?_
  ·have hs:t.inK b (k+1)=t.inK b k++[(k:Int)]:=by rw[Tb.inK_succ,if_pos (hin.symm.trans h3)]
   refine J.q λ_=>?_;refine J.append hX tk 2 6 0 rfl rfl rfl rfl rfl rfl rfl rfl rfl rfl rfl rfl rfl rfl rfl rfl ?_ ?_ (λ_=>rfl) λa3 c3=>⟨_,(congrArg (λz=>A4 _ 2 (c9 _ _ _ _ _ z)) (K5 _ (k:Int)).symm).trans rfl,trivial,?_⟩
   ·simp only[maxLen];omega
   ·omega
   rw[<- hs,show(t.inK b k).length+1=(t.inK b (k+1)).length from by rw[hs];simp];refine J.q λ_=>?_;refine J.n ((k+1,a3,c3)) (by dsimp only;omega) (by dsimp only;omega) [0,1,2,3,4]
  ·have hs:t.inK b (k+1)=t.inK b k:=by rw[Tb.inK_succ,if_neg (by rw[<- hin,h3];simp)]
   rw[<- hs];refine J.q λ_=>?_;refine J.n ((k+1,a1,c1)) (by dsimp only;omega) (by dsimp only;omega) [0,1,2,3,4]
 ·simp only[decide_eq_false_iff_not]at h2;obtain rfl:k=n:=by omega
  refine J.q λ_=>?_;refine J.cl (λx:Nat×Nat=>TbP q t x) x [1,3,4] ?_;refine J.qr [1,2] λ_=>?_;rw[hins];exact⟨a1,c1,rfl,rfl⟩
structure Sb where
 wear:Int
 bad:Int
 used:Bool
 held:Bool
def Sb.zero:Sb:=⟨0,0,false,false⟩
def sbL (s:Sb):List Value:=[iI s.wear,iI s.bad, .bool s.used, .bool s.held]
structure Tl where
 d:Nat
 b:Nat
 p:Nat
 l:List Sb
 dead:Int
namespace Tl
def new (d b p:Nat):Tl:=⟨d,b,p,List.replicate b Sb.zero,0⟩
def has (t:Tl) (k:Int):Bool:=decide (0<=k)&&decide (k<t.b)
def at_ (t:Tl) (k:Int):Sb:=t.l.getD k.toNat Sb.zero
def adr (t:Tl) (g:Nat) (k:Int):Option Addr:=if t.has k=true then some ⟨g,k.toNat*4,none⟩else none
def set (t:Tl) (k:Int) (s:Sb):Tl:=if t.has k=true then⟨t.d,t.b,t.p,t.l.set k.toNat s,t.dead⟩else t
def wear (t:Tl) (k:Int):Int:=if t.has k=true then(t.at_ k).wear else 0
def hasDie (t:Tl) (d:Int):Bool:=decide (0<=d)&&decide (d<t.d)
end Tl
def TlP (q:Nat) (t:Tl) (g:Nat):List Atom:=[.pt q 164 [iI t.d,iI t.b,iI t.p, .slice (some ⟨g,0,none⟩) t.b t.b,iI t.dead], .pt g 205 (t.l.flatMap sbL)]
def TlA (q:Nat) (t:Tl):Atom:=exA λg:Nat=>TlP q t g
theorem S8 {α:Type} (f:α->List Value) (w:Nat) (hw:∀x,(f x).length=w):∀{l:List α} {k:Nat} {x:α},l[k]? =some x->∀j,j<w->(l.flatMap f)[k*w+j]? =(f x)[j]?
 | [],k,x,h,j,hj=>by simp at h
 | y::l,0,x,h,j,hj=>by
  simp only[List.getElem?_cons_zero,Option.some.injEq]at h;subst h;rw[Nat.zero_mul,Nat.zero_add,List.flatMap_cons,List.getElem?_append_left (by rw[hw];exact hj)]
 | y::l,k+1,x,h,j,hj=>by
  rw[List.flatMap_cons,List.getElem?_append_right (by rw[hw,Nat.succ_mul];omega),hw,show(k+1)*w+j-w=k*w+j by rw[Nat.succ_mul];omega];exact S8 f w hw (by simpa using h) j hj
theorem u0 {α:Type} (f:α->List Value) (w:Nat) (hw:∀x,(f x).length=w) (j:Nat) (v:Value):∀{l:List α} {k:Nat} {x y:α},l[k]? =some x->j<w->(f x).set j v=f y->(l.flatMap f).set (k*w+j) v=(l.set k y).flatMap f
 | [],k,x,y,h,hj,e=>by simp at h
 | z::l,0,x,y,h,hj,e=>by
  simp only[List.getElem?_cons_zero,Option.some.injEq]at h;subst h;rw[Nat.zero_mul,Nat.zero_add,List.flatMap_cons,List.set_append_left _ _ (by rw[hw];exact hj),e];rfl
 | z::l,k+1,x,y,h,hj,e=>by
  rw[List.flatMap_cons,List.set_append_right _ _ (by rw[hw,Nat.succ_mul];omega),hw,show(k+1)*w+j-w=k*w+j by rw[Nat.succ_mul];omega,u0 f w hw j v (by simpa using h) hj e];rfl
theorem a5e (s:Sb):(sbL s).length=4:=rfl
namespace Tl
theorem get_at {t:Tl} (hl:t.l.length=t.b) {k:Int} (h:t.has k=true):t.l[k.toNat]? =some (t.at_ k):=by
 simp only[has,Bool.and_eq_true,decide_eq_true_eq]at h;rw[at_,List.getD_eq_getElem?_getD,List.getElem?_eq_getElem (by omega),Option.getD_some]
theorem cell_at {t:Tl} (hl:t.l.length=t.b) {k:Int} (h:t.has k=true) (j:Nat) (hj:j<4):(t.l.flatMap sbL)[k.toNat*4+j]? =(sbL (t.at_ k))[j]?:=S8 sbL 4 a5e (get_at hl h) j hj
theorem set_at {t:Tl} (hl:t.l.length=t.b) {k:Int} (h:t.has k=true) (j:Nat) (hj:j<4) (v:Value) (s:Sb) (e:(sbL (t.at_ k)).set j v=sbL s):(t.l.flatMap sbL).set (k.toNat*4+j) v=((t.set k s).l.flatMap sbL):=by
 rw[set,if_pos h];exact u0 sbL 4 a5e j v (get_at hl h) hj e
end Tl
namespace Tl
theorem len_l (t:Tl):(t.l.flatMap sbL).length=t.l.length*4:=by
 induction t.l with
 | nil=>rfl
 | cons x l ih=>rw[List.flatMap_cons,List.length_append,ih,a5e,List.length_cons];omega
theorem set_d (t:Tl) (k:Int) (s:Sb):(t.set k s).d=t.d:=by unfold set;split<;>rfl
theorem set_b (t:Tl) (k:Int) (s:Sb):(t.set k s).b=t.b:=by unfold set;split<;>rfl
theorem set_p (t:Tl) (k:Int) (s:Sb):(t.set k s).p=t.p:=by unfold set;split<;>rfl
theorem set_dead (t:Tl) (k:Int) (s:Sb):(t.set k s).dead=t.dead:=by unfold set;split<;>rfl
def wore (t:Tl) (k n:Int):Tl:=t.set k {t.at_ k with wear:=if n>(t.at_ k).wear then n else(t.at_ k).wear}
def bad (t:Tl) (d k:Int):Tl:=if t.hasDie d=true then t.set k {t.at_ k with bad:=L.with_ (t.at_ k).bad d}else t
def andN (a b:Int):Int:=IntKind.i64.wrap ((BitVec.ofInt IntKind.i64.bits a&&& ~~~BitVec.ofInt IntKind.i64.bits b).toNat:Int)
def alive (t:Tl):Int:=andN (L.all t.d) t.dead
def mask (t:Tl) (k:Int):Int:=if t.has k=true then andN t.alive (t.at_ k).bad else 0
def usable (t:Tl) (k:Int):Bool:=decide (G.slots (t.mask k)>0)
def blank (t:Tl) (k:Int):Bool:=t.has k&& !(t.at_ k).used
def held (t:Tl) (k:Int):Bool:=t.has k&&(t.at_ k).held
end Tl
theorem a7l (d b p:Nat) (hg:t6 d b p=true):FP 119 [.agg #[iI d,iI b,iI p]] [] (λv As=>∃q,v=pp q/\As=[TlA q (Tl.new d b p)]):=by
 have hbd:(3<=d/\d<=6)/\(8<=b/\b<=16)/\(2<=p/\p<=8):=by simp[t6]at hg;omega
 refine FE [0] Tryz.func119 λX F hX=>?_;refine J.qp (a1H d b p) [] λ_=>?_;rw[hg];refine J.qF λ_=>?_;refine J.pq (.of [1,4,9,14,16,23,24]) [4,5,6] [1] λ_ _=>?_;refine J.mk 3 λdd=>?_;refine J.q λnn=>?_;rw[show(List.replicate b [Value.int .i64 0,Value.int .i64 0,Value.bool false,Value.bool false]).flatten=(Tl.new d b p).l.flatMap sbL from by rw[Tl.new,List.flatMap_def,List.map_replicate];rfl];refine J.cl (λg:Nat=>TlP (nn 0) (Tl.new d b p) g) dd [3,2] ?_;refine J.qr [3] λ_=>?_;exact⟨nn 0,rfl,rfl⟩
theorem b3t:FP 119 [.agg #[iI 0,iI 0,iI 0]] [] (Ps (.pointer none) []):=by
 refine FE [0] Tryz.func119 λX F hX=>?_;refine J.qp (a1H 0 0 0) [] λ_=>?_;rw[show t6 0 0 0=false from by decide];refine J.qT λ_=>?_;exact J.qx []
theorem a1q (q:Nat) (t:Tl) (hb:t.b<=1000) (g:Nat) (k:Int):FP 126 [pp q,iI k] (TlP q t g) (Ps (.pointer (t.adr g k)) (TlP q t g)):=by
 refine FE [2,0] Tryz.func126 λX F hX=>?_;refine J.run hX tk 400 (λb9=>rfl) (λb9=>?_) (λb9=>?_)
 ·(repeat' (first | exact Conj.nil | refine Conj.cons ?_ ?_ | exact rfl | exact hq | (rw[hq];rfl) | (rw[(Bool.not_eq_true' _).mp hq]) | intro hq | omega | (simp;done) | (simp_all;done)))
 refine J.qd (λ_ h1=>?_) λ_ h1=>?_
 ·have hh:t.has k=false:=by simp[Tl.has]at h1 ⊢;omega
  refine J.qr [1,2] λ_=>?_;exact⟨by rw[Tl.adr,hh];rfl,rfl⟩
 ·have hh:t.has k=true:=by simp[Tl.has]at h1 ⊢;omega
  have hh2:=hh;simp only[Tl.has,Bool.and_eq_true,decide_eq_true_eq]at hh2;refine J.qr [1,2] λ_=>?_;exact⟨by rw[Tl.adr,hh,if_pos rfl];simp,rfl⟩
theorem a0p (q:Nat) (t:Tl) (hb:t.b<=1000) (hl:t.l.length=t.b) (k:Int):FP 190 [pp q,iI k] [TlA q t] (Ps (iI (t.wear k)) [TlA q t]):=by
 refine FE [2,0] Tryz.func190 λX F hX=>?_;refine J.o (α:=Nat) 1 λg=>?_;refine J.qp (a1q q t hb g k) [1,2] λ_=>?_;cases hh:t.has k with
 | false=>
  rw[Tl.adr,hh,if_neg (by simp)];refine J.qF λ_=>?_;refine J.q λ_=>?_;refine J.cl (λg:Nat=>TlP q t g) g [1,2] ?_;refine J.qr [1] λ_=>?_;exact⟨by rw[Tl.wear,hh];rfl,rfl⟩
 | true=>
  rw[Tl.adr,hh,if_pos rfl];refine J.qT λ_=>?_;refine J.q λ_=>?_;refine J.v (iI (t.at_ k).wear) rfl rfl (λhg a w he hs=>?_) ?_
  ·exact j3 tk rfl rfl he rfl rfl rfl (hs.get (i:=2) rfl) (t.cell_at hl hh 0 (by omega))
  refine J.cl (λg:Nat=>TlP q t g) g [1,2] ?_;refine J.qr [1] λ_=>?_;exact⟨by rw[Tl.wear,hh];rfl,rfl⟩
theorem a5a (q:Nat) (t:Tl) (hb:t.b<=1000) (hl:t.l.length=t.b) (k n:Int):FP 120 [pp q,iI k,iI n] [TlA q t] (Ps (.tuple #[]) [TlA q (t.wore k n)]):=by
 refine FE [2,0,0] Tryz.func120 λX F hX=>?_;refine J.o (α:=Nat) 1 λg=>?_;refine J.qp (a1q q t hb g k) [1,2] λ_=>?_;cases hh:t.has k with
 | false=>
  rw[Tl.adr,hh,if_neg (by simp)];refine J.qF λ_=>?_;refine J.q λ_=>?_;refine J.cl (λg:Nat=>TlP q t g) g [1,2] ?_;refine J.q λ_=>?_;refine J.f [1] ?_;exact⟨rfl,by rw[Tl.wore,Tl.set,hh];rfl⟩
 | true=>
  rw[Tl.adr,hh,if_pos rfl];refine J.qT λ_=>?_;refine J.q λ_=>?_;refine J.v (iI (t.at_ k).wear) rfl rfl (λhg a w he hs=>?_) ?_
  ·exact j3 tk rfl rfl he rfl rfl rfl (hs.get (i:=2) rfl) (t.cell_at hl hh 0 (by omega))
  refine J.q λ_=>?_;refine J.s1 2 ((t.wore k n).l.flatMap sbL) ?_ ?_ ?_
  ·rw[t.len_l,hl];simp only[Tl.has,Bool.and_eq_true,decide_eq_true_eq]at hh;omega
  ·exact t.set_at hl hh 0 (by omega) _ _ rfl
  refine J.close (f:=λg:Nat=>TlP q (t.wore k n) g) g [1,2] rfl (by simp only[TlP,Tl.wore,Tl.set_d,Tl.set_b,Tl.set_p,Tl.set_dead];rfl) rfl ?_;refine J.q λ_=>?_;refine J.f [1] ?_;exact⟨rfl,rfl⟩
theorem b0N (q:Nat) (t:Tl) (g:Nat) (k:Int):FP 102 [pp q,iI k] (TlP q t g) (Ps (.bool (t.hasDie k)) (TlP q t g)):=by
 refine FE [2,0] Tryz.func102 λX F hX=>?_;refine J.run hX tk 400 (λb30=>rfl) (λb30=>?_) (λb30=>?_)
 ·(repeat' (first | exact Conj.nil | refine Conj.cons ?_ ?_ | exact rfl | exact hq | (rw[hq];rfl) | (rw[(Bool.not_eq_true' _).mp hq]) | intro hq | omega | (simp;done) | (simp_all;done)))
 refine J.qr [1,2] λ_=>?_;exact⟨by simp[Tl.hasDie],rfl⟩
theorem a7m (q:Nat) (t:Tl) (hb:t.b<=1000) (hl:t.l.length=t.b) (d k:Int):FP 184 [pp q,iI d,iI k] [TlA q t] (Ps (.tuple #[]) [TlA q (t.bad d k)]):=by
 refine FE [2,0,0] Tryz.func184 λX F hX=>?_;refine J.o (α:=Nat) 1 λg=>?_;refine J.qp (a1q q t hb g k) [1,2] λ_=>?_;cases hh:t.has k with
 | false=>
  rw[Tl.adr,hh,if_neg (by simp)];refine J.q λ_=>?_;refine J.v (.bool false) rfl rfl (λhg a w he hs=>absurd hg (by simp[G.on])) ?_;refine J.qF λ_=>?_;refine J.q λ_=>?_;refine J.cl (λg:Nat=>TlP q t g) g [1,2] ?_;refine J.q λ_=>?_;refine J.f [1] ?_;exact⟨rfl,by rw[Tl.bad,Tl.set,hh];simp;rfl⟩
 | true=>
  rw[Tl.adr,hh,if_pos rfl];refine J.qp (b0N q t g d) [1,2] λ_=>?_;refine J.qd (λ_ h2=>?_) λ_ h2=>?_
  ·simp only[Bool.not_false,Bool.true_and]at h2;refine J.q λ_=>?_;refine J.v (iI (t.at_ k).bad) rfl rfl (λhg a w he hs=>?_) ?_
   ·exact j3 tk rfl rfl he rfl rfl rfl (hs.get (i:=2) rfl) (t.cell_at hl hh 1 (by omega))
   refine J.qp (a5y (t.at_ k).bad d) [] λ_=>?_;refine J.q λ_=>?_;have he:t.bad d k=t.set k {t.at_ k with bad:=L.with_ (t.at_ k).bad d}:=by rw[Tl.bad,h2];rfl
   refine J.s1 2 ((t.bad d k).l.flatMap sbL) ?_ ?_ ?_
   ·rw[t.len_l,hl];simp only[Tl.has,Bool.and_eq_true,decide_eq_true_eq]at hh;omega
   ·rw[he];exact t.set_at hl hh 1 (by omega) _ _ rfl
   refine J.close (f:=λg:Nat=>TlP q (t.bad d k) g) g [1,2] rfl (by simp only[he,TlP,Tl.set_d,Tl.set_b,Tl.set_p,Tl.set_dead];rfl) rfl ?_;refine J.q λ_=>?_;refine J.f [1] ?_;exact⟨rfl,rfl⟩
  ·simp only[Bool.not_false,Bool.true_and]at h2;refine J.cl (λg:Nat=>TlP q t g) g [1,2] ?_;refine J.q λ_=>?_;refine J.f [1] ?_;exact⟨rfl,by rw[Tl.bad,h2];rfl⟩
theorem a9e (q:Nat) (t:Tl) (g:Nat):FP 178 [pp q] (TlP q t g) (Ps (iI t.alive) (TlP q t g)):=by
 refine FE [2] Tryz.func178 λX F hX=>?_;refine J.qF λ_=>?_;refine J.p (.of [0,4,8,12,17,24,28,32,37,22,40,44]) [11] [1,2] λ_=>?_;refine J.qp (a6J t.d) [] λ_=>?_;exact J.qx [1,2]
theorem a2o (q:Nat) (t:Tl) (hb:t.b<=1000) (hl:t.l.length=t.b) (k:Int):FP 181 [pp q,iI k] [TlA q t] (Ps (.bool (t.blank k)) [TlA q t]):=by
 refine FE [2,0] Tryz.func181 λX F hX=>?_;refine J.o (α:=Nat) 1 λg=>?_;refine J.qp (a1q q t hb g k) [1,2] λ_=>?_;cases hh:t.has k with
 | false=>
  rw[Tl.adr,hh,if_neg (by simp)];refine J.q λ_=>?_;refine J.v (pp g) rfl rfl (λhg a w he hs=>absurd hg (by simp[G.on])) ?_;refine J.q λ_=>?_;refine J.v (.bool false) rfl rfl (λhg a w he hs=>absurd hg (by simp[G.on])) ?_;refine J.q λ_=>?_;refine J.cl (λg:Nat=>TlP q t g) g [1,2] ?_;refine J.qr [1] λ_=>?_;exact⟨by rw[Tl.blank,hh];rfl,rfl⟩
 | true=>
  rw[Tl.adr,hh,if_pos rfl];refine J.q λ_=>?_;refine J.v (.bool (t.at_ k).used) rfl rfl (λhg a w he hs=>?_) ?_
  ·exact j3 tk rfl rfl he rfl rfl rfl (hs.get (i:=2) rfl) (t.cell_at hl hh 2 (by omega))
  refine J.q λ_=>?_;refine J.cl (λg:Nat=>TlP q t g) g [1,2] ?_;refine J.qr [1] λ_=>?_;exact⟨by rw[Tl.blank,hh];rfl,rfl⟩
theorem a8h (q:Nat) (t:Tl) (hb:t.b<=1000) (hl:t.l.length=t.b) (k:Int):FP 182 [pp q,iI k] [TlA q t] (Ps (.bool (t.held k)) [TlA q t]):=by
 refine FE [2,0] Tryz.func182 λX F hX=>?_;refine J.o (α:=Nat) 1 λg=>?_;refine J.qp (a1q q t hb g k) [1,2] λ_=>?_;cases hh:t.has k with
 | false=>
  rw[Tl.adr,hh,if_neg (by simp)];refine J.q λ_=>?_;refine J.v (pp g) rfl rfl (λhg a w he hs=>absurd hg (by simp[G.on])) ?_;refine J.q λ_=>?_;refine J.v (.bool false) rfl rfl (λhg a w he hs=>absurd hg (by simp[G.on])) ?_;refine J.q λ_=>?_;refine J.cl (λg:Nat=>TlP q t g) g [1,2] ?_;refine J.qr [1] λ_=>?_;exact⟨by rw[Tl.held,hh];rfl,rfl⟩
 | true=>
  rw[Tl.adr,hh,if_pos rfl];refine J.q λ_=>?_;refine J.v (.bool (t.at_ k).held) rfl rfl (λhg a w he hs=>?_) ?_
  ·exact j3 tk rfl rfl he rfl rfl rfl (hs.get (i:=2) rfl) (t.cell_at hl hh 3 (by omega))
  refine J.q λ_=>?_;refine J.cl (λg:Nat=>TlP q t g) g [1,2] ?_;refine J.qr [1] λ_=>?_;exact⟨by rw[Tl.held,hh];rfl,rfl⟩
theorem b0O (q:Nat) (t:Tl):FP 178 [pp q] [TlA q t] (Ps (iI t.alive) [TlA q t]):=by
 refine FE [2] Tryz.func178 λX F hX=>?_;refine J.o (α:=Nat) 1 λg=>?_;refine J.qF λ_=>?_;refine J.p (.of [0,4,8,12,17,24,28,32,37,22,40,44]) [11] [1,2] λ_=>?_;refine J.qp (a6J t.d) [] λ_=>?_;refine J.q λ_=>?_;refine J.cl (λg:Nat=>TlP q t g) g [1,2] ?_;exact J.qx [1]
theorem a2m (q:Nat) (t:Tl):FP 99 [pp q] [TlA q t] (Ps (.agg #[iI t.d,iI t.b,iI t.p]) [TlA q t]):=by
 refine FE [2] Tryz.func99 λX F hX=>?_;refine J.o (α:=Nat) 1 λg=>?_;refine J.qF λ_=>?_;refine J.q λ_=>?_;refine J.cl (λg:Nat=>TlP q t g) g [1,2] ?_;exact J.qx [1]
theorem P5 (q:Nat) (t:Tl) (hb:t.b<=1000) (hl:t.l.length=t.b) (k:Int):FP 123 [pp q,iI k] [TlA q t] (Ps (iI (t.mask k)) [TlA q t]):=by
 refine FE [2,0] Tryz.func123 λX F hX=>?_;refine J.o (α:=Nat) 1 λg=>?_;refine J.qp (a1q q t hb g k) [1,2] λ_=>?_;cases hh:t.has k with
 | false=>
  rw[Tl.adr,hh,if_neg (by simp)];refine J.qT λ_=>?_;refine J.cl (λg:Nat=>TlP q t g) g [1,2] ?_;refine J.qr [1] λ_=>?_;exact⟨by rw[Tl.mask,hh];rfl,rfl⟩
 | true=>
  rw[Tl.adr,hh,if_pos rfl];refine J.qF λ_=>?_;refine J.pq (.of [0,8,12,16,21,6,24,28]) [6,7] [1,2] λ_ _=>?_;refine J.vT (iI (t.at_ k).bad) rfl rfl (λhg a w he hC=>?_) ?_
  ·exact j3 tk rfl rfl he hg rfl rfl (hC rfl _ (i7 (i:=2) rfl)) (t.cell_at hl hh 1 (by omega))
  refine J.qp (a9e q t g) [1,2] λ_=>?_;refine J.q λ_=>?_;refine J.cl (λg:Nat=>TlP q t g) g [1,2] ?_;refine J.qr [1] λ_=>?_;exact⟨by rw[Tl.mask,hh];rfl,rfl⟩
theorem X9 (q:Nat) (t:Tl) (hb:t.b<=1000) (hl:t.l.length=t.b) (k:Int):FP 180 [pp q,iI k] [TlA q t] (Ps (.bool (t.usable k)) [TlA q t]):=by
 refine FE [2,0] Tryz.func180 λX F hX=>?_;refine J.qp (P5 q t hb hl k) [1] λ_=>?_;refine J.qp (J6 (t.mask k)) [] λ_=>?_;exact J.qx [1]
def f6 (kind:Int->Bool) (open_:Int) (k:Nat):List Int:=((List.range k).filter λi:Nat=>((i:Int) !=open_)&&kind i).map λi:Nat=>(i:Int)
theorem J9 (kind:Int->Bool) (o:Int) (k:Nat):f6 kind o (k+1)=if(((k:Int) !=o)&&kind k)=true then f6 kind o k++[(k:Int)]else f6 kind o k:=by
 unfold f6;rw[List.range_succ,List.filter_append,List.map_append];cases h:(((k:Int) !=o)&&kind k)<;>simp[List.filter_cons,h]
theorem E8 (kind:Int->Bool) (o:Int) (k:Nat):(f6 kind o k).length<=k:=by
 unfold f6;rw[List.length_map];exact Nat.le_trans (List.length_filter_le _ _) (by rw[List.length_range];exact Nat.le_refl _)
theorem a5o (q:Nat) (t:Tl) (hb:t.b<=1000) (o:Int) (c:Nat) (cs:List Value) (kind:Int->Bool) (A:Atom) (hcal:n5 Tryz.prog c=true) (hf:∀x,Fn Tryz.prog c (iI x::cs) [TlA q t,A] (Ps (.bool (kind x)) [TlA q t,A])):FP 148 [pp q,iI o,fnC c cs] [TlA q t,A]
  (λv As=>∃a cc,v=slv a (f6 kind o t.b).length cc/\As=[TlA q t,A,c9 3 1 a (f6 kind o t.b).length cc (f8 (f6 kind o t.b))]):=by
 refine FE [2,0,0] Tryz.func148 λX F hX=>?_;refine J.qp (a2m q t) [1] λ_=>?_;refine J.turn1 [] rfl (As:=[c9 3 1 none 0 0 (f8 [])]) (λh s=>Sep.one ⟨rfl,rfl,rfl⟩) rfl ?_;refine J.q λ_=>?_;refine J.l (α:=(Nat×Option Nat×Nat)) (λz=>z.1<=t.b) (λz=>[si 12 z.1,si 11 t.b,sv 7 (slv z.2.1 (f6 kind o z.1).length z.2.2),si 1 o,⟨2,fnC c cs,0, .tt⟩]) [3] (λz=>[c9 3 1 z.2.1 (f6 kind o z.1).length z.2.2 (f8 (f6 kind o z.1))]) (λz=>t.b-z.1) ((0,none,0)) (Nat.zero_le _) λz hI=>?_;obtain⟨k,a1,c1⟩:=z;dsimp only at hI ⊢;refine J.qd (λ_ h2=>?_) λ_ h2=>?_
 ·simp only[decide_eq_true_eq,Int.ofNat_lt]at h2;have hkl:=E8 kind o k;refine J.q λ_=>?_;cases ho:((k:Int) !=o)with
  | false=>
   refine J.v (.bool false) rfl rfl (λhg a w he hs=>absurd hg (by simp[G.on])) ?_;refine J.qF λ_=>?_;have hs:f6 kind o (k+1)=f6 kind o k:=by rw[J9,if_neg (by rw[ho];simp)]
   rw[<- hs];refine J.q λ_=>?_;refine J.n ((k+1,a1,c1)) (by dsimp only;omega) (by dsimp only;omega) [0,1,2,3]
  | true=>
   refine J.call hX hcal (hf (k:Int)) [1,2] 0 rfl rfl rfl rfl (by(repeat' (first | exact Conj.nil | refine Conj.cons ?_ ?_ | omega | exact hq0 | (simpa using hq0) | (exactλh=>h) | exact rfl | (intro hq;have hq0:=hq;try simp only[Bool.and_eq_true,Bool.or_eq_true,decide_eq_true_eq,Bool.not_eq_true',decide_eq_false_iff_not]at hq) | (simp;done) | (simp;omega) | decide))) rfl rfl (λ_=>rfl) ?_;refine cpq ⟨_,rfl,trivial,?_⟩;refine J.qd (λ_ h3=>?_) λ_ h3=>?_
   ·have hs:f6 kind o (k+1)=f6 kind o k++[(k:Int)]:=by rw[J9,if_pos (by rw[ho];exact h3)]
    refine J.q λ_=>?_;refine J.append hX tk 3 4 0 rfl rfl rfl rfl rfl rfl rfl rfl rfl rfl rfl rfl rfl rfl rfl rfl ?_ ?_ (λ_=>rfl) λa3 c3=>⟨_,(congrArg (λz=>A4 _ 3 (c9 _ _ _ _ _ z)) (K5 _ (k:Int)).symm).trans rfl,trivial,?_⟩
    ·simp only[maxLen];omega
    ·omega
    rw[<- hs,show(f6 kind o k).length+1=(f6 kind o (k+1)).length from by rw[hs];simp];refine J.q λ_=>?_;refine J.n ((k+1,a3,c3)) (by dsimp only;omega) (by dsimp only;omega) [0,1,2,3]
   ·have hs:f6 kind o (k+1)=f6 kind o k:=by rw[J9,if_neg (by rw[ho,h3];simp)]
    rw[<- hs];refine J.q λ_=>?_;refine J.n ((k+1,a1,c1)) (by dsimp only;omega) (by dsimp only;omega) [0,1,2,3]
 ·simp only[decide_eq_false_iff_not,Int.ofNat_lt]at h2;obtain rfl:k=t.b:=by omega
  refine J.qr [1,2,3] λ_=>?_;exact⟨a1,c1,rfl,rfl⟩
def L7 (f:Int->Int->Int):List Int->Int->Int
 | [],m=>m
 | x::l,m=>L7 f l (if f x m<0 then x else m)
theorem b6f (c:Nat) (cs:List Value) (f:Int->Int->Int) (A:Atom) (hcal:n5 Tryz.prog c=true) (hf:∀x y,Fn Tryz.prog c (iI x::iI y::cs) [A] (Ps (iI (f x y)) [A]))
  (a:Option Nat) (cap:Nat) (x:Int) (l:List Int) (hn:l.length<1000000):FP 226 [slv a (x::l).length cap,fnC c cs] [c9 3 1 a (x::l).length cap (f8 (x::l)),A]
  (Ps (iI (L7 f l x)) [c9 3 1 a (x::l).length cap (f8 (x::l)),A]):=by
 refine FE [0,0] Tryz.func226 λX F hX=>?_;cases a with
 | none=>
  refine J.know (λh' s=>(s.get (i:=1) rfl).2.1) λhn0=>?_;simp at hn0
 | some g=>
  refine J.qd (λ_ h0=>?_) λ_ h0=>?_
  ·simp only[decide_eq_true_eq,List.length_cons]at h0;omega
  refine J.q λ_=>?_;refine J.v (iI x) rfl rfl (λhg a w he hs=>?_) ?_
  ·exact j9 tk rfl rfl he rfl rfl rfl (hs.get (i:=1) rfl) rfl
  refine J.q λ_=>?_;refine J.l (α:=(Nat×Int)) (λz=>z.1<=l.length/\L7 f (l.drop z.1) z.2=L7 f l x) (λz=>[⟨6,iI ((z.1+1:Nat):Int),0, .tt⟩,si 5 z.2,sv 0 (slv (some g) (x::l).length cap),⟨1,fnC c cs,0, .tt⟩]) [] (λz=>[]) (λz=>l.length-z.1) ((0,x)) (⟨Nat.zero_le _,rfl⟩) λz hI=>?_;obtain⟨j,m⟩:=z;dsimp only at hI ⊢;refine J.qd (λ_ h1=>?_) λ_ h1=>?_
  ·simp only[decide_eq_true_eq,Int.ofNat_lt,List.length_cons]at h1;have hj:j<l.length:=by omega
   have hk:(x::l)[j+1]? =some (l.getD j 0):=by rw[List.getElem?_cons_succ,List.getD_eq_getElem?_getD,List.getElem?_eq_getElem hj,Option.getD_some]
   have hget:(f8 (x::l))[0+((j+1:Nat):Int).toNat*1]? =some (iI (l.getD j 0)):=by
    rw[show 0+((j+1:Nat):Int).toNat*1=j+1 from by omega,f8,List.getElem?_map,hk];rfl
   have hstep:L7 f (l.drop (j+1)) (if f (l.getD j 0) m<0 then l.getD j 0 else m)=L7 f l x:=by
    rw[<- hI.2,List.drop_eq_getElem_cons hj,L7];have:l.getD j 0=l[j]:=by rw[List.getD_eq_getElem?_getD,List.getElem?_eq_getElem hj,Option.getD_some]
    rw[this]
   refine J.q λ_=>?_;refine J.v (iI (l.getD j 0)) rfl rfl (λhg a w he hs=>?_) ?_
   ·exact j9 tk rfl rfl he rfl rfl rfl (hs.get (i:=1) rfl) hget
   refine J.q λ_=>?_;refine J.call hX hcal (hf (l.getD j 0) m) [2] 0 rfl rfl rfl rfl (by(repeat' (first | exact Conj.nil | refine Conj.cons ?_ ?_ | omega | exact hq0 | (simpa using hq0) | (exactλh=>h) | exact rfl | (intro hq;have hq0:=hq;try simp only[Bool.and_eq_true,Bool.or_eq_true,decide_eq_true_eq,Bool.not_eq_true',decide_eq_false_iff_not]at hq) | (simp;done) | (simp;omega) | decide))) rfl rfl (λ_=>rfl) ?_;refine cpq ⟨_,rfl,trivial,?_⟩;refine J.qd (λ_ h2=>?_) λ_ h2=>?_
   ·simp only[decide_eq_true_eq]at h2;refine J.q λ_=>?_;refine J.v (iI (l.getD j 0)) rfl rfl (λhg a w he hs=>?_) ?_
    ·exact j9 tk rfl rfl he rfl rfl rfl (hs.get (i:=1) rfl) hget
    rw[if_pos h2]at hstep;refine J.q λ_=>?_;refine J.n ((j+1,l.getD j 0)) (⟨by dsimp only;omega,hstep⟩) (by dsimp only;omega) [0,1,2]
   ·simp only[decide_eq_false_iff_not]at h2;rw[if_neg h2]at hstep;refine J.q λ_=>?_;refine J.n ((j+1,m)) (⟨by dsimp only;omega,hstep⟩) (by dsimp only;omega) [0,1,2]
  ·simp only[decide_eq_false_iff_not,Int.ofNat_lt,List.length_cons]at h1;obtain rfl:j=l.length:=by omega
   have:=hI.2;rw[List.drop_length,L7]at this;refine J.qr [1,2] λ_=>?_;exact⟨by rw[this],rfl⟩
def E7 (f:Int->Int->Int) (l:List Int):Int:=match l with
 | []=> -1
 | x::l=>L7 f l x
theorem a8p (c:Nat) (cs:List Value) (f:Int->Int->Int) (A:Atom) (hcal:n5 Tryz.prog c=true) (hf:∀x y,Fn Tryz.prog c (iI x::iI y::cs) [A] (Ps (iI (f x y)) [A]))
  (a:Option Nat) (cap:Nat) (l:List Int) (hn:l.length<1000000):FP 187 [slv a l.length cap,fnC c cs] [c9 3 1 a l.length cap (f8 l),A]
  (Ps (iI (E7 f l)) [c9 3 1 a l.length cap (f8 l),A]):=by
 refine FE [0,0] Tryz.func187 λX F hX=>?_;cases l with
 | nil=>
  refine J.qT λ_=>?_;exact J.qx [1,2]
 | cons x l=>
  refine J.qd (λ_ h0=>?_) λ_ h0=>?_
  ·simp only[beq_iff_eq,List.length_cons]at h0;omega
  refine J.qp (b6f c cs f A hcal hf a cap x l (by simp at hn;omega)) [1,2] λ_=>?_;exact J.qx [1,2]
def PkE (bt q bl r:Nat) (T:Tb):Atom:= .hp (HP.of [.pt bt 101 [pp q], .pt bl 102 [pp r],TbA r T])
theorem PkE_un {bt q bl r:Nat} {T:Tb} {h:Hl}:Sep [PkE bt q bl r T] h↔Sep [.pt bt 101 [pp q], .pt bl 102 [pp r],TbA r T] h:=Sep.hpOf
def y0 (t:Tl) (T:Tb) (k:Int):Bool:=t.usable k&&t.blank k&&(T.count k==0)
def A6 (t:Tl) (T:Tb) (k:Int):Bool:=decide (T.count k>0)&& !t.held k
def j4 (t:Tl) (T:Tb) (k:Int):Bool:=t.usable k&& !t.blank k&& !t.held k&&(T.count k==0)
theorem b3J (q:Nat) (t:Tl) (hb:t.b<=1000) (hl:t.l.length=t.b) (bt bl r:Nat) (T:Tb) (k:Int):FP 225 [iI k,pp bt,pp bl] [TlA q t,PkE bt q bl r T]
  (Ps (.bool (y0 t T k)) [TlA q t,PkE bt q bl r T]):=by
 refine FE [0,3,4] Tryz.func225 λX F hX=>?_;refine J.turn1 [2] rfl (λh s=>PkE_un.1 s) rfl ?_;refine J.qp (X9 q t hb hl k) [1] λ_=>?_;cases h3:t.usable k with
 | false=>
  refine J.q λ_=>?_;refine J.v (.bool false) rfl rfl (λhg a w he hs=>absurd hg (by simp[G.on])) ?_;refine J.q λ_=>?_;refine J.v (iI 0) rfl rfl (λhg a w he hs=>absurd hg (by simp[G.on])) ?_;refine J.q λ_=>?_;refine J.turn1 [2,3,4] rfl (λh s=>PkE_un.2 s) rfl ?_;refine J.qr [1,2] λ_=>?_;exact⟨by simp[y0,h3],rfl⟩
 | true=>
  refine J.qp (a2o q t hb hl k) [1] λ_=>?_;cases h2:t.blank k with
  | false=>
   refine J.q λ_=>?_;refine J.v (iI 0) rfl rfl (λhg a w he hs=>absurd hg (by simp[G.on])) ?_;refine J.q λ_=>?_;refine J.turn1 [2,3,4] rfl (λh s=>PkE_un.2 s) rfl ?_;refine J.qr [1,2] λ_=>?_;exact⟨by simp[y0,h3,h2],rfl⟩
  | true=>
   refine J.qp (E5 r T k) [4] λ_=>?_;refine J.q λ_=>?_;refine J.turn1 [2,3,4] rfl (λh s=>PkE_un.2 s) rfl ?_;refine J.qr [1,2] λ_=>?_;exact⟨by simp[y0,h3,h2],rfl⟩
theorem b1t (q:Nat) (t:Tl) (hb:t.b<=1000) (hl:t.l.length=t.b) (bt bl r:Nat) (T:Tb) (k:Int):FP 179 [iI k,pp bt,pp bl] [TlA q t,PkE bt q bl r T]
  (Ps (.bool (j4 t T k)) [TlA q t,PkE bt q bl r T]):=by
 refine FE [0,3,4] Tryz.func179 λX F hX=>?_;refine J.turn1 [2] rfl (λh s=>PkE_un.1 s) rfl ?_;refine J.qp (X9 q t hb hl k) [1] λ_=>?_;cases h4:t.usable k with
 | false=>
  refine J.q λ_=>?_;refine J.v (.bool false) rfl rfl (λhg a w he hs=>absurd hg (by simp[G.on])) ?_;refine J.q λ_=>?_;refine J.v (.bool false) rfl rfl (λhg a w he hs=>absurd hg (by simp[G.on])) ?_;refine J.q λ_=>?_;refine J.v (iI 0) rfl rfl (λhg a w he hs=>absurd hg (by simp[G.on])) ?_;refine J.q λ_=>?_;refine J.turn1 [2,3,4] rfl (λh s=>PkE_un.2 s) rfl ?_;refine J.qr [1,2] λ_=>?_;exact⟨by simp[j4,h4],rfl⟩
 | true=>
  refine J.qp (a2o q t hb hl k) [1] λ_=>?_;cases h3:t.blank k with
  | true=>
   refine J.q λ_=>?_;refine J.v (.bool false) rfl rfl (λhg a w he hs=>absurd hg (by simp[G.on])) ?_;refine J.q λ_=>?_;refine J.v (iI 0) rfl rfl (λhg a w he hs=>absurd hg (by simp[G.on])) ?_;refine J.q λ_=>?_;refine J.turn1 [2,3,4] rfl (λh s=>PkE_un.2 s) rfl ?_;refine J.qr [1,2] λ_=>?_;exact⟨by simp[j4,h4,h3],rfl⟩
  | false=>
   refine J.qp (a8h q t hb hl k) [1] λ_=>?_;cases h2:t.held k with
   | true=>
    refine J.q λ_=>?_;refine J.v (iI 0) rfl rfl (λhg a w he hs=>absurd hg (by simp[G.on])) ?_;refine J.q λ_=>?_;refine J.turn1 [2,3,4] rfl (λh s=>PkE_un.2 s) rfl ?_;refine J.qr [1,2] λ_=>?_;exact⟨by simp[j4,h4,h3,h2],rfl⟩
   | false=>
    refine J.qp (E5 r T k) [4] λ_=>?_;refine J.q λ_=>?_;refine J.turn1 [2,3,4] rfl (λh s=>PkE_un.2 s) rfl ?_;refine J.qr [1,2] λ_=>?_;exact⟨by simp[j4,h4,h3,h2],rfl⟩
theorem b3I (q:Nat) (t:Tl) (hb:t.b<=1000) (hl:t.l.length=t.b) (bt bl r:Nat) (T:Tb) (k:Int):FP 186 [iI k,pp bl,pp bt] [TlA q t,PkE bt q bl r T]
  (Ps (.bool (A6 t T k)) [TlA q t,PkE bt q bl r T]):=by
 refine FE [0,4,3] Tryz.func186 λX F hX=>?_;refine J.turn1 [2] rfl (λh s=>PkE_un.1 s) rfl ?_;refine J.qp (E5 r T k) [4] λ_=>?_;refine J.q λ_=>?_;cases hc:decide (T.count k>0)with
 | false=>
  refine J.v (.bool false) rfl rfl (λhg a w he hs=>absurd hg (by simp[G.on])) ?_;refine J.q λ_=>?_;refine J.turn1 [2,3,4] rfl (λh s=>PkE_un.2 s) rfl ?_;refine J.qr [1,2] λ_=>?_;exact⟨by simp only[A6,hc];rfl,rfl⟩
 | true=>
  refine J.qp (a8h q t hb hl k) [1] λ_=>?_;refine J.q λ_=>?_;refine J.turn1 [2,3,4] rfl (λh s=>PkE_un.2 s) rfl ?_;refine J.qr [1,2] λ_=>?_;exact⟨by simp only[A6,hc],rfl⟩
def b2q (p:Int->Bool) (l:List Int):Int:=match l.findIdx? p with
 | some k=>k
 | none=> -1
theorem a9Q {p:Int->Bool} {l:List Int} {k:Nat} {x:Int} (h:l[k]? =some x) (h0:∀i<k,p (l.getD i 0)=false) (hp:p x=true):l.findIdx? p=some k:=by
 rw[List.findIdx?_eq_some_iff_getElem];obtain⟨h1,h2⟩:=List.getElem?_eq_some_iff.1 h;refine⟨h1,by rw[h2];exact hp,λj hj=>?_⟩;have:=h0 j hj;rw[List.getD_eq_getElem?_getD,List.getElem?_eq_getElem (by omega),Option.getD_some]at this;simp[this]
theorem a9R {p:Int->Bool} {l:List Int} (h0:∀i<l.length,p (l.getD i 0)=false):l.findIdx? p=none:=by
 rw[List.findIdx?_eq_none_iff];intro x hx;obtain⟨i,hi,rfl⟩:=List.mem_iff_getElem.1 hx;have:=h0 i hi
 rwa [List.getD_eq_getElem?_getD,List.getElem?_eq_getElem hi,Option.getD_some]at this
theorem b2p (p:Int->Bool) (l:List Int):decide (b2q p l>=0)=l.any p:=by
 unfold b2q;cases h:l.findIdx? p with
 | none=>
  rw[List.findIdx?_eq_none_iff]at h;have:l.any p=false:=by rw[List.any_eq_false];exactλx hx=>by simp[h x hx]
  rw[this];rfl
 | some k=>
  rw[List.findIdx?_eq_some_iff_getElem]at h;obtain⟨h1,h2,_⟩:=h;have:l.any p=true:=List.any_eq_true.2 ⟨l[k],List.getElem_mem _,h2⟩;rw[this];simp
theorem b0v (c:Nat) (cs:List Value) (p:Int->Bool) (A:Atom) (hcal:n5 Tryz.prog c=true) (l:List Int) (hf:∀x∈l,Fn Tryz.prog c (iI x::cs) [A] (Ps (.bool (p x)) [A]))
  (a:Option Nat) (n cap:Nat) (hl:l.length=n) (hn:n<=4611686018427387904):FP 201 [slv a n cap,fnC c cs] [c9 3 1 a n cap (f8 l),A]
  (Ps (iI (b2q p l)) [c9 3 1 a n cap (f8 l),A]):=by
 refine FE [0,0] Tryz.func201 λX F hX=>?_;refine J.q λ_=>?_;refine J.l (α:=Nat) (λk=>k<=n/\∀i<k,p (l.getD i 0)=false) (λk=>[si 8 k,si 7 n,sv 0 (slv a n cap),⟨1,fnC c cs,0, .tt⟩]) [] (λk=>[]) (λk=>n-k) (0) (⟨by omega,by omega⟩) λk hI=>?_;refine J.qd (λ_ h1=>?_) λ_ h1=>?_
 ·simp only[decide_eq_true_eq,Int.ofNat_lt]at h1;cases a with
  | none=>
   refine J.know (λh' s=>(s.get (i:=1) rfl).2.1) λhn0=>?_;omega
  | some g=>
   have hk:l[k]? =some (l.getD k 0):=by rw[List.getD_eq_getElem?_getD,List.getElem?_eq_getElem (by omega),Option.getD_some]
   refine J.q λ_=>?_;refine J.v (iI (l.getD k 0)) rfl rfl (λhg a w he hs=>?_) ?_
   ·exact j9 tk rfl rfl he rfl rfl rfl (hs.get (i:=1) rfl) (by rw[show 0+(k:Int).toNat*1=k from by omega,f8,List.getElem?_map,hk];rfl)
   refine J.q λ_=>?_;refine J.call hX hcal (hf (l.getD k 0) (List.mem_of_getElem? hk)) [2] 0 rfl rfl rfl rfl (by(repeat' (first | exact Conj.nil | refine Conj.cons ?_ ?_ | omega | exact hq0 | (simpa using hq0) | (exactλh=>h) | exact rfl | (intro hq;have hq0:=hq;try simp only[Bool.and_eq_true,Bool.or_eq_true,decide_eq_true_eq,Bool.not_eq_true',decide_eq_false_iff_not]at hq) | (simp;done) | (simp;omega) | decide))) rfl rfl (λ_=>rfl) ?_;refine cpq ⟨_,rfl,trivial,?_⟩;refine J.qd (λ_ h2=>?_) λ_ h2=>?_
   ·refine J.qr [1,2] λ_=>?_;exact⟨by rw[b2q,a9Q hk hI.2 h2],rfl⟩
   ·refine J.q λ_=>?_;refine J.nx (k+1) (⟨by omega,λi hi=>by
     rcases Nat.lt_succ_iff_lt_or_eq.1 hi with h3 | h3
     ·exact hI.2 i h3
     ·rw[h3];exact h2⟩) (by omega) (λ_ s=>s)
 ·simp only[decide_eq_false_iff_not,Int.ofNat_lt]at h1;refine J.qr [1,2] λ_=>?_;exact⟨by rw[b2q,a9R (λi hi=>hI.2 i (by omega))],rfl⟩
theorem a1p (c:Nat) (cs:List Value) (p:Int->Bool) (A:Atom) (hcal:n5 Tryz.prog c=true) (l:List Int) (hf:∀x∈l,Fn Tryz.prog c (iI x::cs) [A] (Ps (.bool (p x)) [A]))
  (a:Option Nat) (n cap:Nat) (hl:l.length=n) (hn:n<=4611686018427387904):FP 150 [slv a n cap,fnC c cs] [c9 3 1 a n cap (f8 l),A]
  (Ps (.bool (l.any p)) [c9 3 1 a n cap (f8 l),A]):=by
 refine FE [0,0] Tryz.func150 λX F hX=>?_;refine J.qp (b0v c cs p A hcal l hf a n cap hl hn) [1,2] λ_=>?_;refine J.qr [1,2] λ_=>?_;exact⟨by rw[<- b2p],rfl⟩
theorem b1u (q:Nat) (t:Tl) (hb:t.b<=1000) (hl:t.l.length=t.b) (r:Nat) (T:Tb) (o:Int):FP 185 [pp q,pp r,iI o] [TlA q t,TbA r T]
  (λv As=>∃a c,v=slv a (f6 (y0 t T) o t.b).length c/\As=[TlA q t,TbA r T,c9 3 1 a (f6 (y0 t T) o t.b).length c (f8 (f6 (y0 t T) o t.b))]):=by
 refine FE [2,3,0] Tryz.func185 λX F hX=>?_;refine J.q λbb=>?_;refine J.turn1 [3,4,2] rfl (As:=[PkE (bb 0) q (bb (0+1)) r T]) (λh s=>PkE_un.2 s) rfl ?_;refine J.qc (a5o q t hb o 225 [pp (bb 0),pp (bb (0+1))] (y0 t T) (PkE (bb 0) q (bb (0+1)) r T) (by kernel_rfl) (λx=>b3J q t hb hl (bb 0) (bb (0+1)) r T x)) [1,3] λ_=>?_;rintro v As ⟨a,c,rfl,rfl⟩;refine⟨_,rfl,trivial,?_⟩;refine J.turn1 [3] rfl (λh s=>PkE_un.1 s) rfl ?_;refine J.qr [1,7,5] λ_=>?_;exact⟨a,c,rfl,rfl⟩
theorem b1w (q:Nat) (t:Tl) (hb:t.b<=1000) (hl:t.l.length=t.b) (r:Nat) (T:Tb) (o:Int):FP 129 [pp q,pp r,iI o] [TlA q t,TbA r T]
  (λv As=>v=iI (f6 (y0 t T) o t.b).length/\As=[TlA q t,TbA r T]):=by
 refine FE [2,3,0] Tryz.func129 λX F hX=>?_;refine J.qc (b1u q t hb hl r T o) [1,2] λ_=>?_;rintro v As ⟨a,c,rfl,rfl⟩;refine⟨_,rfl,trivial,?_⟩;exact J.qx [1,2]
theorem b3M (q:Nat) (t:Tl) (hb:t.b<=1000) (hl:t.l.length=t.b) (bt:Nat) (x y:Int):FP 228 [iI x,iI y,pp bt] [.pt bt 101 [pp q],TlA q t]
  (λv As=>v=iI (B4 (t.wear x) (t.wear y))/\As=[.pt bt 101 [pp q],TlA q t]):=by
 refine FE [0,0,2] Tryz.func228 λX F hX=>?_;refine J.p (.of [1,4,13,16,10,23,27,28]) [5,6,7] [1,2] λ_=>?_;refine J.qp (a0p q t hb hl x) [2] λ_=>?_;refine J.qp (a0p q t hb hl y) [2] λ_=>?_;refine J.qp (J3 (t.wear x) (t.wear y)) [] λ_=>?_;exact J.qx [1,2]
theorem a7v (q:Nat) (t:Tl) (hb:t.b<=1000) (hl:t.l.length=t.b) (r:Nat) (T:Tb) (o:Int):FP 192 [pp q,pp r,iI o] [TlA q t,TbA r T]
  (λv As=>v=iI (E7 (λx y=>B4 (t.wear x) (t.wear y)) (f6 (y0 t T) o t.b))/\As=[TlA q t,TbA r T]):=by
 have hlen:=E8 (y0 t T) o t.b;refine FE [2,3,0] Tryz.func192 λX F hX=>?_;refine J.q λbb=>?_;refine J.cb (b1u q t hb hl r T o) [1,2] ?_;rintro v As ⟨a,c,rfl,rfl⟩;refine⟨_,rfl,trivial,?_⟩;refine J.q λ_=>?_;refine J.turn1 [3,1] rfl (As:=[.hp (HP.of [.pt (bb 0) 101 [pp q],TlA q t])]) (λh s=>Sep.hpOf.2 s) rfl ?_;refine J.q λ_=>?_;refine J.ca hX (by kernel_rfl) (a8p 228 [pp (bb 0)] (λx y=>B4 (t.wear x) (t.wear y)) _ (by kernel_rfl) (λx y=>Fn.pack (b3M q t hb hl (bb 0) x y)) a c (f6 (y0 t T) o t.b) (by omega)) [4,3] 0 rfl rfl rfl rfl rfl rfl (λ_=>rfl) ?_;refine cpq ⟨_,rfl,trivial,?_⟩;refine J.turn1 [3] rfl (As:=[.pt (bb 0) 101 [pp q],TlA q t]) (λh s=>Sep.hpOf.1 s) rfl ?_;exact J.qx [5,2]
theorem b6F (b:Nat) (x y:Int):FP 189 [.slice (some ⟨b,0,none⟩) 2 2] [.pt b 3 [iI x,iI y]] (λv As=>v=iI (orI [x,y])/\As=[.pt b 3 [iI x,iI y]]):=by
 refine FE [2] Tryz.func189 λX F hX=>?_;refine J.q λ_=>?_;refine J.l (α:=Nat) (λk=>k<=2/\orI ([x,y].drop k)=orI [x,y]) (λk=>[si 8 k,si 7 2,⟨6, .slice (some ⟨b,0,none⟩) 2 2,2, .tt⟩,si 3 0]) [] (λk=>[]) (λk=>2-k) (0) (⟨by omega,rfl⟩) λk hI=>?_;refine J.qd (λ_ h1=>?_) λ_ h1=>?_
 ·simp only[decide_eq_true_eq]at h1;obtain⟨v,hv⟩:∃v,([x,y]:List Int)[k]? =some v:=⟨_,List.getElem?_eq_getElem (by simp;omega)⟩;have hd:([x,y]:List Int).drop k=v::([x,y]:List Int).drop (k+1):=by
   obtain⟨h2,h3⟩:=List.getElem?_eq_some_iff.1 hv;rw[List.drop_eq_getElem_cons h2,h3]
  refine J.q λ_=>?_;refine J.v (iI v) rfl rfl (λhg a w he hs=>?_) ?_
  ·exact j3 tk rfl rfl he rfl rfl rfl (hs.get (i:=1) rfl) (by
    rw[show 0+(k:Int).toNat*1=k from by omega,show([iI x,iI y]:List Value)=([x,y]:List Int).map (.int .i64)from rfl,List.getElem?_map,hv];rfl)
  refine J.qd (λ_ h2=>?_) λ_ h2=>?_
  ·simp only[bne_iff_ne,ne_eq]at h2;refine J.qr [1] λ_=>?_;refine⟨?_,rfl⟩;rw[<- hI.2,hd];simp[orI,h2]
  ·simp only[bne_eq_false_iff_eq]at h2;refine J.q λ_=>?_;refine J.nx (k+1) (⟨by omega,by rw[<- hI.2,hd,orI,if_neg (by simp[h2])]⟩) (by omega) (λ_ s=>s)
 ·simp only[decide_eq_false_iff_not]at h1;refine J.qr [1] λ_=>?_;refine⟨?_,rfl⟩;rw[<- hI.2,List.drop_of_length_le (by simp;omega)];rfl
theorem a9q (q:Nat) (t:Tl) (hb:t.b<=1000) (hl:t.l.length=t.b) (bt bl r:Nat) (T:Tb) (x y:Int):FP 188 [iI x,iI y,pp bl,pp bt] [TlA q t,PkE bt q bl r T]
  (λv As=>v=iI (orI [B4 (T.count x) (T.count y),B4 (t.wear x) (t.wear y)])/\As=[TlA q t,PkE bt q bl r T]):=by
 refine FE [0,0,4,3] Tryz.func188 λX F hX=>?_;refine J.turn1 [2] rfl (λh s=>PkE_un.1 s) rfl ?_;refine J.p (.of [1,4,13,16,29,32,41,44,10,22,26,38,51,55,59,63,64]) [12,13,14,15,16] [1,2,3,4] λ_=>?_;refine J.qp (E5 r T x) [4] λ_=>?_;refine J.qp (E5 r T y) [4] λ_=>?_;refine J.qp (J3 (T.count x) (T.count y)) [] λ_=>?_;refine J.qp (a0p q t hb hl x) [1] λ_=>?_;refine J.qp (a0p q t hb hl y) [1] λ_=>?_;refine J.qp (J3 (t.wear x) (t.wear y)) [] λ_=>?_;refine J.q λbs=>?_;refine J.cb (b6F (bs 0) (B4 (T.count x) (T.count y)) (B4 (t.wear x) (t.wear y))) [5] ?_;refine cpq ⟨_,rfl,stq,?_⟩;refine J.q λ_=>?_;refine J.turn1 [2,3,4] rfl (λh s=>PkE_un.2 s) rfl ?_;exact J.qx [1,2]
theorem a6v (q:Nat) (t:Tl) (hb:t.b<=1000) (hl:t.l.length=t.b) (r:Nat) (T:Tb) (o:Int):FP 130 [pp q,pp r,iI o] [TlA q t,TbA r T]
  (λv As=>v=iI (E7 (λx y=>orI [B4 (T.count x) (T.count y),B4 (t.wear x) (t.wear y)]) (f6 (A6 t T) o t.b))/\As=[TlA q t,TbA r T]):=by
 have hlen:=E8 (A6 t T) o t.b;refine FE [2,3,0] Tryz.func130 λX F hX=>?_;refine J.q λbb=>?_;refine J.turn1 [3,4,2] rfl (As:=[PkE (bb 0) q (bb (0+1)) r T]) (λh s=>PkE_un.2 s) rfl ?_;refine J.qc (a5o q t hb o 186 [pp (bb (0+1)),pp (bb 0)] (A6 t T) (PkE (bb 0) q (bb (0+1)) r T) (by kernel_rfl) (λx=>b3I q t hb hl (bb 0) (bb (0+1)) r T x)) [1,3] λ_=>?_;rintro v As ⟨a,c,rfl,rfl⟩;refine⟨_,rfl,trivial,?_⟩;refine J.q λ_=>?_;refine J.turn1 [1,3] rfl (As:=[.hp (HP.of [TlA q t,PkE (bb 0) q (bb (0+1)) r T])]) (λh s=>Sep.hpOf.2 s) rfl ?_;refine J.q λ_=>?_;refine J.ca hX (by kernel_rfl) (a8p 188 [pp (bb (0+1)),pp (bb 0)] (λx y=>orI [B4 (T.count x) (T.count y),B4 (t.wear x) (t.wear y)]) _ (by kernel_rfl) (λx y=>Fn.pack (a9q q t hb hl (bb 0) (bb (0+1)) r T x y)) a c (f6 (A6 t T) o t.b) (by omega)) [5,1] 0 rfl rfl rfl rfl rfl rfl (λ_=>rfl) ?_;refine cpq ⟨_,rfl,trivial,?_⟩;refine J.turn1 [1] rfl (As:=[TlA q t,PkE (bb 0) q (bb (0+1)) r T]) (λh s=>Sep.hpOf.1 s) rfl ?_;refine J.turn1 [6] rfl (λh s=>PkE_un.1 s) rfl ?_;exact J.qx [1,8]
theorem a8q (q:Nat) (t:Tl) (hb:t.b<=1000) (hl:t.l.length=t.b) (r:Nat) (T:Tb) (o:Int):FP 127 [pp q,pp r,iI o] [TlA q t,TbA r T]
  (λv As=>∃a c,v=slv a (f6 (j4 t T) o t.b).length c/\As=[TlA q t,TbA r T,c9 3 1 a (f6 (j4 t T) o t.b).length c (f8 (f6 (j4 t T) o t.b))]):=by
 refine FE [2,3,0] Tryz.func127 λX F hX=>?_;refine J.q λbb=>?_;refine J.turn1 [3,4,2] rfl (As:=[PkE (bb 0) q (bb (0+1)) r T]) (λh s=>PkE_un.2 s) rfl ?_;refine J.qc (a5o q t hb o 179 [pp (bb 0),pp (bb (0+1))] (j4 t T) (PkE (bb 0) q (bb (0+1)) r T) (by kernel_rfl) (λx=>b1t q t hb hl (bb 0) (bb (0+1)) r T x)) [1,3] λ_=>?_;rintro v As ⟨a,c,rfl,rfl⟩;refine⟨_,rfl,trivial,?_⟩;refine J.turn1 [3] rfl (λh s=>PkE_un.1 s) rfl ?_;refine J.qr [1,7,5] λ_=>?_;exact⟨a,c,rfl,rfl⟩
def a2H (t:Tl) (T:Tb) (b i:Int):Bool:=IntKind.i64.wrap ((BitVec.ofInt IntKind.i64.bits ((Tb.look T.at_ i).getD AtV.zero).mask&&& BitVec.ofInt IntKind.i64.bits (Tl.andN (L.all t.d) (t.mask b))).toNat:Int) !=0
theorem b3N (q:Nat) (t:Tl) (hb:t.b<=1000) (hl:t.l.length=t.b) (bt bl bb r:Nat) (T:Tb) (b i:Int):FP 152 [iI i,pp bl,pp bt,pp bb] [TlA q t, .pt bt 101 [pp q], .pt bl 102 [pp r],TbA r T, .pt bb 3 [iI b]]
  (λv As=>v= .bool (a2H t T b i)/\As=[TlA q t, .pt bt 101 [pp q], .pt bl 102 [pp r],TbA r T, .pt bb 3 [iI b]]):=by
 refine FE [0,4,3,6] Tryz.func152 λX F hX=>?_;refine J.qp (a0V r T i) [4] λ_=>?_;refine J.p (.of [1,17,21,6,8,14,27,28,32]) [6,7,8] [1,2,3,4,5] λ_=>?_;refine J.qp (a2m q t) [1] λ_=>?_;refine J.qp (a6J t.d) [] λ_=>?_;refine J.qp (P5 q t hb hl b) [1] λ_=>?_;exact J.qx [1,2,3,4,5]
def I8 (t:Tl) (T:Tb) (b:Int):Bool:=(T.ins b).any (a2H t T b)
theorem b3O (q:Nat) (t:Tl) (hb:t.b<=1000) (hl:t.l.length=t.b) (bt bl r:Nat) (T:Tb) (n:Nat) (hlog:T.logical=(n:Int)) (hn:n<=65536) (b:Int):FP 149 [iI b,pp bl,pp bt] [TlA q t,PkE bt q bl r T]
  (λv As=>v= .bool (I8 t T b)/\As=[TlA q t,PkE bt q bl r T]):=by
 have hlen:(T.ins b).length<=65536:=by
  unfold Tb.ins;split
  ·simp
  ·refine Nat.le_trans (T.inK_len b _) ?_;rw[hlog];omega
 refine FE [0,4,3] Tryz.func149 λX F hX=>?_;refine J.turn1 [2] rfl (λh s=>PkE_un.1 s) rfl ?_;refine J.q λbb=>?_;refine J.cb (b0T r T n hlog hn b) [4] ?_;rintro v As ⟨a,c,rfl,rfl⟩;refine⟨_,rfl,trivial,?_⟩;refine J.q λ_=>?_;refine J.turn1 [1,2,3,4,5] rfl (As:=[.hp (HP.of [TlA q t, .pt bt 101 [pp q], .pt bl 102 [pp r],TbA r T, .pt (bb 0) 3 [iI b]])]) (λh s=>Sep.hpOf.2 s) rfl ?_;refine J.q λ_=>?_;refine J.ca hX (by kernel_rfl) (a1p 152 [pp bl,pp bt,pp (bb 0)] (a2H t T b) _ (by kernel_rfl) (T.ins b) (λi _=>Fn.pack (b3N q t hb hl bt bl (bb 0) r T b i)) a (T.ins b).length c rfl (by omega)) [6,1] 0 rfl rfl rfl rfl rfl rfl (λ_=>rfl) ?_;refine cpq ⟨_,rfl,trivial,?_⟩;refine J.turn1 [1] rfl (As:=[TlA q t, .pt bt 101 [pp q], .pt bl 102 [pp r],TbA r T, .pt (bb 0) 3 [iI b]]) (λh s=>Sep.hpOf.1 s) rfl ?_;refine J.turn1 [7,8,9] rfl (λh s=>PkE_un.2 s) rfl ?_;exact J.qx [1,7]
theorem a7w (q:Nat) (t:Tl) (hb:t.b<=1000) (hl:t.l.length=t.b) (r:Nat) (T:Tb) (n:Nat) (hlog:T.logical=(n:Int)) (hn:n<=65536):FP 100 [pp q,pp r] [TlA q t,TbA r T]
  (λv As=>∃a c,v=slv a (f6 (I8 t T) (-1) t.b).length c/\As=[TlA q t,TbA r T,c9 3 1 a (f6 (I8 t T) (-1) t.b).length c (f8 (f6 (I8 t T) (-1) t.b))]):=by
 refine FE [2,3] Tryz.func100 λX F hX=>?_;refine J.q λbb=>?_;refine J.turn1 [3,4,2] rfl (As:=[PkE (bb 0) q (bb (0+1)) r T]) (λh s=>PkE_un.2 s) rfl ?_;refine J.qc (a5o q t hb (-1) 149 [pp (bb (0+1)),pp (bb 0)] (I8 t T) (PkE (bb 0) q (bb (0+1)) r T) (by kernel_rfl) (λx=>b3O q t hb hl (bb 0) (bb (0+1)) r T n hlog hn x)) [1,3] λ_=>?_;rintro v As ⟨a,c,rfl,rfl⟩;refine⟨_,rfl,trivial,?_⟩;refine J.turn1 [3] rfl (λh s=>PkE_un.1 s) rfl ?_;refine J.qr [1,7,5] λ_=>?_;exact⟨a,c,rfl,rfl⟩
end Go.Proofs.YtpohajhbfllbbaaGreat
namespace Go.Proofs.YtpohajhbfllbbaaGreat
namespace Tb
def cntB (l:List (Int×AtV)) (b:Int):Nat:=l.countP λx=>x.2.block==b
structure Ok (t:Tb):Prop where
 keys:(t.at_.map (·.1)).Nodup
 rng:∀x∈t.at_,0<=x.1/\x.1<t.logical
 cnt:∀b,t.count b=(cntB t.at_ b:Int)
 log:0<=t.logical/\t.logical<=65536
theorem look_none {α:Type} {k:Int}:∀{l:List (Int×α)},look l k=none↔k∉l.map (·.1)
 | []=>by simp[look]
 | x::l=>by
  simp only[look,List.map_cons,List.mem_cons,not_or];split
  ·rename_i h;simp[h]
  ·rename_i h;rw[look_none];simp[h]
theorem look_mem {α:Type} {k:Int} {a:α}:∀{l:List (Int×α)},look l k=some a->(k,a)∈l
 | [],h=>by simp[look]at h
 | x::l,h=>by
  simp only[look]at h;split at h
  ·rename_i e;injection h with h;subst h;subst e;exact List.mem_cons_self ..
  ·exact List.mem_cons_of_mem _ (look_mem h)
theorem put1_new {α:Type} {k:Int} {v:α}:∀{l:List (Int×α)},look l k=none->put1 l k v=l++[(k,v)]
 | [],_=>rfl
 | x::l,h=>by
  simp only[look]at h;split at h
  ·cases h
  ·rename_i e;simp only[put1,if_neg e,put1_new h,List.cons_append]
theorem put1_keys {α:Type} {k:Int} {v:α}:∀{l:List (Int×α)},(look l k).isSome=true->(put1 l k v).map (·.1)=l.map (·.1)
 | [],h=>by simp[look]at h
 | x::l,h=>by
  simp only[look]at h;simp only[put1];split
  ·rename_i e;simp[e]
  ·rename_i e;rw[if_neg e]at h;simp only[List.map_cons,put1_keys h]
theorem cntB_put {k:Int} {v:AtV} (b:Int):∀{l:List (Int×AtV)},(l.map (·.1)).Nodup->(cntB (put1 l k v) b:Int)=(cntB l b:Int)-(match look l k with | some a=>if a.block=b then 1 else 0 | none=>0)+(if v.block=b then 1 else 0)
 | [],_=>by simp[put1,look,cntB];split<;>simp_all
 | x::l,h=>by
  simp only[put1,look]
  by_cases e:k=x.1
  ·rw[if_pos e,if_pos e];simp only[cntB,List.countP_cons,beq_iff_eq];split<;>split<;>omega
  ·rw[if_neg e,if_neg e];have:=cntB_put (k:=k) (v:=v) b (l:=l) (by simp only[List.map_cons,List.nodup_cons]at h;exact h.2);simp only[cntB,List.countP_cons]at this ⊢;rw[Int.natCast_add,Int.natCast_add,this];omega
theorem count_put1 (c:List (Int×Int)) (k v b:Int):(look (put1 c k v) b).getD 0=if b=k then v else(look c b).getD 0:=by
 rw[look_put1];split<;>rfl
theorem ok_spec {t:Tb} {e:En} (h:t.ok e=true):0<=e.lpn/\e.lpn<t.logical:=by
 simp only[ok,Bool.not_eq_true',Bool.or_eq_false_iff,decide_eq_false_iff_not]at h;omega
theorem Ok.new (n:Int):(Tb.new n).Ok:=⟨by simp[Tb.new],by simp[Tb.new],λb=>rfl,by simp only[Tb.new];omega⟩
theorem Ok.put {t:Tb} (h:t.Ok) (e:En) (b r s m:Int):(t.put e b r s m).Ok:=by
 unfold Tb.put;split
 ·rename_i hp;simp only[putB,Bool.and_eq_true]at hp;have ho:=ok_spec hp.1;have hk:(put1 t.at_ e.lpn ⟨b,r,s,m,e.seq,e.role⟩).map (·.1)=t.at_.map (·.1)\/look t.at_ e.lpn=none/\(put1 t.at_ e.lpn ⟨b,r,s,m,e.seq,e.role⟩).map (·.1)=t.at_.map (·.1)++[e.lpn]:=by
   cases hl:look t.at_ e.lpn with
   | none=>right;exact⟨rfl,by rw[put1_new hl];simp⟩
   | some a=>left;exact put1_keys (by rw[hl];rfl)
  refine⟨?_,?_,?_,h.log⟩
  ·rcases hk with hk | ⟨hn,hk⟩
   ·show((put1 _ _ _).map _).Nodup;rw[hk];exact h.keys
   ·show((put1 _ _ _).map _).Nodup;rw[hk,List.nodup_append];exact⟨h.keys,by simp,λa ha c hc=>by simp at hc;subst hc;exactλe=>look_none.1 hn (e▸ha)⟩
  ·intro x hx;have hx:x.1∈(put1 t.at_ e.lpn ⟨b,r,s,m,e.seq,e.role⟩).map (·.1):=List.mem_map_of_mem hx;have hr:∀k∈t.at_.map (·.1),0<=k/\k<t.logical:=λk hk=>by
    obtain⟨y,hy,rfl⟩:=List.mem_map.1 hk;exact h.rng y hy
   rcases hk with hk | ⟨_,hk⟩
   ·rw[hk]at hx;exact hr _ hx
   ·rw[hk,List.mem_append]at hx;rcases hx with hx | hx
    ·exact hr _ hx
    ·simp at hx;rw[hx];exact ho
  ·intro c;show(look (cnt2 t e b) c).getD 0=(cntB (put1 t.at_ e.lpn ⟨b,r,s,m,e.seq,e.role⟩) c:Int);rw[cntB_put c h.keys];have h1:∀d,(look (cnt1 t e) d).getD 0=(cntB t.at_ d:Int)-(match look t.at_ e.lpn with | some a=>if a.block=d then 1 else 0 | none=>0):=by
    intro d;have hd:(look t.cnt d).getD 0=(cntB t.at_ d:Int):=h.cnt d;unfold cnt1;cases hl:look t.at_ e.lpn with
    | none=>dsimp only;rw[hd];omega
    | some a=>
     dsimp only;rw[count_put1];split
     ·rename_i e1;subst e1;rw[if_pos rfl,h.cnt]
     ·rename_i e1;rw[if_neg (λe=>e1 e.symm),hd];omega
   unfold cnt2;rw[count_put1,h1 b,h1 c];dsimp only
   by_cases e1:c=b
   ·subst e1;rw[if_pos rfl,if_pos rfl]
   ·rw[if_neg e1,if_neg (λe=>e1 e.symm)];omega
 ·exact h
theorem countP_one {p q:Nat->Bool} {i0:Nat} (h1:∀i,i≠i0->p i=q i) (h2:q i0=false):∀n,(List.range n).countP p=(List.range n).countP q+(if i0<n/\p i0=true then 1 else 0)
 | 0=>by simp
 | n+1=>by
  rw[List.range_succ,List.countP_append,List.countP_append,countP_one h1 h2 n];simp only[List.countP_singleton]
  by_cases e:n=i0
  ·subst e;rw[h2];cases p n<;>simp
  ·rw[h1 n e]
   by_cases e2:i0<n
   ·simp[e2,show i0<n+1 by omega];omega
   ·simp[e2,show¬i0<n+1 by omega]
theorem at_cnt {α:Type} (n:Nat):∀l:List (Int×α),(l.map (·.1)).Nodup->(∀x∈l,0<=x.1/\x.1<(n:Int))->l.length=(List.range n).countP λi:Nat=>(look l (i:Int)).isSome
 | [],_,_=>by simp[look]
 | x::l,h1,h2=>by
  simp only[List.map_cons,List.nodup_cons]at h1;have ih:=at_cnt n l h1.2 (λy hy=>h2 y (List.mem_cons_of_mem _ hy));have hx:=h2 x (List.mem_cons_self ..);have hn:look l x.1=none:=look_none.2 h1.1;rw[countP_one (q:=λi:Nat=>(look l (i:Int)).isSome) (i0:=x.1.toNat)]
  ·rw[<- ih];have:((x.1.toNat:Nat):Int)=x.1:=by omega
   simp only[this,look,if_true,Option.isSome_some,and_true,List.length_cons];rw[if_pos (by omega)]
  ·intro i hi;simp only[look];rw[if_neg (by omega)]
  ·have:((x.1.toNat:Nat):Int)=x.1:=by omega
   simp only[this,hn];rfl
theorem len_le {α:Type} (n:Nat) (l:List (Int×α)) (h1:(l.map (·.1)).Nodup) (h2:∀x∈l,0<=x.1/\x.1<(n:Int)):l.length<=n:=by
 rw[at_cnt n l h1 h2];have:=List.countP_le_length (p:=λi:Nat=>(look l (i:Int)).isSome) (l:=List.range n)
 rwa [List.length_range]at this
theorem Ok.len {t:Tb} (h:t.Ok):t.at_.length<=65536:=by
 have:=len_le t.logical.toNat t.at_ h.keys (λx hx=>by have:=h.rng x hx;omega);have:=h.log;omega
theorem Ok.bd {t:Tb} (h:t.Ok) (k:Int):0<=t.count k/\t.count k<=1000000:=by
 rw[h.cnt];have:cntB t.at_ k<=t.at_.length:=List.countP_le_length;have:=h.len;omega
theorem range_cnt (b:Int) (n:Nat):∀l:List (Int×AtV),(l.map (·.1)).Nodup->(∀x∈l,0<=x.1/\x.1<(n:Int))->(List.range n).countP (λi:Nat=>match look l (i:Int)with | some a=>a.block==b | none=>false)=cntB l b
 | [],_,_=>by simp[look,cntB]
 | x::l,h1,h2=>by
  simp only[List.map_cons,List.nodup_cons]at h1;have ih:=range_cnt b n l h1.2 (λy hy=>h2 y (List.mem_cons_of_mem _ hy));have hx:=h2 x (List.mem_cons_self ..);have hn:look l x.1=none:=look_none.2 h1.1;rw[countP_one (q:=λi:Nat=>match look l (i:Int)with | some a=>a.block==b | none=>false) (i0:=x.1.toNat)]
  ·rw[ih,cntB,cntB,List.countP_cons];have:((x.1.toNat:Nat):Int)=x.1:=by omega
   simp only[this,look,if_true];have hlt:x.1.toNat<n:=by omega
   simp only[hlt,true_and]
  ·intro i hi;simp only[look];rw[if_neg (by omega)]
  ·have:((x.1.toNat:Nat):Int)=x.1:=by omega
   simp only[this,hn]
theorem Ok.inK_len {t:Tb} (h:t.Ok) (b:Int):((inK t b t.logical.toNat).length:Int)=t.count b:=by
 rw[h.cnt,inK,List.length_map,<- List.countP_eq_length_filter,<- range_cnt b t.logical.toNat t.at_ h.keys (λx hx=>by have:=h.rng x hx;omega)];rfl
theorem Ok.ins {t:Tb} (h:t.Ok) (b:Int):t.ins b=inK t b t.logical.toNat:=by
 unfold Tb.ins;split
 ·rename_i h0;have:=h.inK_len b;rw[h0]at this;have:(inK t b t.logical.toNat).length=0:=by omega
  exact(List.eq_nil_of_length_eq_zero this).symm
 ·rfl
theorem Ok.ins_len {t:Tb} (h:t.Ok) (b:Int):((t.ins b).length:Int)=t.count b:=by rw[h.ins,h.inK_len]
theorem put_logical (t:Tb) (e:En) (b r s m:Int):(t.put e b r s m).logical=t.logical:=by unfold Tb.put;split<;>rfl
end Tb
end Go.Proofs.YtpohajhbfllbbaaGreat
