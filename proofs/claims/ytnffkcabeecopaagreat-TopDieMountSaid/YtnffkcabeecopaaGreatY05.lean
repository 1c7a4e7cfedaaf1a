/- Helpers. No condition. -/
import Derived.Test.YtnffkcabeecopaaGreatY01
import Derived.Test.YtnffkcabeecopaaGreatY03
import Derived.Test.YtnffkcabeecopaaGreatY04
import Derived.Shelf.GgSortFunc.InsertionK
import Derived.Sort.Grow
import Derived.Shelf.SlLaysF0
import Derived.Shelf.SlSortCmp.WholeK
set_option maxRecDepth 20000
set_option linter.all false
namespace Go.Proofs.YtnffkcabeecopaaGreat
open Go Go.RowKit
theorem M4 {N:Nand} {Y:NLoc} {i j:Nat} (hi:i<N.dies) (hj:j<N.blocks):y7 (Z5 N.blocks (N.dies*N.blocks) Y.bp) ((i:Int),(j:Int),0)=some (pp (Y.bp (i*N.blocks+j))):=by
 rw[a8R _ _ _ _ hj,if_pos (a3x hi hj)]
theorem a5D {N:Nand} {Y:NLoc} {x y:Int} (hb:0<N.blocks) (h:¬(0<=x/\x<N.dies/\0<=y/\y<N.blocks)):y7 (Z5 N.blocks (N.dies*N.blocks) Y.bp) (x,y,0)=none:=by
 refine a4d _ hb _ _ _ λi j hij hj e=>h ?_;simp only[Prod.mk.injEq]at e;have hi:i<N.dies:=by
  rcases Nat.lt_or_ge i N.dies with h | h
  ·exact h
  ·have:=Nat.mul_le_mul_right N.blocks h;omega
 omega
theorem b2B (p:Nat) (N:Nand) (hN:N.Ok) (x y:Int):FP 131 [pp p,iI x,iI y] [i7 p N] (λv As=>v=iI (N.next x y)/\As=[i7 p N]):=by
 have hbd:=hN.bd
 by_cases hr:0<=x/\x<N.dies/\0<=y/\y<N.blocks
 ·obtain⟨i,rfl⟩:=Int.eq_ofNat_of_zero_le hr.1;obtain⟨j,rfl⟩:=Int.eq_ofNat_of_zero_le hr.2.2.1;have hi:i<N.dies:=by omega
  have hj:j<N.blocks:=by omega
  have hv:((N.next i j:Nat):Int)=((N.blk i j).cells.length:Nat):=by rw[Nand.next,if_pos (by omega)];rfl
  refine FE [2,0,0] Tryz.func131 λX F hX=>?_;refine J.o (α:=NLoc) 1 λY=>?_;refine J.openAt 5 (i*N.blocks+j) rfl rfl (K5 _ _ _ _ _ (a3x hi hj)) rfl ?_;rw[(H1 hj).1,(H1 hj).2];refine J.o (α:=(Option Nat×Nat)) 6 λc=>?_;refine J.p (.of [0,4,8,12,16,20,25,28,32,38,41,44,48]) [] [1,2,3,4,6,7] λ_=>?_;refine J.qp (S8 i j) [] λ_=>?_;refine J.valT hX (pp (Y.bp (i*N.blocks+j))) 7 rfl rfl (λ_ a w he hC=>?_) rfl ?_
  ·refine(m6 (key:=((i:Int),(j:Int),0)) J2 W1 (z:= .pointer none) (λw=>by kernel_rfl) rfl rfl rfl rfl he rfl rfl (hC rfl _ (j3 (i:=2) rfl))).trans ?_;simp only[M4 hi hj];rfl
  refine J.qF λ_=>?_;refine J.p (.of [0,4,8,13,16,20,26,29,32,36,41,44,48]) [12] [1,2,3,4,6,7] λ_=>?_;refine J.qp (S8 i j) [] λ_=>?_;refine J.valT hX (pp (Y.bp (i*N.blocks+j))) 7 rfl rfl (λ_ a w he hC=>?_) rfl ?_
  ·refine(m6 (key:=((i:Int),(j:Int),0)) J2 W1 (z:= .pointer none) (λw=>by kernel_rfl) rfl rfl rfl rfl he rfl rfl (hC rfl _ (j3 (i:=2) rfl))).trans ?_;simp only[M4 hi hj];rfl
  refine J.q λ_=>?_;refine J.closeN p N (N) Y i j hj (N.blk i j) _ [1,2,3,4,5,6,7] rfl rfl rfl rfl (C2 _ _ _) rfl ?_;refine J.qr [1] λ_=>?_;exact⟨by rw[hv],rfl⟩
 ·refine FE [2,0,0] Tryz.func131 λX F hX=>?_;refine J.o (α:=NLoc) 1 λY=>?_;refine J.p (.of [0,4,8,12,16,20,25,28,32,38,41,44,48]) [] [1,2,3,4] λ_=>?_;refine J.qp (S8 x y) [] λ_=>?_;refine J.vT (.pointer none) rfl rfl (λ_ a w he hC=>?_) ?_
  ·refine(m6 (key:=(x,y,0)) J2 W1 (z:= .pointer none) (λw=>by kernel_rfl) rfl rfl rfl rfl he rfl rfl (hC rfl _ (j3 (i:=2) rfl))).trans ?_;simp only[a5D (show 0<N.blocks by omega) hr];rfl
  refine J.qT λ_=>?_;refine J.q λ_=>?_;refine J.cl (I0 p N) (Y) [1,2,3,4,5] ?_;refine J.qr [1] λ_=>?_;exact⟨by simp[Nand.next,hr],rfl⟩
theorem a8u (p:Nat) (N:Nand) (hN:N.Ok) (x y:Int):FP 128 [pp p,iI x,iI y] [i7 p N] (λv As=>v=iI (N.wornAt x y)/\As=[i7 p N]):=by
 have hbd:=hN.bd
 by_cases hr:0<=x/\x<N.dies/\0<=y/\y<N.blocks
 ·obtain⟨i,rfl⟩:=Int.eq_ofNat_of_zero_le hr.1;obtain⟨j,rfl⟩:=Int.eq_ofNat_of_zero_le hr.2.2.1;have hi:i<N.dies:=by omega
  have hj:j<N.blocks:=by omega
  have hv:N.wornAt i j=(N.blk i j).worn:=by rw[Nand.wornAt,if_pos (by omega)];rfl
  refine FE [2,0,0] Tryz.func128 λX F hX=>?_;refine J.o (α:=NLoc) 1 λY=>?_;refine J.openAt 5 (i*N.blocks+j) rfl rfl (K5 _ _ _ _ _ (a3x hi hj)) rfl ?_;rw[(H1 hj).1,(H1 hj).2];refine J.o (α:=(Option Nat×Nat)) 6 λc=>?_;refine J.p (.of [0,4,8,12,16,20,25,28,32,38,41,44,48]) [] [1,2,3,4,6,7] λ_=>?_;refine J.qp (S8 i j) [] λ_=>?_;refine J.valT hX (pp (Y.bp (i*N.blocks+j))) 7 rfl rfl (λ_ a w he hC=>?_) rfl ?_
  ·refine(m6 (key:=((i:Int),(j:Int),0)) J2 W1 (z:= .pointer none) (λw=>by kernel_rfl) rfl rfl rfl rfl he rfl rfl (hC rfl _ (j3 (i:=2) rfl))).trans ?_;simp only[M4 hi hj];rfl
  refine J.qF λ_=>?_;refine J.p (.of [0,4,8,13,16,20,26,29,32,36,41,44]) [11] [1,2,3,4,6,7] λ_=>?_;refine J.qp (S8 i j) [] λ_=>?_;refine J.valT hX (pp (Y.bp (i*N.blocks+j))) 7 rfl rfl (λ_ a w he hC=>?_) rfl ?_
  ·refine(m6 (key:=((i:Int),(j:Int),0)) J2 W1 (z:= .pointer none) (λw=>by kernel_rfl) rfl rfl rfl rfl he rfl rfl (hC rfl _ (j3 (i:=2) rfl))).trans ?_;simp only[M4 hi hj];rfl
  refine J.q λ_=>?_;refine J.closeN p N (N) Y i j hj (N.blk i j) _ [1,2,3,4,5,6,7] rfl rfl rfl rfl (C2 _ _ _) rfl ?_;refine J.qr [1] λ_=>?_;exact⟨by rw[hv],rfl⟩
 ·refine FE [2,0,0] Tryz.func128 λX F hX=>?_;refine J.o (α:=NLoc) 1 λY=>?_;refine J.p (.of [0,4,8,12,16,20,25,28,32,38,41,44,48]) [] [1,2,3,4] λ_=>?_;refine J.qp (S8 x y) [] λ_=>?_;refine J.vT (.pointer none) rfl rfl (λ_ a w he hC=>?_) ?_
  ·refine(m6 (key:=(x,y,0)) J2 W1 (z:= .pointer none) (λw=>by kernel_rfl) rfl rfl rfl rfl he rfl rfl (hC rfl _ (j3 (i:=2) rfl))).trans ?_;simp only[a5D (show 0<N.blocks by omega) hr];rfl
  refine J.qT λ_=>?_;refine J.q λ_=>?_;refine J.cl (I0 p N) (Y) [1,2,3,4,5] ?_;refine J.qr [1] λ_=>?_;exact⟨by simp[Nand.wornAt,hr],rfl⟩
theorem Q6 (p:Nat) (N:Nand):FP 28 [pp p] [i7 p N] (λv As=>v= .agg #[iI N.dies,iI N.blocks,iI N.pages]/\As=[i7 p N]):=by
 refine FE [2] Tryz.func28 λX F hX=>?_;refine J.o (α:=NLoc) 1 λY=>?_;refine J.qF λ_=>?_;refine J.q λ_=>?_;refine J.cl (I0 p N) (Y) [1,2,3,4,5] ?_;exact J.qx [1]
theorem a0O (p:Nat) (N:Nand):FP 57 [pp p] [i7 p N] (λv As=>v= .bool (!N.off)/\As=[i7 p N]):=by
 refine FE [2] Tryz.func57 λX F hX=>?_;refine J.o (α:=NLoc) 1 λY=>?_;refine J.q λ_=>?_;refine J.cl (I0 p N) (Y) [1,2,3,4,5] ?_;refine J.qr [1] λ_=>?_;exact⟨by simp,rfl⟩
theorem b2A (p:Nat) (N:Nand):FP 21 [pp p] [i7 p N] (λv As=>v=iI N.ops/\As=[i7 p N]):=by
 refine FE [2] Tryz.func21 λX F hX=>?_;refine J.o (α:=NLoc) 1 λY=>?_;refine J.qF λ_=>?_;refine J.q λ_=>?_;refine J.cl (I0 p N) (Y) [1,2,3,4,5] ?_;exact J.qx [1]
theorem a7m (p:Nat) (N:Nand):FP 16 [pp p] [i7 p N] (λv As=>v=iI N.broken/\As=[i7 p N]):=by
 refine FE [2] Tryz.func16 λX F hX=>?_;refine J.o (α:=NLoc) 1 λY=>?_;refine J.qF λ_=>?_;refine J.q λ_=>?_;refine J.cl (I0 p N) (Y) [1,2,3,4,5] ?_;exact J.qx [1]
theorem b0q (p:Nat) (N:Nand):FP 35 [pp p] [i7 p N] (λv As=>v= .tuple #[]/\As=[i7 p N.onN]):=by
 refine FE [2] Tryz.func35 λX F hX=>?_;refine J.o (α:=NLoc) 1 λY=>?_;refine J.qT λ_=>?_;refine J.q λ_=>?_;refine J.cl (I0 p N.onN) (Y) [1,2,3,4,5] ?_;refine J.q λ_=>?_;refine J.f [1] ?_;exact⟨rfl,rfl⟩
theorem a4W (p:Nat) (N:Nand) (x k:Int):FP 34 [pp p,iI x,iI k] [i7 p N] (λv As=>v= .tuple #[]/\As=[i7 p (N.setCut x k)]):=by
 refine FE [2,0,0] Tryz.func34 λX F hX=>?_;refine J.o (α:=NLoc) 1 λY=>?_;refine J.qd (λ_ h=>?_) λ_ h=>?_
 ·refine J.q λ_=>?_;refine J.cl (I0 p N) (Y) [1,2,3,4,5] ?_;refine J.qr [1] λ_=>?_;simp only[Bool.false_or]at h;exact⟨rfl,by simp[Nand.setCut,h,s9];rfl⟩
 ·simp only[Bool.false_or]at h;have hs:N.setCut x k={N with cuts:=decide (x>=0),left:=x,keep:=if 32<(if 0>k then 0 else k)then 32 else(if 0>k then 0 else k),off:=decide (x<0)}:=by
   simp only[Nand.setCut,h];have:min (max k 0) 32=if 32<(if 0>k then 0 else k)then 32 else(if 0>k then 0 else k):=by(repeat' split)<;>omega
   rw[this];rfl
  refine J.q λ_=>?_;refine J.cl (I0 p {N with cuts:=decide (x>=0),left:=x,keep:=if 32<(if 0>k then 0 else k)then 32 else(if 0>k then 0 else k),off:=decide (x<0)}) (Y) [1,2,3,4,5] ?_;refine J.q λ_=>?_;refine J.f [1] ?_;exact⟨rfl,by rw[hs];rfl⟩
theorem b5T (p:Nat) (N:Nand) (Y:NLoc) (hN:N.Ok) (hR:N.Room):FP 229 [pp p] [.pt p 101 (N.mainV Y)] (λv As=>v= .bool N.cutB/\As=[.pt p 101 (N.cutN.mainV Y)]):=by
 have h1:=hN.num.1;have h2:=hR.ops;have h3:=hN.lft;have h4:=hN.lf2;refine FE [2] Tryz.func229 λX F hX=>?_;refine J.qd (λ_ h=>?_) λ_ h=>?_
 ·simp only[Bool.not_eq_true']at h;have hs:N.cutN={N with ops:=N.ops+1}:=by simp[Nand.cutN,Nand.cutB,h]
  refine J.qr [1] λ_=>?_;exact⟨by simp[Nand.cutB,h],by rw[hs];rfl⟩
 simp only[Bool.not_eq_false']at h;have h3:=h3 h;refine J.qd (λ_ h5=>?_) λ_ h5=>?_
 ·simp only[decide_eq_true_eq]at h5;have hs:N.cutN={N with ops:=N.ops+1,left:=N.left-1}:=by
   have hcb:N.cutB=false:=by simp[Nand.cutB,h];omega
   simp[Nand.cutN,hcb,h]
  refine J.qr [1] λ_=>?_;exact⟨by congr 1;simp[Nand.cutB,h];omega,by rw[hs];rfl⟩
 simp only[decide_eq_false_iff_not]at h5;have hcb:N.cutB=true:=by simp[Nand.cutB,h];omega
 have hs:N.cutN={N with ops:=N.ops+1,left:=N.left-1,cuts:=false,off:=true}:=by
  simp[Nand.cutN,hcb,h]
 refine J.qr [1] λ_=>?_;exact⟨by rw[hcb],by rw[hs];rfl⟩
theorem a3q (p:Nat) (N:Nand) (hN:N.Ok) (x:Int):FP 72 [pp p,iI x] [i7 p N] (λv As=>v= .bool (N.deadAt x)/\As=[i7 p N]):=by
 have hd:=hN.dead;refine FE [2,0] Tryz.func72 λX F hX=>?_;refine J.o (α:=NLoc) 1 λY=>?_;refine J.q λ_=>?_;refine J.v (.bool (N.dead.getD x.toNat false)) rfl rfl (λhg a w he hs=>?_) ?_
 ·simp only[G.on,Bool.and_eq_true,decide_eq_true_eq]at hg;refine j5 tk rfl rfl he (by simp[G.on,hg]) rfl rfl (hs.get (i:=4) rfl) ?_;have:x.toNat<N.dead.length:=by omega
  simp[this]
 refine J.q λ_=>?_;refine J.cl (I0 p N) (Y) [1,2,3,4,5] ?_;refine J.qr [1] λ_=>?_;refine⟨?_,rfl⟩;congr 1
theorem a3o (p:Nat) (N:Nand) (hN:N.Ok) (x y z:Int):FP 214 [pp p, .agg #[iI x,iI y,iI z]] [i7 p N] (λv As=>v= .tuple #[.agg (y9 (N.readV x y z)).toArray,iI (N.readE x y z)]/\As=[i7 p N]):=by
 have hbd:=hN.bd;refine FE [2,0] Tryz.func214 λX F hX=>?_;refine J.qp (a1t p N hN x y z) [1] λ_=>?_;refine J.qd (λ_ h=>?_) λ_ h=>?_
 ·simp only[bne_iff_ne,ne_eq]at h;refine J.qr [1] λ_=>?_;exact⟨by simp only[Nand.readV,Nand.readE,ne_eq,h,not_false_eq_true,if_pos];rfl,rfl⟩
 simp only[bne_eq_false_iff_eq]at h;obtain⟨hoff,hdd,hr⟩:=Nand.refuses_zero h;obtain⟨i,rfl⟩:=Int.eq_ofNat_of_zero_le hr.1;obtain⟨j,rfl⟩:=Int.eq_ofNat_of_zero_le hr.2.2.1;obtain⟨k,rfl⟩:=Int.eq_ofNat_of_zero_le hr.2.2.2.2.1;have hi:i<N.dies:=by omega
 have hj:j<N.blocks:=by omega
 refine J.o (α:=NLoc) 1 λY=>?_;refine J.openAt 7 (i*N.blocks+j) rfl rfl (K5 _ _ _ _ _ (a3x hi hj)) rfl ?_;rw[(H1 hj).1,(H1 hj).2];refine J.o (α:=(Option Nat×Nat)) 8 λc=>?_;refine J.p (.of [0,4,8,13,16,21,24,29,34,37,40]) [10] [1,2,3,4,5,6,7,8,9] λ_=>?_;refine J.qp (S8 i j) [] λ_=>?_;refine J.valT hX (pp (Y.bp (i*N.blocks+j))) 9 rfl rfl (λ_ a w he hC=>?_) rfl ?_
 ·refine(m6 (key:=((i:Int),(j:Int),0)) J2 W1 (z:= .pointer none) (λw=>by kernel_rfl) rfl rfl rfl rfl he rfl rfl (hC rfl _ (j3 (i:=4) rfl))).trans ?_;simp only[M4 hi hj];rfl
 refine J.p (.of [0,5,8,12,16,21,24,28,32]) [] [1,2,3,4,5,6,7,8,9] λ_=>?_;refine J.qd (λ_ h5=>?_) λ_ h5=>?_
 ·simp only[ge_iff_le,decide_eq_true_eq,Int.ofNat_le]at h5;have hp:N.pageAt i j k=none:=by simp[Nand.pageAt,h5]
  refine J.q λ_=>?_;refine J.closeN p N (N) Y i j hj (N.blk i j) _ [1,4,5,6,7,8,9] rfl rfl rfl rfl (C2 _ _ _) rfl ?_;refine J.qr [1] λ_=>?_;exact⟨by simp only[Nand.readV,Nand.readE,h,hp,ne_eq,not_true_eq_false,if_false];rfl,rfl⟩
 simp only[ge_iff_le,decide_eq_false_iff_not,Int.ofNat_le,Nat.not_le]at h5;obtain⟨cl,hcl⟩:∃cl,(N.blk i j).cells[k]? =some cl:=⟨_,List.getElem?_eq_getElem h5⟩;have hp:N.pageAt i j k=some cl:=by simp only[Nand.pageAt,Int.toNat_natCast];exact hcl
 refine J.know (λh' s=>j4 (by omega) (s.get (i:=9) rfl)) λhg=>?_;obtain⟨g,hg⟩:=hg;obtain⟨c1,c2⟩:=c;simp only at hg;subst hg;refine J.pq (.of [0,4,8,13,16,21,24,28,33,36]) [] [1,2,3,4,5,6,7,8,9] λ_ _=>?_;refine J.vT (.bool cl.lost) rfl rfl (λ_ a w he hC=>?_) ?_
 ·exact l9 tk rfl rfl he rfl rfl rfl (hC rfl _ (j3 (i:=9) rfl)) (by rw[show 0+((k:Int)).toNat*34+32=k*34+32 from by simp];exact a2j hcl (by omega))
 refine J.qd (λ_ h6=>?_) λ_ h6=>?_
 ·refine J.q λ_=>?_;refine J.closeN p N (N) Y i j hj (N.blk i j) _ [1,4,5,6,7,8,9] rfl rfl rfl rfl (C2 _ _ _) rfl ?_;refine J.qr [1] λ_=>?_;exact⟨by simp only[Nand.readV,Nand.readE,h,hp,h6,ne_eq,not_true_eq_false,if_false,if_true];rfl,rfl⟩
 refine J.pq (.of [0,4,8,13,16,21,24,28,33,39,40]) [9,10] [1,2,4,5,6,7,8,9] λ_ _=>?_;refine J.vT (.agg (y9 cl.p).toArray) rfl rfl (λ_ a w he hC=>?_) ?_
 ·exact p9 tk rfl rfl he rfl rfl rfl (hC rfl _ (j3 (i:=9) rfl)) (by rw[show 0+((k:Int)).toNat*34+0=k*34 from by simp];exact a7S hcl) rfl
 refine J.q λ_=>?_;refine J.closeN p N (N) Y i j hj (N.blk i j) _ [1,4,5,6,7,8,9] rfl rfl rfl rfl (C2 _ _ _) rfl ?_;refine J.qr [1] λ_=>?_;exact⟨by simp only[Nand.readV,Nand.readE,h,hp,h6,ne_eq,not_true_eq_false,if_false,Bool.false_eq_true];rfl,rfl⟩
def Y9 (a b:Nat) (p:List UInt8):List UInt8:=p.take a++List.replicate (b-a) 255++p.drop b
theorem a5s (a b:Nat) (p:List UInt8) (h1:a<=b) (h2:b<=p.length):(Y9 a b p).length=p.length:=by simp[Y9];omega
theorem a8G (a:Nat) (p:List UInt8):Y9 a a p=p:=by simp[Y9]
theorem b0U (a b:Nat) (p:List UInt8) (h1:a<=b) (h2:b<p.length):(Y9 a b p).set b 255=Y9 a (b+1) p:=by
 apply List.ext_getElem?;intro j;have hl:=a5s a b p h1 (by omega);rw[List.getElem?_set,hl];simp only[Y9,List.append_assoc,List.getElem?_append,List.length_take,List.length_replicate,List.getElem?_take,List.getElem?_replicate,List.getElem?_drop]
 by_cases e:b=j
 ·subst e;rw[if_pos rfl,if_pos h2,if_neg (by omega),if_pos (by omega),if_pos (by omega)]
 ·rw[if_neg e]
  by_cases h3:j<min a p.length
  ·rw[if_pos h3,if_pos h3]
  ·rw[if_neg h3,if_neg h3]
   by_cases h4:j<b
   ·rw[if_pos (by omega),if_pos (by omega),if_pos (by omega),if_pos (by omega)]
   ·rw[if_neg (by omega),if_neg (by omega)];congr 1;omega
theorem b0i (p:List UInt8) (h:p.length=32) (k:Nat) (v:UInt8):(y9 p).set k (bv v)=y9 (p.set k v):=by
 rw[C0 p h,C0 _ (by simpa using h),List.map_set]
theorem a7R (l:List NCell) (c:NCell):u0 (l++[c])=u0 l++c.vals:=by simp[u0]
theorem b0V (K:Nat) (p:List UInt8) (h:K<=32) (hp:p.length=32):Y9 K 32 p=Nand.fillP K p:=by
 simp only[Y9,Nand.fillP];rw[List.drop_of_length_le (by omega),List.append_nil]
theorem a5N (l:List NCell) (c:NCell):l.length+1=(l++[c]).length:=by simp
theorem b1T {L L2:List Atom} {k e n cap:Nat} {ao:Option Nat} {l:List NCell} {cs:List Value} (c:NCell) (h:cs=c.vals) (hL:B1 L k (c9 e 34 ao n cap (u0 (l++[c])))=some L2):B1 L k (c9 e 34 ao n cap (u0 l++cs))=some L2:=by
 rw[h,<- a7R];exact hL
theorem b0g {N:Nand} {x y z:Int} {pg:List UInt8} (h:N.refuses x y z=0) (h5:z=(N.blk x.toNat y.toNat).cells.length) (h6:N.cutB=true):N.progN x y z pg=N.cutN.push x.toNat y.toNat ⟨Nand.fillP N.keep.toNat pg,false,true⟩:=by
 unfold Nand.progN;rw[if_neg (by simp[h]),if_neg (by simp[h5]),if_pos h6]
theorem a0J {N:Nand} {x y z:Int} {pg:List UInt8} (h:N.refuses x y z=0) (h5:z=(N.blk x.toNat y.toNat).cells.length) (h6:N.cutB=false):N.progN x y z pg=Nand.push {N.cutN with plan:=N.plan.erase (x,y,z)} x.toNat y.toNat ⟨pg,N.fails x y z,false⟩:=by
 unfold Nand.progN;rw[if_neg (by simp[h]),if_neg (by simp[h5]),if_neg (by simp[h6])]
theorem b0h {N:Nand} {x y z:Int} (h:N.refuses x y z=0) (h5:z=(N.blk x.toNat y.toNat).cells.length) (h6:N.cutB=true):N.progE x y z=9:=by
 unfold Nand.progE;rw[if_neg (by simp[h]),if_neg (by simp[h5]),if_pos h6]
theorem a0K {N:Nand} {x y z:Int} (h:N.refuses x y z=0) (h5:z=(N.blk x.toNat y.toNat).cells.length) (h6:N.cutB=false):N.progE x y z=if N.fails x y z then 7 else 0:=by
 unfold Nand.progE;rw[if_neg (by simp[h]),if_neg (by simp[h5]),if_neg (by simp[h6])]
theorem a0a (p:Nat) (N:Nand) (hN:N.Ok) (hR:N.Room) (x y z:Int) (pg:List UInt8) (hpl:pg.length=32):
  FP 211 [pp p, .agg #[iI x,iI y,iI z], .agg (y9 pg).toArray] [i7 p N] (Ps (iI (N.progE x y z)) [i7 p (N.progN x y z pg)]):=by
 have hbd:=hN.bd;have hnum:=hN.num;have hr1:=hR.broken;refine FE [2,0,0] Tryz.func211 λX F hX=>?_;refine J.q λbs=>?_;refine J.cb (a1t p N hN x y z) [1] ?_;refine cpq ⟨_,rfl,trivial,?_⟩;refine J.qd (λ_ h=>?_) λ_ h=>?_
 ·simp only[bne_iff_ne,ne_eq]at h;refine J.qr [1] λ_=>?_;exact⟨by simp only[Nand.progE,ne_eq,h,not_false_eq_true,if_pos],by simp only[Nand.progN,ne_eq,h,not_false_eq_true,if_pos];rfl⟩
 simp only[bne_eq_false_iff_eq]at h;obtain⟨hoff,hdd,hr⟩:=Nand.refuses_zero h;obtain⟨i,rfl⟩:=Int.eq_ofNat_of_zero_le hr.1;obtain⟨j,rfl⟩:=Int.eq_ofNat_of_zero_le hr.2.2.1;obtain⟨k,rfl⟩:=Int.eq_ofNat_of_zero_le hr.2.2.2.2.1;have hi:i<N.dies:=by omega
 have hj:j<N.blocks:=by omega
 have hlen:=(hN.cells i j hi hj).1;refine J.o (α:=NLoc) 1 λY=>?_;refine J.openAt 7 (i*N.blocks+j) rfl rfl (K5 _ _ _ _ _ (a3x hi hj)) rfl ?_;rw[(H1 hj).1,(H1 hj).2];refine J.o (α:=(Option Nat×Nat)) 8 λc=>?_;refine J.p (.of [0,4,8,13,16,21,24,29,34,37,40]) [10] [1,2,3,4,5,6,7,8,9] λ_=>?_;refine J.qp (S8 i j) [] λ_=>?_;refine J.valT hX (pp (Y.bp (i*N.blocks+j))) 9 rfl rfl (λ_ a w he hC=>?_) rfl ?_
 ·refine(m6 (key:=((i:Int),(j:Int),0)) J2 W1 (z:= .pointer none) (λw=>by kernel_rfl) rfl rfl rfl rfl he rfl rfl (hC rfl _ (j3 (i:=4) rfl))).trans ?_;simp only[M4 hi hj];rfl
 refine J.p (.of [0,5,8,12,16,21,24,28]) [] [1,2,3,4,5,6,7,8,9] λ_=>?_;refine J.qd (λ_ h5=>?_) λ_ h5=>?_
 ·simp only[bne_iff_ne,ne_eq]at h5;refine J.q λ_=>?_;refine J.closeN p N ({N with broken:=N.broken+1}) Y i j hj (N.blk i j) _ [1,4,5,6,7,8,9] rfl rfl rfl rfl (C2 _ _ _) rfl ?_;refine J.qr [1] λ_=>?_;exact⟨by simp[Nand.progE,h,h5],by simp[Nand.progN,h,h5];rfl⟩
 simp only[bne_eq_false_iff_eq,Int.natCast_inj]at h5;refine J.qp (b5T p N Y hN hR) [1] λ_=>?_;refine J.qd (λ_ h6=>?_) λ_ h6=>?_
 ·have hkp:=hN.kp;obtain⟨K,hK⟩:∃K:Nat,N.keep=K:=⟨N.keep.toNat,by omega⟩;have hK2:N.cutN.keep=K:=hK;refine J.q λ_=>?_;rw[hK2];refine J.q λ_=>?_;refine J.lo (α:=Nat) (λm=>K<=m/\m<=32) (λm=>[si 9 m,⟨5,pp (bs (0+1)),4, .tt⟩,⟨8,pp (Y.bp (i*N.blocks+j)),9, .tt⟩]) [3] (λm=>[.pt (bs (0+1)) 106 (y9 (Y9 K m pg))]) (λm=>32-m) (K) (⟨Nat.le_refl _,by omega⟩) rfl ?_ (λ_=>rfl) λm hI=>?_
  ·rw[a8G];rfl
  refine J.qd (λ_ h7=>?_) λ_ h7=>?_
  ·simp only[decide_eq_true_eq]at h7;refine J.q λ_=>?_;refine J.s1 3 (y9 (Y9 K (m+1) pg)) ?_ ?_ ?_
   ·show 0+(m:Int).toNat*1<32;omega
   ·rw[show 0+(m:Int).toNat*1=m from by omega,<- b0U _ _ _ hI.1 (by omega)];exact b0i _ (by rw[a5s _ _ _ hI.1 (by omega)];exact hpl) m 255
   refine J.q λ_=>?_;refine J.nx (m+1) (⟨by omega,by omega⟩) (by omega) (λ_ s=>s)
  simp only[decide_eq_false_iff_not]at h7;obtain rfl:m=32:=by omega
  refine J.pq (.of [0,4,8,12,17,21,24,30,34,36,40,47]) [9,10,11] [1,2,3,4,5,6,7,8] λ_ _=>?_;rw[b0V _ _ hI.1 hpl];refine J.append hX tk 9 10 0 rfl rfl rfl rfl rfl rfl rfl rfl rfl rfl rfl rfl rfl rfl rfl rfl ?_ ?_ (λ_=>rfl) λa' cap'=>⟨_,b1T ⟨Nand.fillP K pg,false,true⟩ rfl rfl,⟨rfl,rfl,rfl,rfl,rfl,rfl,rfl,rfl,trivial⟩,?_⟩
  ·simp only[maxLen];omega
  ·omega
  refine J.q λ_=>?_;rw[a5N _ ⟨Nand.fillP K pg,false,true⟩];refine J.q λ_=>?_;refine J.closeN p N (N.cutN.push i j ⟨Nand.fillP K pg,false,true⟩) Y i j hj ({N.blk i j with cells:=(N.blk i j).cells++[⟨Nand.fillP K pg,false,true⟩]}) (a',cap') [1,4,5,6,7,8,9] rfl rfl rfl rfl (rfl) rfl ?_;refine J.qr [1] λ_=>?_;subst h5;exact⟨(b0h h rfl h6).symm▸rfl,by rw[b0g h rfl h6,hK];rfl⟩
 ·refine J.p (.of [0,4,8,13,17,22,24,28,32,36,40]) [10] [1,2,3,4,6,7,8,9] λ_=>?_;refine J.qp (b5P Y.q N.plan i j k) [5] λ_=>?_;refine J.p (.of [0,4,8,13,17,22]) [] [1,2,3,4,6,7,8,9] λ_=>?_;refine J.qp (b1X Y.q N.plan i j k) [5] λ_=>?_;refine J.pq (.of [0,4,8,12,17,21,24,28,34,38,40,44,51]) [10,11,12] [1,2,3,4,5,6,7,8] λ_ _=>?_;refine J.append hX tk 9 10 0 rfl rfl rfl rfl rfl rfl rfl rfl rfl rfl rfl rfl rfl rfl rfl rfl ?_ ?_ (λ_=>rfl) λa' cap'=>⟨_,b1T ⟨pg,decide (((i:Int),(j:Int),(k:Int))∈N.plan)||(N.blk i j).met,false⟩ rfl rfl,⟨rfl,rfl,rfl,rfl,rfl,rfl,rfl,rfl,trivial⟩,?_⟩
  ·simp only[maxLen];omega
  ·omega
  refine J.q λ_=>?_;rw[a5N _ ⟨pg,N.fails i j k,false⟩];refine J.q λ_=>?_;refine J.closeN p N (Nand.push {N.cutN with plan:=N.plan.erase ((i:Int),(j:Int),(k:Int))} i j ⟨pg,N.fails i j k,false⟩) Y i j hj ({N.blk i j with cells:=(N.blk i j).cells++[⟨pg,N.fails i j k,false⟩]}) (a',cap') [1,4,5,6,7,8,9] rfl rfl rfl rfl (rfl) rfl ?_;refine J.qd (λ_ h9=>?_) λ_ h9=>?_
  ·refine J.qr [1] λ_=>?_;subst h5;exact⟨by rw[a0K h rfl h6];exact congrArg (Value.int IntKind.i64) (if_pos h9).symm,by rw[a0J h rfl h6];rfl⟩
  ·refine J.qr [1] λ_=>?_;subst h5;exact⟨by rw[a0K h rfl h6];exact congrArg (Value.int IntKind.i64) (if_neg (by rw[show N.fails i j (N.blk i j).cells.length=false from h9];simp)).symm,by rw[a0J h rfl h6];rfl⟩
theorem Q0:∀(l:List NCell) (k i:Nat) (v:Value) (f:NCell->NCell) (c:NCell),l[k]? =some c->i<34->c.vals.set i v=(f c).vals->(u0 l).set (k*34+i) v=u0 (l.modify k f)
 | [],k,i,v,f,c,h,_,_=>by simp at h
 | x::l,0,i,v,f,c,h,hi,hv=>by
  simp at h;subst h;simp only[u0,List.flatMap_cons,List.modify_cons,Nat.zero_mul,Nat.zero_add,if_true];rw[List.set_append_left _ _ (by simpa[NCell.vals]using hi),hv]
 | x::l,k+1,i,v,f,c,h,hi,hv=>by
  have:=Q0 l k i v f c (by simpa using h) hi hv;simp only[u0,List.flatMap_cons,List.modify_cons]at this ⊢;rw[List.set_append_right _ _ (by simp[NCell.vals];omega),show(k+1)*34+i-x.vals.length=k*34+i from by simp[NCell.vals];omega,this];simp
theorem b5w {N:Nand} {x y z n xx:Int} (h:B6 N.dies N.blocks N.pages x y z=true):N.fault 1 x y z n xx=(true,{N with plan:=b1i N.plan (x,y,z)}):=by
 unfold Nand.fault;rw[if_neg (by simp[h]),if_pos rfl];rfl
theorem b5v {N:Nand} {x y z n xx:Int} (h:B6 N.dies N.blocks N.pages x y z=true):N.fault 2 x y z n xx=(true,N.setBlk x.toNat y.toNat {N.blk x.toNat y.toNat with fails:=true}):=by
 unfold Nand.fault;rw[if_neg (by simp[h]),if_neg (by decide),if_pos rfl]
theorem a9z {N:Nand} {x y z n xx:Int} (h:B6 N.dies N.blocks N.pages x y z=true):N.fault 3 x y z n xx=(true,N.setCell x y z λc=>{c with lost:=true}):=by
 unfold Nand.fault;rw[if_neg (by simp[h]),if_neg (by decide),if_neg (by decide),if_pos rfl]
theorem b5u {N:Nand} {x y z n xx:Int} (h:B6 N.dies N.blocks N.pages x y z=true):N.fault 4 x y z n xx=(true,{N with dead:=N.dead.set x.toNat true}):=by
 unfold Nand.fault;rw[if_neg (by simp[h]),if_neg (by decide),if_neg (by decide),if_neg (by decide),if_pos rfl]
theorem b3D {N:Nand} {k x y z n xx:Int} (h1:k≠1) (h2:k≠2) (h3:k≠3) (h4:k≠4) (h5:k≠5):N.fault k x y z n xx=(false,N):=by
 unfold Nand.fault;split<;>simp_all
theorem a7o {l:List NCell} {k:Nat} {f:NCell->NCell} (h:l.length<=k):l.modify k f=l:=by
 apply List.ext_getElem?;intro j;rw[List.getElem?_modify]
 by_cases e:k=j
 ·subst e;rw[List.getElem?_eq_none h];rfl
 ·simp[e]
theorem a2E {N:Nand} {x y z n xx:Int} (h:B6 N.dies N.blocks N.pages x y z=true):N.fault 5 x y z n xx=if n<0\/32<=n then(false,N)else
  match N.pageAt x y z with
  | none=>(true,N)
  | some c=>if c.turned then(false,N)else if c.lost then(true,N)else
   (true,N.setCell x y z λc=>{c with p:=Nand.xorAt c.p n.toNat (UInt8.ofNat (xx % 256).toNat),turned:=true}):=by
 unfold Nand.fault;rw[if_neg (by simp[h]),if_neg (by decide),if_neg (by decide),if_neg (by decide),if_neg (by decide),if_pos rfl]
 try rfl
theorem a2f {N:Nand} {x y z n xx:Int} (h:B6 N.dies N.blocks N.pages x y z=true) (h2:N.pageAt x y z=none) {b:Bool} (hb:(decide (n<0)||decide (n>=32))=b):N.fault 5 x y z n xx=(!b,N):=by
 subst hb;rw[a2E h,h2]
 by_cases h3:n<0\/32<=n
 ·rw[if_pos h3];simp;omega
 ·rw[if_neg h3];simp;omega
theorem a4t {N:Nand} {x y z n xx:Int} {c:NCell} (h:B6 N.dies N.blocks N.pages x y z=true) (h2:N.pageAt x y z=some c) (hb:(decide (n<0)||decide (n>=32)||(true&&c.turned))=true):N.fault 5 x y z n xx=(false,N):=by
 rw[a2E h,h2]
 by_cases h3:n<0\/32<=n
 ·rw[if_pos h3]
 ·rw[if_neg h3];simp only[Bool.or_eq_true,decide_eq_true_eq,Bool.true_and]at hb;rcases hb with hb | hb
  ·omega
  ·simp only;rw[if_pos hb]
theorem a5I {c:NCell} (h:c.p.length=32):c.vals=c.p.map bv++[.bool c.lost, .bool c.turned]:=by
 rw[<- C0 c.p h];rfl
theorem b1u {c:NCell} (h:c.p.length=32) {e:Nat} (he:e<32):c.vals[e]? =some (bv (c.p.getD e 0)):=by
 rw[a5I h,List.getElem?_append_left (by simpa[h]using he)];simp[h,he]
theorem b1k (b:UInt8) (xx:Int):IntKind.u8.wrap ((BitVec.ofInt IntKind.u8.bits (b.toNat:Int) ^^^ BitVec.ofInt IntKind.u8.bits (IntKind.u8.wrap xx)).toNat:Int)=((b ^^^ UInt8.ofNat (xx % 256).toNat).toNat:Int):=by
 have h0:IntKind.u8.wrap xx=xx % 256:=by simp[IntKind.wrap,IntKind.bits,IntKind.signed]
 obtain⟨m,hm⟩:∃m:Nat,xx % 256=m:=⟨(xx % 256).toNat,by omega⟩;have hm2:m<256:=by omega
 rw[h0,hm];simp only[Int.toNat_natCast];have e1:(BitVec.ofInt IntKind.u8.bits (b.toNat:Int) ^^^ BitVec.ofInt IntKind.u8.bits (m:Int)).toNat=b.toNat ^^^ m:=by
  rw[BitVec.toNat_xor];have:=b.toNat_lt;show(BitVec.ofInt 8 (b.toNat:Int)).toNat ^^^ (BitVec.ofInt 8 (m:Int)).toNat=_;rw[BitVec.ofInt_natCast,BitVec.ofInt_natCast,BitVec.toNat_ofNat,BitVec.toNat_ofNat,Nat.mod_eq_of_lt this,Nat.mod_eq_of_lt hm2]
 have e2:(b ^^^ UInt8.ofNat m).toNat=b.toNat ^^^ m:=by
  rw[UInt8.toNat_xor,UInt8.toNat_ofNat',Nat.mod_eq_of_lt hm2]
 rw[e1,e2];have hx:b.toNat ^^^ m<256:=Nat.xor_lt_two_pow (n:=8) b.toNat_lt hm2;have:IntKind.u8.wrap ((b.toNat ^^^ m:Nat):Int)=((b.toNat ^^^ m:Nat):Int) % 256:=by simp[IntKind.wrap,IntKind.bits,IntKind.signed]
 rw[this];omega
theorem U6 (p:Nat) (N:Nand) (hN:N.Ok) (at_ kind x y z n xx:Int):FP 41 [pp p, .agg #[iI at_,iI kind,iI x,iI y,iI z,iI n,iI xx]] [i7 p N]
  (λv As=>v= .bool (N.fault kind x y z n xx).1/\As=[i7 p (N.fault kind x y z n xx).2]):=by
 have hbd:=hN.bd;refine FE [2,0] Tryz.func41 λX F hX=>?_;refine J.o (α:=NLoc) 1 λY=>?_;refine J.pq (.of [0,4,8,12,16,20,25,28,33,38,40,44]) [] [1,2,3,4,5,6] λ_ _=>?_;refine J.ca hX (by kernel_rfl) (a7K _ _ _ x y z (by omega) (by omega) (by omega)) [] 0 rfl rfl rfl rfl rfl rfl (λ_=>rfl) ?_;refine cpq ⟨_,rfl,⟨rfl,rfl,rfl,rfl,rfl,rfl,trivial⟩,?_⟩;refine J.qd (λ_ h=>?_) λ_ h=>?_
 ·simp only[Bool.false_or,Bool.not_eq_true']at h;refine J.q λ_=>?_;refine J.cl (I0 p N) (Y) [1,2,3,4,5] ?_;refine J.qr [1] λ_=>?_;exact⟨by simp[Nand.fault,h],by simp[Nand.fault,h];rfl⟩
 simp only[Bool.false_or,Bool.not_eq_false']at h;have hr:0<=x/\x<N.dies/\0<=y/\y<N.blocks/\0<=z/\z<N.pages:=by simp[B6]at h;omega
 obtain⟨i,rfl⟩:=Int.eq_ofNat_of_zero_le hr.1;obtain⟨j,rfl⟩:=Int.eq_ofNat_of_zero_le hr.2.2.1;obtain⟨k,rfl⟩:=Int.eq_ofNat_of_zero_le hr.2.2.2.2.1;have hi:i<N.dies:=by omega
 have hj:j<N.blocks:=by omega
 have hlen:=(hN.cells i j hi hj).1;refine J.openAt 5 (i*N.blocks+j) rfl rfl (K5 _ _ _ _ _ (a3x hi hj)) rfl ?_;rw[(H1 hj).1,(H1 hj).2];refine J.o (α:=(Option Nat×Nat)) 7 λc=>?_;refine J.p (.of [0,4,8,13,16,20,25,28,32,37,42,45,48]) [12] [1,2,3,4,5,6,7,8] λ_=>?_;refine J.qp (S8 i j) [] λ_=>?_;refine J.valT hX (pp (Y.bp (i*N.blocks+j))) 8 rfl rfl (λ_ a w he hC=>?_) rfl ?_
 ·refine(m6 (key:=((i:Int),(j:Int),0)) J2 W1 (z:= .pointer none) (λw=>by kernel_rfl) rfl rfl rfl rfl he rfl rfl (hC rfl _ (j3 (i:=2) rfl))).trans ?_;simp only[M4 hi hj];rfl
 refine J.p (.of [0,4,9,12,16,20,25,28,32,36]) [9] [1,2,3,4,5,6,7,8] λ_=>?_;refine J.qd (λ_ h1=>?_) λ_ h1=>?_
 ·simp only[beq_iff_eq]at h1;subst h1;refine J.p (.of [0,4,8,13,16,21,26]) [] [1,2,4,5,6,7,8] λ_=>?_;refine J.qp (b7q Y.q N.plan i j k) [3] λ_=>?_;refine J.q λ_=>?_;refine J.closeN p N ({N with plan:=b1i N.plan ((i:Int),(j:Int),(k:Int))}) Y i j hj (N.blk i j) _ [1,2,3,4,5,7,8] rfl rfl rfl rfl (C2 _ _ _) rfl ?_;refine J.qr [1] λ_=>?_;rw[b5w h];exact⟨rfl,rfl⟩
 simp only[beq_eq_false_iff_ne,ne_eq]at h1;refine J.qd (λ_ h2=>?_) λ_ h2=>?_
 ·simp only[beq_iff_eq]at h2;subst h2;refine J.q λ_=>?_;refine J.closeN p N (N.setBlk i j {N.blk i j with fails:=true}) Y i j hj ({N.blk i j with fails:=true}) _ [1,2,3,4,5,7,8] rfl rfl rfl rfl (rfl) rfl ?_;refine J.qr [1] λ_=>?_;rw[b5v h];exact⟨rfl,rfl⟩
 simp only[beq_eq_false_iff_ne,ne_eq]at h2;refine J.qd (λ_ h3=>?_) λ_ h3=>?_
 ·simp only[beq_iff_eq]at h3;subst h3;refine J.qd (λ_ h5=>?_) λ_ h5=>?_
  ·simp only[decide_eq_true_eq,Int.ofNat_lt]at h5;refine J.know (λh' s=>j4 (by omega) (s.get (i:=8) rfl)) λhg=>?_;obtain⟨g,hg⟩:=hg;obtain⟨c1,c2⟩:=c;simp only at hg;subst hg;refine J.openOwn 8 rfl rfl (λ_=>rfl) λr q1 q2 q3 q4=>?_;obtain⟨cl,hcl⟩:∃cl,(N.blk i j).cells[k]? =some cl:=⟨_,List.getElem?_eq_getElem h5⟩;refine J.pq (.of [0,4,8,13,16,20,25,28,32,39]) [7,8,9] [1,2,3,4,5,6,7] λ_ _=>?_;refine J.s1 8 (u0 ((N.blk i j).cells.modify k λc=>{c with lost:=true})++r) ?_ ?_ ?_
   ·rw[List.length_append,m7];show 0+(k:Int).toNat*34+32<_;simp only[Int.toNat_natCast];omega
   ·rw[show 0+(k:Int).toNat*34+32=k*34+32 from by simp,List.set_append_left _ _ (by rw[m7];omega)];rw[Q0 _ k 32 _ (λc=>{c with lost:=true}) cl hcl (by omega) rfl]
   refine J.closeOwn (e:=151) (size:=34) (n:=(N.blk i j).cells.length) (cap:=c2) (xs:=u0 ((N.blk i j).cells.modify k λc=>{c with lost:=true})) 8 rfl rfl (by rw[m7,List.length_modify]) q2 q3 (by rw[List.length_append,m7,List.length_modify];rw[m7]at q4;exact q4) (by rw[List.take_left' (by rw[m7,List.length_modify])]) rfl ?_;rw[show(N.blk i j).cells.length=((N.blk i j).cells.modify k λc=>{c with lost:=true}).length from by rw[List.length_modify]];refine J.q λ_=>?_;refine J.closeN p N (N.setCell i j k λc=>{c with lost:=true}) Y i j hj ({N.blk i j with cells:=(N.blk i j).cells.modify k λc=>{c with lost:=true}}) (some g,c2) [1,2,3,4,5,7,8] rfl rfl rfl rfl (rfl) rfl ?_;refine J.qr [1] λ_=>?_;rw[a9z h];exact⟨rfl,rfl⟩
  ·simp only[decide_eq_false_iff_not,Int.ofNat_lt,Nat.not_lt]at h5;refine J.q λ_=>?_;refine J.closeN p N (N.setCell i j k λc=>{c with lost:=true}) Y i j hj (N.blk i j) _ [1,2,3,4,5,7,8] rfl rfl rfl rfl ((by simp only[Nand.setCell,Nand.setBlk,Int.toNat_natCast];rw[a7o h5])) rfl ?_;refine J.qr [1] λ_=>?_;rw[a9z h];exact⟨rfl,rfl⟩
 simp only[beq_eq_false_iff_ne,ne_eq]at h3;refine J.qd (λ_ h4=>?_) λ_ h4=>?_
 ·simp only[beq_iff_eq]at h4;subst h4;refine J.pq (.of [0,4,8,13,16,20,25,28,35]) [7,8] [1,2,3,5,6,7,8] λ_ _=>?_;refine J.s1 4 ((N.dead.set i true).map Value.bool) ?_ ?_ ?_
  ·rw[List.length_map,hN.dead];show 0+(i:Int).toNat*1<_;omega
  ·rw[show 0+(i:Int).toNat*1=i from by omega,List.map_set]
  refine J.q λ_=>?_;refine J.closeN p N ({N with dead:=N.dead.set i true}) Y i j hj (N.blk i j) _ [1,2,3,4,5,7,8] rfl rfl rfl rfl (C2 _ _ _) rfl ?_;refine J.qr [1] λ_=>?_;rw[b5u h];exact⟨rfl,rfl⟩
 simp only[beq_eq_false_iff_ne,ne_eq]at h4;refine J.qd (λ_ h6=>?_) λ_ h6=>?_
 ·simp only[beq_iff_eq]at h6;subst h6
  by_cases h5:k<(N.blk i j).cells.length
  ·rw[show decide ((k:Int)<((N.blk i j).cells.length:Int))=true from decide_eq_true (by omega)];refine J.know (λh' s=>j4 (by omega) (s.get (i:=8) rfl)) λhg=>?_;obtain⟨g,hg⟩:=hg;obtain⟨c1,c2⟩:=c;simp only at hg;subst hg;refine J.openOwn 8 rfl rfl (λ_=>rfl) λr q1 q2 q3 q4=>?_;obtain⟨cl,hcl⟩:∃cl,(N.blk i j).cells[k]? =some cl:=⟨_,List.getElem?_eq_getElem h5⟩;refine J.pq (.of [0,5,8,12,16,21,24,28,32,36,40,44,48,52,57,60,64,69,72,76,81,84,88]) [] [1,2,3,4,5,6,7,8] λ_ _=>?_;have hpa:N.pageAt i j k=some cl:=by simp only[Nand.pageAt,Int.toNat_natCast];exact hcl
   have hoff:∀e,e<34->(u0 (N.blk i j).cells++r)[k*34+e]? =cl.vals[e]?:=λe he=>by
    rw[List.getElem?_append_left (by rw[m7];omega)];exact a2j hcl he
   refine J.vT (.bool cl.turned) rfl rfl (λhg a w he hC=>?_) ?_
   ·exact j5 tk rfl rfl he hg rfl rfl (hC rfl _ (j3 (i:=8) rfl)) (by rw[show 0+((k:Int)).toNat*34+33=k*34+33 from by simp];exact hoff 33 (by omega))
   refine J.qd (λ_ h7=>?_) λ_ h7=>?_
   ·refine J.closeOwn (e:=151) (size:=34) (n:=(N.blk i j).cells.length) (cap:=c2) (xs:=u0 (N.blk i j).cells) 8 rfl rfl q1 q2 q3 (by rw[List.length_append];exact q4) (by rw[List.take_left' q1]) rfl ?_;refine J.q λ_=>?_;refine J.closeN p N (N) Y i j hj (N.blk i j) (some g,c2) [1,2,3,4,5,7,8] rfl rfl rfl rfl (C2 _ _ _) rfl ?_;refine J.qr [1] λ_=>?_;rw[a4t h hpa h7];exact⟨rfl,rfl⟩
   refine J.pq (.of [0,4,8,12,16,21,24,28,33,36,40,45,48,52]) [] [1,2,3,4,5,6,7,8] λ_ _=>?_;refine J.vT (.bool cl.lost) rfl rfl (λhg a w he hC=>?_) ?_
   ·exact j5 tk rfl rfl he hg rfl rfl (hC rfl _ (j3 (i:=8) rfl)) (by rw[show 0+((k:Int)).toNat*34+32=k*34+32 from by simp];exact hoff 32 (by omega))
   refine J.qd (λ_ h8=>?_) λ_ h8=>?_
   ·have hn:0<=n/\n<32:=by
     simp only[Bool.or_eq_false_iff,decide_eq_false_iff_not]at h7;omega
    obtain⟨e,rfl⟩:=Int.eq_ofNat_of_zero_le hn.1;have he32:e<32:=by omega
    have hp32:cl.p.length=32:=(hN.cells i j hi hj).2 cl (List.mem_of_getElem? hcl);refine J.pn 14 (.of [0,4,8,13,16,20,25,28,33,36,40,44,52,57,60,68,72,50,64,76,82]) [] [1,2,3,4,5,6,7] λ_ _=>?_;refine J.vT (.int .u8 (IntKind.u8.wrap xx)) rfl rfl (λhg a w he hC=>?_) ?_
    ·exact D8 tk rfl rfl he rfl rfl rfl
    refine J.q λ_=>?_;refine J.val hX (bv (cl.p.getD e 0)) 0 rfl rfl (λhg a w he hs=>?_) rfl ⟨rfl,rfl,rfl,rfl,rfl,rfl,rfl,trivial⟩ ?_
    ·exact j5 tk rfl rfl he hg rfl rfl (hs.get (i:=8) rfl) (by rw[show 0+((k:Int)).toNat*34+0+((e:Int)).toNat*1=k*34+e from by simp,hoff e (by omega)];exact b1u hp32 he32)
    refine J.q λ_=>?_;have hlen':(u0 (N.blk i j).cells++r).length=c2*34:=by rw[List.length_append];exact q4
    have hnl:k*34+34<=(N.blk i j).cells.length*34:=by omega
    refine J.s1 8 (u0 ((N.blk i j).cells.modify k λc=>{c with p:=Nand.xorAt c.p e (UInt8.ofNat (xx % 256).toNat)})++r) ?_ ?_ ?_
    ·rw[List.length_append,m7];show 0+(k:Int).toNat*34+0+(e:Int).toNat*1<_;simp only[Int.toNat_natCast];omega
    ·rw[show 0+(k:Int).toNat*34+0+(e:Int).toNat*1=k*34+e from by simp,List.set_append_left _ _ (by rw[m7];omega)];rw[Q0 _ k e _ (λc=>{c with p:=Nand.xorAt c.p e (UInt8.ofNat (xx % 256).toNat)}) cl hcl (by omega) ?_];rw[b1k,a5I hp32,a5I (by simp[Nand.xorAt,hp32]),List.set_append_left _ _ (by simpa[hp32]using he32)];congr 1;exact(List.map_set (f:=bv)).symm
    refine J.pq (.of [0,4,8,13,16,20,25,28,32,39]) [7,8,9] [1,2,3,4,5,6,7] λ_ _=>?_;refine J.s1 8 (u0 ((N.blk i j).cells.modify k λc=>{c with p:=Nand.xorAt c.p e (UInt8.ofNat (xx % 256).toNat),turned:=true})++r) ?_ ?_ ?_
    ·rw[List.length_append,m7,List.length_modify];show 0+(k:Int).toNat*34+33<_;simp only[Int.toNat_natCast];omega
    ·rw[show 0+(k:Int).toNat*34+33=k*34+33 from by simp,List.set_append_left _ _ (by rw[m7,List.length_modify];omega)];rw[Q0 _ k 33 _ (λc=>{c with turned:=true}) _ (by rw[List.getElem?_modify_eq,hcl];rfl) (by omega) rfl,List.modify_modify_eq];rfl
    refine J.closeOwn (e:=151) (size:=34) (n:=(N.blk i j).cells.length) (cap:=c2) (xs:=u0 ((N.blk i j).cells.modify k λc=>{c with p:=Nand.xorAt c.p e (UInt8.ofNat (xx % 256).toNat),turned:=true})) 8 rfl rfl (by rw[m7,List.length_modify]) q2 q3 (by rw[List.length_append,m7,List.length_modify];rw[m7]at q4;exact q4) (by rw[List.take_left' (by rw[m7,List.length_modify])]) rfl ?_;rw[show(N.blk i j).cells.length=((N.blk i j).cells.modify k λc=>{c with p:=Nand.xorAt c.p e (UInt8.ofNat (xx % 256).toNat),turned:=true}).length from by rw[List.length_modify]];refine J.q λ_=>?_;refine J.closeN p N (N.setCell i j k λc=>{c with p:=Nand.xorAt c.p e (UInt8.ofNat (xx % 256).toNat),turned:=true}) Y i j hj ({N.blk i j with cells:=(N.blk i j).cells.modify k λc=>{c with p:=Nand.xorAt c.p e (UInt8.ofNat (xx % 256).toNat),turned:=true}}) (some g,c2) [1,2,3,4,5,7,8] rfl rfl rfl rfl (rfl) rfl ?_;refine J.qr [1] λ_=>?_;rw[a2E h,hpa];simp only[Bool.or_eq_false_iff,Bool.true_and]at h7;simp only[Bool.true_and,Bool.not_eq_true']at h8;rw[if_neg (by omega)];simp only[h7.2,h8,Bool.false_eq_true,if_false];exact⟨trivial,rfl⟩
   ·refine J.closeOwn (e:=151) (size:=34) (n:=(N.blk i j).cells.length) (cap:=c2) (xs:=u0 (N.blk i j).cells) 8 rfl rfl q1 q2 q3 (by rw[List.length_append];exact q4) (by rw[List.take_left' q1]) rfl ?_;refine J.q λ_=>?_;refine J.closeN p N (N) Y i j hj (N.blk i j) (some g,c2) [1,2,3,4,5,7,8] rfl rfl rfl rfl (C2 _ _ _) rfl ?_;refine J.qr [1] λ_=>?_;rw[a2E h,hpa];simp only[Bool.or_eq_false_iff,Bool.true_and,decide_eq_false_iff_not]at h7;simp only[Bool.true_and,Bool.not_eq_false']at h8;rw[if_neg (by omega)];simp only[h7.2,h8,Bool.false_eq_true,if_false,if_true];exact⟨trivial,rfl⟩
  ·rw[show decide ((k:Int)<((N.blk i j).cells.length:Int))=false from decide_eq_false (by omega)];refine J.pn 18 (.of [0,5,8,12,16,21,24,28,32,36,40,44,48,52,57,60,64,69,72,76,81,84,88]) [] [1,2,3,4,5,6,7,8] λ_ _=>?_;have hpa:N.pageAt i j k=none:=by simp only[Nand.pageAt,Int.toNat_natCast];exact List.getElem?_eq_none (by omega)
   refine J.vT (pp 0) rfl rfl (λhg a w he hC=>by simp[G.on]at hg) ?_;refine J.q λ_=>?_;refine J.vT (.bool false) rfl rfl (λhg a w he hC=>by simp[G.on]at hg) ?_;refine J.qd (λ_ h7=>?_) λ_ h7=>?_
   ·refine J.q λ_=>?_;refine J.closeN p N (N) Y i j hj (N.blk i j) _ [1,2,3,4,5,7,8] rfl rfl rfl rfl (C2 _ _ _) rfl ?_;refine J.qr [1] λ_=>?_;rw[a2f h hpa (b:=true) (by simpa using h7)];exact⟨rfl,rfl⟩
   refine J.pn 9 (.of [0,4,8,12,16,21,24,28,33,36,40,45,48,52]) [] [1,2,3,4,5,6,7,8] λ_ _=>?_;refine J.vT (pp 0) rfl rfl (λhg a w he hC=>by simp[G.on]at hg) ?_;refine J.q λ_=>?_;refine J.vT (.bool false) rfl rfl (λhg a w he hC=>by simp[G.on]at hg) ?_;refine J.qF λ_=>?_;refine J.q λ_=>?_;refine J.closeN p N (N) Y i j hj (N.blk i j) _ [1,2,3,4,5,7,8] rfl rfl rfl rfl (C2 _ _ _) rfl ?_;refine J.qr [1] λ_=>?_;rw[a2f h hpa (b:=false) (by simpa using h7)];exact⟨rfl,rfl⟩
 simp only[beq_eq_false_iff_ne,ne_eq]at h6;refine J.q λ_=>?_;refine J.closeN p N (N) Y i j hj (N.blk i j) _ [1,2,3,4,5,7,8] rfl rfl rfl rfl (C2 _ _ _) rfl ?_;refine J.qr [1] λ_=>?_;rw[b3D h1 h2 h3 h4 h6];exact⟨rfl,rfl⟩
def B0:NBlock:=⟨[],0,false,false⟩
def b7f (d b p:Nat) (x:Nat×Nat×Nat×Nat):List Value:=
 [iI d,iI b,iI p, .map (some x.2.1),pp x.2.2.1, .slice (some ⟨x.2.2.2,0,none⟩) d d, .bool false,iI 0,iI 0, .bool false,iI 0,iI 0]
theorem a5C {k:A3} {v:Value}:∀{l:List (A3×Value)},(∀x∈l,x.1≠k)->M5 l k v=l++[(k,v)]
 | [],_=>rfl
 | x::l,h=>by
  have h1:=h x (by simp);simp only[M5,if_neg (Ne.symm h1),a5C (l:=l) (λy hy=>h y (by simp[hy])),List.cons_append]
def upd (bp:Nat->Nat) (n v:Nat):Nat->Nat:=λk=>if k=n then v else bp k
theorem b1d (nb n:Nat) (bp:Nat->Nat) (v:Nat):Z5 nb (n+1) (upd bp n v)=Z5 nb n bp++[((((n/nb:Nat):Int),((n % nb:Nat):Int),0),pp v)]:=by
 unfold Z5;rw[List.range_succ,List.map_append];congr 1
 ·apply List.map_congr_left;intro k hk;have:k≠n:=by have:=List.mem_range.1 hk;omega
  simp[upd,this]
 ·simp[upd]
theorem a4a (nb n:Nat) (bp:Nat->Nat) (v:Nat):I7 nb (n+1) (upd bp n v) (λ_ _=>B0)=I7 nb n bp (λ_ _=>B0)++[a4x v B0]:=by
 unfold I7;rw[List.range_succ,List.map_append];congr 1
 ·apply List.map_congr_left;intro k hk;have:k≠n:=by have:=List.mem_range.1 hk;omega
  simp[upd,this]
 ·simp[upd]
theorem a5B {nb j:Nat} (i:Nat) (hj:j<nb) (bp:Nat->Nat) (v:Nat):M5 (Z5 nb (i*nb+j) bp) ((i:Int),(j:Int),0) (pp v)=Z5 nb (i*nb+j+1) (upd bp (i*nb+j) v):=by
 rw[b1d,(H1 hj).1,(H1 hj).2,a5C];intro x hx;simp only[Z5,List.mem_map,List.mem_range]at hx;obtain⟨k,hk,rfl⟩:=hx;intro e;simp only[Prod.mk.injEq,Int.natCast_inj,and_true]at e;have h1:=Nat.div_add_mod k nb;rw[e.1,e.2,Nat.mul_comm]at h1;omega
theorem a7X {BL:List Atom} {v:Nat} {h:Hl} (s:Sep [.hp (HP.of BL), .pt v 148 [.slice none 0 0,iI 0, .bool false, .bool false]] h):Sep [.hp (HP.of (BL++[a4x v B0]))] h:=by
 have s1:Sep [.hp (HP.of BL),a4x v B0] h:=s.turn1 [1] rfl (As:=[a4x v B0]) (λh' s'=>Sep.one ⟨(none,0),by
  refine⟨λ_=>0,λi A hA=>?_⟩
  match i,hA with
  | 0,hA=>simp at hA;subst hA;exact Atom.up (A:= .pt v 148 [.slice none 0 0,iI 0, .bool false, .bool false]) (λb o hb=>res_some.2 ⟨rfl,hb⟩) (s'.get (i:=0) rfl)
  | 1,hA=>simp at hA;subst hA;exact⟨rfl,rfl,rfl⟩
  | k+2,hA=>simp at hA⟩)
 exact Sep.hpOf.2 s1.flat
theorem a3p (d b p:Nat) (hg:x6 d b p=true):FP 43 [.agg #[iI d,iI b,iI p]] [] (λv As=>∃q,v=pp q/\As=[i7 q (Nand.new d b p)]):=by
 have hbd:(3<=d/\d<=6)/\(8<=b/\b<=16)/\(2<=p/\p<=8):=by simp[x6]at hg;omega
 refine FE [0] Tryz.func43 λX F hX=>?_;refine J.q λg1=>?_;refine J.cb (a2g d b p) [] ?_;refine cpq ⟨_,rfl,trivial,?_⟩;rw[hg];refine J.qF λ_=>?_;refine J.p (.take false 0 (.take true 3 (.take false 4 (.alt false 1 ((.alt false 2 ((.of [22,24,30,32])) (.alt false 5 ((.of [10,24,30,32])) .non))) (.alt false 2 ((.alt false 1 ((.of [22,24,30,32])) (.alt false 5 ((.of [6,24,30,32])) .non))) (.alt false 5 ((.alt false 1 ((.of [10,24,30,32])) (.alt false 2 ((.of [6,24,30,32])) .non))) .non)))))) [8] [1] λ_=>?_;refine J.join (α:=Nat×Nat×Nat×Nat) (λx=>[⟨3,pp x.1,3, .tt⟩,⟨1,pp (g1 0),2, .tt⟩]) (λx=>[.hp F, .pt (g1 0) 23 [iI d,iI b,iI p], .pt x.1 101 (b7f d b p x), .ob x.2.1 (.map #[] 0),M9 x.2.2.1 [], .pt x.2.2.2 4 (List.replicate d (.bool false))]) (λhj=>?_) (λx=>?_)
 ·refine J.qn 3 λ_=>?_;refine J.alts ?_ (J.alts ?_ ?_)
  ·skip
   refine J.qn 1 λmm=>?_;refine J.alts ?_ ?_
   ·skip
    refine J.qc (a6X) [] λ_=>?_;rintro v As ⟨q,rfl,rfl⟩;refine⟨_,rfl,⟨rfl,trivial⟩,?_⟩;refine J.makeSlice hX tk 5 rfl rfl rfl rfl rfl rfl rfl rfl rfl rfl ?_ ?_ (λ_=>rfl) (λ_=>rfl) λdd=>⟨⟨rfl,trivial⟩,?_⟩
    ·simp only[maxLen];omega
    ·omega
    refine J.qn 4 λnn=>?_;exact J.goto [0,1,5,2,3,4] (hj (nn 0,mm 0,q,dd)) ⟨rfl,rfl,trivial⟩ rfl rfl
   ·skip
    refine J.makeSlice hX tk 4 rfl rfl rfl rfl rfl rfl rfl rfl rfl rfl ?_ ?_ (λ_=>rfl) (λ_=>rfl) λdd=>⟨⟨rfl,trivial⟩,?_⟩
    ·simp only[maxLen];omega
    ·omega
    refine J.qc (a6X) [] λ_=>?_;rintro v As ⟨q,rfl,rfl⟩;refine⟨_,rfl,⟨rfl,trivial⟩,?_⟩;refine J.qn 4 λnn=>?_;exact J.goto [0,1,5,2,4,3] (hj (nn 0,mm 0,q,dd)) ⟨rfl,rfl,trivial⟩ rfl rfl
  ·skip
   refine J.qc (a6X) [] λ_=>?_;rintro v As ⟨q,rfl,rfl⟩;refine⟨_,rfl,⟨rfl,trivial⟩,?_⟩;refine J.alts ?_ ?_
   ·skip
    refine J.qn 1 λmm=>?_;refine J.makeSlice hX tk 5 rfl rfl rfl rfl rfl rfl rfl rfl rfl rfl ?_ ?_ (λ_=>rfl) (λ_=>rfl) λdd=>⟨⟨rfl,trivial⟩,?_⟩
    ·simp only[maxLen];omega
    ·omega
    refine J.qn 4 λnn=>?_;exact J.goto [0,1,5,3,2,4] (hj (nn 0,mm 0,q,dd)) ⟨rfl,rfl,trivial⟩ rfl rfl
   ·skip
    refine J.makeSlice hX tk 4 rfl rfl rfl rfl rfl rfl rfl rfl rfl rfl ?_ ?_ (λ_=>rfl) (λ_=>rfl) λdd=>⟨⟨rfl,trivial⟩,?_⟩
    ·simp only[maxLen];omega
    ·omega
    refine J.qn 1 λmm=>?_;refine J.qn 4 λnn=>?_;exact J.goto [0,1,5,4,2,3] (hj (nn 0,mm 0,q,dd)) ⟨rfl,rfl,trivial⟩ rfl rfl
  ·skip
   refine J.makeSlice hX tk 3 rfl rfl rfl rfl rfl rfl rfl rfl rfl rfl ?_ ?_ (λ_=>rfl) (λ_=>rfl) λdd=>⟨⟨rfl,trivial⟩,?_⟩
   ·simp only[maxLen];omega
   ·omega
   refine J.alts ?_ ?_
   ·skip
    refine J.qn 1 λmm=>?_;refine J.qc (a6X) [] λ_=>?_;rintro v As ⟨q,rfl,rfl⟩;refine⟨_,rfl,⟨rfl,trivial⟩,?_⟩;refine J.qn 4 λnn=>?_;exact J.goto [0,1,5,3,4,2] (hj (nn 0,mm 0,q,dd)) ⟨rfl,rfl,trivial⟩ rfl rfl
   ·skip
    refine J.qc (a6X) [] λ_=>?_;rintro v As ⟨q,rfl,rfl⟩;refine⟨_,rfl,⟨rfl,trivial⟩,?_⟩;refine J.qn 1 λmm=>?_;refine J.qn 4 λnn=>?_;exact J.goto [0,1,5,4,3,2] (hj (nn 0,mm 0,q,dd)) ⟨rfl,rfl,trivial⟩ rfl rfl
 obtain⟨q0,r,q,dd⟩:=x;refine J.turn1 [3] rfl (As:=[B5 r a3v (Z5 b (0*b) λ_=>0), .hp (HP.of (I7 b (0*b) (λ_=>0) λ_ _=>B0))]) (λh s=>?_) rfl ?_
 ·rw[Nat.zero_mul];refine⟨λ_=>0,λi A hA=>?_⟩
  match i,hA with
  | 0,hA=>simp at hA;subst hA;exact⟨#[],0,res_some.2 ⟨rfl,s.get (i:=0) rfl⟩,rfl,by simp,by simp⟩
  | 1,hA=>simp at hA;subst hA;exact Sep.nil _
  | k+2,hA=>simp at hA
 refine J.q λ_=>?_;refine J.l (α:=(Nat×(Nat->Nat))) (λx=>x.1<=d) (λx=>[si 19 x.1,si 18 d,⟨3,pp q0,3, .tt⟩,⟨1,pp (g1 0),2, .tt⟩]) [3,6] (λx=>[B5 r a3v (Z5 b (x.1*b) x.2), .hp (HP.of (I7 b (x.1*b) x.2 λ_ _=>B0))]) (λx=>d-x.1) ((0,λ_=>0)) (Nat.zero_le _) λx hI=>?_;obtain⟨i,bp⟩:=x;dsimp only at hI ⊢;refine J.qd (λ_ h1=>?_) λ_ h1=>?_
 ·simp only[decide_eq_true_eq,Int.ofNat_lt]at h1;refine J.q λ_=>?_;refine J.l (α:=(Nat×(Nat->Nat))) (λy=>y.1<=b) (λy=>[si 24 y.1,si 23 b,si 4 i,si 19 i,si 18 d,⟨3,pp q0,3, .tt⟩,⟨1,pp (g1 0),2, .tt⟩]) [3,6] (λy=>[B5 r a3v (Z5 b (i*b+y.1) y.2), .hp (HP.of (I7 b (i*b+y.1) y.2 λ_ _=>B0))]) (λy=>b-y.1) ((0,bp)) (Nat.zero_le _) λy hI=>?_;obtain⟨j,bp'⟩:=y;dsimp only at hI ⊢;refine J.qd (λ_ h2=>?_) λ_ h2=>?_
  ·simp only[decide_eq_true_eq,Int.ofNat_lt]at h2;refine J.pq (.take true 0 (.take true 1 (.take true 2 (.take false 3 (.take true 4 (.take true 5 (.take true 7 (.alt false 6 ((.of [34,39])) (.alt false 8 ((.of [26,39])) .non))))))))) [9] [1,2] λ_ _=>?_;refine J.alts ?_ ?_
   ·refine J.qp (S8 i j) [] λ_=>?_;refine J.q λbb=>?_;refine J.mapUpdate hX J2 W1 ((i:Int),(j:Int),0) 3 rfl rfl rfl rfl rfl rfl rfl rfl rfl rfl rfl rfl (λ_=>rfl) (by rw[a5B i h2];rfl) ⟨trivial,?_⟩;refine J.turn1 [6,7] rfl (As:=[.hp (HP.of (I7 b (i*b+j+1) (upd bp' (i*b+j) (bb 0)) λ_ _=>B0))]) (λh s=>by rw[a4a];exact a7X s) rfl ?_;refine J.q λ_=>?_;refine J.n ((j+1,upd bp' (i*b+j) (bb 0))) (by dsimp only;omega) (by dsimp only;omega) [0,1,2,3,4,5,6]
   ·refine J.q λbb=>?_;refine J.cb (S8 i j) [] ?_;refine cpq ⟨_,rfl,⟨rfl,rfl,trivial⟩,?_⟩;refine J.mapUpdate hX J2 W1 ((i:Int),(j:Int),0) 3 rfl rfl rfl rfl rfl rfl rfl rfl rfl rfl rfl rfl (λ_=>rfl) (by rw[a5B i h2];rfl) ⟨trivial,?_⟩;refine J.turn1 [6,7] rfl (As:=[.hp (HP.of (I7 b (i*b+j+1) (upd bp' (i*b+j) (bb 0)) λ_ _=>B0))]) (λh s=>by rw[a4a];exact a7X s) rfl ?_;refine J.q λ_=>?_;refine J.n ((j+1,upd bp' (i*b+j) (bb 0))) (by dsimp only;omega) (by dsimp only;omega) [0,1,2,3,4,5,6]
  ·simp only[decide_eq_false_iff_not,Int.ofNat_lt]at h2;obtain rfl:j=b:=by omega
   rw[show i*j+j=(i+1)*j from(Nat.succ_mul i j).symm];refine J.q λ_=>?_;refine J.n ((i+1,bp')) (by dsimp only;omega) (by dsimp only;omega) [0,1,2,3,4,5,6]
 ·simp only[decide_eq_false_iff_not,Int.ofNat_lt]at h1;obtain rfl:i=d:=by omega
  refine J.close (f:=I0 q0 (Nand.new i b p)) ⟨r,q,dd,bp⟩ [2,3,4,5,6] rfl (by simp only[I0,Nand.new,List.map_replicate];rfl) rfl ?_;refine J.qr [2] λ_=>?_;exact⟨q0,rfl,rfl⟩
def y8 (x y:Int):Int:=if x<y then-1 else if x>y then 1 else 0
theorem a6z (x:Int):FP 153 [iI x] [] (λv As=>v= .bool false/\As=[]):=by
 refine FE [] Tryz.func153 λX F hX=>?_;refine J.qr [] λ_=>?_;exact⟨by simp,rfl⟩
theorem K4 (x y:Int):FP 105 [iI x,iI y] [] (λv As=>v=iI (y8 x y)/\As=[]):=by
 refine FE [] Tryz.func105 λX F hX=>?_;refine J.qp (a6z x) [] λ_=>?_;refine J.qp (a6z y) [] λ_=>?_;refine J.qF λ_=>?_;refine J.qF λ_=>?_;refine J.qd (λ_ h1=>?_) λ_ h1=>?_
 ·refine J.qr [] λ_=>?_;simp only[decide_eq_true_eq]at h1;exact⟨by simp[y8,h1],rfl⟩
 simp only[decide_eq_false_iff_not]at h1;refine J.qd (λ_ h2=>?_) λ_ h2=>?_
 ·refine J.qr [] λ_=>?_;simp only[decide_eq_true_eq]at h2;exact⟨by rw[y8,if_neg h1,if_pos h2],rfl⟩
 refine J.qr [] λ_=>?_;simp only[decide_eq_false_iff_not]at h2;exact⟨by rw[y8,if_neg h1,if_neg h2],rfl⟩
def orI (l:List Int):Int:=match l with
 | []=>0
 | x::r=>if x≠0 then x else orI r
theorem b7U (b:Nat) (x y z:Int):FP 196 [.slice (some ⟨b,0,none⟩) 3 3] [.pt b 3 [iI x,iI y,iI z]] (λv As=>v=iI (orI [x,y,z])/\As=[.pt b 3 [iI x,iI y,iI z]]):=by
 refine FE [2] Tryz.func196 λX F hX=>?_;refine J.q λ_=>?_;refine J.l (α:=Nat) (λk=>k<=3/\orI ([x,y,z].drop k)=orI [x,y,z]) (λk=>[si 8 k,si 7 3,⟨6, .slice (some ⟨b,0,none⟩) 3 3,2, .tt⟩,si 3 0]) [] (λk=>[]) (λk=>3-k) (0) (⟨by omega,rfl⟩) λk hI=>?_;refine J.qd (λ_ h1=>?_) λ_ h1=>?_
 ·simp only[decide_eq_true_eq]at h1;obtain⟨v,hv⟩:∃v,([x,y,z]:List Int)[k]? =some v:=⟨_,List.getElem?_eq_getElem (by simp;omega)⟩;have hd:([x,y,z]:List Int).drop k=v::([x,y,z]:List Int).drop (k+1):=by
   obtain⟨h2,h3⟩:=List.getElem?_eq_some_iff.1 hv;rw[List.drop_eq_getElem_cons h2,h3]
  refine J.q λ_=>?_;refine J.v (iI v) rfl rfl (λhg a w he hs=>?_) ?_
  ·exact j5 tk rfl rfl he rfl rfl rfl (hs.get (i:=1) rfl) (by
    rw[show 0+(k:Int).toNat*1=k from by omega,show([iI x,iI y,iI z]:List Value)=([x,y,z]:List Int).map (.int .i64)from rfl,List.getElem?_map,hv];rfl)
  refine J.qd (λ_ h2=>?_) λ_ h2=>?_
  ·simp only[bne_iff_ne,ne_eq]at h2;refine J.qr [1] λ_=>?_;refine⟨?_,rfl⟩;rw[<- hI.2,hd];simp[orI,h2]
  ·simp only[bne_eq_false_iff_eq]at h2;refine J.q λ_=>?_;refine J.nx (k+1) (⟨by omega,by rw[<- hI.2,hd,orI,if_neg (by simp[h2])]⟩) (by omega) (λ_ s=>s)
 ·simp only[decide_eq_false_iff_not]at h1;refine J.qr [1] λ_=>?_;refine⟨?_,rfl⟩;rw[<- hI.2,List.drop_of_length_le (by simp;omega)];rfl
abbrev M6 (x:A3):Value:= .agg #[iI x.1,iI x.2.1,iI x.2.2]
def a2r (x y:A3):Int:=orI [y8 x.1 y.1,y8 x.2.1 y.2.1,y8 x.2.2 y.2.2]
theorem a9c (x y:A3):FP 276 [M6 x,M6 y] [] (λv As=>v=iI (a2r x y)/\As=[]):=by
 refine FE [0,0] Tryz.func276 λX F hX=>?_;refine J.p (.of [0,5,8,13,20,25,28,33,40,45,48,53,18,38,58,62,66,68]) [17] [1,2] λ_=>?_;refine J.qp (K4 x.1 y.1) [] λ_=>?_;refine J.qp (K4 x.2.1 y.2.1) [] λ_=>?_;refine J.qp (K4 x.2.2 y.2.2) [] λ_=>?_;refine J.q λbb=>?_;refine J.cb (b7U (bb 0) (y8 x.1 y.1) (y8 x.2.1 y.2.1) (y8 x.2.2 y.2.2)) [3] ?_;refine cpq ⟨_,rfl,⟨rfl,rfl,trivial⟩,?_⟩;exact J.qx []
def d3:A3:=(0,0,0)
def j7 (l:List A3):List Value:=l.flatMap λx=>[iI x.1,iI x.2.1,iI x.2.2]
theorem s8 (l:List A3):(j7 l).length=l.length*3:=by
 induction l with
 | nil=>rfl
 | cons x l ih=>simp only[j7,List.flatMap_cons,List.length_append,List.length_cons]at ih ⊢;rw[ih];simp;omega
theorem C9:∀(l:List A3) (r:List Value) (k:Nat) (x:A3),l[k]? =some x->((j7 l++r).drop (k*3)).take 3=[iI x.1,iI x.2.1,iI x.2.2]
 | [],_,_,_,h=>by simp at h
 | y::l,r,0,x,h=>by simp at h;subst h;simp[j7]
 | y::l,r,k+1,x,h=>by
  have:=C9 l r k x (by simpa using h);rw[show(k+1)*3=3+k*3 from by omega,<- List.drop_drop];simpa[j7]using this
theorem K1:∀(l:List A3) (r:List Value) (k:Nat) (x:A3),k<l.length->(j7 l++r).take (k*3)++[iI x.1,iI x.2.1,iI x.2.2]++(j7 l++r).drop (k*3+3)=j7 (l.set k x)++r
 | [],_,_,_,h=>by simp at h
 | y::l,r,0,x,h=>by simp[j7]
 | y::l,r,k+1,x,h=>by
  have:=K1 l r k x (by simpa using h);rw[show(k+1)*3=3+k*3 from by omega];simp only[j7,List.flatMap_cons,List.set_cons_succ,List.append_assoc,List.cons_append,List.nil_append]at this ⊢;rw[show 3+k*3=k*3+1+1+1 from by omega,show k*3+1+1+1+3=(k*3+3)+1+1+1 from by omega];simp only[List.take_succ_cons,List.drop_succ_cons,List.cons_append,this]
def swp (l:List A3) (j:Nat):List A3:=(l.set j (l.getD (j-1) d3)).set (j-1) (l.getD j d3)
def a8h (f:A3->A3->Int):Nat->List A3->List A3
 | 0,l=>l
 | j+1,l=>if f (l.getD (j+1) d3) (l.getD j d3)<0 then a8h f j (swp l (j+1))else l
def J8 (f:A3->A3->Int) (l:List A3):Nat->List A3
 | 0=>l
 | k+1=>a8h f (k+1) (J8 f l k)
def Y4 (f:A3->A3->Int) (l:List A3):List A3:=J8 f l (l.length-1)
theorem a2x (l:List A3) (j:Nat):(swp l j).length=l.length:=by simp[swp]
theorem b1Q (l:List A3) (j:Nat) (h:j+1<l.length):(swp l (j+1)).Perm l:=by
 induction l generalizing j with
 | nil=>simp at h
 | cons x l ih=>
  cases j with
  | zero=>
   cases l with
   | nil=>simp at h
   | cons y l=>simp only[swp,List.set_cons_succ,List.set_cons_zero,Nat.add_sub_cancel,Nat.zero_add,List.getD_cons_zero,List.getD_cons_succ];exact List.Perm.swap _ _ _
  | succ j=>
   have:=ih j (by simpa using h);simp only[swp,Nat.add_sub_cancel,List.set_cons_succ,List.getD_cons_succ]at this ⊢;exact this.cons x
theorem a1p (f:A3->A3->Int):∀(j:Nat) (l:List A3),j<l.length->(a8h f j l).Perm l
 | 0,l,_=>List.Perm.refl _
 | j+1,l,h=>by
  unfold a8h;split
  ·exact(a1p f j _ (by rw[a2x];omega)).trans (b1Q l j h)
  ·exact List.Perm.refl _
theorem a1Y (f:A3->A3->Int) (l:List A3):∀k,k<l.length->(J8 f l k).Perm l/\(J8 f l k).length=l.length
 | 0,_=>⟨List.Perm.refl _,rfl⟩
 | k+1,h=>by
  obtain⟨h1,h2⟩:=a1Y f l k (by omega);exact⟨(a1p f (k+1) _ (by omega)).trans h1,by rw[J8,(a1p f (k+1) _ (by omega)).length_eq,h2]⟩
theorem J7 (f:A3->A3->Int) (l:List A3):(Y4 f l).Perm l:=by
 cases l with
 | nil=>exact List.Perm.refl _
 | cons x l=>exact(a1Y f (x::l) _ (by simp)).1
theorem a6V (f:A3->A3->Int):∀(j:Nat) (l:List A3),(a8h f j l).length=l.length
  | 0,l=>rfl
  | j + 1, l => by unfold a8h; split
                   · rw[a6V f j,a2x]
                   · rfl
theorem a3G (f:A3->A3->Int) (l:List A3):∀k,(J8 f l k).length=l.length
 | 0=>rfl
 | k+1=>by rw[J8,a6V,a3G f l k]
def fnV (c:Nat):Value:= .func (.func c) #[] #[]
theorem b6H (c:Nat) (f:A3->A3->Int) (hcal:n9 Tryz.prog c=true) (hf:∀x y,Fn Tryz.prog c [M6 x,M6 y] [] (Ps (iI (f x y)) []))
  (g n cap:Nat) (l:List A3) (hl:l.length=n) (hn:n<=4611686018427387904) (r:List Value):FP 283 [.slice (some ⟨g,0,none⟩) n cap,iI 0,iI n,fnV c] [.pt g 32 (j7 l++r)]
  (Ps (.tuple #[]) [.pt g 32 (j7 (Y4 f l)++r)]):=by
 refine FE [2,0,0,0] Tryz.func283 λX F hX=>?_;refine J.q λ_=>?_;refine J.l (α:=Nat) (λi=>1<=i/\i<=max 1 n) (λi=>[si 8 i,⟨0, .slice (some ⟨g,0,none⟩) n cap,2, .tt⟩,si 1 0,si 2 n,⟨3,fnV c,0, .tt⟩]) [1] (λi=>[.pt g 32 (j7 (J8 f l (i-1))++r)]) (λi=>n-i) (1) (⟨by omega,by omega⟩) λi hI=>?_;refine J.qd (λ_ h1=>?_) λ_ h1=>?_
 ·simp only[decide_eq_true_eq,Int.ofNat_lt]at h1;refine J.q λ_=>?_;refine J.l (α:=(Nat×List A3)) (λy=>y.1<=i/\y.2.length=n/\a8h f y.1 y.2=J8 f l i) (λy=>[si 9 y.1,si 8 i,⟨0, .slice (some ⟨g,0,none⟩) n cap,2, .tt⟩,si 1 0,si 2 n,⟨3,fnV c,0, .tt⟩]) [1] (λy=>[.pt g 32 (j7 y.2++r)]) (λy=>y.1) ((i,J8 f l (i-1))) (⟨Nat.le_refl _,by rw[a3G,hl],by obtain⟨k,rfl⟩:∃k,i=k+1:=⟨i-1,by omega⟩;rfl⟩) λy hI=>?_;obtain⟨j,m⟩:=y;dsimp only at hI ⊢;have hget:∀e,e<n->m[e]? =some (m.getD e d3):=λe he=>by rw[List.getD_eq_getElem?_getD,List.getElem?_eq_getElem (by omega),Option.getD_some]
  rcases Nat.eq_zero_or_pos j with h2 | h2
  ·subst h2;refine J.pn 4 (.of [0,4,8,12,16,20,24,28,33,36,40,44,48,53,58,60,64]) [] [1] λ_ _=>?_;rw[show decide (((0:Nat):Int)>0)=false from rfl];refine J.q λ_=>?_;refine J.vT (M6 d3) rfl rfl (λhg a w he hC=>by simp[G.on]at hg) ?_;refine J.q λ_=>?_;refine J.vT (M6 d3) rfl rfl (λhg a w he hC=>by simp[G.on]at hg) ?_;refine J.q λ_=>?_;refine J.gcase hX rfl rfl rfl ⟨rfl,trivial⟩ (λh=>by cases h) (λ_=>?_);refine J.vT (.bool false) rfl rfl (λhg a w he hC=>by simp[G.on]at hg) ?_;refine J.qF λ_=>?_;have hm:m=J8 f l (i+1-1):=hI.2.2;rw[hm];refine J.q λ_=>?_;refine J.n (i+1) (⟨by omega,by omega⟩) (by omega) [0,1]
  ·obtain⟨j,rfl⟩:∃k,j=k+1:=⟨j-1,by omega⟩;refine J.pn 4 (.of [0,4,8,12,16,20,24,28,33,36,40,44,48,53,58,60,64]) [] [1] λ_ _=>?_;rw[show decide (((j+1:Nat):Int)>0)=true from decide_eq_true (by omega)];refine J.q λ_=>?_;refine J.vT (M6 (m.getD (j+1) d3)) rfl rfl (λhg a w he hC=>?_) ?_
   ·exact l8 tk rfl rfl he hg rfl rfl (hC rfl _ (j3 (i:=1) rfl)) (by rw[show 0+((j+1:Nat):Int).toNat*3=(j+1)*3 from by omega];exact C9 m r _ _ (hget _ (by omega))) rfl
   refine J.q λ_=>?_;refine J.vT (M6 (m.getD j d3)) rfl rfl (λhg a w he hC=>?_) ?_
   ·exact l8 tk rfl rfl he hg rfl rfl (hC rfl _ (j3 (i:=1) rfl)) (by rw[show 0+(((j+1:Nat):Int)-1).toNat*3=j*3 from by omega];exact C9 m r _ _ (hget _ (by omega))) rfl
   refine J.q λ_=>?_;refine J.call hX hcal (hf (m.getD (j+1) d3) (m.getD j d3)) [] 0 rfl rfl rfl rfl (by(repeat' (first | exact Conj.nil | refine Conj.cons ?_ ?_ | omega | exact hq0 | (simpa using hq0) | (exactλh=>h) | exact rfl | (intro hq;have hq0:=hq;try simp only[Bool.and_eq_true,Bool.or_eq_true,decide_eq_true_eq,Bool.not_eq_true',decide_eq_false_iff_not]at hq) | (simp;done) | (simp;omega) | decide))) rfl rfl (λ_=>rfl) ?_;refine cpq ⟨_,rfl,⟨rfl,trivial⟩,?_⟩;refine J.qd (λ_ h3=>?_) λ_ h3=>?_
   ·simp only[Bool.true_and,decide_eq_true_eq]at h3;refine J.pq (.take true 0 (.take true 1 (.take true 2 (.take true 3 (.take true 4 (.take true 5 (.take true 6 (.take true 7 (.take true 8 (.take true 10 (.take true 11 (.take true 12 (.alt false 9 ((.of [54,56,62,64,71])) (.alt false 13 ((.of [38,56,62,64,71])) .non)))))))))))))) [16,17] [] λ_ _=>?_;refine J.alts ?_ ?_
    ·refine J.v (M6 (m.getD j d3)) rfl rfl (λhg a w he hs=>?_) ?_
     ·exact l8 tk rfl rfl he hg rfl rfl (hs.get (i:=1) rfl) (by rw[show 0+(((j+1:Nat):Int)-1).toNat*3=j*3 from by omega];exact C9 m r _ _ (hget _ (by omega))) rfl
     refine J.q λ_=>?_;refine J.v (M6 (m.getD (j+1) d3)) rfl rfl (λhg a w he hs=>?_) ?_
     ·exact l8 tk rfl rfl he hg rfl rfl (hs.get (i:=1) rfl) (by rw[show 0+((j+1:Nat):Int).toNat*3=(j+1)*3 from by omega];exact C9 m r _ _ (hget _ (by omega))) rfl
     refine J.q λ_=>?_;refine J.storeN hX tk 1 rfl rfl rfl rfl rfl rfl rfl rfl rfl rfl rfl rfl rfl ?_ (j7 (m.set (j+1) (m.getD j d3))++r) ?_ rfl (λ_=>rfl) ⟨trivial,?_⟩
     ·rw[List.length_append,s8];show 0+((j+1:Nat):Int).toNat*3+3<=_;omega
     ·rw[show 0+((j+1:Nat):Int).toNat*3=(j+1)*3 from by omega];exact K1 m r (j+1) _ (by omega)
     refine J.q λ_=>?_;refine J.storeN hX tk 1 rfl rfl rfl rfl rfl rfl rfl rfl rfl rfl rfl rfl rfl ?_ (j7 (swp m (j+1))++r) ?_ rfl (λ_=>rfl) ⟨trivial,?_⟩
     ·rw[List.length_append,s8,List.length_set];show 0+(((j+1:Nat):Int)-1).toNat*3+3<=_;omega
     ·rw[show 0+(((j+1:Nat):Int)-1).toNat*3=j*3 from by omega];exact K1 _ r j _ (by rw[List.length_set];omega)
     refine J.q λ_=>?_;rw[show((j+1:Nat):Int)-1=(j:Int)from by omega];refine J.q λ_=>?_;refine J.n ((j,swp m (j+1))) (⟨by dsimp only;omega,by rw[a2x];exact hI.2.1,by rw[<- hI.2.2];exact(if_pos h3).symm⟩) (by dsimp only;omega) [0,1]
    ·refine J.v (M6 (m.getD (j+1) d3)) rfl rfl (λhg a w he hs=>?_) ?_
     ·exact l8 tk rfl rfl he hg rfl rfl (hs.get (i:=1) rfl) (by rw[show 0+((j+1:Nat):Int).toNat*3=(j+1)*3 from by omega];exact C9 m r _ _ (hget _ (by omega))) rfl
     refine J.q λ_=>?_;refine J.v (M6 (m.getD j d3)) rfl rfl (λhg a w he hs=>?_) ?_
     ·exact l8 tk rfl rfl he hg rfl rfl (hs.get (i:=1) rfl) (by rw[show 0+(((j+1:Nat):Int)-1).toNat*3=j*3 from by omega];exact C9 m r _ _ (hget _ (by omega))) rfl
     refine J.q λ_=>?_;refine J.storeN hX tk 1 rfl rfl rfl rfl rfl rfl rfl rfl rfl rfl rfl rfl rfl ?_ (j7 (m.set (j+1) (m.getD j d3))++r) ?_ rfl (λ_=>rfl) ⟨trivial,?_⟩
     ·rw[List.length_append,s8];show 0+((j+1:Nat):Int).toNat*3+3<=_;omega
     ·rw[show 0+((j+1:Nat):Int).toNat*3=(j+1)*3 from by omega];exact K1 m r (j+1) _ (by omega)
     refine J.q λ_=>?_;refine J.storeN hX tk 1 rfl rfl rfl rfl rfl rfl rfl rfl rfl rfl rfl rfl rfl ?_ (j7 (swp m (j+1))++r) ?_ rfl (λ_=>rfl) ⟨trivial,?_⟩
     ·rw[List.length_append,s8,List.length_set];show 0+(((j+1:Nat):Int)-1).toNat*3+3<=_;omega
     ·rw[show 0+(((j+1:Nat):Int)-1).toNat*3=j*3 from by omega];exact K1 _ r j _ (by rw[List.length_set];omega)
     refine J.q λ_=>?_;rw[show((j+1:Nat):Int)-1=(j:Int)from by omega];refine J.q λ_=>?_;refine J.n ((j,swp m (j+1))) (⟨by dsimp only;omega,by rw[a2x];exact hI.2.1,by rw[<- hI.2.2];exact(if_pos h3).symm⟩) (by dsimp only;omega) [0,1]
   ·simp only[Bool.true_and,decide_eq_false_iff_not]at h3;have hm:m=J8 f l (i+1-1):=by rw[show i+1-1=i from rfl,<- hI.2.2];exact(if_neg h3).symm
    rw[hm];refine J.q λ_=>?_;refine J.n (i+1) (⟨by omega,by omega⟩) (by omega) [0,1]
 ·simp only[decide_eq_false_iff_not,Int.ofNat_lt]at h1;have hi:J8 f l (i-1)=Y4 f l:=by
   rw[Y4,hl,show i-1=n-1 from by omega]
  rw[hi];refine J.q λ_=>?_;refine J.f [1] ?_;exact⟨rfl,rfl⟩
def b2L (x:Nat):Nat:=([0,1,2,2,3,3,3,3,4,4,4,4,4]:List Nat).getD x 0
theorem b7M:Tryz.prog.underlying 9=some .string:=by kernel_rfl
theorem a6l {P:Program} {E:Env} {w:World} {n0:Nat} {a:Act} {o:Oper} {ty:TypeId} {s:ByteArray} {y:Operand} {k tg:Nat} {g:G} {ik:IntKind} {i:Int} {b:UInt8} (hop:o.op= .index ty (.const (.string s)) y) (hy:ev E y=some ⟨k, .int ik i,tg,g⟩) (he:EnvOK n0 E a) (hg:g.on=true) (hd:P.underlying ty=some .string)
  (h0:0<=i) (hb:s.data.toList[i.toNat]? =some b):(execOp a.eval o).run P w= .ok (.value (.int .u8 b.toNat)) w:=by
 have ey:=i9 he hy;simp only[Slot.val,hg]at ey;have h1:=run_index_string (P:=P) (w:=w) ty s ik i hd;have hlt:i.toNat<s.size:=(List.getElem?_eq_some_iff.1 hb).1;have hv:s[i.toNat]'hlt=b:=by
  have:=(List.getElem?_eq_some_iff.1 hb).2;rw[<- this];rfl
 rw[dif_pos ⟨h0,by omega⟩,hv]at h1;simp only[execOp,hop,ey,Sem.run_bind];have e1:a.eval (.const (.string s))= .string s:=rfl;rw[e1,h1];rfl
theorem b5d {x:Nat} (hx:x<=12):b2L x<=4:=by
 obtain rfl | rfl | rfl | rfl | rfl | rfl | rfl | rfl | rfl | rfl | rfl | rfl | rfl:x=0\/x=1\/x=2\/x=3\/x=4\/x=5\/x=6\/x=7\/x=8\/x=9\/x=10\/x=11\/x=12:=by omega
 all_goals decide
theorem b5H (x:Nat) (hx:x<=12):FP 227 [.int .u64 x] [] (λv As=>(∃k:Nat,k<=8/\v=iI k)/\As=[]):=by
 have h4:=b5d hx;refine FE [0] Tryz.func227 λX F hX=>?_;refine J.qd (λ_ h1=>?_) λ_ h1=>?_
 ·simp only[decide_eq_true_eq]at h1;omega
 refine J.qd (λ_ h2=>?_) λ_ h2=>?_
 ·simp only[decide_eq_true_eq]at h2;omega
 refine J.qd (λ_ h3=>?_) λ_ h3=>?_
 ·simp only[decide_eq_true_eq]at h3;omega
 refine J.q λ_=>?_;refine J.v (.int .u8 (UInt8.ofNat (b2L x)).toNat) rfl rfl (λhg a w he hs=>?_) ?_
 ·refine a6l rfl rfl he rfl b7M (by omega) ?_;obtain rfl | rfl | rfl | rfl | rfl | rfl | rfl | rfl | rfl | rfl | rfl | rfl | rfl:x=0\/x=1\/x=2\/x=3\/x=4\/x=5\/x=6\/x=7\/x=8\/x=9\/x=10\/x=11\/x=12:=by omega
  all_goals rfl
 have h5:(UInt8.ofNat (b2L x)).toNat=b2L x:=by rw[UInt8.toNat_ofNat'];omega
 rw[h5];refine J.qr [] λ_=>?_;exact⟨⟨b2L x,by omega,by simp⟩,rfl⟩
theorem b5Y (x:Nat) (hx:x<=12):FP 184 [.int .u64 x] [] (λv As=>(∃k:Nat,k<=8/\v=iI k)/\As=[]):=by
 refine FE [0] Tryz.func184 λX F hX=>?_;refine J.qF λ_=>?_;refine J.qc (b5H x hx) [] λ_=>?_;rintro v As ⟨⟨k,hk,rfl⟩,rfl⟩;refine⟨_,rfl,trivial,?_⟩;refine J.qr [] λ_=>?_;exact⟨⟨k,hk,rfl⟩,rfl⟩
theorem b6s (c:Nat) (f:A3->A3->Int) (hcal:n9 Tryz.prog c=true) (hf:∀x y,Fn Tryz.prog c [M6 x,M6 y] [] (Ps (iI (f x y)) []))
  (g n cap:Nat) (l:List A3) (hl:l.length=n) (hn:n<=12) (r:List Value) (k:Nat):FP 280 [.slice (some ⟨g,0,none⟩) n cap,iI 0,iI n,iI k,fnV c] [.pt g 32 (j7 l++r)]
  (Ps (.tuple #[]) [.pt g 32 (j7 (Y4 f l)++r)]):=by
 refine FE [2,0,0,0,0] Tryz.func280 λX F hX=>?_;refine J.q λ_=>?_;refine J.l (α:=Nat) (λy=>True) (λy=>[⟨0, .slice (some ⟨g,0,none⟩) n cap,2, .tt⟩,si 1 0,si 2 n,si 3 k,⟨4,fnV c,0, .tt⟩]) [1] (λy=>[.pt g 32 (j7 l++r)]) (λy=>0) (0) (trivial) λy hI=>?_;refine J.qd (λ_ h1=>?_) λ_ h1=>?_
 ·refine J.q λ_=>?_;rw[show(n:Int)-0=n from by omega]at*;refine J.qp (b6H c f hcal hf g n cap l hl (by omega) r) [1] λ_=>?_;exact J.qx [1]
 ·simp only[decide_eq_false_iff_not]at h1;omega
theorem b4L (c:Nat) (d:Value) (k:Nat):FP 280 [d,iI 0,iI 0,iI k,fnV c] [] (Ps (.tuple #[]) []):=by
 have h0:FP 283 [d,iI 0,iI 0,fnV c] [] (Ps (.tuple #[]) []):=by
  refine FE [0,0,0,0] Tryz.func283 λX F hX=>?_;refine J.q λ_=>?_;refine J.l (α:=Nat) (λy=>True) (λy=>[si 8 (0+1),sv 0 d,si 1 0,si 2 0,⟨3,fnV c,0, .tt⟩]) [] (λy=>[]) (λy=>0) (0) (trivial) λy hI=>?_;refine J.qd (λ_ h1=>?_) λ_ h1=>?_
  ·simp at h1
  ·refine J.q λ_=>?_;refine J.f [] ?_;exact⟨rfl,rfl⟩
 refine FE [0,0,0,0,0] Tryz.func280 λX F hX=>?_;refine J.q λ_=>?_;refine J.l (α:=Nat) (λy=>True) (λy=>[sv 0 d,si 1 0,si 2 0,si 3 k,⟨4,fnV c,0, .tt⟩]) [] (λy=>[]) (λy=>0) (0) (trivial) λy hI=>?_;refine J.qd (λ_ h1=>?_) λ_ h1=>?_
 ·refine J.qp (h0) [] λ_=>?_;exact J.qx []
 ·simp at h1
theorem a2X (c:Nat) (f:A3->A3->Int) (hcal:n9 Tryz.prog c=true) (hf:∀x y,Fn Tryz.prog c [M6 x,M6 y] [] (Ps (iI (f x y)) []))
  (a:Option Nat) (n cap:Nat) (l:List A3) (hl:l.length=n) (hn:n<=12):FP 275 [slv a n cap,fnV c] [c9 32 3 a n cap (j7 l)]
  (Ps (.tuple #[]) [c9 32 3 a n cap (j7 (Y4 f l))]):=by
 refine FE [0,0] Tryz.func275 λX F hX=>?_;refine J.qc (b5Y n hn) [] λ_=>?_;rintro v As ⟨⟨k,hk,rfl⟩,rfl⟩;refine⟨_,rfl,trivial,?_⟩;refine J.q λ_=>?_;cases a with
 | none=>
  refine J.know (λh' s=>(s.get (i:=1) rfl).2.1) λhn0=>?_;subst hn0;have:l=[]:=List.eq_nil_of_length_eq_zero hl;subst this;refine J.qp (b4L c (slv none 0 cap) k) [] λ_=>?_;refine J.q λ_=>?_;refine J.f [1] ?_;exact⟨rfl,rfl⟩
 | some g=>
  refine J.openOwn 1 rfl rfl (λ_=>rfl) λr q1 q2 q3 q4=>?_;refine J.qp (b6s c f hcal hf g n cap l hl hn r k) [1] λ_=>?_;refine J.closeOwn (e:=32) (size:=3) (n:=n) (cap:=cap) (xs:=j7 (Y4 f l)) 1 rfl rfl (by rw[s8,(J7 f l).length_eq,hl]) q2 q3 (by rw[List.length_append,s8,(J7 f l).length_eq];rw[s8]at q4;exact q4) (by rw[List.take_left' (by rw[s8,(J7 f l).length_eq,hl])]) rfl ?_;refine J.q λ_=>?_;refine J.f [1] ?_;exact⟨rfl,rfl⟩
def a4u (x:A3):List Value:=[.int .i64 x.1, .int .i64 x.2.1, .int .i64 x.2.2]
instance:Inhabited A3:=⟨d3⟩
theorem a3J (d:Array A3):(Go.Sort.flatK a4u 3 d).toList=j7 d.toList:=by
 apply List.ext_getElem?;intro t;have hs:(Go.Sort.flatK a4u 3 d).toList.length=d.size*3:=by simp
 by_cases ht:t<d.size*3
 ·have hx:d.toList[t/3]? =some d[t/3]!:=by
   rw[Array.getElem?_toList,Array.getElem?_eq_getElem (by omega),getElem!_pos d _ (by omega)]
  have h1:=C9 d.toList [] (t/3) _ hx;rw[List.append_nil]at h1;have h2:(j7 d.toList)[t]? =([.int .i64 d[t/3]!.1, .int .i64 d[t/3]!.2.1, .int .i64 d[t/3]!.2.2]:List Value)[t % 3]?:=by
   rw[<- h1,List.getElem?_take,if_pos (Nat.mod_lt _ (by decide)),List.getElem?_drop,show t/3*3+t % 3=t from by omega]
  rw[h2];have h3:=Go.Sort.get_flatK a4u 3 d t ht;rw[Array.getElem?_toList,Array.getElem?_eq_getElem (by simpa using ht),<- getElem!_pos (Go.Sort.flatK a4u 3 d) t (by simpa using ht),h3];have:t % 3<3:=Nat.mod_lt _ (by decide);rcases(by omega:t % 3=0\/t % 3=1\/t % 3=2)with e | e | e<;>rw[e]<;>rfl
 ·rw[List.getElem?_eq_none (by omega),List.getElem?_eq_none (by rw[s8,Array.length_toList];omega)]
theorem a4p (F cur:Array Value) (h:F.size<=cur.size):(Go.Sort.putCells id 0 F cur).size=cur.size/\(Go.Sort.putCells id 0 F cur).toList.take F.size=F.toList:=by
 unfold Go.Sort.putCells;refine⟨by simp,?_⟩;apply List.ext_getElem?;intro t;rw[List.getElem?_take]
 by_cases ht:t<F.size
 ·rw[if_pos ht,Array.getElem?_toList,Array.getElem?_toList,Array.getElem?_eq_getElem (by simp;omega),Array.getElem_mapIdx,if_pos (by omega),Nat.sub_zero,Array.getElem?_eq_getElem ht,getElem!_pos F t ht];rfl
 ·rw[if_neg ht,List.getElem?_eq_none (by simpa using ht)]
theorem a1Q (w:World) (g m e:Nat) (cur:Array Value) (F:Array Value) (os:Array Obj) (h:hl w g=some (.cells cur e (0,0))):
  hl (Go.Sort.grow (Go.Sort.putRow id (Go.Sort.ahead w m) g 0 F) os) g=some (.cells (Go.Sort.putCells id 0 F cur) e (0,0))/\
  (∀b o,b≠g->hl w b=some o->hl (Go.Sort.grow (Go.Sort.putRow id (Go.Sort.ahead w m) g 0 F) os) b=some o)/\Ext w (Go.Sort.grow (Go.Sort.putRow id (Go.Sort.ahead w m) g 0 F) os):=by
 have hsz:(Go.Sort.putRow id (Go.Sort.ahead w m) g 0 F).heap.size=w.heap.size:=Go.Sort.size_putRow id _ _ _ _;have key:∀b o,w.heap[b]? =some o->(Go.Sort.grow (Go.Sort.putRow id (Go.Sort.ahead w m) g 0 F) os).heap[b]? =(w.heap.modify g (Go.Sort.onCells (Go.Sort.putCells id 0 F)))[b]?:=λb o hb=>by
  have hlt:b<w.heap.size:=(Array.getElem?_eq_some_iff.1 hb).1;show((Go.Sort.putRow id (Go.Sort.ahead w m) g 0 F).heap++os)[b]? =_;rw[Array.getElem?_append_left (by omega)];rfl
 refine⟨?_,λb o hb ho=>?_,rfl,rfl,rfl,?_⟩
 ·show(Go.Sort.grow _ os).heap[g]? =_;rw[key g _ h,Array.getElem?_modify,if_pos rfl,show w.heap[g]? =_ from h];rfl
 ·show(Go.Sort.grow _ os).heap[b]? =_;rw[key b _ ho,Array.getElem?_modify,if_neg (λe=>hb e.symm)];exact ho
 ·show w.heap.size<=((Go.Sort.putRow id (Go.Sort.ahead w m) g 0 F).heap++os).size;rw[Array.size_append];omega
theorem b6I {w:World} {g e n cap:Nat} {l:List A3} (hl':l.length=n) (h:J5 e 3 (some g) n cap (j7 l) (hl w)):Go.Sort.HoldsK a4u 3 w g 0 l.toArray:=by
 obtain⟨h0,cur,h2,h3,h4,h5,h6⟩:=h;intro j hj;have hF:=a3J l.toArray;simp only[Go.Sort.size_flatK,List.size_toArray]at hj;have hb:Blk w g e cur:=h2;rw[Nat.zero_add];refine⟨?_,hb.frozen j⟩;rw[hb.cell,<- Array.getElem?_toList];have h7:(j7 l)[j]? =cur.toList[j]?:=by
  rw[<- h6,List.getElem?_take,if_pos (by omega)]
 rw[<- h7,<- hF,Array.getElem?_toList,Array.getElem?_eq_getElem (by simpa using hj),getElem!_pos _ _ (by simpa using hj)];rfl
set_option maxHeartbeats 400000 in
theorem a1k (a b:Int) (w:World):Calls Tryz.prog 105 #[.int .i64 a, .int .i64 b] w λe w'=>e= .returned (.int .i64 (y8 a b))/\w=w':=by
 rcases Int.lt_trichotomy a b with h | h | h
 ·have h2:y8 a b= -1:=by simp[y8,h]
  go_enter Tryz.func105,Tryz.ntmps105
  go_wp2
  go_ret
  exact⟨a5T h2.symm,rfl⟩
 ·have h2:y8 a b=0:=by simp[y8,h]
  go_enter Tryz.func105,Tryz.ntmps105
  go_wp2
  go_ret
  exact⟨a5T h2.symm,rfl⟩
 ·have h2:y8 a b=1:=by simp[y8];omega
  go_enter Tryz.func105,Tryz.ntmps105
  go_wp2
  go_ret
  exact⟨a5T h2.symm,rfl⟩
set_option maxHeartbeats 800000 in
theorem b7L (g:Nat) (a b c:Int) (w:World) (h0:w.cell? ⟨g,0,none⟩=some (.int .i64 a)) (h1:w.cell? ⟨g,1,none⟩=some (.int .i64 b)) (h2:w.cell? ⟨g,2,none⟩=some (.int .i64 c)):Calls Tryz.prog 196 #[.slice (some ⟨g,0,none⟩) 3 3] w λe w'=>e= .returned (.int .i64 (orI [a,b,c]))/\w=w':=by
 have ho:orI [a,b,c]=if a≠0 then a else if b≠0 then b else if c≠0 then c else 0:=rfl
 go_enter Tryz.func196,Tryz.ntmps196
 go_wp2
 go_loop [8] (λx=>∃k:Nat,k<=3/\x= .int .i64 k/\(0<k->a=0)/\(1<k->b=0)/\(2<k->c=0)) (λx=>3-(intOf x).toNat)
 case atStart=>exact⟨0,by omega,rfl,by omega,by omega,by omega⟩
 case round=>
  obtain⟨k,hk,rfl,z1,z2,z3⟩:=hrel;rcases(by omega:k=0\/k=1\/k=2\/k=3)with rfl | rfl | rfl | rfl
  ·by_cases hz:a=0
   ·subst hz
    go_wp2
    go_round
    case rel=>exact⟨1,by omega,rfl,by simp,by omega,by omega⟩
    case measure=>simp[intOf]
   ·have ho2:=Lib.hid (show orI [a,b,c]=a by rw[ho,if_pos hz]);clear ho
    go_wp2
    go_ret
    exact⟨a5T ho2.out.symm,rfl⟩
  ·have ha:=z1 (by omega);subst ha
   by_cases hz:b=0
   ·subst hz
    go_wp2
    go_round
    case rel=>exact⟨2,by omega,rfl,by simp,by simp,by omega⟩
    case measure=>simp[intOf]
   ·have ho2:=Lib.hid (show orI [0,b,c]=b by rw[ho,if_neg (by simp),if_pos hz]);clear ho
    go_wp2
    go_ret
    exact⟨a5T ho2.out.symm,rfl⟩
  ·have ha:=z1 (by omega);have hb:=z2 (by omega);subst ha hb
   by_cases hz:c=0
   ·subst hz
    go_wp2
    go_round
    case rel=>exact⟨3,by omega,rfl,by simp,by simp,by simp⟩
    case measure=>simp[intOf]
   ·have ho2:=Lib.hid (show orI [0,0,c]=c by rw[ho,if_neg (by simp),if_neg (by simp),if_pos hz]);clear ho
    go_wp2
    go_ret
    exact⟨a5T ho2.out.symm,rfl⟩
  ·have ho2:=Lib.hid (show orI [a,b,c]=0 by rw[z1 (by omega),z2 (by omega),z3 (by omega)];rfl);clear ho z1 z2 z3
   go_wp2
   go_ret
   exact⟨a5T ho2.out.symm,rfl⟩
set_option maxRecDepth 100000 in
set_option maxHeartbeats 800000 in
theorem b4d (x y:A3) (w:World):Calls Tryz.prog 276 #[.agg #[.int .i64 x.1, .int .i64 x.2.1, .int .i64 x.2.2], .agg #[.int .i64 y.1, .int .i64 y.2.1, .int .i64 y.2.2]] w λe w'=>e= .returned (.int .i64 (a2r x y))/\∃q os',w'=Go.Sort.grow (w.drewN q) os':=by
 obtain⟨x0,x1,x2⟩:=x;obtain⟨y0,y1,y2⟩:=y
 go_enter Tryz.func276,Tryz.ntmps276
 go_upto_region 1 with fail
 obtain⟨w0,hw0⟩:∃w0,(w.alloc (.cells #[.int .i64 x0, .int .i64 x1, .int .i64 x2] 32)).alloc (.cells #[.int .i64 y0, .int .i64 y1, .int .i64 y2] 32)=w0:=⟨_,rfl⟩;rw[hw0];have hg:w0=Go.Sort.grow w #[.cells #[.int .i64 x0, .int .i64 x1, .int .i64 x2] 32 (0,0), .cells #[.int .i64 y0, .int .i64 y1, .int .i64 y2] 32 (0,0)]:=by
  rw[<- hw0,Go.Sort.alloc_eq_grow,Go.Sort.alloc_eq_grow,Go.Sort.grow_grow];rfl
 have b0:Blk w0 w.heap.size 32 #[.int .i64 x0, .int .i64 x1, .int .i64 x2]:=by rw[<- hw0];exact(Blk.new w _ _).alloc _
 have b1:Blk w0 (w.heap.size+1) 32 #[.int .i64 y0, .int .i64 y1, .int .i64 y2]:=by rw[<- hw0];simpa using Blk.new (w.alloc (.cells #[.int .i64 x0, .int .i64 x1, .int .i64 x2] 32)) 32 #[.int .i64 y0, .int .i64 y1, .int .i64 y2]
 have c0:=(b0.cell 0).trans rfl;have c1:w0.cell? ⟨w.heap.size,1,none⟩=some (.int .i64 x1):=(b0.cell 1).trans rfl;have c2:w0.cell? ⟨w.heap.size,2,none⟩=some (.int .i64 x2):=(b0.cell 2).trans rfl;have d0:w0.cell? ⟨w.heap.size+1,0,none⟩=some (.int .i64 y0):=(b1.cell 0).trans rfl;have d1:w0.cell? ⟨w.heap.size+1,1,none⟩=some (.int .i64 y1):=(b1.cell 1).trans rfl;have d2:w0.cell? ⟨w.heap.size+1,2,none⟩=some (.int .i64 y2):=(b1.cell 2).trans rfl;have c0:w0.cell? ⟨w.heap.size,0,none⟩=some (.int .i64 x0):=(b0.cell 0).trans rfl;have Hg:=Lib.hid hg;clear hw0 b0 b1 hg;generalize w.heap.size=n at*
 go_still_tail 15,(by kernel_rfl)
 still_call ((a1k _ _ _).mono λ_ _ h=>⟨h.1,h.2.symm⟩)
 repeat still_step
 still_call ((a1k _ _ _).mono λ_ _ h=>⟨h.1,h.2.symm⟩)
 repeat still_step
 still_call ((a1k _ _ _).mono λ_ _ h=>⟨h.1,h.2.symm⟩)
 refine wpStill_nil ?_;have hb:=(Blk.new w0 3 #[.int .i64 (y8 x0 y0), .int .i64 (y8 x1 y1), .int .i64 (y8 x2 y2)]).drew;have e0:=λW h0 h1 h2=>b7L w0.heap.size (y8 x0 y0) (y8 x1 y1) (y8 x2 y2) W h0 h1 h2
 go_wp2_with (go_at_call 196;refine(e0 _ ((hb.cell 0).trans rfl) ((hb.cell 1).trans rfl) ((hb.cell 2).trans rfl)).mono ?_;rintro e w' ⟨rfl,rfl⟩)
 go_ret
 exact⟨rfl,1,_,by rw[Hg.out,Go.Sort.alloc_eq_grow,Go.Sort.grow_grow];rfl⟩
theorem R1 {P : Program} {f : FuncId} {B fn : Func} (h : P.funcs[f]? = some fn) (hn : (fn.name == "runtime.NumGoroutine") = false) (e : fn = { B with name := fn.name }) : Bears P f B := ⟨fn.name, hn, by rw [h, ← e]⟩
def b7N:Go.Shelf.Ren:=⟨λx=>match x with | 6=>275 | 14=>280 | 15=>184 | 28=>226 | 29=>227 | 20=>283 | 21=>284 | 22=>285 | 23=>286 | 24=>287 | 25=>288 | 26=>289 | 27=>290 | 46=>296 | 47=>254 | 48=>255 | 49=>297 | 50=>298 | 57=>303 | n=>n,
 λx=>match x with | 22=>296 | 24=>32 | 25=>341 | 3=>3 | 39=>193 | 53=>292 | 55=>294 | 4=>4 | 46=>285 | 45=>284 | 50=>289 | 5=>5 | 9=>9 | 66=>323 | 70=>321 | 76=>336 | 77=>337 | n=>n,λn=>n⟩
set_option maxRecDepth 100000 in
theorem b7Q:SlLaysF0.n6 Tryz.prog b7N:=by
 constructor
 case f6=>exact R1 Tryz.func275 (by kernel_rfl) (by kernel_rfl)
 case f14=>exact R1 Tryz.func280 (by kernel_rfl) (by kernel_rfl)
 case f15=>exact Tryz.func184.trans (congrArg some (by kernel_rfl))
 case f20=>exact R1 Tryz.func283 (by kernel_rfl) (by kernel_rfl)
 case f21=>exact R1 Tryz.func284 (by kernel_rfl) (by kernel_rfl)
 case f22=>exact R1 Tryz.func285 (by kernel_rfl) (by kernel_rfl)
 case f23=>exact R1 Tryz.func286 (by kernel_rfl) (by kernel_rfl)
 case f24=>exact R1 Tryz.func287 (by kernel_rfl) (by kernel_rfl)
 case f25=>exact R1 Tryz.func288 (by kernel_rfl) (by kernel_rfl)
 case f26=>exact R1 Tryz.func289 (by kernel_rfl) (by kernel_rfl)
 case f27=>exact R1 Tryz.func290 (by kernel_rfl) (by kernel_rfl)
 case f28=>exact Tryz.func226.trans (congrArg some (by kernel_rfl))
 case f29=>exact Tryz.func227.trans (congrArg some (by kernel_rfl))
 case f46=>exact R1 Tryz.func296 (by kernel_rfl) (by kernel_rfl)
 case f47=>exact Tryz.func254.trans (congrArg some (by kernel_rfl))
 case f48=>exact Tryz.func255.trans (congrArg some (by kernel_rfl))
 case f49=>exact R1 Tryz.func297 (by kernel_rfl) (by kernel_rfl)
 case f50=>exact R1 Tryz.func298 (by kernel_rfl) (by kernel_rfl)
 case f57=>exact R1 Tryz.func303 (by kernel_rfl) (by kernel_rfl)
 all_goals first | kernel_rfl | (intro w;rfl)
theorem a8r (x y:A3):a2r x y<0↔x.1<y.1\/x.1=y.1/\(x.2.1<y.2.1\/x.2.1=y.2.1/\x.2.2<y.2.2):=by
 simp only[a2r,orI,y8]
 (repeat' split)<;>omega
theorem b4R:Go.Sort.SWO (λx y:A3=>decide (a2r x y<0))where
 irrefl x:=by rw[decide_eq_false_iff_not,a8r];omega
 trans x y z h1 h2:=by
  rw[decide_eq_true_eq,a8r]at*;omega
 ntrans x y z h1 h2:=by
  rw[decide_eq_false_iff_not,a8r]at*;omega
theorem a8j (a:Option Nat) (n cap:Nat) (l:List A3) (hq:l.length=n) (hn:n<=100000):Fn Tryz.prog 275 [slv a n cap,fnV 276] [c9 32 3 a n cap (j7 l)]
  (λv As=>v= .tuple #[]/\∃l',l'.Perm l/\As=[c9 32 3 a n cap (j7 l')]):=by
 cases a with
 | none=>
  intro F w hs;have h0:n=0:=(hs.get (i:=1) rfl).2.1;refine(a2X 276 a2r (by kernel_rfl) a9c none n cap l hq (by omega) F w hs).mono λe w' ⟨v,As,h1,⟨h2,h3⟩,h4⟩=>⟨v,As,h1,⟨h2,_,J7 _ _,h3⟩,h4⟩
 | some g=>
  intro F w hs;have hown:J5 32 3 (some g) n cap (j7 l) (hl w):=hs.get (i:=1) rfl;obtain⟨h0,cur,h2,h3,h4,h5,h6⟩:=hown;have hH:=b6I hq ⟨h0,cur,h2,h3,h4,h5,h6⟩;have hlt:g<w.heap.size:=(Array.getElem?_eq_some_iff.1 h2).1;have hcon:=AnyQ.slices_SortFunc b7Q 3 (λw=>by kernel_rfl) (λw=>by kernel_rfl) a4u (λ_=>rfl) (λx v hv=>by
   simp only[a4u,List.mem_cons,List.not_mem_nil,or_false]at hv;rcases hv with rfl | rfl | rfl<;>rfl) a2r b4R 276 #[] g 0 cap l.toArray w (enters_of Tryz.func276 (by kernel_rfl) rfl) (λ_ _ _ _ x y=>b4d x y _) hH hlt (by rw[List.size_toArray];omega)
  rw[List.size_toArray,hq]at hcon;refine Calls.mono hcon λe w' ⟨he,d',m,os,hp,_,hw⟩=>⟨.tuple #[],[c9 32 3 (some g) n cap (j7 d'.toList)],he,⟨rfl,d'.toList,?_,rfl⟩,?_,?_⟩
  all_goals have hs':d'.size=n:=by rw[hp.1,List.size_toArray,hq]
  ·have h7:=hp.2.2;have e1:(d'.extract 0 n).toList=d'.toList:=by rw[<- hs'];simp
   have e2:(l.toArray.extract 0 n).toList=l:=by rw[<- hq];simp
   rw[e1,e2]at h7;exact h7
  ·subst hw;obtain⟨k1,k2,_⟩:=a1Q w g m 32 cur (Go.Sort.flatK a4u 3 d') os h2;have hF:(Go.Sort.flatK a4u 3 d').size<=cur.size:=by rw[Go.Sort.size_flatK,hs',h5];omega
   obtain⟨p1,p2⟩:=a4p _ cur hF;rw[Go.Sort.size_flatK,hs',a3J]at p2;obtain⟨own,ho⟩:=hs;obtain⟨_,cur',c1,_⟩:=ho 1 _ rfl;have hg1:=(res_some.1 c1).1;refine⟨own,λi A hA=>?_⟩
   match i,hA with
   | 0,hA=>
    simp at hA;subst hA;exact Atom.up (λb o hb=>res_some.2 ⟨(res_some.1 hb).1,k2 b o (λe=>by subst e;have:=(res_some.1 hb).1;omega) (res_some.1 hb).2⟩) (ho 0 _ rfl)
   | 1,hA=>
    simp at hA;subst hA;exact⟨by rw[s8,Array.length_toList,hs'],_,res_some.2 ⟨hg1,k1⟩,h3,h4,p1.trans h5,p2⟩
   | k+2,hA=>simp at hA
  ·subst hw;exact(a1Q w g m 32 cur (Go.Sort.flatK a4u 3 d') os h2).2.2
theorem X9:∀(n:Nat) (is:List Nat),is.Nodup->(∀i∈is,i<n)->is.length<=n
 | 0,is,_,h=>by
  cases is with
  | nil=>simp
  | cons x r=>have:=h x (by simp);omega
 | n+1,is,hn,h=>by
  have h1:=X9 n (is.erase n) (hn.erase n) (λi hi=>by
   rw[hn.mem_erase_iff]at hi;have:=h i hi.2;omega)
  rw[List.length_erase]at h1;split at h1<;>omega
def H9 (l:List A3) (is:List Nat):List A3:=is.map λi=>l.getD i d3
theorem a3h {l:List A3} {is:List Nat} (h:is.Perm (List.range l.length)):(H9 l is).Perm l:=by
 have h1:=h.map λi=>l.getD i d3;have h2:(List.range l.length).map (λi=>l.getD i d3)=l:=by
  apply List.ext_getElem?;intro k;rw[List.getElem?_map]
  by_cases hk:k<l.length
  ·rw[List.getElem?_range hk];simp[hk]
  ·rw[List.getElem?_eq_none (by simpa using hk),List.getElem?_eq_none (by simpa using hk)];rfl
 rwa [h2]at h1
theorem a8n {l:List A3} {is:List Nat} {j:Nat} {y:A3×Value} (hy:(D0 l)[j]? =some y):j7 (H9 l is)++[iI y.1.1,iI y.1.2.1,iI y.1.2.2]=j7 (H9 l (is++[j])):=by
 rw[D0,List.getElem?_map]at hy;cases h:l[j]? with
 | none=>rw[h]at hy;cases hy
 | some x=>
  rw[h]at hy;simp at hy;subst hy;simp[j7,H9,h]
theorem b7r (q:Nat) (l:List A3) (hl:l.length<=1000):FP 259 [pp q] [M9 q l]
  (λv As=>∃a cap l',l'.Perm l/\v=slv a l'.length cap/\As=[M9 q l,c9 32 3 a l'.length cap (j7 l')]):=by
 refine FE [2] Tryz.func259 λX F hX=>?_;refine J.o (α:=Nat) 1 λmr=>?_;refine J.qF λ_=>?_;refine J.q λ_=>?_;refine J.rangeMap hX 2 b4l rfl rfl rfl rfl rfl rfl rfl (λ_=>rfl) (λ_=>rfl) λr=>⟨trivial,?_⟩;refine J.turn1 [] rfl (As:=[c9 32 3 none 0 0 (j7 (H9 l []))]) (λh s=>Sep.one ⟨rfl,rfl,rfl⟩) rfl ?_;refine J.q λ_=>?_;refine J.l (α:=(List Nat×Option Nat×Nat)) (λx=>True) (λx=>[sp 11 r,sv 3 (slv x.2.1 x.1.length x.2.2)]) [2,3] (λx=>[itA mr r a3v (D0 l) x.1,c9 32 3 x.2.1 x.1.length x.2.2 (j7 (H9 l x.1))]) (λx=>l.length-x.1.length) (([],none,0)) (trivial) λx hI=>?_;obtain⟨is,a,cap⟩:=x;dsimp only;refine J.q λ_=>?_;refine J.know (p:=is.Nodup/\∀i∈is,i<l.length) (λh s=>?_) λhk=>?_
 ·obtain⟨_,_,_,_,_,_,_,_,h1,h2,_⟩:=s.get (i:=2) rfl;exact⟨h1,λi hi=>by have:=h2 i hi;simpa[D0]using this⟩
 have hle:=X9 _ _ hk.1 hk.2;refine J.rangeNext hX 2 rfl rfl rfl rfl rfl rfl rfl (λ_=>rfl) (λ_=>rfl) (λhp=>⟨trivial,?_⟩) (λj y hj hy=>⟨trivial,?_⟩)
 ·rw[show(D0 l).length=l.length from by simp[D0]]at hp;refine J.qF λ_=>?_;refine J.qc (a8j a is.length cap (H9 l is) (by simp[H9]) (by omega)) [3] λ_=>?_;rintro v As ⟨rfl,l',hp',rfl⟩;refine⟨_,rfl,trivial,?_⟩;refine J.turn1 [2] rfl (As:=[B5 mr a3v (D0 l)]) (λh s=>b3b s) rfl ?_;refine J.cl (λmr:Nat=>[.pt q 223 [.map (some mr)],B5 mr a3v (D0 l)]) mr [1,2] ?_;refine J.qr [1,3] λ_=>?_;have hlen:is.length=l'.length:=by rw[hp'.length_eq];simp[H9]
  refine⟨a,cap,l',hp'.trans (a3h hp),?_,?_⟩
  ·rw[<- hlen]
  ·rw[<- hlen];rfl
 ·have hjl:j<l.length:=by have:=(List.getElem?_eq_some_iff.1 hy).1;simpa[D0]using this
  refine J.qT λ_=>?_;refine J.q λ_=>?_;have hlt:(is++[j]).length<=l.length:=X9 _ _ (by
   rw[List.nodup_append];exact⟨hk.1,by simp,λa ha b hb=>by simp at hb;subst hb;rintro rfl;exact hj ha⟩) (λi hi=>by
   rw[List.mem_append]at hi;rcases hi with hi | hi
   ·exact hk.2 i hi
   ·simp at hi;subst hi;exact hjl)
  rw[List.length_append,List.length_singleton]at hlt;refine J.rangeEntry hX 2 rfl rfl rfl rfl rfl rfl rfl hy rfl ⟨trivial,?_⟩;refine J.q λ_=>?_;refine J.append hX tk 3 5 0 rfl rfl rfl rfl rfl rfl rfl rfl rfl rfl rfl rfl rfl rfl rfl rfl ?_ ?_ (λ_=>rfl) λa' cap'=>⟨_,(congrArg (λz=>B1 _ 3 (c9 _ _ _ _ _ z)) (a8n hy)).trans rfl,trivial,?_⟩
  ·simp only[maxLen];omega
  ·omega
  refine J.q λ_=>?_;rw[show is.length+1=(is++[j]).length from by simp];refine J.q λ_=>?_;refine J.n ((is++[j],a',cap')) (trivial) (by dsimp only;rw[List.length_append,List.length_singleton];omega) [0,1,2,3]
end Go.Proofs.YtnffkcabeecopaaGreat
