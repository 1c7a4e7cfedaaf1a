/- Helpers. No condition. -/
import Derived.Test.YtnffkcabeecopaaGreatW01
import Derived.Test.YtnffkcabeecopaaGreatW03
import Derived.Test.YtnffkcabeecopaaGreatW04
import Derived.Shelf.GgSortFunc.InsertionK
import Derived.Sort.Grow
set_option maxRecDepth 20000
set_option linter.all false
namespace Go.Proofs.YtnffkcabeecopaaGreat
open Go Go.RowKit
theorem M3 {N:Nand} {Y:NLoc} {i j:Nat} (hi:i<N.dies) (hj:j<N.blocks):y5 (Z6 N.blocks (N.dies*N.blocks) Y.bp) ((i:Int),(j:Int),0)=some (pp (Y.bp (i*N.blocks+j))):=by
 rw[a8H _ _ _ _ hj,if_pos (a3t hi hj)]
theorem a5t {N:Nand} {Y:NLoc} {x y:Int} (hb:0<N.blocks) (h:¬(0<=x/\x<N.dies/\0<=y/\y<N.blocks)):y5 (Z6 N.blocks (N.dies*N.blocks) Y.bp) (x,y,0)=none:=by
 refine a3X _ hb _ _ _ λi j hij hj e=>h ?_;simp only[Prod.mk.injEq]at e;have hi:i<N.dies:=by
  rcases Nat.lt_or_ge i N.dies with h | h
  ·exact h
  ·have:=Nat.mul_le_mul_right N.blocks h;omega
 omega
theorem b2r (p:Nat) (N:Nand) (hN:N.Ok) (x y:Int):FP 131 [pp p,iI x,iI y] [i4 p N] (λv As=>v=iI (N.next x y)/\As=[i4 p N]):=by
 have hbd:=hN.bd
 by_cases hr:0<=x/\x<N.dies/\0<=y/\y<N.blocks
 ·obtain⟨i,rfl⟩:=Int.eq_ofNat_of_zero_le hr.1;obtain⟨j,rfl⟩:=Int.eq_ofNat_of_zero_le hr.2.2.1;have hi:i<N.dies:=by omega
  have hj:j<N.blocks:=by omega
  have hv:((N.next i j:Nat):Int)=((N.blk i j).cells.length:Nat):=by rw[Nand.next,if_pos (by omega)];rfl
  refine FE [2,0,0] Tryz.func131 λX F hX=>?_;refine J.o (α:=NLoc) 1 λY=>?_;refine J.openAt 5 (i*N.blocks+j) rfl rfl (K4 _ _ _ _ _ (a3t hi hj)) rfl ?_;rw[(H0 hj).1,(H0 hj).2];refine J.o (α:=(Option Nat×Nat)) 6 λc=>?_;refine J.p (.of [0,4,8,12,16,20,25,28,32,38,41,44,48]) [] [1,2,3,4,6,7] λ_=>?_;refine J.qp (R8 i j) [] λ_=>?_;refine J.valT hX (pp (Y.bp (i*N.blocks+j))) 7 rfl rfl (λ_ a w he hC=>?_) rfl ?_
  ·refine(l8 (key:=((i:Int),(j:Int),0)) J2 W1 (z:= .pointer none) (λw=>by kernel_rfl) rfl rfl rfl rfl he rfl rfl (hC rfl _ (i6 (i:=2) rfl))).trans ?_;simp only[M3 hi hj];rfl
  refine J.qF λ_=>?_;refine J.p (.of [0,4,8,13,16,20,26,29,32,36,41,44,48]) [12] [1,2,3,4,6,7] λ_=>?_;refine J.qp (R8 i j) [] λ_=>?_;refine J.valT hX (pp (Y.bp (i*N.blocks+j))) 7 rfl rfl (λ_ a w he hC=>?_) rfl ?_
  ·refine(l8 (key:=((i:Int),(j:Int),0)) J2 W1 (z:= .pointer none) (λw=>by kernel_rfl) rfl rfl rfl rfl he rfl rfl (hC rfl _ (i6 (i:=2) rfl))).trans ?_;simp only[M3 hi hj];rfl
  refine J.q λ_=>?_;refine J.closeN p N (N) Y i j hj (N.blk i j) _ [1,2,3,4,5,6,7] rfl rfl rfl rfl (C3 _ _ _) rfl ?_;refine J.qr [1] λ_=>?_;exact⟨by rw[hv],rfl⟩
 ·refine FE [2,0,0] Tryz.func131 λX F hX=>?_;refine J.o (α:=NLoc) 1 λY=>?_;refine J.p (.of [0,4,8,12,16,20,25,28,32,38,41,44,48]) [] [1,2,3,4] λ_=>?_;refine J.qp (R8 x y) [] λ_=>?_;refine J.vT (.pointer none) rfl rfl (λ_ a w he hC=>?_) ?_
  ·refine(l8 (key:=(x,y,0)) J2 W1 (z:= .pointer none) (λw=>by kernel_rfl) rfl rfl rfl rfl he rfl rfl (hC rfl _ (i6 (i:=2) rfl))).trans ?_;simp only[a5t (show 0<N.blocks by omega) hr];rfl
  refine J.qT λ_=>?_;refine J.q λ_=>?_;refine J.cl (H9 p N) (Y) [1,2,3,4,5] ?_;refine J.qr [1] λ_=>?_;exact⟨by simp[Nand.next,hr],rfl⟩
theorem a8j (p:Nat) (N:Nand) (hN:N.Ok) (x y:Int):FP 128 [pp p,iI x,iI y] [i4 p N] (λv As=>v=iI (N.wornAt x y)/\As=[i4 p N]):=by
 have hbd:=hN.bd
 by_cases hr:0<=x/\x<N.dies/\0<=y/\y<N.blocks
 ·obtain⟨i,rfl⟩:=Int.eq_ofNat_of_zero_le hr.1;obtain⟨j,rfl⟩:=Int.eq_ofNat_of_zero_le hr.2.2.1;have hi:i<N.dies:=by omega
  have hj:j<N.blocks:=by omega
  have hv:N.wornAt i j=(N.blk i j).worn:=by rw[Nand.wornAt,if_pos (by omega)];rfl
  refine FE [2,0,0] Tryz.func128 λX F hX=>?_;refine J.o (α:=NLoc) 1 λY=>?_;refine J.openAt 5 (i*N.blocks+j) rfl rfl (K4 _ _ _ _ _ (a3t hi hj)) rfl ?_;rw[(H0 hj).1,(H0 hj).2];refine J.o (α:=(Option Nat×Nat)) 6 λc=>?_;refine J.p (.of [0,4,8,12,16,20,25,28,32,38,41,44,48]) [] [1,2,3,4,6,7] λ_=>?_;refine J.qp (R8 i j) [] λ_=>?_;refine J.valT hX (pp (Y.bp (i*N.blocks+j))) 7 rfl rfl (λ_ a w he hC=>?_) rfl ?_
  ·refine(l8 (key:=((i:Int),(j:Int),0)) J2 W1 (z:= .pointer none) (λw=>by kernel_rfl) rfl rfl rfl rfl he rfl rfl (hC rfl _ (i6 (i:=2) rfl))).trans ?_;simp only[M3 hi hj];rfl
  refine J.qF λ_=>?_;refine J.p (.of [0,4,8,13,16,20,26,29,32,36,41,44]) [11] [1,2,3,4,6,7] λ_=>?_;refine J.qp (R8 i j) [] λ_=>?_;refine J.valT hX (pp (Y.bp (i*N.blocks+j))) 7 rfl rfl (λ_ a w he hC=>?_) rfl ?_
  ·refine(l8 (key:=((i:Int),(j:Int),0)) J2 W1 (z:= .pointer none) (λw=>by kernel_rfl) rfl rfl rfl rfl he rfl rfl (hC rfl _ (i6 (i:=2) rfl))).trans ?_;simp only[M3 hi hj];rfl
  refine J.q λ_=>?_;refine J.closeN p N (N) Y i j hj (N.blk i j) _ [1,2,3,4,5,6,7] rfl rfl rfl rfl (C3 _ _ _) rfl ?_;refine J.qr [1] λ_=>?_;exact⟨by rw[hv],rfl⟩
 ·refine FE [2,0,0] Tryz.func128 λX F hX=>?_;refine J.o (α:=NLoc) 1 λY=>?_;refine J.p (.of [0,4,8,12,16,20,25,28,32,38,41,44,48]) [] [1,2,3,4] λ_=>?_;refine J.qp (R8 x y) [] λ_=>?_;refine J.vT (.pointer none) rfl rfl (λ_ a w he hC=>?_) ?_
  ·refine(l8 (key:=(x,y,0)) J2 W1 (z:= .pointer none) (λw=>by kernel_rfl) rfl rfl rfl rfl he rfl rfl (hC rfl _ (i6 (i:=2) rfl))).trans ?_;simp only[a5t (show 0<N.blocks by omega) hr];rfl
  refine J.qT λ_=>?_;refine J.q λ_=>?_;refine J.cl (H9 p N) (Y) [1,2,3,4,5] ?_;refine J.qr [1] λ_=>?_;exact⟨by simp[Nand.wornAt,hr],rfl⟩
theorem R9 (p:Nat) (N:Nand):FP 28 [pp p] [i4 p N] (λv As=>v= .agg #[iI N.dies,iI N.blocks,iI N.pages]/\As=[i4 p N]):=by
 refine FE [2] Tryz.func28 λX F hX=>?_;refine J.o (α:=NLoc) 1 λY=>?_;refine J.qF λ_=>?_;refine J.q λ_=>?_;refine J.cl (H9 p N) (Y) [1,2,3,4,5] ?_;exact J.qx [1]
theorem a0N (p:Nat) (N:Nand):FP 57 [pp p] [i4 p N] (λv As=>v= .bool (!N.off)/\As=[i4 p N]):=by
 refine FE [2] Tryz.func57 λX F hX=>?_;refine J.o (α:=NLoc) 1 λY=>?_;refine J.q λ_=>?_;refine J.cl (H9 p N) (Y) [1,2,3,4,5] ?_;refine J.qr [1] λ_=>?_;exact⟨by simp,rfl⟩
theorem b2q (p:Nat) (N:Nand):FP 21 [pp p] [i4 p N] (λv As=>v=iI N.ops/\As=[i4 p N]):=by
 refine FE [2] Tryz.func21 λX F hX=>?_;refine J.o (α:=NLoc) 1 λY=>?_;refine J.qF λ_=>?_;refine J.q λ_=>?_;refine J.cl (H9 p N) (Y) [1,2,3,4,5] ?_;exact J.qx [1]
theorem a6Y (p:Nat) (N:Nand):FP 16 [pp p] [i4 p N] (λv As=>v=iI N.broken/\As=[i4 p N]):=by
 refine FE [2] Tryz.func16 λX F hX=>?_;refine J.o (α:=NLoc) 1 λY=>?_;refine J.qF λ_=>?_;refine J.q λ_=>?_;refine J.cl (H9 p N) (Y) [1,2,3,4,5] ?_;exact J.qx [1]
theorem b4K (p:Nat) (N:Nand):FP 35 [pp p] [i4 p N] (λv As=>v= .tuple #[]/\As=[i4 p N.onN]):=by
 refine FE [2] Tryz.func35 λX F hX=>?_;refine J.o (α:=NLoc) 1 λY=>?_;refine J.qT λ_=>?_;refine J.q λ_=>?_;refine J.cl (H9 p N.onN) (Y) [1,2,3,4,5] ?_;refine J.q λ_=>?_;refine J.f [1] ?_;exact⟨rfl,rfl⟩
theorem a9d (p:Nat) (N:Nand) (x k:Int):FP 34 [pp p,iI x,iI k] [i4 p N] (λv As=>v= .tuple #[]/\As=[i4 p (N.setCut x k)]):=by
 refine FE [2,0,0] Tryz.func34 λX F hX=>?_;refine J.o (α:=NLoc) 1 λY=>?_;refine J.qd (λ_ h=>?_) λ_ h=>?_
 ·refine J.q λ_=>?_;refine J.cl (H9 p N) (Y) [1,2,3,4,5] ?_;refine J.qr [1] λ_=>?_;simp only[Bool.false_or]at h;exact⟨rfl,by simp[Nand.setCut,h,s7];rfl⟩
 ·simp only[Bool.false_or]at h;have hs:N.setCut x k={N with cuts:=decide (x>=0),left:=x,keep:=if 32<(if 0>k then 0 else k)then 32 else(if 0>k then 0 else k),off:=decide (x<0)}:=by
   simp only[Nand.setCut,h];have:min (max k 0) 32=if 32<(if 0>k then 0 else k)then 32 else(if 0>k then 0 else k):=by(repeat' split)<;>omega
   rw[this];rfl
  refine J.q λ_=>?_;refine J.cl (H9 p {N with cuts:=decide (x>=0),left:=x,keep:=if 32<(if 0>k then 0 else k)then 32 else(if 0>k then 0 else k),off:=decide (x<0)}) (Y) [1,2,3,4,5] ?_;refine J.q λ_=>?_;refine J.f [1] ?_;exact⟨rfl,by rw[hs];rfl⟩
theorem b5J (p:Nat) (N:Nand) (Y:NLoc) (hN:N.Ok) (hR:N.Room):FP 229 [pp p] [.pt p 101 (N.mainV Y)] (λv As=>v= .bool N.cutB/\As=[.pt p 101 (N.cutN.mainV Y)]):=by
 have h1:=hN.num.1;have h2:=hR.ops;have h3:=hN.lft;have h4:=hN.lf2;refine FE [2] Tryz.func229 λX F hX=>?_;refine J.qd (λ_ h=>?_) λ_ h=>?_
 ·simp only[Bool.not_eq_true']at h;have hs:N.cutN={N with ops:=N.ops+1}:=by simp[Nand.cutN,Nand.cutB,h]
  refine J.qr [1] λ_=>?_;exact⟨by simp[Nand.cutB,h],by rw[hs];rfl⟩
 simp only[Bool.not_eq_false']at h;have h3:=h3 h;refine J.qd (λ_ h5=>?_) λ_ h5=>?_
 ·simp only[decide_eq_true_eq]at h5;have hs:N.cutN={N with ops:=N.ops+1,left:=N.left-1}:=by
   have hcb:N.cutB=false:=by simp[Nand.cutB,h];omega
   simp[Nand.cutN,hcb,h]
  refine J.qr [1] λ_=>?_;exact⟨by congr 1;simp[Nand.cutB,h];omega,by rw[hs];rfl⟩
 simp only[decide_eq_false_iff_not]at h5;have hcb:N.cutB=true:=by simp[Nand.cutB,h];omega
 have hs:N.cutN={N with ops:=N.ops+1,left:=N.left-1,cuts:=false,off:=true}:=by
  simp[Nand.cutN,hcb,h]
 refine J.qr [1] λ_=>?_;exact⟨by rw[hcb],by rw[hs];rfl⟩
theorem a3o (p:Nat) (N:Nand) (hN:N.Ok) (x:Int):FP 72 [pp p,iI x] [i4 p N] (λv As=>v= .bool (N.deadAt x)/\As=[i4 p N]):=by
 have hd:=hN.dead;refine FE [2,0] Tryz.func72 λX F hX=>?_;refine J.o (α:=NLoc) 1 λY=>?_;refine J.q λ_=>?_;refine J.v (.bool (N.dead.getD x.toNat false)) rfl rfl (λhg a w he hs=>?_) ?_
 ·simp only[G.on,Bool.and_eq_true,decide_eq_true_eq]at hg;refine i7 tk rfl rfl he (by simp[G.on,hg]) rfl rfl (hs.get (i:=4) rfl) ?_;have:x.toNat<N.dead.length:=by omega
  simp[this]
 refine J.q λ_=>?_;refine J.cl (H9 p N) (Y) [1,2,3,4,5] ?_;refine J.qr [1] λ_=>?_;refine⟨?_,rfl⟩;congr 1
theorem a3n (p:Nat) (N:Nand) (hN:N.Ok) (x y z:Int):FP 214 [pp p, .agg #[iI x,iI y,iI z]] [i4 p N] (λv As=>v= .tuple #[.agg (y9 (N.readV x y z)).toArray,iI (N.readE x y z)]/\As=[i4 p N]):=by
 have hbd:=hN.bd;refine FE [2,0] Tryz.func214 λX F hX=>?_;refine J.qp (a1t p N hN x y z) [1] λ_=>?_;refine J.qd (λ_ h=>?_) λ_ h=>?_
 ·simp only[bne_iff_ne,ne_eq]at h;refine J.qr [1] λ_=>?_;exact⟨by simp only[Nand.readV,Nand.readE,ne_eq,h,not_false_eq_true,if_pos];rfl,rfl⟩
 simp only[bne_eq_false_iff_eq]at h;obtain⟨hoff,hdd,hr⟩:=Nand.refuses_zero h;obtain⟨i,rfl⟩:=Int.eq_ofNat_of_zero_le hr.1;obtain⟨j,rfl⟩:=Int.eq_ofNat_of_zero_le hr.2.2.1;obtain⟨k,rfl⟩:=Int.eq_ofNat_of_zero_le hr.2.2.2.2.1;have hi:i<N.dies:=by omega
 have hj:j<N.blocks:=by omega
 refine J.o (α:=NLoc) 1 λY=>?_;refine J.openAt 7 (i*N.blocks+j) rfl rfl (K4 _ _ _ _ _ (a3t hi hj)) rfl ?_;rw[(H0 hj).1,(H0 hj).2];refine J.o (α:=(Option Nat×Nat)) 8 λc=>?_;refine J.p (.of [0,4,8,13,16,21,24,29,34,37,40]) [10] [1,2,3,4,5,6,7,8,9] λ_=>?_;refine J.qp (R8 i j) [] λ_=>?_;refine J.valT hX (pp (Y.bp (i*N.blocks+j))) 9 rfl rfl (λ_ a w he hC=>?_) rfl ?_
 ·refine(l8 (key:=((i:Int),(j:Int),0)) J2 W1 (z:= .pointer none) (λw=>by kernel_rfl) rfl rfl rfl rfl he rfl rfl (hC rfl _ (i6 (i:=4) rfl))).trans ?_;simp only[M3 hi hj];rfl
 refine J.p (.of [0,5,8,12,16,21,24,28,32]) [] [1,2,3,4,5,6,7,8,9] λ_=>?_;refine J.qd (λ_ h5=>?_) λ_ h5=>?_
 ·simp only[ge_iff_le,decide_eq_true_eq,Int.ofNat_le]at h5;have hp:N.pageAt i j k=none:=by simp[Nand.pageAt,h5]
  refine J.q λ_=>?_;refine J.closeN p N (N) Y i j hj (N.blk i j) _ [1,4,5,6,7,8,9] rfl rfl rfl rfl (C3 _ _ _) rfl ?_;refine J.qr [1] λ_=>?_;exact⟨by simp only[Nand.readV,Nand.readE,h,hp,ne_eq,not_true_eq_false,if_false];rfl,rfl⟩
 simp only[ge_iff_le,decide_eq_false_iff_not,Int.ofNat_le,Nat.not_le]at h5;obtain⟨cl,hcl⟩:∃cl,(N.blk i j).cells[k]? =some cl:=⟨_,List.getElem?_eq_getElem h5⟩;have hp:N.pageAt i j k=some cl:=by simp only[Nand.pageAt,Int.toNat_natCast];exact hcl
 refine J.know (λh' s=>i9 (by omega) (s.get (i:=9) rfl)) λhg=>?_;obtain⟨g,hg⟩:=hg;obtain⟨c1,c2⟩:=c;simp only at hg;subst hg;refine J.pq (.of [0,4,8,13,16,21,24,28,33,36]) [] [1,2,3,4,5,6,7,8,9] λ_ _=>?_;refine J.vT (.bool cl.lost) rfl rfl (λ_ a w he hC=>?_) ?_
 ·exact j9 tk rfl rfl he rfl rfl rfl (hC rfl _ (i6 (i:=9) rfl)) (by rw[show 0+((k:Int)).toNat*34+32=k*34+32 from by simp];exact a2h hcl (by omega))
 refine J.qd (λ_ h6=>?_) λ_ h6=>?_
 ·refine J.q λ_=>?_;refine J.closeN p N (N) Y i j hj (N.blk i j) _ [1,4,5,6,7,8,9] rfl rfl rfl rfl (C3 _ _ _) rfl ?_;refine J.qr [1] λ_=>?_;exact⟨by simp only[Nand.readV,Nand.readE,h,hp,h6,ne_eq,not_true_eq_false,if_false,if_true];rfl,rfl⟩
 refine J.pq (.of [0,4,8,13,16,21,24,28,33,39,40]) [9,10] [1,2,4,5,6,7,8,9] λ_ _=>?_;refine J.vT (.agg (y9 cl.p).toArray) rfl rfl (λ_ a w he hC=>?_) ?_
 ·exact q9 tk rfl rfl he rfl rfl rfl (hC rfl _ (i6 (i:=9) rfl)) (by rw[show 0+((k:Int)).toNat*34+0=k*34 from by simp];exact a7G hcl) rfl
 refine J.q λ_=>?_;refine J.closeN p N (N) Y i j hj (N.blk i j) _ [1,4,5,6,7,8,9] rfl rfl rfl rfl (C3 _ _ _) rfl ?_;refine J.qr [1] λ_=>?_;exact⟨by simp only[Nand.readV,Nand.readE,h,hp,h6,ne_eq,not_true_eq_false,if_false,Bool.false_eq_true];rfl,rfl⟩
def Y9 (a b:Nat) (p:List UInt8):List UInt8:=p.take a++List.replicate (b-a) 255++p.drop b
theorem a5i (a b:Nat) (p:List UInt8) (h1:a<=b) (h2:b<=p.length):(Y9 a b p).length=p.length:=by simp[Y9];omega
theorem a8w (a:Nat) (p:List UInt8):Y9 a a p=p:=by simp[Y9]
theorem b0K (a b:Nat) (p:List UInt8) (h1:a<=b) (h2:b<p.length):(Y9 a b p).set b 255=Y9 a (b+1) p:=by
 apply List.ext_getElem?;intro j;have hl:=a5i a b p h1 (by omega);rw[List.getElem?_set,hl];simp only[Y9,List.append_assoc,List.getElem?_append,List.length_take,List.length_replicate,List.getElem?_take,List.getElem?_replicate,List.getElem?_drop]
 by_cases e:b=j
 ·subst e;rw[if_pos rfl,if_pos h2,if_neg (by omega),if_pos (by omega),if_pos (by omega)]
 ·rw[if_neg e]
  by_cases h3:j<min a p.length
  ·rw[if_pos h3,if_pos h3]
  ·rw[if_neg h3,if_neg h3]
   by_cases h4:j<b
   ·rw[if_pos (by omega),if_pos (by omega),if_pos (by omega),if_pos (by omega)]
   ·rw[if_neg (by omega),if_neg (by omega)];congr 1;omega
theorem a9Z (p:List UInt8) (h:p.length=32) (k:Nat) (v:UInt8):(y9 p).set k (bv v)=y9 (p.set k v):=by
 rw[C1 p h,C1 _ (by simpa using h),List.map_set]
theorem a7F (l:List NCell) (c:NCell):s9 (l++[c])=s9 l++c.vals:=by simp[s9]
theorem b0L (K:Nat) (p:List UInt8) (h:K<=32) (hp:p.length=32):Y9 K 32 p=Nand.fillP K p:=by
 simp only[Y9,Nand.fillP];rw[List.drop_of_length_le (by omega),List.append_nil]
theorem a5B (l:List NCell) (c:NCell):l.length+1=(l++[c]).length:=by simp
theorem b1I {L L2:List Atom} {k e n cap:Nat} {ao:Option Nat} {l:List NCell} {cs:List Value} (c:NCell) (h:cs=c.vals) (hL:B1 L k (c9 e 34 ao n cap (s9 (l++[c])))=some L2):B1 L k (c9 e 34 ao n cap (s9 l++cs))=some L2:=by
 rw[h,<- a7F];exact hL
theorem a9X {N:Nand} {x y z:Int} {pg:List UInt8} (h:N.refuses x y z=0) (h5:z=(N.blk x.toNat y.toNat).cells.length) (h6:N.cutB=true):N.progN x y z pg=N.cutN.push x.toNat y.toNat ⟨Nand.fillP N.keep.toNat pg,false,true⟩:=by
 unfold Nand.progN;rw[if_neg (by simp[h]),if_neg (by simp[h5]),if_pos h6]
theorem a0I {N:Nand} {x y z:Int} {pg:List UInt8} (h:N.refuses x y z=0) (h5:z=(N.blk x.toNat y.toNat).cells.length) (h6:N.cutB=false):N.progN x y z pg=Nand.push {N.cutN with plan:=N.plan.erase (x,y,z)} x.toNat y.toNat ⟨pg,N.fails x y z,false⟩:=by
 unfold Nand.progN;rw[if_neg (by simp[h]),if_neg (by simp[h5]),if_neg (by simp[h6])]
theorem a9Y {N:Nand} {x y z:Int} (h:N.refuses x y z=0) (h5:z=(N.blk x.toNat y.toNat).cells.length) (h6:N.cutB=true):N.progE x y z=9:=by
 unfold Nand.progE;rw[if_neg (by simp[h]),if_neg (by simp[h5]),if_pos h6]
theorem a0J {N:Nand} {x y z:Int} (h:N.refuses x y z=0) (h5:z=(N.blk x.toNat y.toNat).cells.length) (h6:N.cutB=false):N.progE x y z=if N.fails x y z then 7 else 0:=by
 unfold Nand.progE;rw[if_neg (by simp[h]),if_neg (by simp[h5]),if_neg (by simp[h6])]
theorem a0b (p:Nat) (N:Nand) (hN:N.Ok) (hR:N.Room) (x y z:Int) (pg:List UInt8) (hpl:pg.length=32):
  FP 211 [pp p, .agg #[iI x,iI y,iI z], .agg (y9 pg).toArray] [i4 p N] (Ps (iI (N.progE x y z)) [i4 p (N.progN x y z pg)]):=by
 have hbd:=hN.bd;have hnum:=hN.num;have hr1:=hR.broken;refine FE [2,0,0] Tryz.func211 λX F hX=>?_;refine J.q λbs=>?_;refine J.cb (a1t p N hN x y z) [1] ?_;refine cpq ⟨_,rfl,trivial,?_⟩;refine J.qd (λ_ h=>?_) λ_ h=>?_
 ·simp only[bne_iff_ne,ne_eq]at h;refine J.qr [1] λ_=>?_;exact⟨by simp only[Nand.progE,ne_eq,h,not_false_eq_true,if_pos],by simp only[Nand.progN,ne_eq,h,not_false_eq_true,if_pos];rfl⟩
 simp only[bne_eq_false_iff_eq]at h;obtain⟨hoff,hdd,hr⟩:=Nand.refuses_zero h;obtain⟨i,rfl⟩:=Int.eq_ofNat_of_zero_le hr.1;obtain⟨j,rfl⟩:=Int.eq_ofNat_of_zero_le hr.2.2.1;obtain⟨k,rfl⟩:=Int.eq_ofNat_of_zero_le hr.2.2.2.2.1;have hi:i<N.dies:=by omega
 have hj:j<N.blocks:=by omega
 have hlen:=(hN.cells i j hi hj).1;refine J.o (α:=NLoc) 1 λY=>?_;refine J.openAt 7 (i*N.blocks+j) rfl rfl (K4 _ _ _ _ _ (a3t hi hj)) rfl ?_;rw[(H0 hj).1,(H0 hj).2];refine J.o (α:=(Option Nat×Nat)) 8 λc=>?_;refine J.p (.of [0,4,8,13,16,21,24,29,34,37,40]) [10] [1,2,3,4,5,6,7,8,9] λ_=>?_;refine J.qp (R8 i j) [] λ_=>?_;refine J.valT hX (pp (Y.bp (i*N.blocks+j))) 9 rfl rfl (λ_ a w he hC=>?_) rfl ?_
 ·refine(l8 (key:=((i:Int),(j:Int),0)) J2 W1 (z:= .pointer none) (λw=>by kernel_rfl) rfl rfl rfl rfl he rfl rfl (hC rfl _ (i6 (i:=4) rfl))).trans ?_;simp only[M3 hi hj];rfl
 refine J.p (.of [0,5,8,12,16,21,24,28]) [] [1,2,3,4,5,6,7,8,9] λ_=>?_;refine J.qd (λ_ h5=>?_) λ_ h5=>?_
 ·simp only[bne_iff_ne,ne_eq]at h5;refine J.q λ_=>?_;refine J.closeN p N ({N with broken:=N.broken+1}) Y i j hj (N.blk i j) _ [1,4,5,6,7,8,9] rfl rfl rfl rfl (C3 _ _ _) rfl ?_;refine J.qr [1] λ_=>?_;exact⟨by simp[Nand.progE,h,h5],by simp[Nand.progN,h,h5];rfl⟩
 simp only[bne_eq_false_iff_eq,Int.natCast_inj]at h5;refine J.qp (b5J p N Y hN hR) [1] λ_=>?_;refine J.qd (λ_ h6=>?_) λ_ h6=>?_
 ·have hkp:=hN.kp;obtain⟨K,hK⟩:∃K:Nat,N.keep=K:=⟨N.keep.toNat,by omega⟩;have hK2:N.cutN.keep=K:=hK;refine J.q λ_=>?_;rw[hK2];refine J.q λ_=>?_;refine J.lo (α:=Nat) (λm=>K<=m/\m<=32) (λm=>[si 9 m,⟨5,pp (bs (0+1)),4, .tt⟩,⟨8,pp (Y.bp (i*N.blocks+j)),9, .tt⟩]) [3] (λm=>[.pt (bs (0+1)) 106 (y9 (Y9 K m pg))]) (λm=>32-m) (K) (⟨Nat.le_refl _,by omega⟩) rfl ?_ (λ_=>rfl) λm hI=>?_
  ·rw[a8w];rfl
  refine J.qd (λ_ h7=>?_) λ_ h7=>?_
  ·simp only[decide_eq_true_eq]at h7;refine J.q λ_=>?_;refine J.s1 3 (y9 (Y9 K (m+1) pg)) ?_ ?_ ?_
   ·show 0+(m:Int).toNat*1<32;omega
   ·rw[show 0+(m:Int).toNat*1=m from by omega,<- b0K _ _ _ hI.1 (by omega)];exact a9Z _ (by rw[a5i _ _ _ hI.1 (by omega)];exact hpl) m 255
   refine J.q λ_=>?_;refine J.nx (m+1) (⟨by omega,by omega⟩) (by omega) (λ_ s=>s)
  simp only[decide_eq_false_iff_not]at h7;obtain rfl:m=32:=by omega
  refine J.pq (.of [0,4,8,12,17,21,24,30,34,36,40,47]) [9,10,11] [1,2,3,4,5,6,7,8] λ_ _=>?_;rw[b0L _ _ hI.1 hpl];refine J.append hX tk 9 10 0 rfl rfl rfl rfl rfl rfl rfl rfl rfl rfl rfl rfl rfl rfl rfl rfl ?_ ?_ (λ_=>rfl) λa' cap'=>⟨_,b1I ⟨Nand.fillP K pg,false,true⟩ rfl rfl,⟨rfl,rfl,rfl,rfl,rfl,rfl,rfl,rfl,trivial⟩,?_⟩
  ·simp only[maxLen];omega
  ·omega
  refine J.q λ_=>?_;rw[a5B _ ⟨Nand.fillP K pg,false,true⟩];refine J.q λ_=>?_;refine J.closeN p N (N.cutN.push i j ⟨Nand.fillP K pg,false,true⟩) Y i j hj ({N.blk i j with cells:=(N.blk i j).cells++[⟨Nand.fillP K pg,false,true⟩]}) (a',cap') [1,4,5,6,7,8,9] rfl rfl rfl rfl (rfl) rfl ?_;refine J.qr [1] λ_=>?_;subst h5;exact⟨(a9Y h rfl h6).symm▸rfl,by rw[a9X h rfl h6,hK];rfl⟩
 ·refine J.p (.of [0,4,8,13,17,22,24,28,32,36,40]) [10] [1,2,3,4,6,7,8,9] λ_=>?_;refine J.qp (b5F Y.q N.plan i j k) [5] λ_=>?_;refine J.p (.of [0,4,8,13,17,22]) [] [1,2,3,4,6,7,8,9] λ_=>?_;refine J.qp (b1M Y.q N.plan i j k) [5] λ_=>?_;refine J.pq (.of [0,4,8,12,17,21,24,28,34,38,40,44,51]) [10,11,12] [1,2,3,4,5,6,7,8] λ_ _=>?_;refine J.append hX tk 9 10 0 rfl rfl rfl rfl rfl rfl rfl rfl rfl rfl rfl rfl rfl rfl rfl rfl ?_ ?_ (λ_=>rfl) λa' cap'=>⟨_,b1I ⟨pg,decide (((i:Int),(j:Int),(k:Int))∈N.plan)||(N.blk i j).met,false⟩ rfl rfl,⟨rfl,rfl,rfl,rfl,rfl,rfl,rfl,rfl,trivial⟩,?_⟩
  ·simp only[maxLen];omega
  ·omega
  refine J.q λ_=>?_;rw[a5B _ ⟨pg,N.fails i j k,false⟩];refine J.q λ_=>?_;refine J.closeN p N (Nand.push {N.cutN with plan:=N.plan.erase ((i:Int),(j:Int),(k:Int))} i j ⟨pg,N.fails i j k,false⟩) Y i j hj ({N.blk i j with cells:=(N.blk i j).cells++[⟨pg,N.fails i j k,false⟩]}) (a',cap') [1,4,5,6,7,8,9] rfl rfl rfl rfl (rfl) rfl ?_;refine J.qd (λ_ h9=>?_) λ_ h9=>?_
  ·refine J.qr [1] λ_=>?_;subst h5;exact⟨by rw[a0J h rfl h6];exact congrArg (Value.int IntKind.i64) (if_pos h9).symm,by rw[a0I h rfl h6];rfl⟩
  ·refine J.qr [1] λ_=>?_;subst h5;exact⟨by rw[a0J h rfl h6];exact congrArg (Value.int IntKind.i64) (if_neg (by rw[show N.fails i j (N.blk i j).cells.length=false from h9];simp)).symm,by rw[a0I h rfl h6];rfl⟩
theorem P8:∀(l:List NCell) (k i:Nat) (v:Value) (f:NCell->NCell) (c:NCell),l[k]? =some c->i<34->c.vals.set i v=(f c).vals->(s9 l).set (k*34+i) v=s9 (l.modify k f)
 | [],k,i,v,f,c,h,_,_=>by simp at h
 | x::l,0,i,v,f,c,h,hi,hv=>by
  simp at h;subst h;simp only[s9,List.flatMap_cons,List.modify_cons,Nat.zero_mul,Nat.zero_add,if_true];rw[List.set_append_left _ _ (by simpa[NCell.vals]using hi),hv]
 | x::l,k+1,i,v,f,c,h,hi,hv=>by
  have:=P8 l k i v f c (by simpa using h) hi hv;simp only[s9,List.flatMap_cons,List.modify_cons]at this ⊢;rw[List.set_append_right _ _ (by simp[NCell.vals];omega),show(k+1)*34+i-x.vals.length=k*34+i from by simp[NCell.vals];omega,this];simp
theorem a9s {N:Nand} {x y z n xx:Int} (h:y7 N.dies N.blocks N.pages x y z=true):N.fault 1 x y z n xx=(true,{N with plan:=b1b N.plan (x,y,z)}):=by
 unfold Nand.fault;rw[if_neg (by simp[h]),if_pos rfl];rfl
theorem a9r {N:Nand} {x y z n xx:Int} (h:y7 N.dies N.blocks N.pages x y z=true):N.fault 2 x y z n xx=(true,N.setBlk x.toNat y.toNat {N.blk x.toNat y.toNat with fails:=true}):=by
 unfold Nand.fault;rw[if_neg (by simp[h]),if_neg (by decide),if_pos rfl]
theorem a6d {N:Nand} {x y z n xx:Int} (h:y7 N.dies N.blocks N.pages x y z=true):N.fault 3 x y z n xx=(true,N.setCell x y z λc=>{c with lost:=true}):=by
 unfold Nand.fault;rw[if_neg (by simp[h]),if_neg (by decide),if_neg (by decide),if_pos rfl]
theorem a9q {N:Nand} {x y z n xx:Int} (h:y7 N.dies N.blocks N.pages x y z=true):N.fault 4 x y z n xx=(true,{N with dead:=N.dead.set x.toNat true}):=by
 unfold Nand.fault;rw[if_neg (by simp[h]),if_neg (by decide),if_neg (by decide),if_neg (by decide),if_pos rfl]
theorem a7x {N:Nand} {k x y z n xx:Int} (h1:k≠1) (h2:k≠2) (h3:k≠3) (h4:k≠4) (h5:k≠5):N.fault k x y z n xx=(false,N):=by
 unfold Nand.fault;split<;>simp_all
theorem a7a {l:List NCell} {k:Nat} {f:NCell->NCell} (h:l.length<=k):l.modify k f=l:=by
 apply List.ext_getElem?;intro j;rw[List.getElem?_modify]
 by_cases e:k=j
 ·subst e;rw[List.getElem?_eq_none h];rfl
 ·simp[e]
theorem a2E {N:Nand} {x y z n xx:Int} (h:y7 N.dies N.blocks N.pages x y z=true):N.fault 5 x y z n xx=if n<0\/32<=n then(false,N)else
  match N.pageAt x y z with
  | none=>(true,N)
  | some c=>if c.turned then(false,N)else if c.lost then(true,N)else
   (true,N.setCell x y z λc=>{c with p:=Nand.xorAt c.p n.toNat (UInt8.ofNat (xx % 256).toNat),turned:=true}):=by
 unfold Nand.fault;rw[if_neg (by simp[h]),if_neg (by decide),if_neg (by decide),if_neg (by decide),if_neg (by decide),if_pos rfl]
 try rfl
theorem Z0 {N:Nand} {x y z n xx:Int} (h:y7 N.dies N.blocks N.pages x y z=true) (h2:N.pageAt x y z=none) {b:Bool} (hb:(decide (n<0)||decide (n>=32))=b):N.fault 5 x y z n xx=(!b,N):=by
 subst hb;rw[a2E h,h2]
 by_cases h3:n<0\/32<=n
 ·rw[if_pos h3];simp;omega
 ·rw[if_neg h3];simp;omega
theorem a4n {N:Nand} {x y z n xx:Int} {c:NCell} (h:y7 N.dies N.blocks N.pages x y z=true) (h2:N.pageAt x y z=some c) (hb:(decide (n<0)||decide (n>=32)||(true&&c.turned))=true):N.fault 5 x y z n xx=(false,N):=by
 rw[a2E h,h2]
 by_cases h3:n<0\/32<=n
 ·rw[if_pos h3]
 ·rw[if_neg h3];simp only[Bool.or_eq_true,decide_eq_true_eq,Bool.true_and]at hb;rcases hb with hb | hb
  ·omega
  ·simp only;rw[if_pos hb]
theorem a5w {c:NCell} (h:c.p.length=32):c.vals=c.p.map bv++[.bool c.lost, .bool c.turned]:=by
 rw[<- C1 c.p h];rfl
theorem b1o {c:NCell} (h:c.p.length=32) {e:Nat} (he:e<32):c.vals[e]? =some (bv (c.p.getD e 0)):=by
 rw[a5w h,List.getElem?_append_left (by simpa[h]using he)];simp[h,he]
theorem b1e (b:UInt8) (xx:Int):IntKind.u8.wrap ((BitVec.ofInt IntKind.u8.bits (b.toNat:Int) ^^^ BitVec.ofInt IntKind.u8.bits (IntKind.u8.wrap xx)).toNat:Int)=((b ^^^ UInt8.ofNat (xx % 256).toNat).toNat:Int):=by
 have h0:IntKind.u8.wrap xx=xx % 256:=by simp[IntKind.wrap,IntKind.bits,IntKind.signed]
 obtain⟨m,hm⟩:∃m:Nat,xx % 256=m:=⟨(xx % 256).toNat,by omega⟩;have hm2:m<256:=by omega
 rw[h0,hm];simp only[Int.toNat_natCast];have e1:(BitVec.ofInt IntKind.u8.bits (b.toNat:Int) ^^^ BitVec.ofInt IntKind.u8.bits (m:Int)).toNat=b.toNat ^^^ m:=by
  rw[BitVec.toNat_xor];have:=b.toNat_lt;show(BitVec.ofInt 8 (b.toNat:Int)).toNat ^^^ (BitVec.ofInt 8 (m:Int)).toNat=_;rw[BitVec.ofInt_natCast,BitVec.ofInt_natCast,BitVec.toNat_ofNat,BitVec.toNat_ofNat,Nat.mod_eq_of_lt this,Nat.mod_eq_of_lt hm2]
 have e2:(b ^^^ UInt8.ofNat m).toNat=b.toNat ^^^ m:=by
  rw[UInt8.toNat_xor,UInt8.toNat_ofNat',Nat.mod_eq_of_lt hm2]
 rw[e1,e2];have hx:b.toNat ^^^ m<256:=Nat.xor_lt_two_pow (n:=8) b.toNat_lt hm2;have:IntKind.u8.wrap ((b.toNat ^^^ m:Nat):Int)=((b.toNat ^^^ m:Nat):Int) % 256:=by simp[IntKind.wrap,IntKind.bits,IntKind.signed]
 rw[this];omega
theorem a0c (p:Nat) (N:Nand) (hN:N.Ok) (at_ kind x y z n xx:Int):FP 41 [pp p, .agg #[iI at_,iI kind,iI x,iI y,iI z,iI n,iI xx]] [i4 p N]
  (λv As=>v= .bool (N.fault kind x y z n xx).1/\As=[i4 p (N.fault kind x y z n xx).2]):=by
 have hbd:=hN.bd;refine FE [2,0] Tryz.func41 λX F hX=>?_;refine J.o (α:=NLoc) 1 λY=>?_;refine J.pq (.of [0,4,8,12,16,20,25,28,33,38,40,44]) [] [1,2,3,4,5,6] λ_ _=>?_;refine J.ca hX (by kernel_rfl) (a7y _ _ _ x y z (by omega) (by omega) (by omega)) [] 0 rfl rfl rfl rfl rfl rfl (λ_=>rfl) ?_;refine cpq ⟨_,rfl,⟨rfl,rfl,rfl,rfl,rfl,rfl,trivial⟩,?_⟩;refine J.qd (λ_ h=>?_) λ_ h=>?_
 ·simp only[Bool.false_or,Bool.not_eq_true']at h;refine J.q λ_=>?_;refine J.cl (H9 p N) (Y) [1,2,3,4,5] ?_;refine J.qr [1] λ_=>?_;exact⟨by simp[Nand.fault,h],by simp[Nand.fault,h];rfl⟩
 simp only[Bool.false_or,Bool.not_eq_false']at h;have hr:0<=x/\x<N.dies/\0<=y/\y<N.blocks/\0<=z/\z<N.pages:=by simp[y7]at h;omega
 obtain⟨i,rfl⟩:=Int.eq_ofNat_of_zero_le hr.1;obtain⟨j,rfl⟩:=Int.eq_ofNat_of_zero_le hr.2.2.1;obtain⟨k,rfl⟩:=Int.eq_ofNat_of_zero_le hr.2.2.2.2.1;have hi:i<N.dies:=by omega
 have hj:j<N.blocks:=by omega
 have hlen:=(hN.cells i j hi hj).1;refine J.openAt 5 (i*N.blocks+j) rfl rfl (K4 _ _ _ _ _ (a3t hi hj)) rfl ?_;rw[(H0 hj).1,(H0 hj).2];refine J.o (α:=(Option Nat×Nat)) 7 λc=>?_;refine J.p (.of [0,4,8,13,16,20,25,28,32,37,42,45,48]) [12] [1,2,3,4,5,6,7,8] λ_=>?_;refine J.qp (R8 i j) [] λ_=>?_;refine J.valT hX (pp (Y.bp (i*N.blocks+j))) 8 rfl rfl (λ_ a w he hC=>?_) rfl ?_
 ·refine(l8 (key:=((i:Int),(j:Int),0)) J2 W1 (z:= .pointer none) (λw=>by kernel_rfl) rfl rfl rfl rfl he rfl rfl (hC rfl _ (i6 (i:=2) rfl))).trans ?_;simp only[M3 hi hj];rfl
 refine J.p (.of [0,4,9,12,16,20,25,28,32,36]) [9] [1,2,3,4,5,6,7,8] λ_=>?_;refine J.qd (λ_ h1=>?_) λ_ h1=>?_
 ·simp only[beq_iff_eq]at h1;subst h1;refine J.p (.of [0,4,8,13,16,21,26]) [] [1,2,4,5,6,7,8] λ_=>?_;refine J.qp (b7e Y.q N.plan i j k) [3] λ_=>?_;refine J.q λ_=>?_;refine J.closeN p N ({N with plan:=b1b N.plan ((i:Int),(j:Int),(k:Int))}) Y i j hj (N.blk i j) _ [1,2,3,4,5,7,8] rfl rfl rfl rfl (C3 _ _ _) rfl ?_;refine J.qr [1] λ_=>?_;rw[a9s h];exact⟨rfl,rfl⟩
 simp only[beq_eq_false_iff_ne,ne_eq]at h1;refine J.qd (λ_ h2=>?_) λ_ h2=>?_
 ·simp only[beq_iff_eq]at h2;subst h2;refine J.q λ_=>?_;refine J.closeN p N (N.setBlk i j {N.blk i j with fails:=true}) Y i j hj ({N.blk i j with fails:=true}) _ [1,2,3,4,5,7,8] rfl rfl rfl rfl (rfl) rfl ?_;refine J.qr [1] λ_=>?_;rw[a9r h];exact⟨rfl,rfl⟩
 simp only[beq_eq_false_iff_ne,ne_eq]at h2;refine J.qd (λ_ h3=>?_) λ_ h3=>?_
 ·simp only[beq_iff_eq]at h3;subst h3;refine J.qd (λ_ h5=>?_) λ_ h5=>?_
  ·simp only[decide_eq_true_eq,Int.ofNat_lt]at h5;refine J.know (λh' s=>i9 (by omega) (s.get (i:=8) rfl)) λhg=>?_;obtain⟨g,hg⟩:=hg;obtain⟨c1,c2⟩:=c;simp only at hg;subst hg;refine J.openOwn 8 rfl rfl (λ_=>rfl) λr q1 q2 q3 q4=>?_;obtain⟨cl,hcl⟩:∃cl,(N.blk i j).cells[k]? =some cl:=⟨_,List.getElem?_eq_getElem h5⟩;refine J.pq (.of [0,4,8,13,16,20,25,28,32,39]) [7,8,9] [1,2,3,4,5,6,7] λ_ _=>?_;refine J.s1 8 (s9 ((N.blk i j).cells.modify k λc=>{c with lost:=true})++r) ?_ ?_ ?_
   ·rw[List.length_append,l9];show 0+(k:Int).toNat*34+32<_;simp only[Int.toNat_natCast];omega
   ·rw[show 0+(k:Int).toNat*34+32=k*34+32 from by simp,List.set_append_left _ _ (by rw[l9];omega)];rw[P8 _ k 32 _ (λc=>{c with lost:=true}) cl hcl (by omega) rfl]
   refine J.closeOwn (e:=151) (size:=34) (n:=(N.blk i j).cells.length) (cap:=c2) (xs:=s9 ((N.blk i j).cells.modify k λc=>{c with lost:=true})) 8 rfl rfl (by rw[l9,List.length_modify]) q2 q3 (by rw[List.length_append,l9,List.length_modify];rw[l9]at q4;exact q4) (by rw[List.take_left' (by rw[l9,List.length_modify])]) rfl ?_;rw[show(N.blk i j).cells.length=((N.blk i j).cells.modify k λc=>{c with lost:=true}).length from by rw[List.length_modify]];refine J.q λ_=>?_;refine J.closeN p N (N.setCell i j k λc=>{c with lost:=true}) Y i j hj ({N.blk i j with cells:=(N.blk i j).cells.modify k λc=>{c with lost:=true}}) (some g,c2) [1,2,3,4,5,7,8] rfl rfl rfl rfl (rfl) rfl ?_;refine J.qr [1] λ_=>?_;rw[a6d h];exact⟨rfl,rfl⟩
  ·simp only[decide_eq_false_iff_not,Int.ofNat_lt,Nat.not_lt]at h5;refine J.q λ_=>?_;refine J.closeN p N (N.setCell i j k λc=>{c with lost:=true}) Y i j hj (N.blk i j) _ [1,2,3,4,5,7,8] rfl rfl rfl rfl ((by simp only[Nand.setCell,Nand.setBlk,Int.toNat_natCast];rw[a7a h5])) rfl ?_;refine J.qr [1] λ_=>?_;rw[a6d h];exact⟨rfl,rfl⟩
 simp only[beq_eq_false_iff_ne,ne_eq]at h3;refine J.qd (λ_ h4=>?_) λ_ h4=>?_
 ·simp only[beq_iff_eq]at h4;subst h4;refine J.pq (.of [0,4,8,13,16,20,25,28,35]) [7,8] [1,2,3,5,6,7,8] λ_ _=>?_;refine J.s1 4 ((N.dead.set i true).map Value.bool) ?_ ?_ ?_
  ·rw[List.length_map,hN.dead];show 0+(i:Int).toNat*1<_;omega
  ·rw[show 0+(i:Int).toNat*1=i from by omega,List.map_set]
  refine J.q λ_=>?_;refine J.closeN p N ({N with dead:=N.dead.set i true}) Y i j hj (N.blk i j) _ [1,2,3,4,5,7,8] rfl rfl rfl rfl (C3 _ _ _) rfl ?_;refine J.qr [1] λ_=>?_;rw[a9q h];exact⟨rfl,rfl⟩
 simp only[beq_eq_false_iff_ne,ne_eq]at h4;refine J.qd (λ_ h6=>?_) λ_ h6=>?_
 ·simp only[beq_iff_eq]at h6;subst h6
  by_cases h5:k<(N.blk i j).cells.length
  ·rw[show decide ((k:Int)<((N.blk i j).cells.length:Int))=true from decide_eq_true (by omega)];refine J.know (λh' s=>i9 (by omega) (s.get (i:=8) rfl)) λhg=>?_;obtain⟨g,hg⟩:=hg;obtain⟨c1,c2⟩:=c;simp only at hg;subst hg;refine J.openOwn 8 rfl rfl (λ_=>rfl) λr q1 q2 q3 q4=>?_;obtain⟨cl,hcl⟩:∃cl,(N.blk i j).cells[k]? =some cl:=⟨_,List.getElem?_eq_getElem h5⟩;refine J.pq (.of [0,5,8,12,16,21,24,28,32,36,40,44,48,52,57,60,64,69,72,76,81,84,88]) [] [1,2,3,4,5,6,7,8] λ_ _=>?_;have hpa:N.pageAt i j k=some cl:=by simp only[Nand.pageAt,Int.toNat_natCast];exact hcl
   have hoff:∀e,e<34->(s9 (N.blk i j).cells++r)[k*34+e]? =cl.vals[e]?:=λe he=>by
    rw[List.getElem?_append_left (by rw[l9];omega)];exact a2h hcl he
   refine J.vT (.bool cl.turned) rfl rfl (λhg a w he hC=>?_) ?_
   ·exact i7 tk rfl rfl he hg rfl rfl (hC rfl _ (i6 (i:=8) rfl)) (by rw[show 0+((k:Int)).toNat*34+33=k*34+33 from by simp];exact hoff 33 (by omega))
   refine J.qd (λ_ h7=>?_) λ_ h7=>?_
   ·refine J.closeOwn (e:=151) (size:=34) (n:=(N.blk i j).cells.length) (cap:=c2) (xs:=s9 (N.blk i j).cells) 8 rfl rfl q1 q2 q3 (by rw[List.length_append];exact q4) (by rw[List.take_left' q1]) rfl ?_;refine J.q λ_=>?_;refine J.closeN p N (N) Y i j hj (N.blk i j) (some g,c2) [1,2,3,4,5,7,8] rfl rfl rfl rfl (C3 _ _ _) rfl ?_;refine J.qr [1] λ_=>?_;rw[a4n h hpa h7];exact⟨rfl,rfl⟩
   refine J.pq (.of [0,4,8,12,16,21,24,28,33,36,40,45,48,52]) [] [1,2,3,4,5,6,7,8] λ_ _=>?_;refine J.vT (.bool cl.lost) rfl rfl (λhg a w he hC=>?_) ?_
   ·exact i7 tk rfl rfl he hg rfl rfl (hC rfl _ (i6 (i:=8) rfl)) (by rw[show 0+((k:Int)).toNat*34+32=k*34+32 from by simp];exact hoff 32 (by omega))
   refine J.qd (λ_ h8=>?_) λ_ h8=>?_
   ·have hn:0<=n/\n<32:=by
     simp only[Bool.or_eq_false_iff,decide_eq_false_iff_not]at h7;omega
    obtain⟨e,rfl⟩:=Int.eq_ofNat_of_zero_le hn.1;have he32:e<32:=by omega
    have hp32:cl.p.length=32:=(hN.cells i j hi hj).2 cl (List.mem_of_getElem? hcl);refine J.pn 14 (.of [0,4,8,13,16,20,25,28,33,36,40,44,52,57,60,68,72,50,64,76,82]) [] [1,2,3,4,5,6,7] λ_ _=>?_;refine J.vT (.int .u8 (IntKind.u8.wrap xx)) rfl rfl (λhg a w he hC=>?_) ?_
    ·exact Q8 tk rfl rfl he rfl rfl rfl
    refine J.q λ_=>?_;refine J.val hX (bv (cl.p.getD e 0)) 0 rfl rfl (λhg a w he hs=>?_) rfl ⟨rfl,rfl,rfl,rfl,rfl,rfl,rfl,trivial⟩ ?_
    ·exact i7 tk rfl rfl he hg rfl rfl (hs.get (i:=8) rfl) (by rw[show 0+((k:Int)).toNat*34+0+((e:Int)).toNat*1=k*34+e from by simp,hoff e (by omega)];exact b1o hp32 he32)
    refine J.q λ_=>?_;have hlen':(s9 (N.blk i j).cells++r).length=c2*34:=by rw[List.length_append];exact q4
    have hnl:k*34+34<=(N.blk i j).cells.length*34:=by omega
    refine J.s1 8 (s9 ((N.blk i j).cells.modify k λc=>{c with p:=Nand.xorAt c.p e (UInt8.ofNat (xx % 256).toNat)})++r) ?_ ?_ ?_
    ·rw[List.length_append,l9];show 0+(k:Int).toNat*34+0+(e:Int).toNat*1<_;simp only[Int.toNat_natCast];omega
    ·rw[show 0+(k:Int).toNat*34+0+(e:Int).toNat*1=k*34+e from by simp,List.set_append_left _ _ (by rw[l9];omega)];rw[P8 _ k e _ (λc=>{c with p:=Nand.xorAt c.p e (UInt8.ofNat (xx % 256).toNat)}) cl hcl (by omega) ?_];rw[b1e,a5w hp32,a5w (by simp[Nand.xorAt,hp32]),List.set_append_left _ _ (by simpa[hp32]using he32)];congr 1;exact(List.map_set (f:=bv)).symm
    refine J.pq (.of [0,4,8,13,16,20,25,28,32,39]) [7,8,9] [1,2,3,4,5,6,7] λ_ _=>?_;refine J.s1 8 (s9 ((N.blk i j).cells.modify k λc=>{c with p:=Nand.xorAt c.p e (UInt8.ofNat (xx % 256).toNat),turned:=true})++r) ?_ ?_ ?_
    ·rw[List.length_append,l9,List.length_modify];show 0+(k:Int).toNat*34+33<_;simp only[Int.toNat_natCast];omega
    ·rw[show 0+(k:Int).toNat*34+33=k*34+33 from by simp,List.set_append_left _ _ (by rw[l9,List.length_modify];omega)];rw[P8 _ k 33 _ (λc=>{c with turned:=true}) _ (by rw[List.getElem?_modify_eq,hcl];rfl) (by omega) rfl,List.modify_modify_eq];rfl
    refine J.closeOwn (e:=151) (size:=34) (n:=(N.blk i j).cells.length) (cap:=c2) (xs:=s9 ((N.blk i j).cells.modify k λc=>{c with p:=Nand.xorAt c.p e (UInt8.ofNat (xx % 256).toNat),turned:=true})) 8 rfl rfl (by rw[l9,List.length_modify]) q2 q3 (by rw[List.length_append,l9,List.length_modify];rw[l9]at q4;exact q4) (by rw[List.take_left' (by rw[l9,List.length_modify])]) rfl ?_;rw[show(N.blk i j).cells.length=((N.blk i j).cells.modify k λc=>{c with p:=Nand.xorAt c.p e (UInt8.ofNat (xx % 256).toNat),turned:=true}).length from by rw[List.length_modify]];refine J.q λ_=>?_;refine J.closeN p N (N.setCell i j k λc=>{c with p:=Nand.xorAt c.p e (UInt8.ofNat (xx % 256).toNat),turned:=true}) Y i j hj ({N.blk i j with cells:=(N.blk i j).cells.modify k λc=>{c with p:=Nand.xorAt c.p e (UInt8.ofNat (xx % 256).toNat),turned:=true}}) (some g,c2) [1,2,3,4,5,7,8] rfl rfl rfl rfl (rfl) rfl ?_;refine J.qr [1] λ_=>?_;rw[a2E h,hpa];simp only[Bool.or_eq_false_iff,Bool.true_and]at h7;simp only[Bool.true_and,Bool.not_eq_true']at h8;rw[if_neg (by omega)];simp only[h7.2,h8,Bool.false_eq_true,if_false];exact⟨trivial,rfl⟩
   ·refine J.closeOwn (e:=151) (size:=34) (n:=(N.blk i j).cells.length) (cap:=c2) (xs:=s9 (N.blk i j).cells) 8 rfl rfl q1 q2 q3 (by rw[List.length_append];exact q4) (by rw[List.take_left' q1]) rfl ?_;refine J.q λ_=>?_;refine J.closeN p N (N) Y i j hj (N.blk i j) (some g,c2) [1,2,3,4,5,7,8] rfl rfl rfl rfl (C3 _ _ _) rfl ?_;refine J.qr [1] λ_=>?_;rw[a2E h,hpa];simp only[Bool.or_eq_false_iff,Bool.true_and,decide_eq_false_iff_not]at h7;simp only[Bool.true_and,Bool.not_eq_false']at h8;rw[if_neg (by omega)];simp only[h7.2,h8,Bool.false_eq_true,if_false,if_true];exact⟨trivial,rfl⟩
  ·rw[show decide ((k:Int)<((N.blk i j).cells.length:Int))=false from decide_eq_false (by omega)];refine J.pn 18 (.of [0,5,8,12,16,21,24,28,32,36,40,44,48,52,57,60,64,69,72,76,81,84,88]) [] [1,2,3,4,5,6,7,8] λ_ _=>?_;have hpa:N.pageAt i j k=none:=by simp only[Nand.pageAt,Int.toNat_natCast];exact List.getElem?_eq_none (by omega)
   refine J.vT (pp 0) rfl rfl (λhg a w he hC=>by simp[G.on]at hg) ?_;refine J.q λ_=>?_;refine J.vT (.bool false) rfl rfl (λhg a w he hC=>by simp[G.on]at hg) ?_;refine J.qd (λ_ h7=>?_) λ_ h7=>?_
   ·refine J.q λ_=>?_;refine J.closeN p N (N) Y i j hj (N.blk i j) _ [1,2,3,4,5,7,8] rfl rfl rfl rfl (C3 _ _ _) rfl ?_;refine J.qr [1] λ_=>?_;rw[Z0 h hpa (b:=true) (by simpa using h7)];exact⟨rfl,rfl⟩
   refine J.pn 9 (.of [0,4,8,12,16,21,24,28,33,36,40,45,48,52]) [] [1,2,3,4,5,6,7,8] λ_ _=>?_;refine J.vT (pp 0) rfl rfl (λhg a w he hC=>by simp[G.on]at hg) ?_;refine J.q λ_=>?_;refine J.vT (.bool false) rfl rfl (λhg a w he hC=>by simp[G.on]at hg) ?_;refine J.qF λ_=>?_;refine J.q λ_=>?_;refine J.closeN p N (N) Y i j hj (N.blk i j) _ [1,2,3,4,5,7,8] rfl rfl rfl rfl (C3 _ _ _) rfl ?_;refine J.qr [1] λ_=>?_;rw[Z0 h hpa (b:=false) (by simpa using h7)];exact⟨rfl,rfl⟩
 simp only[beq_eq_false_iff_ne,ne_eq]at h6;refine J.q λ_=>?_;refine J.closeN p N (N) Y i j hj (N.blk i j) _ [1,2,3,4,5,7,8] rfl rfl rfl rfl (C3 _ _ _) rfl ?_;refine J.qr [1] λ_=>?_;rw[a7x h1 h2 h3 h4 h6];exact⟨rfl,rfl⟩
def B0:NBlock:=⟨[],0,false,false⟩
def b6T (d b p:Nat) (x:Nat×Nat×Nat×Nat):List Value:=
 [iI d,iI b,iI p, .map (some x.2.1),pp x.2.2.1, .slice (some ⟨x.2.2.2,0,none⟩) d d, .bool false,iI 0,iI 0, .bool false,iI 0,iI 0]
theorem a5s {k:A3} {v:Value}:∀{l:List (A3×Value)},(∀x∈l,x.1≠k)->M7 l k v=l++[(k,v)]
 | [],_=>rfl
 | x::l,h=>by
  have h1:=h x (by simp);simp only[M7,if_neg (Ne.symm h1),a5s (l:=l) (λy hy=>h y (by simp[hy])),List.cons_append]
def upd (bp:Nat->Nat) (n v:Nat):Nat->Nat:=λk=>if k=n then v else bp k
theorem b0W (nb n:Nat) (bp:Nat->Nat) (v:Nat):Z6 nb (n+1) (upd bp n v)=Z6 nb n bp++[((((n/nb:Nat):Int),((n % nb:Nat):Int),0),pp v)]:=by
 unfold Z6;rw[List.range_succ,List.map_append];congr 1
 ·apply List.map_congr_left;intro k hk;have:k≠n:=by have:=List.mem_range.1 hk;omega
  simp[upd,this]
 ·simp[upd]
theorem a3U (nb n:Nat) (bp:Nat->Nat) (v:Nat):I6 nb (n+1) (upd bp n v) (λ_ _=>B0)=I6 nb n bp (λ_ _=>B0)++[a4q v B0]:=by
 unfold I6;rw[List.range_succ,List.map_append];congr 1
 ·apply List.map_congr_left;intro k hk;have:k≠n:=by have:=List.mem_range.1 hk;omega
  simp[upd,this]
 ·simp[upd]
theorem a5r {nb j:Nat} (i:Nat) (hj:j<nb) (bp:Nat->Nat) (v:Nat):M7 (Z6 nb (i*nb+j) bp) ((i:Int),(j:Int),0) (pp v)=Z6 nb (i*nb+j+1) (upd bp (i*nb+j) v):=by
 rw[b0W,(H0 hj).1,(H0 hj).2,a5s];intro x hx;simp only[Z6,List.mem_map,List.mem_range]at hx;obtain⟨k,hk,rfl⟩:=hx;intro e;simp only[Prod.mk.injEq,Int.natCast_inj,and_true]at e;have h1:=Nat.div_add_mod k nb;rw[e.1,e.2,Nat.mul_comm]at h1;omega
theorem a7L {BL:List Atom} {v:Nat} {h:Hl} (s:Sep [.hp (HP.of BL), .pt v 148 [.slice none 0 0,iI 0, .bool false, .bool false]] h):Sep [.hp (HP.of (BL++[a4q v B0]))] h:=by
 have s1:Sep [.hp (HP.of BL),a4q v B0] h:=s.turn1 [1] rfl (As:=[a4q v B0]) (λh' s'=>Sep.one ⟨(none,0),by
  refine⟨λ_=>0,λi A hA=>?_⟩
  match i,hA with
  | 0,hA=>simp at hA;subst hA;exact Atom.up (A:= .pt v 148 [.slice none 0 0,iI 0, .bool false, .bool false]) (λb o hb=>res_some.2 ⟨rfl,hb⟩) (s'.get (i:=0) rfl)
  | 1,hA=>simp at hA;subst hA;exact⟨rfl,rfl,rfl⟩
  | k+2,hA=>simp at hA⟩)
 exact Sep.hpOf.2 s1.flat
theorem a4L (d b p:Nat) (hg:y6 d b p=true):FP 43 [.agg #[iI d,iI b,iI p]] [] (λv As=>∃q,v=pp q/\As=[i4 q (Nand.new d b p)]):=by
 have hbd:(3<=d/\d<=6)/\(8<=b/\b<=16)/\(2<=p/\p<=8):=by simp[y6]at hg;omega
 refine FE [0] Tryz.func43 λX F hX=>?_;refine J.q λg1=>?_;refine J.cb (a2e d b p) [] ?_;refine cpq ⟨_,rfl,trivial,?_⟩;rw[hg];refine J.qF λ_=>?_;refine J.p (.take false 0 (.take true 3 (.take false 4 (.alt false 1 ((.alt false 2 ((.of [22,24,30,32])) (.alt false 5 ((.of [10,24,30,32])) .non))) (.alt false 2 ((.alt false 1 ((.of [22,24,30,32])) (.alt false 5 ((.of [6,24,30,32])) .non))) (.alt false 5 ((.alt false 1 ((.of [10,24,30,32])) (.alt false 2 ((.of [6,24,30,32])) .non))) .non)))))) [8] [1] λ_=>?_;refine J.join (α:=Nat×Nat×Nat×Nat) (λx=>[⟨3,pp x.1,3, .tt⟩,⟨1,pp (g1 0),2, .tt⟩]) (λx=>[.hp F, .pt (g1 0) 23 [iI d,iI b,iI p], .pt x.1 101 (b6T d b p x), .ob x.2.1 (.map #[] 0),N9 x.2.2.1 [], .pt x.2.2.2 4 (List.replicate d (.bool false))]) (λhj=>?_) (λx=>?_)
 ·refine J.qn 3 λ_=>?_;refine J.alts ?_ (J.alts ?_ ?_)
  ·skip
   refine J.qn 1 λmm=>?_;refine J.alts ?_ ?_
   ·skip
    refine J.qc (a6K) [] λ_=>?_;rintro v As ⟨q,rfl,rfl⟩;refine⟨_,rfl,⟨rfl,trivial⟩,?_⟩;refine J.makeSlice hX tk 5 rfl rfl rfl rfl rfl rfl rfl rfl rfl rfl ?_ ?_ (λ_=>rfl) (λ_=>rfl) λdd=>⟨⟨rfl,trivial⟩,?_⟩
    ·simp only[maxLen];omega
    ·omega
    refine J.qn 4 λnn=>?_;exact J.goto [0,1,5,2,3,4] (hj (nn 0,mm 0,q,dd)) ⟨rfl,rfl,trivial⟩ rfl rfl
   ·skip
    refine J.makeSlice hX tk 4 rfl rfl rfl rfl rfl rfl rfl rfl rfl rfl ?_ ?_ (λ_=>rfl) (λ_=>rfl) λdd=>⟨⟨rfl,trivial⟩,?_⟩
    ·simp only[maxLen];omega
    ·omega
    refine J.qc (a6K) [] λ_=>?_;rintro v As ⟨q,rfl,rfl⟩;refine⟨_,rfl,⟨rfl,trivial⟩,?_⟩;refine J.qn 4 λnn=>?_;exact J.goto [0,1,5,2,4,3] (hj (nn 0,mm 0,q,dd)) ⟨rfl,rfl,trivial⟩ rfl rfl
  ·skip
   refine J.qc (a6K) [] λ_=>?_;rintro v As ⟨q,rfl,rfl⟩;refine⟨_,rfl,⟨rfl,trivial⟩,?_⟩;refine J.alts ?_ ?_
   ·skip
    refine J.qn 1 λmm=>?_;refine J.makeSlice hX tk 5 rfl rfl rfl rfl rfl rfl rfl rfl rfl rfl ?_ ?_ (λ_=>rfl) (λ_=>rfl) λdd=>⟨⟨rfl,trivial⟩,?_⟩
    ·simp only[maxLen];omega
    ·omega
    refine J.qn 4 λnn=>?_;exact J.goto [0,1,5,3,2,4] (hj (nn 0,mm 0,q,dd)) ⟨rfl,rfl,trivial⟩ rfl rfl
   ·skip
    refine J.makeSlice hX tk 4 rfl rfl rfl rfl rfl rfl rfl rfl rfl rfl ?_ ?_ (λ_=>rfl) (λ_=>rfl) λdd=>⟨⟨rfl,trivial⟩,?_⟩
    ·simp only[maxLen];omega
    ·omega
    refine J.qn 1 λmm=>?_;refine J.qn 4 λnn=>?_;exact J.goto [0,1,5,4,2,3] (hj (nn 0,mm 0,q,dd)) ⟨rfl,rfl,trivial⟩ rfl rfl
  ·skip
   refine J.makeSlice hX tk 3 rfl rfl rfl rfl rfl rfl rfl rfl rfl rfl ?_ ?_ (λ_=>rfl) (λ_=>rfl) λdd=>⟨⟨rfl,trivial⟩,?_⟩
   ·simp only[maxLen];omega
   ·omega
   refine J.alts ?_ ?_
   ·skip
    refine J.qn 1 λmm=>?_;refine J.qc (a6K) [] λ_=>?_;rintro v As ⟨q,rfl,rfl⟩;refine⟨_,rfl,⟨rfl,trivial⟩,?_⟩;refine J.qn 4 λnn=>?_;exact J.goto [0,1,5,3,4,2] (hj (nn 0,mm 0,q,dd)) ⟨rfl,rfl,trivial⟩ rfl rfl
   ·skip
    refine J.qc (a6K) [] λ_=>?_;rintro v As ⟨q,rfl,rfl⟩;refine⟨_,rfl,⟨rfl,trivial⟩,?_⟩;refine J.qn 1 λmm=>?_;refine J.qn 4 λnn=>?_;exact J.goto [0,1,5,4,3,2] (hj (nn 0,mm 0,q,dd)) ⟨rfl,rfl,trivial⟩ rfl rfl
 obtain⟨q0,r,q,dd⟩:=x;refine J.turn1 [3] rfl (As:=[B5 r a3v (Z6 b (0*b) λ_=>0), .hp (HP.of (I6 b (0*b) (λ_=>0) λ_ _=>B0))]) (λh s=>?_) rfl ?_
 ·rw[Nat.zero_mul];refine⟨λ_=>0,λi A hA=>?_⟩
  match i,hA with
  | 0,hA=>simp at hA;subst hA;exact⟨#[],0,res_some.2 ⟨rfl,s.get (i:=0) rfl⟩,rfl,by simp,by simp⟩
  | 1,hA=>simp at hA;subst hA;exact Sep.nil _
  | k+2,hA=>simp at hA
 refine J.q λ_=>?_;refine J.l (α:=(Nat×(Nat->Nat))) (λx=>x.1<=d) (λx=>[si 19 x.1,si 18 d,⟨3,pp q0,3, .tt⟩,⟨1,pp (g1 0),2, .tt⟩]) [3,6] (λx=>[B5 r a3v (Z6 b (x.1*b) x.2), .hp (HP.of (I6 b (x.1*b) x.2 λ_ _=>B0))]) (λx=>d-x.1) ((0,λ_=>0)) (Nat.zero_le _) λx hI=>?_;obtain⟨i,bp⟩:=x;dsimp only at hI ⊢;refine J.qd (λ_ h1=>?_) λ_ h1=>?_
 ·simp only[decide_eq_true_eq,Int.ofNat_lt]at h1;refine J.q λ_=>?_;refine J.l (α:=(Nat×(Nat->Nat))) (λy=>y.1<=b) (λy=>[si 24 y.1,si 23 b,si 4 i,si 19 i,si 18 d,⟨3,pp q0,3, .tt⟩,⟨1,pp (g1 0),2, .tt⟩]) [3,6] (λy=>[B5 r a3v (Z6 b (i*b+y.1) y.2), .hp (HP.of (I6 b (i*b+y.1) y.2 λ_ _=>B0))]) (λy=>b-y.1) ((0,bp)) (Nat.zero_le _) λy hI=>?_;obtain⟨j,bp'⟩:=y;dsimp only at hI ⊢;refine J.qd (λ_ h2=>?_) λ_ h2=>?_
  ·simp only[decide_eq_true_eq,Int.ofNat_lt]at h2;refine J.pq (.take true 0 (.take true 1 (.take true 2 (.take false 3 (.take true 4 (.take true 5 (.take true 7 (.alt false 6 ((.of [34,39])) (.alt false 8 ((.of [26,39])) .non))))))))) [9] [1,2] λ_ _=>?_;refine J.alts ?_ ?_
   ·refine J.qp (R8 i j) [] λ_=>?_;refine J.q λbb=>?_;refine J.mapUpdate hX J2 W1 ((i:Int),(j:Int),0) 3 rfl rfl rfl rfl rfl rfl rfl rfl rfl rfl rfl rfl (λ_=>rfl) (by rw[a5r i h2];rfl) ⟨trivial,?_⟩;refine J.turn1 [6,7] rfl (As:=[.hp (HP.of (I6 b (i*b+j+1) (upd bp' (i*b+j) (bb 0)) λ_ _=>B0))]) (λh s=>by rw[a3U];exact a7L s) rfl ?_;refine J.q λ_=>?_;refine J.n ((j+1,upd bp' (i*b+j) (bb 0))) (by dsimp only;omega) (by dsimp only;omega) [0,1,2,3,4,5,6]
   ·refine J.q λbb=>?_;refine J.cb (R8 i j) [] ?_;refine cpq ⟨_,rfl,⟨rfl,rfl,trivial⟩,?_⟩;refine J.mapUpdate hX J2 W1 ((i:Int),(j:Int),0) 3 rfl rfl rfl rfl rfl rfl rfl rfl rfl rfl rfl rfl (λ_=>rfl) (by rw[a5r i h2];rfl) ⟨trivial,?_⟩;refine J.turn1 [6,7] rfl (As:=[.hp (HP.of (I6 b (i*b+j+1) (upd bp' (i*b+j) (bb 0)) λ_ _=>B0))]) (λh s=>by rw[a3U];exact a7L s) rfl ?_;refine J.q λ_=>?_;refine J.n ((j+1,upd bp' (i*b+j) (bb 0))) (by dsimp only;omega) (by dsimp only;omega) [0,1,2,3,4,5,6]
  ·simp only[decide_eq_false_iff_not,Int.ofNat_lt]at h2;obtain rfl:j=b:=by omega
   rw[show i*j+j=(i+1)*j from(Nat.succ_mul i j).symm];refine J.q λ_=>?_;refine J.n ((i+1,bp')) (by dsimp only;omega) (by dsimp only;omega) [0,1,2,3,4,5,6]
 ·simp only[decide_eq_false_iff_not,Int.ofNat_lt]at h1;obtain rfl:i=d:=by omega
  refine J.close (f:=H9 q0 (Nand.new i b p)) ⟨r,q,dd,bp⟩ [2,3,4,5,6] rfl (by simp only[H9,Nand.new,List.map_replicate];rfl) rfl ?_;refine J.qr [2] λ_=>?_;exact⟨q0,rfl,rfl⟩
def y8 (x y:Int):Int:=if x<y then-1 else if x>y then 1 else 0
theorem a6n (x:Int):FP 153 [iI x] [] (λv As=>v= .bool false/\As=[]):=by
 refine FE [] Tryz.func153 λX F hX=>?_;refine J.qr [] λ_=>?_;exact⟨by simp,rfl⟩
theorem K1 (x y:Int):FP 105 [iI x,iI y] [] (λv As=>v=iI (y8 x y)/\As=[]):=by
 refine FE [] Tryz.func105 λX F hX=>?_;refine J.qp (a6n x) [] λ_=>?_;refine J.qp (a6n y) [] λ_=>?_;refine J.qF λ_=>?_;refine J.qF λ_=>?_;refine J.qd (λ_ h1=>?_) λ_ h1=>?_
 ·refine J.qr [] λ_=>?_;simp only[decide_eq_true_eq]at h1;exact⟨by simp[y8,h1],rfl⟩
 simp only[decide_eq_false_iff_not]at h1;refine J.qd (λ_ h2=>?_) λ_ h2=>?_
 ·refine J.qr [] λ_=>?_;simp only[decide_eq_true_eq]at h2;exact⟨by rw[y8,if_neg h1,if_pos h2],rfl⟩
 refine J.qr [] λ_=>?_;simp only[decide_eq_false_iff_not]at h2;exact⟨by rw[y8,if_neg h1,if_neg h2],rfl⟩
def orI (l:List Int):Int:=match l with
 | []=>0
 | x::r=>if x≠0 then x else orI r
theorem b7M (b:Nat) (x y z:Int):FP 196 [.slice (some ⟨b,0,none⟩) 3 3] [.pt b 3 [iI x,iI y,iI z]] (λv As=>v=iI (orI [x,y,z])/\As=[.pt b 3 [iI x,iI y,iI z]]):=by
 refine FE [2] Tryz.func196 λX F hX=>?_;refine J.q λ_=>?_;refine J.l (α:=Nat) (λk=>k<=3/\orI ([x,y,z].drop k)=orI [x,y,z]) (λk=>[si 8 k,si 7 3,⟨6, .slice (some ⟨b,0,none⟩) 3 3,2, .tt⟩,si 3 0]) [] (λk=>[]) (λk=>3-k) (0) (⟨by omega,rfl⟩) λk hI=>?_;refine J.qd (λ_ h1=>?_) λ_ h1=>?_
 ·simp only[decide_eq_true_eq]at h1;obtain⟨v,hv⟩:∃v,([x,y,z]:List Int)[k]? =some v:=⟨_,List.getElem?_eq_getElem (by simp;omega)⟩;have hd:([x,y,z]:List Int).drop k=v::([x,y,z]:List Int).drop (k+1):=by
   obtain⟨h2,h3⟩:=List.getElem?_eq_some_iff.1 hv;rw[List.drop_eq_getElem_cons h2,h3]
  refine J.q λ_=>?_;refine J.v (iI v) rfl rfl (λhg a w he hs=>?_) ?_
  ·exact i7 tk rfl rfl he rfl rfl rfl (hs.get (i:=1) rfl) (by
    rw[show 0+(k:Int).toNat*1=k from by omega,show([iI x,iI y,iI z]:List Value)=([x,y,z]:List Int).map (.int .i64)from rfl,List.getElem?_map,hv];rfl)
  refine J.qd (λ_ h2=>?_) λ_ h2=>?_
  ·simp only[bne_iff_ne,ne_eq]at h2;refine J.qr [1] λ_=>?_;refine⟨?_,rfl⟩;rw[<- hI.2,hd];simp[orI,h2]
  ·simp only[bne_eq_false_iff_eq]at h2;refine J.q λ_=>?_;refine J.nx (k+1) (⟨by omega,by rw[<- hI.2,hd,orI,if_neg (by simp[h2])]⟩) (by omega) (λ_ s=>s)
 ·simp only[decide_eq_false_iff_not]at h1;refine J.qr [1] λ_=>?_;refine⟨?_,rfl⟩;rw[<- hI.2,List.drop_of_length_le (by simp;omega)];rfl
abbrev M8 (x:A3):Value:= .agg #[iI x.1,iI x.2.1,iI x.2.2]
def a2p (x y:A3):Int:=orI [y8 x.1 y.1,y8 x.2.1 y.2.1,y8 x.2.2 y.2.2]
theorem a8R (x y:A3):FP 276 [M8 x,M8 y] [] (λv As=>v=iI (a2p x y)/\As=[]):=by
 refine FE [0,0] Tryz.func276 λX F hX=>?_;refine J.p (.of [0,5,8,13,20,25,28,33,40,45,48,53,18,38,58,62,66,68]) [17] [1,2] λ_=>?_;refine J.qp (K1 x.1 y.1) [] λ_=>?_;refine J.qp (K1 x.2.1 y.2.1) [] λ_=>?_;refine J.qp (K1 x.2.2 y.2.2) [] λ_=>?_;refine J.q λbb=>?_;refine J.cb (b7M (bb 0) (y8 x.1 y.1) (y8 x.2.1 y.2.1) (y8 x.2.2 y.2.2)) [3] ?_;refine cpq ⟨_,rfl,⟨rfl,rfl,trivial⟩,?_⟩;exact J.qx []
def d3:A3:=(0,0,0)
def j4 (l:List A3):List Value:=l.flatMap λx=>[iI x.1,iI x.2.1,iI x.2.2]
theorem s6 (l:List A3):(j4 l).length=l.length*3:=by
 induction l with
 | nil=>rfl
 | cons x l ih=>simp only[j4,List.flatMap_cons,List.length_append,List.length_cons]at ih ⊢;rw[ih];simp;omega
theorem C9:∀(l:List A3) (r:List Value) (k:Nat) (x:A3),l[k]? =some x->((j4 l++r).drop (k*3)).take 3=[iI x.1,iI x.2.1,iI x.2.2]
 | [],_,_,_,h=>by simp at h
 | y::l,r,0,x,h=>by simp at h;subst h;simp[j4]
 | y::l,r,k+1,x,h=>by
  have:=C9 l r k x (by simpa using h);rw[show(k+1)*3=3+k*3 from by omega,<- List.drop_drop];simpa[j4]using this
theorem K0:∀(l:List A3) (r:List Value) (k:Nat) (x:A3),k<l.length->(j4 l++r).take (k*3)++[iI x.1,iI x.2.1,iI x.2.2]++(j4 l++r).drop (k*3+3)=j4 (l.set k x)++r
 | [],_,_,_,h=>by simp at h
 | y::l,r,0,x,h=>by simp[j4]
 | y::l,r,k+1,x,h=>by
  have:=K0 l r k x (by simpa using h);rw[show(k+1)*3=3+k*3 from by omega];simp only[j4,List.flatMap_cons,List.set_cons_succ,List.append_assoc,List.cons_append,List.nil_append]at this ⊢;rw[show 3+k*3=k*3+1+1+1 from by omega,show k*3+1+1+1+3=(k*3+3)+1+1+1 from by omega];simp only[List.take_succ_cons,List.drop_succ_cons,List.cons_append,this]
def swp (l:List A3) (j:Nat):List A3:=(l.set j (l.getD (j-1) d3)).set (j-1) (l.getD j d3)
def a7Y (f:A3->A3->Int):Nat->List A3->List A3
 | 0,l=>l
 | j+1,l=>if f (l.getD (j+1) d3) (l.getD j d3)<0 then a7Y f j (swp l (j+1))else l
def J8 (f:A3->A3->Int) (l:List A3):Nat->List A3
 | 0=>l
 | k+1=>a7Y f (k+1) (J8 f l k)
def Y4 (f:A3->A3->Int) (l:List A3):List A3:=J8 f l (l.length-1)
theorem a2v (l:List A3) (j:Nat):(swp l j).length=l.length:=by simp[swp]
theorem b1F (l:List A3) (j:Nat) (h:j+1<l.length):(swp l (j+1)).Perm l:=by
 induction l generalizing j with
 | nil=>simp at h
 | cons x l ih=>
  cases j with
  | zero=>
   cases l with
   | nil=>simp at h
   | cons y l=>simp only[swp,List.set_cons_succ,List.set_cons_zero,Nat.add_sub_cancel,Nat.zero_add,List.getD_cons_zero,List.getD_cons_succ];exact List.Perm.swap _ _ _
  | succ j=>
   have:=ih j (by simpa using h);simp only[swp,Nat.add_sub_cancel,List.set_cons_succ,List.getD_cons_succ]at this ⊢;exact this.cons x
theorem a1p (f:A3->A3->Int):∀(j:Nat) (l:List A3),j<l.length->(a7Y f j l).Perm l
 | 0,l,_=>List.Perm.refl _
 | j+1,l,h=>by
  unfold a7Y;split
  ·exact(a1p f j _ (by rw[a2v];omega)).trans (b1F l j h)
  ·exact List.Perm.refl _
theorem a1X (f:A3->A3->Int) (l:List A3):∀k,k<l.length->(J8 f l k).Perm l/\(J8 f l k).length=l.length
 | 0,_=>⟨List.Perm.refl _,rfl⟩
 | k+1,h=>by
  obtain⟨h1,h2⟩:=a1X f l k (by omega);exact⟨(a1p f (k+1) _ (by omega)).trans h1,by rw[J8,(a1p f (k+1) _ (by omega)).length_eq,h2]⟩
theorem J7 (f:A3->A3->Int) (l:List A3):(Y4 f l).Perm l:=by
 cases l with
 | nil=>exact List.Perm.refl _
 | cons x l=>exact(a1X f (x::l) _ (by simp)).1
theorem a6I (f:A3->A3->Int):∀(j:Nat) (l:List A3),(a7Y f j l).length=l.length
  | 0,l=>rfl
  | j + 1, l => by unfold a7Y; split
                   · rw[a6I f j,a2v]
                   · rfl
theorem a3B (f:A3->A3->Int) (l:List A3):∀k,(J8 f l k).length=l.length
 | 0=>rfl
 | k+1=>by rw[J8,a6I,a3B f l k]
def fnV (c:Nat):Value:= .func (.func c) #[] #[]
theorem b6u (c:Nat) (f:A3->A3->Int) (hcal:n9 Tryz.prog c=true) (hf:∀x y,Fn Tryz.prog c [M8 x,M8 y] [] (Ps (iI (f x y)) []))
  (g n cap:Nat) (l:List A3) (hl:l.length=n) (hn:n<=4611686018427387904) (r:List Value):FP 283 [.slice (some ⟨g,0,none⟩) n cap,iI 0,iI n,fnV c] [.pt g 32 (j4 l++r)]
  (Ps (.tuple #[]) [.pt g 32 (j4 (Y4 f l)++r)]):=by
 refine FE [2,0,0,0] Tryz.func283 λX F hX=>?_;refine J.q λ_=>?_;refine J.l (α:=Nat) (λi=>1<=i/\i<=max 1 n) (λi=>[si 8 i,⟨0, .slice (some ⟨g,0,none⟩) n cap,2, .tt⟩,si 1 0,si 2 n,⟨3,fnV c,0, .tt⟩]) [1] (λi=>[.pt g 32 (j4 (J8 f l (i-1))++r)]) (λi=>n-i) (1) (⟨by omega,by omega⟩) λi hI=>?_;refine J.qd (λ_ h1=>?_) λ_ h1=>?_
 ·simp only[decide_eq_true_eq,Int.ofNat_lt]at h1;refine J.q λ_=>?_;refine J.l (α:=(Nat×List A3)) (λy=>y.1<=i/\y.2.length=n/\a7Y f y.1 y.2=J8 f l i) (λy=>[si 9 y.1,si 8 i,⟨0, .slice (some ⟨g,0,none⟩) n cap,2, .tt⟩,si 1 0,si 2 n,⟨3,fnV c,0, .tt⟩]) [1] (λy=>[.pt g 32 (j4 y.2++r)]) (λy=>y.1) ((i,J8 f l (i-1))) (⟨Nat.le_refl _,by rw[a3B,hl],by obtain⟨k,rfl⟩:∃k,i=k+1:=⟨i-1,by omega⟩;rfl⟩) λy hI=>?_;obtain⟨j,m⟩:=y;dsimp only at hI ⊢;have hget:∀e,e<n->m[e]? =some (m.getD e d3):=λe he=>by rw[List.getD_eq_getElem?_getD,List.getElem?_eq_getElem (by omega),Option.getD_some]
  rcases Nat.eq_zero_or_pos j with h2 | h2
  ·subst h2;refine J.pn 4 (.of [0,4,8,12,16,20,24,28,33,36,40,44,48,53,58,60,64]) [] [1] λ_ _=>?_;rw[show decide (((0:Nat):Int)>0)=false from rfl];refine J.q λ_=>?_;refine J.vT (M8 d3) rfl rfl (λhg a w he hC=>by simp[G.on]at hg) ?_;refine J.q λ_=>?_;refine J.vT (M8 d3) rfl rfl (λhg a w he hC=>by simp[G.on]at hg) ?_;refine J.q λ_=>?_;refine J.gcase hX rfl rfl rfl ⟨rfl,trivial⟩ (λh=>by cases h) (λ_=>?_);refine J.vT (.bool false) rfl rfl (λhg a w he hC=>by simp[G.on]at hg) ?_;refine J.qF λ_=>?_;have hm:m=J8 f l (i+1-1):=hI.2.2;rw[hm];refine J.q λ_=>?_;refine J.n (i+1) (⟨by omega,by omega⟩) (by omega) [0,1]
  ·obtain⟨j,rfl⟩:∃k,j=k+1:=⟨j-1,by omega⟩;refine J.pn 4 (.of [0,4,8,12,16,20,24,28,33,36,40,44,48,53,58,60,64]) [] [1] λ_ _=>?_;rw[show decide (((j+1:Nat):Int)>0)=true from decide_eq_true (by omega)];refine J.q λ_=>?_;refine J.vT (M8 (m.getD (j+1) d3)) rfl rfl (λhg a w he hC=>?_) ?_
   ·exact j7 tk rfl rfl he hg rfl rfl (hC rfl _ (i6 (i:=1) rfl)) (by rw[show 0+((j+1:Nat):Int).toNat*3=(j+1)*3 from by omega];exact C9 m r _ _ (hget _ (by omega))) rfl
   refine J.q λ_=>?_;refine J.vT (M8 (m.getD j d3)) rfl rfl (λhg a w he hC=>?_) ?_
   ·exact j7 tk rfl rfl he hg rfl rfl (hC rfl _ (i6 (i:=1) rfl)) (by rw[show 0+(((j+1:Nat):Int)-1).toNat*3=j*3 from by omega];exact C9 m r _ _ (hget _ (by omega))) rfl
   refine J.q λ_=>?_;refine J.call hX hcal (hf (m.getD (j+1) d3) (m.getD j d3)) [] 0 rfl rfl rfl rfl (by(repeat' (first | exact Conj.nil | refine Conj.cons ?_ ?_ | omega | exact hq0 | (simpa using hq0) | (exactλh=>h) | exact rfl | (intro hq;have hq0:=hq;try simp only[Bool.and_eq_true,Bool.or_eq_true,decide_eq_true_eq,Bool.not_eq_true',decide_eq_false_iff_not]at hq) | (simp;done) | (simp;omega) | decide))) rfl rfl (λ_=>rfl) ?_;refine cpq ⟨_,rfl,⟨rfl,trivial⟩,?_⟩;refine J.qd (λ_ h3=>?_) λ_ h3=>?_
   ·simp only[Bool.true_and,decide_eq_true_eq]at h3;refine J.pq (.take true 0 (.take true 1 (.take true 2 (.take true 3 (.take true 4 (.take true 5 (.take true 6 (.take true 7 (.take true 8 (.take true 10 (.take true 11 (.take true 12 (.alt false 9 ((.of [54,56,62,64,71])) (.alt false 13 ((.of [38,56,62,64,71])) .non)))))))))))))) [16,17] [] λ_ _=>?_;refine J.alts ?_ ?_
    ·refine J.v (M8 (m.getD j d3)) rfl rfl (λhg a w he hs=>?_) ?_
     ·exact j7 tk rfl rfl he hg rfl rfl (hs.get (i:=1) rfl) (by rw[show 0+(((j+1:Nat):Int)-1).toNat*3=j*3 from by omega];exact C9 m r _ _ (hget _ (by omega))) rfl
     refine J.q λ_=>?_;refine J.v (M8 (m.getD (j+1) d3)) rfl rfl (λhg a w he hs=>?_) ?_
     ·exact j7 tk rfl rfl he hg rfl rfl (hs.get (i:=1) rfl) (by rw[show 0+((j+1:Nat):Int).toNat*3=(j+1)*3 from by omega];exact C9 m r _ _ (hget _ (by omega))) rfl
     refine J.q λ_=>?_;refine J.storeN hX tk 1 rfl rfl rfl rfl rfl rfl rfl rfl rfl rfl rfl rfl rfl ?_ (j4 (m.set (j+1) (m.getD j d3))++r) ?_ rfl (λ_=>rfl) ⟨trivial,?_⟩
     ·rw[List.length_append,s6];show 0+((j+1:Nat):Int).toNat*3+3<=_;omega
     ·rw[show 0+((j+1:Nat):Int).toNat*3=(j+1)*3 from by omega];exact K0 m r (j+1) _ (by omega)
     refine J.q λ_=>?_;refine J.storeN hX tk 1 rfl rfl rfl rfl rfl rfl rfl rfl rfl rfl rfl rfl rfl ?_ (j4 (swp m (j+1))++r) ?_ rfl (λ_=>rfl) ⟨trivial,?_⟩
     ·rw[List.length_append,s6,List.length_set];show 0+(((j+1:Nat):Int)-1).toNat*3+3<=_;omega
     ·rw[show 0+(((j+1:Nat):Int)-1).toNat*3=j*3 from by omega];exact K0 _ r j _ (by rw[List.length_set];omega)
     refine J.q λ_=>?_;rw[show((j+1:Nat):Int)-1=(j:Int)from by omega];refine J.q λ_=>?_;refine J.n ((j,swp m (j+1))) (⟨by dsimp only;omega,by rw[a2v];exact hI.2.1,by rw[<- hI.2.2];exact(if_pos h3).symm⟩) (by dsimp only;omega) [0,1]
    ·refine J.v (M8 (m.getD (j+1) d3)) rfl rfl (λhg a w he hs=>?_) ?_
     ·exact j7 tk rfl rfl he hg rfl rfl (hs.get (i:=1) rfl) (by rw[show 0+((j+1:Nat):Int).toNat*3=(j+1)*3 from by omega];exact C9 m r _ _ (hget _ (by omega))) rfl
     refine J.q λ_=>?_;refine J.v (M8 (m.getD j d3)) rfl rfl (λhg a w he hs=>?_) ?_
     ·exact j7 tk rfl rfl he hg rfl rfl (hs.get (i:=1) rfl) (by rw[show 0+(((j+1:Nat):Int)-1).toNat*3=j*3 from by omega];exact C9 m r _ _ (hget _ (by omega))) rfl
     refine J.q λ_=>?_;refine J.storeN hX tk 1 rfl rfl rfl rfl rfl rfl rfl rfl rfl rfl rfl rfl rfl ?_ (j4 (m.set (j+1) (m.getD j d3))++r) ?_ rfl (λ_=>rfl) ⟨trivial,?_⟩
     ·rw[List.length_append,s6];show 0+((j+1:Nat):Int).toNat*3+3<=_;omega
     ·rw[show 0+((j+1:Nat):Int).toNat*3=(j+1)*3 from by omega];exact K0 m r (j+1) _ (by omega)
     refine J.q λ_=>?_;refine J.storeN hX tk 1 rfl rfl rfl rfl rfl rfl rfl rfl rfl rfl rfl rfl rfl ?_ (j4 (swp m (j+1))++r) ?_ rfl (λ_=>rfl) ⟨trivial,?_⟩
     ·rw[List.length_append,s6,List.length_set];show 0+(((j+1:Nat):Int)-1).toNat*3+3<=_;omega
     ·rw[show 0+(((j+1:Nat):Int)-1).toNat*3=j*3 from by omega];exact K0 _ r j _ (by rw[List.length_set];omega)
     refine J.q λ_=>?_;rw[show((j+1:Nat):Int)-1=(j:Int)from by omega];refine J.q λ_=>?_;refine J.n ((j,swp m (j+1))) (⟨by dsimp only;omega,by rw[a2v];exact hI.2.1,by rw[<- hI.2.2];exact(if_pos h3).symm⟩) (by dsimp only;omega) [0,1]
   ·simp only[Bool.true_and,decide_eq_false_iff_not]at h3;have hm:m=J8 f l (i+1-1):=by rw[show i+1-1=i from rfl,<- hI.2.2];exact(if_neg h3).symm
    rw[hm];refine J.q λ_=>?_;refine J.n (i+1) (⟨by omega,by omega⟩) (by omega) [0,1]
 ·simp only[decide_eq_false_iff_not,Int.ofNat_lt]at h1;have hi:J8 f l (i-1)=Y4 f l:=by
   rw[Y4,hl,show i-1=n-1 from by omega]
  rw[hi];refine J.q λ_=>?_;refine J.f [1] ?_;exact⟨rfl,rfl⟩
structure Fl where
 at_:Int
 kind:Int
 x:Int
 y:Int
 z:Int
 n:Int
 xx:Int
deriving DecidableEq
def dF:Fl:=⟨0,0,0,0,0,0,0⟩
def flC (f:Fl):List Value:=[iI f.at_,iI f.kind,iI f.x,iI f.y,iI f.z,iI f.n,iI f.xx]
def flV (f:Fl):Value:= .agg #[iI f.at_,iI f.kind,iI f.x,iI f.y,iI f.z,iI f.n,iI f.xx]
def f9 (l:List Fl):List Value:=l.flatMap flC
theorem C4 (l:List Fl):(f9 l).length=l.length*7:=by
 induction l with
 | nil=>rfl
 | cons x l ih=>simp only[f9,List.flatMap_cons,List.length_append,List.length_cons]at ih ⊢;rw[ih,show(flC x).length=7 from rfl];omega
theorem D8:∀(l:List Fl) (r:List Value) (k:Nat) (x:Fl),l[k]? =some x->((f9 l++r).drop (k*7)).take 7=flC x
 | [],_,_,_,h=>by simp at h
 | y::l,r,0,x,h=>by simp at h;subst h;simp[f9,flC]
 | y::l,r,k+1,x,h=>by
  have:=D8 l r k x (by simpa using h);rw[show(k+1)*7=7+k*7 from by omega,<- List.drop_drop,show(f9 (y::l)++r).drop 7=f9 l++r from rfl];exact this
theorem M2:∀(l:List Fl) (r:List Value) (k:Nat) (x:Fl),k<l.length->(f9 l++r).take (k*7)++flC x++(f9 l++r).drop (k*7+7)=f9 (l.set k x)++r
 | [],_,_,_,h=>by simp at h
 | y::l,r,0,x,h=>by rw[Nat.zero_mul,List.take_zero];rfl
 | y::l,r,k+1,x,h=>by
  have:=M2 l r k x (by simpa using h);rw[List.set_cons_succ,show f9 (y::l)++r=flC y++(f9 l++r)from by simp[f9],show(k+1)*7=(flC y).length+k*7 from by show _=7+k*7;omega,List.take_length_add_append,show(flC y).length+k*7+7=(flC y).length+(k*7+7)from by omega,List.drop_length_add_append,List.append_assoc,List.append_assoc,<- List.append_assoc (List.take _ _),this];simp[f9]
def a4f (l:List Fl) (j:Nat):List Fl:=(l.set j (l.getD (j-1) dF)).set (j-1) (l.getD j dF)
def a2R (f:Fl->Fl->Int):Nat->List Fl->List Fl
 | 0,l=>l
 | j+1,l=>if f (l.getD (j+1) dF) (l.getD j dF)<0 then a2R f j (a4f l (j+1))else l
def E6 (f:Fl->Fl->Int) (l:List Fl):Nat->List Fl
 | 0=>l
 | k+1=>a2R f (k+1) (E6 f l k)
def B6 (f:Fl->Fl->Int) (l:List Fl):List Fl:=E6 f l (l.length-1)
theorem a0E (l:List Fl) (j:Nat):(a4f l j).length=l.length:=by simp[a4f]
theorem a9O (l:List Fl) (j:Nat) (h:j+1<l.length):(a4f l (j+1)).Perm l:=by
 induction l generalizing j with
 | nil=>simp at h
 | cons x l ih=>
  cases j with
  | zero=>
   cases l with
   | nil=>simp at h
   | cons y l=>simp only[a4f,List.set_cons_succ,List.set_cons_zero,Nat.add_sub_cancel,Nat.zero_add,List.getD_cons_zero,List.getD_cons_succ];exact List.Perm.swap _ _ _
  | succ j=>
   have:=ih j (by simpa using h);simp only[a4f,Nat.add_sub_cancel,List.set_cons_succ,List.getD_cons_succ]at this ⊢;exact this.cons x
theorem a0n (f:Fl->Fl->Int):∀(j:Nat) (l:List Fl),j<l.length->(a2R f j l).Perm l
 | 0,l,_=>List.Perm.refl _
 | j+1,l,h=>by
  unfold a2R;split
  ·exact(a0n f j _ (by rw[a0E];omega)).trans (a9O l j h)
  ·exact List.Perm.refl _
theorem a0U (f:Fl->Fl->Int) (l:List Fl):∀k,k<l.length->(E6 f l k).Perm l/\(E6 f l k).length=l.length
 | 0,_=>⟨List.Perm.refl _,rfl⟩
 | k+1,h=>by
  obtain⟨h1,h2⟩:=a0U f l k (by omega);exact⟨(a0n f (k+1) _ (by omega)).trans h1,by rw[E6,(a0n f (k+1) _ (by omega)).length_eq,h2]⟩
theorem a1Y (f:Fl->Fl->Int) (l:List Fl):(B6 f l).Perm l:=by
 cases l with
 | nil=>exact List.Perm.refl _
 | cons x l=>exact(a0U f (x::l) _ (by simp)).1
theorem a4z (f:Fl->Fl->Int):∀(j:Nat) (l:List Fl),(a2R f j l).length=l.length
  | 0,l=>rfl
  | j + 1, l => by unfold a2R; split
                   · rw[a4z f j,a0E]
                   · rfl
theorem a1Z (f:Fl->Fl->Int) (l:List Fl):∀k,(E6 f l k).length=l.length
 | 0=>rfl
 | k+1=>by rw[E6,a4z,a1Z f l k]
theorem b5f (c:Nat) (f:Fl->Fl->Int) (hcal:n9 Tryz.prog c=true) (hf:∀x y,Fn Tryz.prog c [flV x,flV y] [] (Ps (iI (f x y)) []))
  (g n cap:Nat) (l:List Fl) (hl:l.length=n) (hn:n<=4611686018427387904) (r:List Value):FP 206 [.slice (some ⟨g,0,none⟩) n cap,iI 0,iI n,fnV c] [.pt g 34 (f9 l++r)]
  (Ps (.tuple #[]) [.pt g 34 (f9 (B6 f l)++r)]):=by
 refine FE [2,0,0,0] Tryz.func206 λX F hX=>?_;refine J.q λ_=>?_;refine J.l (α:=Nat) (λi=>1<=i/\i<=max 1 n) (λi=>[si 8 i,⟨0, .slice (some ⟨g,0,none⟩) n cap,2, .tt⟩,si 1 0,si 2 n,⟨3,fnV c,0, .tt⟩]) [1] (λi=>[.pt g 34 (f9 (E6 f l (i-1))++r)]) (λi=>n-i) (1) (⟨by omega,by omega⟩) λi hI=>?_;refine J.qd (λ_ h1=>?_) λ_ h1=>?_
 ·simp only[decide_eq_true_eq,Int.ofNat_lt]at h1;refine J.q λ_=>?_;refine J.l (α:=(Nat×List Fl)) (λy=>y.1<=i/\y.2.length=n/\a2R f y.1 y.2=E6 f l i) (λy=>[si 9 y.1,si 8 i,⟨0, .slice (some ⟨g,0,none⟩) n cap,2, .tt⟩,si 1 0,si 2 n,⟨3,fnV c,0, .tt⟩]) [1] (λy=>[.pt g 34 (f9 y.2++r)]) (λy=>y.1) ((i,E6 f l (i-1))) (⟨Nat.le_refl _,by rw[a1Z,hl],by obtain⟨k,rfl⟩:∃k,i=k+1:=⟨i-1,by omega⟩;rfl⟩) λy hI=>?_;obtain⟨j,m⟩:=y;dsimp only at hI ⊢;have hget:∀e,e<n->m[e]? =some (m.getD e dF):=λe he=>by rw[List.getD_eq_getElem?_getD,List.getElem?_eq_getElem (by omega),Option.getD_some]
  rcases Nat.eq_zero_or_pos j with h2 | h2
  ·subst h2;refine J.pn 4 (.of [0,4,8,12,16,20,24,28,33,36,40,44,48,53,58,60,64]) [] [1] λ_ _=>?_;rw[show decide (((0:Nat):Int)>0)=false from rfl];refine J.q λ_=>?_;refine J.vT (flV dF) rfl rfl (λhg a w he hC=>by simp[G.on]at hg) ?_;refine J.q λ_=>?_;refine J.vT (flV dF) rfl rfl (λhg a w he hC=>by simp[G.on]at hg) ?_;refine J.q λ_=>?_;refine J.gcase hX rfl rfl rfl ⟨rfl,trivial⟩ (λh=>by cases h) (λ_=>?_);refine J.vT (.bool false) rfl rfl (λhg a w he hC=>by simp[G.on]at hg) ?_;refine J.qF λ_=>?_;have hm:m=E6 f l (i+1-1):=hI.2.2;rw[hm];refine J.q λ_=>?_;refine J.n (i+1) (⟨by omega,by omega⟩) (by omega) [0,1]
  ·obtain⟨j,rfl⟩:∃k,j=k+1:=⟨j-1,by omega⟩;refine J.pn 4 (.of [0,4,8,12,16,20,24,28,33,36,40,44,48,53,58,60,64]) [] [1] λ_ _=>?_;rw[show decide (((j+1:Nat):Int)>0)=true from decide_eq_true (by omega)];refine J.q λ_=>?_;refine J.vT (flV (m.getD (j+1) dF)) rfl rfl (λhg a w he hC=>?_) ?_
   ·exact j7 tk rfl rfl he hg rfl rfl (hC rfl _ (i6 (i:=1) rfl)) (by rw[show 0+((j+1:Nat):Int).toNat*7=(j+1)*7 from by omega];exact D8 m r _ _ (hget _ (by omega))) rfl
   refine J.q λ_=>?_;refine J.vT (flV (m.getD j dF)) rfl rfl (λhg a w he hC=>?_) ?_
   ·exact j7 tk rfl rfl he hg rfl rfl (hC rfl _ (i6 (i:=1) rfl)) (by rw[show 0+(((j+1:Nat):Int)-1).toNat*7=j*7 from by omega];exact D8 m r _ _ (hget _ (by omega))) rfl
   refine J.q λ_=>?_;refine J.call hX hcal (hf (m.getD (j+1) dF) (m.getD j dF)) [] 0 rfl rfl rfl rfl (by(repeat' (first | exact Conj.nil | refine Conj.cons ?_ ?_ | omega | exact hq0 | (simpa using hq0) | (exactλh=>h) | exact rfl | (intro hq;have hq0:=hq;try simp only[Bool.and_eq_true,Bool.or_eq_true,decide_eq_true_eq,Bool.not_eq_true',decide_eq_false_iff_not]at hq) | (simp;done) | (simp;omega) | decide))) rfl rfl (λ_=>rfl) ?_;refine cpq ⟨_,rfl,⟨rfl,trivial⟩,?_⟩;refine J.qd (λ_ h3=>?_) λ_ h3=>?_
   ·simp only[Bool.true_and,decide_eq_true_eq]at h3;refine J.pq (.take true 0 (.take true 1 (.take true 2 (.take true 3 (.take true 4 (.take true 5 (.take true 6 (.take true 7 (.take true 8 (.take true 10 (.take true 11 (.take true 12 (.alt false 9 ((.of [54,56,62,64,71])) (.alt false 13 ((.of [38,56,62,64,71])) .non)))))))))))))) [16,17] [] λ_ _=>?_;refine J.alts ?_ ?_
    ·refine J.v (flV (m.getD j dF)) rfl rfl (λhg a w he hs=>?_) ?_
     ·exact j7 tk rfl rfl he hg rfl rfl (hs.get (i:=1) rfl) (by rw[show 0+(((j+1:Nat):Int)-1).toNat*7=j*7 from by omega];exact D8 m r _ _ (hget _ (by omega))) rfl
     refine J.q λ_=>?_;refine J.v (flV (m.getD (j+1) dF)) rfl rfl (λhg a w he hs=>?_) ?_
     ·exact j7 tk rfl rfl he hg rfl rfl (hs.get (i:=1) rfl) (by rw[show 0+((j+1:Nat):Int).toNat*7=(j+1)*7 from by omega];exact D8 m r _ _ (hget _ (by omega))) rfl
     refine J.q λ_=>?_;refine J.storeN hX tk 1 rfl rfl rfl rfl rfl rfl rfl rfl rfl rfl rfl rfl rfl ?_ (f9 (m.set (j+1) (m.getD j dF))++r) ?_ rfl (λ_=>rfl) ⟨trivial,?_⟩
     ·rw[List.length_append,C4];show 0+((j+1:Nat):Int).toNat*7+7<=_;omega
     ·rw[show 0+((j+1:Nat):Int).toNat*7=(j+1)*7 from by omega];exact M2 m r (j+1) _ (by omega)
     refine J.q λ_=>?_;refine J.storeN hX tk 1 rfl rfl rfl rfl rfl rfl rfl rfl rfl rfl rfl rfl rfl ?_ (f9 (a4f m (j+1))++r) ?_ rfl (λ_=>rfl) ⟨trivial,?_⟩
     ·rw[List.length_append,C4,List.length_set];show 0+(((j+1:Nat):Int)-1).toNat*7+7<=_;omega
     ·rw[show 0+(((j+1:Nat):Int)-1).toNat*7=j*7 from by omega];exact M2 _ r j _ (by rw[List.length_set];omega)
     refine J.q λ_=>?_;rw[show((j+1:Nat):Int)-1=(j:Int)from by omega];refine J.q λ_=>?_;refine J.n ((j,a4f m (j+1))) (⟨by dsimp only;omega,by rw[a0E];exact hI.2.1,by rw[<- hI.2.2];exact(if_pos h3).symm⟩) (by dsimp only;omega) [0,1]
    ·refine J.v (flV (m.getD (j+1) dF)) rfl rfl (λhg a w he hs=>?_) ?_
     ·exact j7 tk rfl rfl he hg rfl rfl (hs.get (i:=1) rfl) (by rw[show 0+((j+1:Nat):Int).toNat*7=(j+1)*7 from by omega];exact D8 m r _ _ (hget _ (by omega))) rfl
     refine J.q λ_=>?_;refine J.v (flV (m.getD j dF)) rfl rfl (λhg a w he hs=>?_) ?_
     ·exact j7 tk rfl rfl he hg rfl rfl (hs.get (i:=1) rfl) (by rw[show 0+(((j+1:Nat):Int)-1).toNat*7=j*7 from by omega];exact D8 m r _ _ (hget _ (by omega))) rfl
     refine J.q λ_=>?_;refine J.storeN hX tk 1 rfl rfl rfl rfl rfl rfl rfl rfl rfl rfl rfl rfl rfl ?_ (f9 (m.set (j+1) (m.getD j dF))++r) ?_ rfl (λ_=>rfl) ⟨trivial,?_⟩
     ·rw[List.length_append,C4];show 0+((j+1:Nat):Int).toNat*7+7<=_;omega
     ·rw[show 0+((j+1:Nat):Int).toNat*7=(j+1)*7 from by omega];exact M2 m r (j+1) _ (by omega)
     refine J.q λ_=>?_;refine J.storeN hX tk 1 rfl rfl rfl rfl rfl rfl rfl rfl rfl rfl rfl rfl rfl ?_ (f9 (a4f m (j+1))++r) ?_ rfl (λ_=>rfl) ⟨trivial,?_⟩
     ·rw[List.length_append,C4,List.length_set];show 0+(((j+1:Nat):Int)-1).toNat*7+7<=_;omega
     ·rw[show 0+(((j+1:Nat):Int)-1).toNat*7=j*7 from by omega];exact M2 _ r j _ (by rw[List.length_set];omega)
     refine J.q λ_=>?_;rw[show((j+1:Nat):Int)-1=(j:Int)from by omega];refine J.q λ_=>?_;refine J.n ((j,a4f m (j+1))) (⟨by dsimp only;omega,by rw[a0E];exact hI.2.1,by rw[<- hI.2.2];exact(if_pos h3).symm⟩) (by dsimp only;omega) [0,1]
   ·simp only[Bool.true_and,decide_eq_false_iff_not]at h3;have hm:m=E6 f l (i+1-1):=by rw[show i+1-1=i from rfl,<- hI.2.2];exact(if_neg h3).symm
    rw[hm];refine J.q λ_=>?_;refine J.n (i+1) (⟨by omega,by omega⟩) (by omega) [0,1]
 ·simp only[decide_eq_false_iff_not,Int.ofNat_lt]at h1;have hi:E6 f l (i-1)=B6 f l:=by
   rw[B6,hl,show i-1=n-1 from by omega]
  rw[hi];refine J.q λ_=>?_;refine J.f [1] ?_;exact⟨rfl,rfl⟩
def b2B (x:Nat):Nat:=([0,1,2,2,3,3,3,3,4,4,4,4,4]:List Nat).getD x 0
theorem b7E:Tryz.prog.underlying 9=some .string:=by kernel_rfl
theorem a5X {P:Program} {E:Env} {w:World} {n0:Nat} {a:Act} {o:Oper} {ty:TypeId} {s:ByteArray} {y:Operand} {k tg:Nat} {g:G} {ik:IntKind} {i:Int} {b:UInt8} (hop:o.op= .index ty (.const (.string s)) y) (hy:ev E y=some ⟨k, .int ik i,tg,g⟩) (he:EnvOK n0 E a) (hg:g.on=true) (hd:P.underlying ty=some .string)
  (h0:0<=i) (hb:s.data.toList[i.toNat]? =some b):(execOp a.eval o).run P w= .ok (.value (.int .u8 b.toNat)) w:=by
 have ey:=i5 he hy;simp only[Slot.val,hg]at ey;have h1:=run_index_string (P:=P) (w:=w) ty s ik i hd;have hlt:i.toNat<s.size:=(List.getElem?_eq_some_iff.1 hb).1;have hv:s[i.toNat]'hlt=b:=by
  have:=(List.getElem?_eq_some_iff.1 hb).2;rw[<- this];rfl
 rw[dif_pos ⟨h0,by omega⟩,hv]at h1;simp only[execOp,hop,ey,Sem.run_bind];have e1:a.eval (.const (.string s))= .string s:=rfl;rw[e1,h1];rfl
theorem b4U {x:Nat} (hx:x<=12):b2B x<=4:=by
 obtain rfl | rfl | rfl | rfl | rfl | rfl | rfl | rfl | rfl | rfl | rfl | rfl | rfl:x=0\/x=1\/x=2\/x=3\/x=4\/x=5\/x=6\/x=7\/x=8\/x=9\/x=10\/x=11\/x=12:=by omega
 all_goals decide
theorem b5w (x:Nat) (hx:x<=12):FP 227 [.int .u64 x] [] (λv As=>(∃k:Nat,k<=8/\v=iI k)/\As=[]):=by
 have h4:=b4U hx;refine FE [0] Tryz.func227 λX F hX=>?_;refine J.qd (λ_ h1=>?_) λ_ h1=>?_
 ·simp only[decide_eq_true_eq]at h1;omega
 refine J.qd (λ_ h2=>?_) λ_ h2=>?_
 ·simp only[decide_eq_true_eq]at h2;omega
 refine J.qd (λ_ h3=>?_) λ_ h3=>?_
 ·simp only[decide_eq_true_eq]at h3;omega
 refine J.q λ_=>?_;refine J.v (.int .u8 (UInt8.ofNat (b2B x)).toNat) rfl rfl (λhg a w he hs=>?_) ?_
 ·refine a5X rfl rfl he rfl b7E (by omega) ?_;obtain rfl | rfl | rfl | rfl | rfl | rfl | rfl | rfl | rfl | rfl | rfl | rfl | rfl:x=0\/x=1\/x=2\/x=3\/x=4\/x=5\/x=6\/x=7\/x=8\/x=9\/x=10\/x=11\/x=12:=by omega
  all_goals rfl
 have h5:(UInt8.ofNat (b2B x)).toNat=b2B x:=by rw[UInt8.toNat_ofNat'];omega
 rw[h5];refine J.qr [] λ_=>?_;exact⟨⟨b2B x,by omega,by simp⟩,rfl⟩
theorem b5O (x:Nat) (hx:x<=12):FP 184 [.int .u64 x] [] (λv As=>(∃k:Nat,k<=8/\v=iI k)/\As=[]):=by
 refine FE [0] Tryz.func184 λX F hX=>?_;refine J.qF λ_=>?_;refine J.qc (b5w x hx) [] λ_=>?_;rintro v As ⟨⟨k,hk,rfl⟩,rfl⟩;refine⟨_,rfl,trivial,?_⟩;refine J.qr [] λ_=>?_;exact⟨⟨k,hk,rfl⟩,rfl⟩
theorem b6g (c:Nat) (f:A3->A3->Int) (hcal:n9 Tryz.prog c=true) (hf:∀x y,Fn Tryz.prog c [M8 x,M8 y] [] (Ps (iI (f x y)) []))
  (g n cap:Nat) (l:List A3) (hl:l.length=n) (hn:n<=12) (r:List Value) (k:Nat):FP 280 [.slice (some ⟨g,0,none⟩) n cap,iI 0,iI n,iI k,fnV c] [.pt g 32 (j4 l++r)]
  (Ps (.tuple #[]) [.pt g 32 (j4 (Y4 f l)++r)]):=by
 refine FE [2,0,0,0,0] Tryz.func280 λX F hX=>?_;refine J.q λ_=>?_;refine J.l (α:=Nat) (λy=>True) (λy=>[⟨0, .slice (some ⟨g,0,none⟩) n cap,2, .tt⟩,si 1 0,si 2 n,si 3 k,⟨4,fnV c,0, .tt⟩]) [1] (λy=>[.pt g 32 (j4 l++r)]) (λy=>0) (0) (trivial) λy hI=>?_;refine J.qd (λ_ h1=>?_) λ_ h1=>?_
 ·refine J.q λ_=>?_;rw[show(n:Int)-0=n from by omega]at*;refine J.qp (b6u c f hcal hf g n cap l hl (by omega) r) [1] λ_=>?_;exact J.qx [1]
 ·simp only[decide_eq_false_iff_not]at h1;omega
theorem b4B (c:Nat) (d:Value) (k:Nat):FP 280 [d,iI 0,iI 0,iI k,fnV c] [] (Ps (.tuple #[]) []):=by
 have h0:FP 283 [d,iI 0,iI 0,fnV c] [] (Ps (.tuple #[]) []):=by
  refine FE [0,0,0,0] Tryz.func283 λX F hX=>?_;refine J.q λ_=>?_;refine J.l (α:=Nat) (λy=>True) (λy=>[si 8 (0+1),sv 0 d,si 1 0,si 2 0,⟨3,fnV c,0, .tt⟩]) [] (λy=>[]) (λy=>0) (0) (trivial) λy hI=>?_;refine J.qd (λ_ h1=>?_) λ_ h1=>?_
  ·simp at h1
  ·refine J.q λ_=>?_;refine J.f [] ?_;exact⟨rfl,rfl⟩
 refine FE [0,0,0,0,0] Tryz.func280 λX F hX=>?_;refine J.q λ_=>?_;refine J.l (α:=Nat) (λy=>True) (λy=>[sv 0 d,si 1 0,si 2 0,si 3 k,⟨4,fnV c,0, .tt⟩]) [] (λy=>[]) (λy=>0) (0) (trivial) λy hI=>?_;refine J.qd (λ_ h1=>?_) λ_ h1=>?_
 ·refine J.qp (h0) [] λ_=>?_;exact J.qx []
 ·simp at h1
theorem a2W (c:Nat) (f:A3->A3->Int) (hcal:n9 Tryz.prog c=true) (hf:∀x y,Fn Tryz.prog c [M8 x,M8 y] [] (Ps (iI (f x y)) []))
  (a:Option Nat) (n cap:Nat) (l:List A3) (hl:l.length=n) (hn:n<=12):FP 275 [slv a n cap,fnV c] [c9 32 3 a n cap (j4 l)]
  (Ps (.tuple #[]) [c9 32 3 a n cap (j4 (Y4 f l))]):=by
 refine FE [0,0] Tryz.func275 λX F hX=>?_;refine J.qc (b5O n hn) [] λ_=>?_;rintro v As ⟨⟨k,hk,rfl⟩,rfl⟩;refine⟨_,rfl,trivial,?_⟩;refine J.q λ_=>?_;cases a with
 | none=>
  refine J.know (λh' s=>(s.get (i:=1) rfl).2.1) λhn0=>?_;subst hn0;have:l=[]:=List.eq_nil_of_length_eq_zero hl;subst this;refine J.qp (b4B c (slv none 0 cap) k) [] λ_=>?_;refine J.q λ_=>?_;refine J.f [1] ?_;exact⟨rfl,rfl⟩
 | some g=>
  refine J.openOwn 1 rfl rfl (λ_=>rfl) λr q1 q2 q3 q4=>?_;refine J.qp (b6g c f hcal hf g n cap l hl hn r k) [1] λ_=>?_;refine J.closeOwn (e:=32) (size:=3) (n:=n) (cap:=cap) (xs:=j4 (Y4 f l)) 1 rfl rfl (by rw[s6,(J7 f l).length_eq,hl]) q2 q3 (by rw[List.length_append,s6,(J7 f l).length_eq];rw[s6]at q4;exact q4) (by rw[List.take_left' (by rw[s6,(J7 f l).length_eq,hl])]) rfl ?_;refine J.q λ_=>?_;refine J.f [1] ?_;exact⟨rfl,rfl⟩
def a4o (x:A3):List Value:=[.int .i64 x.1, .int .i64 x.2.1, .int .i64 x.2.2]
instance:Inhabited A3:=⟨d3⟩
theorem a3E (d:Array A3):(Go.Sort.flatK a4o 3 d).toList=j4 d.toList:=by
 apply List.ext_getElem?;intro t;have hs:(Go.Sort.flatK a4o 3 d).toList.length=d.size*3:=by simp
 by_cases ht:t<d.size*3
 ·have hx:d.toList[t/3]? =some d[t/3]!:=by
   rw[Array.getElem?_toList,Array.getElem?_eq_getElem (by omega),getElem!_pos d _ (by omega)]
  have h1:=C9 d.toList [] (t/3) _ hx;rw[List.append_nil]at h1;have h2:(j4 d.toList)[t]? =([.int .i64 d[t/3]!.1, .int .i64 d[t/3]!.2.1, .int .i64 d[t/3]!.2.2]:List Value)[t % 3]?:=by
   rw[<- h1,List.getElem?_take,if_pos (Nat.mod_lt _ (by decide)),List.getElem?_drop,show t/3*3+t % 3=t from by omega]
  rw[h2];have h3:=Go.Sort.get_flatK a4o 3 d t ht;rw[Array.getElem?_toList,Array.getElem?_eq_getElem (by simpa using ht),<- getElem!_pos (Go.Sort.flatK a4o 3 d) t (by simpa using ht),h3];have:t % 3<3:=Nat.mod_lt _ (by decide);rcases(by omega:t % 3=0\/t % 3=1\/t % 3=2)with e | e | e<;>rw[e]<;>rfl
 ·rw[List.getElem?_eq_none (by omega),List.getElem?_eq_none (by rw[s6,Array.length_toList];omega)]
theorem a4j (F cur:Array Value) (h:F.size<=cur.size):(Go.Sort.putCells id 0 F cur).size=cur.size/\(Go.Sort.putCells id 0 F cur).toList.take F.size=F.toList:=by
 unfold Go.Sort.putCells;refine⟨by simp,?_⟩;apply List.ext_getElem?;intro t;rw[List.getElem?_take]
 by_cases ht:t<F.size
 ·rw[if_pos ht,Array.getElem?_toList,Array.getElem?_toList,Array.getElem?_eq_getElem (by simp;omega),Array.getElem_mapIdx,if_pos (by omega),Nat.sub_zero,Array.getElem?_eq_getElem ht,getElem!_pos F t ht];rfl
 ·rw[if_neg ht,List.getElem?_eq_none (by simpa using ht)]
theorem a1P (w:World) (g m e:Nat) (cur:Array Value) (F:Array Value) (os:Array Obj) (h:hl w g=some (.cells cur e (0,0))):
  hl (Go.Sort.grow (Go.Sort.putRow id (Go.Sort.ahead w m) g 0 F) os) g=some (.cells (Go.Sort.putCells id 0 F cur) e (0,0))/\
  (∀b o,b≠g->hl w b=some o->hl (Go.Sort.grow (Go.Sort.putRow id (Go.Sort.ahead w m) g 0 F) os) b=some o)/\Ext w (Go.Sort.grow (Go.Sort.putRow id (Go.Sort.ahead w m) g 0 F) os):=by
 have hsz:(Go.Sort.putRow id (Go.Sort.ahead w m) g 0 F).heap.size=w.heap.size:=Go.Sort.size_putRow id _ _ _ _;have key:∀b o,w.heap[b]? =some o->(Go.Sort.grow (Go.Sort.putRow id (Go.Sort.ahead w m) g 0 F) os).heap[b]? =(w.heap.modify g (Go.Sort.onCells (Go.Sort.putCells id 0 F)))[b]?:=λb o hb=>by
  have hlt:b<w.heap.size:=(Array.getElem?_eq_some_iff.1 hb).1;show((Go.Sort.putRow id (Go.Sort.ahead w m) g 0 F).heap++os)[b]? =_;rw[Array.getElem?_append_left (by omega)];rfl
 refine⟨?_,λb o hb ho=>?_,rfl,rfl,rfl,?_⟩
 ·show(Go.Sort.grow _ os).heap[g]? =_;rw[key g _ h,Array.getElem?_modify,if_pos rfl,show w.heap[g]? =_ from h];rfl
 ·show(Go.Sort.grow _ os).heap[b]? =_;rw[key b _ ho,Array.getElem?_modify,if_neg (λe=>hb e.symm)];exact ho
 ·show w.heap.size<=((Go.Sort.putRow id (Go.Sort.ahead w m) g 0 F).heap++os).size;rw[Array.size_append];omega
theorem b6v {w:World} {g e n cap:Nat} {l:List A3} (hl':l.length=n) (h:J5 e 3 (some g) n cap (j4 l) (hl w)):Go.Sort.HoldsK a4o 3 w g 0 l.toArray:=by
 obtain⟨h0,cur,h2,h3,h4,h5,h6⟩:=h;intro j hj;have hF:=a3E l.toArray;simp only[Go.Sort.size_flatK,List.size_toArray]at hj;have hb:Blk w g e cur:=h2;rw[Nat.zero_add];refine⟨?_,hb.frozen j⟩;rw[hb.cell,<- Array.getElem?_toList];have h7:(j4 l)[j]? =cur.toList[j]?:=by
  rw[<- h6,List.getElem?_take,if_pos (by omega)]
 rw[<- h7,<- hF,Array.getElem?_toList,Array.getElem?_eq_getElem (by simpa using hj),getElem!_pos _ _ (by simpa using hj)];rfl
set_option maxHeartbeats 400000 in
theorem a1k (a b:Int) (w:World):Calls Tryz.prog 105 #[.int .i64 a, .int .i64 b] w λe w'=>e= .returned (.int .i64 (y8 a b))/\w=w':=by
 rcases Int.lt_trichotomy a b with h | h | h
 ·have h2:y8 a b= -1:=by simp[y8,h]
  go_enter Tryz.func105,Tryz.ntmps105
  go_wp2
  go_ret
  exact⟨a5I h2.symm,rfl⟩
 ·have h2:y8 a b=0:=by simp[y8,h]
  go_enter Tryz.func105,Tryz.ntmps105
  go_wp2
  go_ret
  exact⟨a5I h2.symm,rfl⟩
 ·have h2:y8 a b=1:=by simp[y8];omega
  go_enter Tryz.func105,Tryz.ntmps105
  go_wp2
  go_ret
  exact⟨a5I h2.symm,rfl⟩
set_option maxHeartbeats 800000 in
theorem b7D (g:Nat) (a b c:Int) (w:World) (h0:w.cell? ⟨g,0,none⟩=some (.int .i64 a)) (h1:w.cell? ⟨g,1,none⟩=some (.int .i64 b)) (h2:w.cell? ⟨g,2,none⟩=some (.int .i64 c)):Calls Tryz.prog 196 #[.slice (some ⟨g,0,none⟩) 3 3] w λe w'=>e= .returned (.int .i64 (orI [a,b,c]))/\w=w':=by
 have ho:orI [a,b,c]=if a≠0 then a else if b≠0 then b else if c≠0 then c else 0:=rfl
 go_enter Tryz.func196,Tryz.ntmps196
 go_wp2
 go_loop [8] (λx=>∃k:Nat,k<=3/\x= .int .i64 k/\(0<k->a=0)/\(1<k->b=0)/\(2<k->c=0)) (λx=>3-(intOf x).toNat)
 case atStart=>exact⟨0,by omega,rfl,by omega,by omega,by omega⟩
 case round=>
  obtain⟨k,hk,rfl,z1,z2,z3⟩:=hrel;rcases(by omega:k=0\/k=1\/k=2\/k=3)with rfl | rfl | rfl | rfl
  ·by_cases hz:a=0
   ·subst hz
    go_wp2
    go_round
    case rel=>exact⟨1,by omega,rfl,by simp,by omega,by omega⟩
    case measure=>simp[intOf]
   ·have ho2:=Lib.hid (show orI [a,b,c]=a by rw[ho,if_pos hz]);clear ho
    go_wp2
    go_ret
    exact⟨a5I ho2.out.symm,rfl⟩
  ·have ha:=z1 (by omega);subst ha
   by_cases hz:b=0
   ·subst hz
    go_wp2
    go_round
    case rel=>exact⟨2,by omega,rfl,by simp,by simp,by omega⟩
    case measure=>simp[intOf]
   ·have ho2:=Lib.hid (show orI [0,b,c]=b by rw[ho,if_neg (by simp),if_pos hz]);clear ho
    go_wp2
    go_ret
    exact⟨a5I ho2.out.symm,rfl⟩
  ·have ha:=z1 (by omega);have hb:=z2 (by omega);subst ha hb
   by_cases hz:c=0
   ·subst hz
    go_wp2
    go_round
    case rel=>exact⟨3,by omega,rfl,by simp,by simp,by simp⟩
    case measure=>simp[intOf]
   ·have ho2:=Lib.hid (show orI [0,0,c]=c by rw[ho,if_neg (by simp),if_neg (by simp),if_pos hz]);clear ho
    go_wp2
    go_ret
    exact⟨a5I ho2.out.symm,rfl⟩
  ·have ho2:=Lib.hid (show orI [a,b,c]=0 by rw[z1 (by omega),z2 (by omega),z3 (by omega)];rfl);clear ho z1 z2 z3
   go_wp2
   go_ret
   exact⟨a5I ho2.out.symm,rfl⟩
set_option maxRecDepth 100000 in
set_option maxHeartbeats 800000 in
theorem b3U (x y:A3) (w:World):Calls Tryz.prog 276 #[.agg #[.int .i64 x.1, .int .i64 x.2.1, .int .i64 x.2.2], .agg #[.int .i64 y.1, .int .i64 y.2.1, .int .i64 y.2.2]] w λe w'=>e= .returned (.int .i64 (a2p x y))/\∃q os',w'=Go.Sort.grow (w.drewN q) os':=by
 obtain⟨x0,x1,x2⟩:=x;obtain⟨y0,y1,y2⟩:=y
 go_enter Tryz.func276,Tryz.ntmps276
 go_upto_region 1 with fail
 obtain⟨w0,hw0⟩:∃w0,(w.alloc (.cells #[.int .i64 x0, .int .i64 x1, .int .i64 x2] 32)).alloc (.cells #[.int .i64 y0, .int .i64 y1, .int .i64 y2] 32)=w0:=⟨_,rfl⟩;rw[hw0];have hg:w0=Go.Sort.grow w #[.cells #[.int .i64 x0, .int .i64 x1, .int .i64 x2] 32 (0,0), .cells #[.int .i64 y0, .int .i64 y1, .int .i64 y2] 32 (0,0)]:=by
  rw[<- hw0,Go.Sort.alloc_eq_grow,Go.Sort.alloc_eq_grow,Go.Sort.grow_grow];rfl
 have b0:Blk w0 w.heap.size 32 #[.int .i64 x0, .int .i64 x1, .int .i64 x2]:=by rw[<- hw0];exact(Blk.new w _ _).alloc _
 have b1:Blk w0 (w.heap.size+1) 32 #[.int .i64 y0, .int .i64 y1, .int .i64 y2]:=by rw[<- hw0];simpa using Blk.new (w.alloc (.cells #[.int .i64 x0, .int .i64 x1, .int .i64 x2] 32)) 32 #[.int .i64 y0, .int .i64 y1, .int .i64 y2]
 have c0:=(b0.cell 0).trans rfl;have c1:w0.cell? ⟨w.heap.size,1,none⟩=some (.int .i64 x1):=(b0.cell 1).trans rfl;have c2:w0.cell? ⟨w.heap.size,2,none⟩=some (.int .i64 x2):=(b0.cell 2).trans rfl;have d0:w0.cell? ⟨w.heap.size+1,0,none⟩=some (.int .i64 y0):=(b1.cell 0).trans rfl;have d1:w0.cell? ⟨w.heap.size+1,1,none⟩=some (.int .i64 y1):=(b1.cell 1).trans rfl;have d2:w0.cell? ⟨w.heap.size+1,2,none⟩=some (.int .i64 y2):=(b1.cell 2).trans rfl;have c0:w0.cell? ⟨w.heap.size,0,none⟩=some (.int .i64 x0):=(b0.cell 0).trans rfl;have Hg:=Lib.hid hg;clear hw0 b0 b1 hg;generalize w.heap.size=n at*
 go_still_tail 15,(by kernel_rfl)
 still_call ((a1k _ _ _).mono λ_ _ h=>⟨h.1,h.2.symm⟩)
 repeat still_step
 still_call ((a1k _ _ _).mono λ_ _ h=>⟨h.1,h.2.symm⟩)
 repeat still_step
 still_call ((a1k _ _ _).mono λ_ _ h=>⟨h.1,h.2.symm⟩)
 refine wpStill_nil ?_;have hb:=(Blk.new w0 3 #[.int .i64 (y8 x0 y0), .int .i64 (y8 x1 y1), .int .i64 (y8 x2 y2)]).drew;have e0:=λW h0 h1 h2=>b7D w0.heap.size (y8 x0 y0) (y8 x1 y1) (y8 x2 y2) W h0 h1 h2
 go_wp2_with (go_at_call 196;refine(e0 _ ((hb.cell 0).trans rfl) ((hb.cell 1).trans rfl) ((hb.cell 2).trans rfl)).mono ?_;rintro e w' ⟨rfl,rfl⟩)
 go_ret
 exact⟨rfl,1,_,by rw[Hg.out,Go.Sort.alloc_eq_grow,Go.Sort.grow_grow];rfl⟩
end Go.Proofs.YtnffkcabeecopaaGreat
