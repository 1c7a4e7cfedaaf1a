/- Helpers. No condition. -/
import Derived.Test.YtpohajhbfllbbaaGreatE06
import Derived.Test.YtpohajhbfllbbaaGreatE07
set_option maxRecDepth 20000
set_option linter.all false
namespace Go.Proofs.YtpohajhbfllbbaaGreat
open Go Go.RowKit
theorem M7 {N:Nand} {Y:NLoc} {i j:Nat} (hi:i<N.dies) (hj:j<N.blocks):y6 (a0j N.blocks (N.dies*N.blocks) Y.bp) ((i:Int),(j:Int),0)=some (pp (Y.bp (i*N.blocks+j))):=by
 rw[a8W _ _ _ _ hj,if_pos (a3H hi hj)]
theorem a5H {N:Nand} {Y:NLoc} {x y:Int} (hb:0<N.blocks) (h:¬(0<=x/\x<N.dies/\0<=y/\y<N.blocks)):y6 (a0j N.blocks (N.dies*N.blocks) Y.bp) (x,y,0)=none:=by
 refine a4l _ hb _ _ _ λi j hij hj e=>h ?_;simp only[Prod.mk.injEq]at e;have hi:i<N.dies:=by
  rcases Nat.lt_or_ge i N.dies with h | h
  ·exact h
  ·have:=Nat.mul_le_mul_right N.blocks h;omega
 omega
theorem b2H (p:Nat) (N:Nand) (hN:N.Ok) (x y:Int):FP 124 [pp p,iI x,iI y] [i5 p N] (λv As=>v=iI (N.next x y)/\As=[i5 p N]):=by
 have hbd:=hN.bd
 by_cases hr:0<=x/\x<N.dies/\0<=y/\y<N.blocks
 ·obtain⟨i,rfl⟩:=Int.eq_ofNat_of_zero_le hr.1;obtain⟨j,rfl⟩:=Int.eq_ofNat_of_zero_le hr.2.2.1;have hi:i<N.dies:=by omega
  have hj:j<N.blocks:=by omega
  have hv:((N.next i j:Nat):Int)=((N.blk i j).cells.length:Nat):=by rw[Nand.next,if_pos (by omega)];rfl
  refine FE [2,0,0] Tryz.func124 λX F hX=>?_;refine J.o (α:=NLoc) 1 λY=>?_;refine J.openAt 5 (i*N.blocks+j) rfl rfl (L4 _ _ _ _ _ (a3H hi hj)) rfl ?_;rw[(H3 hj).1,(H3 hj).2];refine J.o (α:=(Option Nat×Nat)) 6 λc=>?_;refine J.p (.of [0,4,8,12,16,20,25,28,32,38,41,44,48]) [] [1,2,3,4,6,7] λ_=>?_;refine J.qp (T9 i j) [] λ_=>?_;refine J.valT hX (pp (Y.bp (i*N.blocks+j))) 7 rfl rfl (λ_ a w he hC=>?_) rfl ?_
  ·refine(l8 (key:=((i:Int),(j:Int),0)) J9 X5 (z:= .pointer none) (λw=>by kernel_rfl) rfl rfl rfl rfl he rfl rfl (hC rfl _ (g7 (i:=2) rfl))).trans ?_;simp only[M7 hi hj];rfl
  refine J.qF λ_=>?_;refine J.p (.of [0,4,8,13,16,20,26,29,32,36,41,44,48]) [12] [1,2,3,4,6,7] λ_=>?_;refine J.qp (T9 i j) [] λ_=>?_;refine J.valT hX (pp (Y.bp (i*N.blocks+j))) 7 rfl rfl (λ_ a w he hC=>?_) rfl ?_
  ·refine(l8 (key:=((i:Int),(j:Int),0)) J9 X5 (z:= .pointer none) (λw=>by kernel_rfl) rfl rfl rfl rfl he rfl rfl (hC rfl _ (g7 (i:=2) rfl))).trans ?_;simp only[M7 hi hj];rfl
  refine J.q λ_=>?_;refine J.closeN p N (N) Y i j hj (N.blk i j) _ [1,2,3,4,5,6,7] rfl rfl rfl rfl (C2 _ _ _) rfl ?_;refine J.qr [1] λ_=>?_;exact⟨by rw[hv],rfl⟩
 ·refine FE [2,0,0] Tryz.func124 λX F hX=>?_;refine J.o (α:=NLoc) 1 λY=>?_;refine J.p (.of [0,4,8,12,16,20,25,28,32,38,41,44,48]) [] [1,2,3,4] λ_=>?_;refine J.qp (T9 x y) [] λ_=>?_;refine J.vT (.pointer none) rfl rfl (λ_ a w he hC=>?_) ?_
  ·refine(l8 (key:=(x,y,0)) J9 X5 (z:= .pointer none) (λw=>by kernel_rfl) rfl rfl rfl rfl he rfl rfl (hC rfl _ (g7 (i:=2) rfl))).trans ?_;simp only[a5H (show 0<N.blocks by omega) hr];rfl
  refine J.qT λ_=>?_;refine J.q λ_=>?_;refine J.cl (I4 p N) (Y) [1,2,3,4,5] ?_;refine J.qr [1] λ_=>?_;exact⟨by simp[Nand.next,hr],rfl⟩
theorem a8w (p:Nat) (N:Nand) (hN:N.Ok) (x y:Int):FP 121 [pp p,iI x,iI y] [i5 p N] (λv As=>v=iI (N.wornAt x y)/\As=[i5 p N]):=by
 have hbd:=hN.bd
 by_cases hr:0<=x/\x<N.dies/\0<=y/\y<N.blocks
 ·obtain⟨i,rfl⟩:=Int.eq_ofNat_of_zero_le hr.1;obtain⟨j,rfl⟩:=Int.eq_ofNat_of_zero_le hr.2.2.1;have hi:i<N.dies:=by omega
  have hj:j<N.blocks:=by omega
  have hv:N.wornAt i j=(N.blk i j).worn:=by rw[Nand.wornAt,if_pos (by omega)];rfl
  refine FE [2,0,0] Tryz.func121 λX F hX=>?_;refine J.o (α:=NLoc) 1 λY=>?_;refine J.openAt 5 (i*N.blocks+j) rfl rfl (L4 _ _ _ _ _ (a3H hi hj)) rfl ?_;rw[(H3 hj).1,(H3 hj).2];refine J.o (α:=(Option Nat×Nat)) 6 λc=>?_;refine J.p (.of [0,4,8,12,16,20,25,28,32,38,41,44,48]) [] [1,2,3,4,6,7] λ_=>?_;refine J.qp (T9 i j) [] λ_=>?_;refine J.valT hX (pp (Y.bp (i*N.blocks+j))) 7 rfl rfl (λ_ a w he hC=>?_) rfl ?_
  ·refine(l8 (key:=((i:Int),(j:Int),0)) J9 X5 (z:= .pointer none) (λw=>by kernel_rfl) rfl rfl rfl rfl he rfl rfl (hC rfl _ (g7 (i:=2) rfl))).trans ?_;simp only[M7 hi hj];rfl
  refine J.qF λ_=>?_;refine J.p (.of [0,4,8,13,16,20,26,29,32,36,41,44]) [11] [1,2,3,4,6,7] λ_=>?_;refine J.qp (T9 i j) [] λ_=>?_;refine J.valT hX (pp (Y.bp (i*N.blocks+j))) 7 rfl rfl (λ_ a w he hC=>?_) rfl ?_
  ·refine(l8 (key:=((i:Int),(j:Int),0)) J9 X5 (z:= .pointer none) (λw=>by kernel_rfl) rfl rfl rfl rfl he rfl rfl (hC rfl _ (g7 (i:=2) rfl))).trans ?_;simp only[M7 hi hj];rfl
  refine J.q λ_=>?_;refine J.closeN p N (N) Y i j hj (N.blk i j) _ [1,2,3,4,5,6,7] rfl rfl rfl rfl (C2 _ _ _) rfl ?_;refine J.qr [1] λ_=>?_;exact⟨by rw[hv],rfl⟩
 ·refine FE [2,0,0] Tryz.func121 λX F hX=>?_;refine J.o (α:=NLoc) 1 λY=>?_;refine J.p (.of [0,4,8,12,16,20,25,28,32,38,41,44,48]) [] [1,2,3,4] λ_=>?_;refine J.qp (T9 x y) [] λ_=>?_;refine J.vT (.pointer none) rfl rfl (λ_ a w he hC=>?_) ?_
  ·refine(l8 (key:=(x,y,0)) J9 X5 (z:= .pointer none) (λw=>by kernel_rfl) rfl rfl rfl rfl he rfl rfl (hC rfl _ (g7 (i:=2) rfl))).trans ?_;simp only[a5H (show 0<N.blocks by omega) hr];rfl
  refine J.qT λ_=>?_;refine J.q λ_=>?_;refine J.cl (I4 p N) (Y) [1,2,3,4,5] ?_;refine J.qr [1] λ_=>?_;exact⟨by simp[Nand.wornAt,hr],rfl⟩
theorem U0 (p:Nat) (N:Nand):FP 24 [pp p] [i5 p N] (λv As=>v= .agg #[iI N.dies,iI N.blocks,iI N.pages]/\As=[i5 p N]):=by
 refine FE [2] Tryz.func24 λX F hX=>?_;refine J.o (α:=NLoc) 1 λY=>?_;refine J.qF λ_=>?_;refine J.q λ_=>?_;refine J.cl (I4 p N) (Y) [1,2,3,4,5] ?_;exact J.qx [1]
theorem V6 (p:Nat) (N:Nand):FP 55 [pp p] [i5 p N] (λv As=>v= .bool (!N.off)/\As=[i5 p N]):=by
 refine FE [2] Tryz.func55 λX F hX=>?_;refine J.o (α:=NLoc) 1 λY=>?_;refine J.q λ_=>?_;refine J.cl (I4 p N) (Y) [1,2,3,4,5] ?_;refine J.qr [1] λ_=>?_;exact⟨by simp,rfl⟩
theorem a9u (p:Nat) (N:Nand):FP 14 [pp p] [i5 p N] (λv As=>v=iI N.ops/\As=[i5 p N]):=by
 refine FE [2] Tryz.func14 λX F hX=>?_;refine J.o (α:=NLoc) 1 λY=>?_;refine J.qF λ_=>?_;refine J.q λ_=>?_;refine J.cl (I4 p N) (Y) [1,2,3,4,5] ?_;exact J.qx [1]
theorem a7n (p:Nat) (N:Nand):FP 33 [pp p] [i5 p N] (λv As=>v=iI N.broken/\As=[i5 p N]):=by
 refine FE [2] Tryz.func33 λX F hX=>?_;refine J.o (α:=NLoc) 1 λY=>?_;refine J.qF λ_=>?_;refine J.q λ_=>?_;refine J.cl (I4 p N) (Y) [1,2,3,4,5] ?_;exact J.qx [1]
theorem b5a (p:Nat) (N:Nand):FP 40 [pp p] [i5 p N] (λv As=>v= .tuple #[]/\As=[i5 p N.onN]):=by
 refine FE [2] Tryz.func40 λX F hX=>?_;refine J.o (α:=NLoc) 1 λY=>?_;refine J.qT λ_=>?_;refine J.q λ_=>?_;refine J.cl (I4 p N.onN) (Y) [1,2,3,4,5] ?_;refine J.q λ_=>?_;refine J.f [1] ?_;exact⟨rfl,rfl⟩
theorem a9w (p:Nat) (N:Nand) (x k:Int):FP 39 [pp p,iI x,iI k] [i5 p N] (λv As=>v= .tuple #[]/\As=[i5 p (N.setCut x k)]):=by
 refine FE [2,0,0] Tryz.func39 λX F hX=>?_;refine J.o (α:=NLoc) 1 λY=>?_;refine J.qd (λ_ h=>?_) λ_ h=>?_
 ·refine J.q λ_=>?_;refine J.cl (I4 p N) (Y) [1,2,3,4,5] ?_;refine J.qr [1] λ_=>?_;simp only[Bool.false_or]at h;exact⟨rfl,by simp[Nand.setCut,h,s6];rfl⟩
 ·simp only[Bool.false_or]at h;have hs:N.setCut x k={N with cuts:=decide (x>=0),left:=x,keep:=if 32<(if 0>k then 0 else k)then 32 else(if 0>k then 0 else k),off:=decide (x<0)}:=by
   simp only[Nand.setCut,h];have:min (max k 0) 32=if 32<(if 0>k then 0 else k)then 32 else(if 0>k then 0 else k):=by(repeat' split)<;>omega
   rw[this];rfl
  refine J.q λ_=>?_;refine J.cl (I4 p {N with cuts:=decide (x>=0),left:=x,keep:=if 32<(if 0>k then 0 else k)then 32 else(if 0>k then 0 else k),off:=decide (x<0)}) (Y) [1,2,3,4,5] ?_;refine J.q λ_=>?_;refine J.f [1] ?_;exact⟨rfl,by rw[hs];rfl⟩
theorem b6b (p:Nat) (N:Nand) (Y:NLoc) (hN:N.Ok) (hR:N.Room):FP 222 [pp p] [.pt p 94 (N.mainV Y)] (λv As=>v= .bool N.cutB/\As=[.pt p 94 (N.cutN.mainV Y)]):=by
 have h1:=hN.num.1;have h2:=hR.ops;have h3:=hN.lft;have h4:=hN.lf2;refine FE [2] Tryz.func222 λX F hX=>?_;refine J.qd (λ_ h=>?_) λ_ h=>?_
 ·simp only[Bool.not_eq_true']at h;have hs:N.cutN={N with ops:=N.ops+1}:=by simp[Nand.cutN,Nand.cutB,h]
  refine J.qr [1] λ_=>?_;exact⟨by simp[Nand.cutB,h],by rw[hs];rfl⟩
 simp only[Bool.not_eq_false']at h;have h3:=h3 h;refine J.qd (λ_ h5=>?_) λ_ h5=>?_
 ·simp only[decide_eq_true_eq]at h5;have hs:N.cutN={N with ops:=N.ops+1,left:=N.left-1}:=by
   have hcb:N.cutB=false:=by simp[Nand.cutB,h];omega
   simp[Nand.cutN,hcb,h]
  refine J.qr [1] λ_=>?_;exact⟨by congr 1;simp[Nand.cutB,h];omega,by rw[hs];rfl⟩
 simp only[decide_eq_false_iff_not]at h5;have hcb:N.cutB=true:=by simp[Nand.cutB,h];omega
 have hs:N.cutN={N with ops:=N.ops+1,left:=N.left-1,cuts:=false,off:=true}:=by
  simp[Nand.cutN,hcb,h]
 refine J.qr [1] λ_=>?_;exact⟨by rw[hcb],by rw[hs];rfl⟩
theorem a3C (p:Nat) (N:Nand) (hN:N.Ok) (x:Int):FP 63 [pp p,iI x] [i5 p N] (λv As=>v= .bool (N.deadAt x)/\As=[i5 p N]):=by
 have hd:=hN.dead;refine FE [2,0] Tryz.func63 λX F hX=>?_;refine J.o (α:=NLoc) 1 λY=>?_;refine J.q λ_=>?_;refine J.v (.bool (N.dead.getD x.toNat false)) rfl rfl (λhg a w he hs=>?_) ?_
 ·simp only[G.on,Bool.and_eq_true,decide_eq_true_eq]at hg;refine i4 tk rfl rfl he (by simp[G.on,hg]) rfl rfl (hs.get (i:=4) rfl) ?_;have:x.toNat<N.dead.length:=by omega
  simp[this]
 refine J.q λ_=>?_;refine J.cl (I4 p N) (Y) [1,2,3,4,5] ?_;refine J.qr [1] λ_=>?_;refine⟨?_,rfl⟩;congr 1
theorem a3B (p:Nat) (N:Nand) (hN:N.Ok) (x y z:Int):FP 207 [pp p, .agg #[iI x,iI y,iI z]] [i5 p N] (λv As=>v= .tuple #[.agg (y8 (N.readV x y z)).toArray,iI (N.readE x y z)]/\As=[i5 p N]):=by
 have hbd:=hN.bd;refine FE [2,0] Tryz.func207 λX F hX=>?_;refine J.qp (a1C p N hN x y z) [1] λ_=>?_;refine J.qd (λ_ h=>?_) λ_ h=>?_
 ·simp only[bne_iff_ne,ne_eq]at h;refine J.qr [1] λ_=>?_;exact⟨by simp only[Nand.readV,Nand.readE,ne_eq,h,not_false_eq_true,if_pos];rfl,rfl⟩
 simp only[bne_eq_false_iff_eq]at h;obtain⟨hoff,hdd,hr⟩:=Nand.refuses_zero h;obtain⟨i,rfl⟩:=Int.eq_ofNat_of_zero_le hr.1;obtain⟨j,rfl⟩:=Int.eq_ofNat_of_zero_le hr.2.2.1;obtain⟨k,rfl⟩:=Int.eq_ofNat_of_zero_le hr.2.2.2.2.1;have hi:i<N.dies:=by omega
 have hj:j<N.blocks:=by omega
 refine J.o (α:=NLoc) 1 λY=>?_;refine J.openAt 7 (i*N.blocks+j) rfl rfl (L4 _ _ _ _ _ (a3H hi hj)) rfl ?_;rw[(H3 hj).1,(H3 hj).2];refine J.o (α:=(Option Nat×Nat)) 8 λc=>?_;refine J.p (.of [0,4,8,13,16,21,24,29,34,37,40]) [10] [1,2,3,4,5,6,7,8,9] λ_=>?_;refine J.qp (T9 i j) [] λ_=>?_;refine J.valT hX (pp (Y.bp (i*N.blocks+j))) 9 rfl rfl (λ_ a w he hC=>?_) rfl ?_
 ·refine(l8 (key:=((i:Int),(j:Int),0)) J9 X5 (z:= .pointer none) (λw=>by kernel_rfl) rfl rfl rfl rfl he rfl rfl (hC rfl _ (g7 (i:=4) rfl))).trans ?_;simp only[M7 hi hj];rfl
 refine J.p (.of [0,5,8,12,16,21,24,28,32]) [] [1,2,3,4,5,6,7,8,9] λ_=>?_;refine J.qd (λ_ h5=>?_) λ_ h5=>?_
 ·simp only[ge_iff_le,decide_eq_true_eq,Int.ofNat_le]at h5;have hp:N.pageAt i j k=none:=by simp[Nand.pageAt,h5]
  refine J.q λ_=>?_;refine J.closeN p N (N) Y i j hj (N.blk i j) _ [1,4,5,6,7,8,9] rfl rfl rfl rfl (C2 _ _ _) rfl ?_;refine J.qr [1] λ_=>?_;exact⟨by simp only[Nand.readV,Nand.readE,h,hp,ne_eq,not_true_eq_false,if_false];rfl,rfl⟩
 simp only[ge_iff_le,decide_eq_false_iff_not,Int.ofNat_le,Nat.not_le]at h5;obtain⟨cl,hcl⟩:∃cl,(N.blk i j).cells[k]? =some cl:=⟨_,List.getElem?_eq_getElem h5⟩;have hp:N.pageAt i j k=some cl:=by simp only[Nand.pageAt,Int.toNat_natCast];exact hcl
 refine J.know (λh' s=>i7 (by omega) (s.get (i:=9) rfl)) λhg=>?_;obtain⟨g,hg⟩:=hg;obtain⟨c1,c2⟩:=c;simp only at hg;subst hg;refine J.pq (.of [0,4,8,13,16,21,24,28,33,36]) [] [1,2,3,4,5,6,7,8,9] λ_ _=>?_;refine J.vT (.bool cl.lost) rfl rfl (λ_ a w he hC=>?_) ?_
 ·exact j9 tk rfl rfl he rfl rfl rfl (hC rfl _ (g7 (i:=9) rfl)) (by rw[show 0+((k:Int)).toNat*34+32=k*34+32 from by simp];exact a2q hcl (by omega))
 refine J.qd (λ_ h6=>?_) λ_ h6=>?_
 ·refine J.q λ_=>?_;refine J.closeN p N (N) Y i j hj (N.blk i j) _ [1,4,5,6,7,8,9] rfl rfl rfl rfl (C2 _ _ _) rfl ?_;refine J.qr [1] λ_=>?_;exact⟨by simp only[Nand.readV,Nand.readE,h,hp,h6,ne_eq,not_true_eq_false,if_false,if_true];rfl,rfl⟩
 refine J.pq (.of [0,4,8,13,16,21,24,28,33,39,40]) [9,10] [1,2,4,5,6,7,8,9] λ_ _=>?_;refine J.vT (.agg (y8 cl.p).toArray) rfl rfl (λ_ a w he hC=>?_) ?_
 ·exact o0 tk rfl rfl he rfl rfl rfl (hC rfl _ (g7 (i:=9) rfl)) (by rw[show 0+((k:Int)).toNat*34+0=k*34 from by simp];exact a7T hcl) rfl
 refine J.q λ_=>?_;refine J.closeN p N (N) Y i j hj (N.blk i j) _ [1,4,5,6,7,8,9] rfl rfl rfl rfl (C2 _ _ _) rfl ?_;refine J.qr [1] λ_=>?_;exact⟨by simp only[Nand.readV,Nand.readE,h,hp,h6,ne_eq,not_true_eq_false,if_false,Bool.false_eq_true];rfl,rfl⟩
def a0f (a b:Nat) (p:List UInt8):List UInt8:=p.take a++List.replicate (b-a) 255++p.drop b
theorem a5v (a b:Nat) (p:List UInt8) (h1:a<=b) (h2:b<=p.length):(a0f a b p).length=p.length:=by simp[a0f];omega
theorem a8J (a:Nat) (p:List UInt8):a0f a a p=p:=by simp[a0f]
theorem b1f (a b:Nat) (p:List UInt8) (h1:a<=b) (h2:b<p.length):(a0f a b p).set b 255=a0f a (b+1) p:=by
 apply List.ext_getElem?;intro j;have hl:=a5v a b p h1 (by omega);rw[List.getElem?_set,hl];simp only[a0f,List.append_assoc,List.getElem?_append,List.length_take,List.length_replicate,List.getElem?_take,List.getElem?_replicate,List.getElem?_drop]
 by_cases e:b=j
 ·subst e;rw[if_pos rfl,if_pos h2,if_neg (by omega),if_pos (by omega),if_pos (by omega)]
 ·rw[if_neg e]
  by_cases h3:j<min a p.length
  ·rw[if_pos h3,if_pos h3]
  ·rw[if_neg h3,if_neg h3]
   by_cases h4:j<b
   ·rw[if_pos (by omega),if_pos (by omega),if_pos (by omega),if_pos (by omega)]
   ·rw[if_neg (by omega),if_neg (by omega)];congr 1;omega
theorem b0u (p:List UInt8) (h:p.length=32) (k:Nat) (v:UInt8):(y8 p).set k (bv v)=y8 (p.set k v):=by
 rw[B6 p h,B6 _ (by simpa using h),List.map_set]
theorem a7S (l:List NCell) (c:NCell):s8 (l++[c])=s8 l++c.vals:=by simp[s8]
theorem b1g (K:Nat) (p:List UInt8) (h:K<=32) (hp:p.length=32):a0f K 32 p=Nand.fillP K p:=by
 simp only[a0f,Nand.fillP];rw[List.drop_of_length_le (by omega),List.append_nil]
theorem a5P (l:List NCell) (c:NCell):l.length+1=(l++[c]).length:=by simp
theorem b2a {L L2:List Atom} {k e n cap:Nat} {ao:Option Nat} {l:List NCell} {cs:List Value} (c:NCell) (h:cs=c.vals) (hL:A8 L k (c9 e 34 ao n cap (s8 (l++[c])))=some L2):A8 L k (c9 e 34 ao n cap (s8 l++cs))=some L2:=by
 rw[h,<- a7S];exact hL
theorem b0s {N:Nand} {x y z:Int} {pg:List UInt8} (h:N.refuses x y z=0) (h5:z=(N.blk x.toNat y.toNat).cells.length) (h6:N.cutB=true):N.progN x y z pg=N.cutN.push x.toNat y.toNat ⟨Nand.fillP N.keep.toNat pg,false,true⟩:=by
 unfold Nand.progN;rw[if_neg (by simp[h]),if_neg (by simp[h5]),if_pos h6]
theorem a3n {N:Nand} {x y z:Int} {pg:List UInt8} (h:N.refuses x y z=0) (h5:z=(N.blk x.toNat y.toNat).cells.length) (h6:N.cutB=false):N.progN x y z pg=Nand.push {N.cutN with plan:=N.plan.erase (x,y,z)} x.toNat y.toNat ⟨pg,N.fails x y z,false⟩:=by
 unfold Nand.progN;rw[if_neg (by simp[h]),if_neg (by simp[h5]),if_neg (by simp[h6])]
theorem b0t {N:Nand} {x y z:Int} (h:N.refuses x y z=0) (h5:z=(N.blk x.toNat y.toNat).cells.length) (h6:N.cutB=true):N.progE x y z=9:=by
 unfold Nand.progE;rw[if_neg (by simp[h]),if_neg (by simp[h5]),if_pos h6]
theorem a3o {N:Nand} {x y z:Int} (h:N.refuses x y z=0) (h5:z=(N.blk x.toNat y.toNat).cells.length) (h6:N.cutB=false):N.progE x y z=if N.fails x y z then 7 else 0:=by
 unfold Nand.progE;rw[if_neg (by simp[h]),if_neg (by simp[h5]),if_neg (by simp[h6])]
theorem a0n (p:Nat) (N:Nand) (hN:N.Ok) (hR:N.Room) (x y z:Int) (pg:List UInt8) (hpl:pg.length=32):
  FP 205 [pp p, .agg #[iI x,iI y,iI z], .agg (y8 pg).toArray] [i5 p N] (Ps (iI (N.progE x y z)) [i5 p (N.progN x y z pg)]):=by
 have hbd:=hN.bd;have hnum:=hN.num;have hr1:=hR.broken;refine FE [2,0,0] Tryz.func205 λX F hX=>?_;refine J.q λbs=>?_;refine J.cb (a1C p N hN x y z) [1] ?_;refine cpq ⟨_,rfl,trivial,?_⟩;refine J.qd (λ_ h=>?_) λ_ h=>?_
 ·simp only[bne_iff_ne,ne_eq]at h;refine J.qr [1] λ_=>?_;exact⟨by simp only[Nand.progE,ne_eq,h,not_false_eq_true,if_pos],by simp only[Nand.progN,ne_eq,h,not_false_eq_true,if_pos];rfl⟩
 simp only[bne_eq_false_iff_eq]at h;obtain⟨hoff,hdd,hr⟩:=Nand.refuses_zero h;obtain⟨i,rfl⟩:=Int.eq_ofNat_of_zero_le hr.1;obtain⟨j,rfl⟩:=Int.eq_ofNat_of_zero_le hr.2.2.1;obtain⟨k,rfl⟩:=Int.eq_ofNat_of_zero_le hr.2.2.2.2.1;have hi:i<N.dies:=by omega
 have hj:j<N.blocks:=by omega
 have hlen:=(hN.cells i j hi hj).1;refine J.o (α:=NLoc) 1 λY=>?_;refine J.openAt 7 (i*N.blocks+j) rfl rfl (L4 _ _ _ _ _ (a3H hi hj)) rfl ?_;rw[(H3 hj).1,(H3 hj).2];refine J.o (α:=(Option Nat×Nat)) 8 λc=>?_;refine J.p (.of [0,4,8,13,16,21,24,29,34,37,40]) [10] [1,2,3,4,5,6,7,8,9] λ_=>?_;refine J.qp (T9 i j) [] λ_=>?_;refine J.valT hX (pp (Y.bp (i*N.blocks+j))) 9 rfl rfl (λ_ a w he hC=>?_) rfl ?_
 ·refine(l8 (key:=((i:Int),(j:Int),0)) J9 X5 (z:= .pointer none) (λw=>by kernel_rfl) rfl rfl rfl rfl he rfl rfl (hC rfl _ (g7 (i:=4) rfl))).trans ?_;simp only[M7 hi hj];rfl
 refine J.p (.of [0,5,8,12,16,21,24,28]) [] [1,2,3,4,5,6,7,8,9] λ_=>?_;refine J.qd (λ_ h5=>?_) λ_ h5=>?_
 ·simp only[bne_iff_ne,ne_eq]at h5;refine J.q λ_=>?_;refine J.closeN p N ({N with broken:=N.broken+1}) Y i j hj (N.blk i j) _ [1,4,5,6,7,8,9] rfl rfl rfl rfl (C2 _ _ _) rfl ?_;refine J.qr [1] λ_=>?_;exact⟨by simp[Nand.progE,h,h5],by simp[Nand.progN,h,h5];rfl⟩
 simp only[bne_eq_false_iff_eq,Int.natCast_inj]at h5;refine J.qp (b6b p N Y hN hR) [1] λ_=>?_;refine J.qd (λ_ h6=>?_) λ_ h6=>?_
 ·have hkp:=hN.kp;obtain⟨K,hK⟩:∃K:Nat,N.keep=K:=⟨N.keep.toNat,by omega⟩;have hK2:N.cutN.keep=K:=hK;refine J.q λ_=>?_;rw[hK2];refine J.q λ_=>?_;refine J.lo (α:=Nat) (λm=>K<=m/\m<=32) (λm=>[si 9 m,⟨5,pp (bs (0+1)),4, .tt⟩,⟨8,pp (Y.bp (i*N.blocks+j)),9, .tt⟩]) [3] (λm=>[.pt (bs (0+1)) 176 (y8 (a0f K m pg))]) (λm=>32-m) (K) (⟨Nat.le_refl _,by omega⟩) rfl ?_ (λ_=>rfl) λm hI=>?_
  ·rw[a8J];rfl
  refine J.qd (λ_ h7=>?_) λ_ h7=>?_
  ·simp only[decide_eq_true_eq]at h7;refine J.q λ_=>?_;refine J.s1 3 (y8 (a0f K (m+1) pg)) ?_ ?_ ?_
   ·show 0+(m:Int).toNat*1<32;omega
   ·rw[show 0+(m:Int).toNat*1=m from by omega,<- b1f _ _ _ hI.1 (by omega)];exact b0u _ (by rw[a5v _ _ _ hI.1 (by omega)];exact hpl) m 255
   refine J.q λ_=>?_;refine J.nx (m+1) (⟨by omega,by omega⟩) (by omega) (λ_ s=>s)
  simp only[decide_eq_false_iff_not]at h7;obtain rfl:m=32:=by omega
  refine J.pq (.of [0,4,8,12,17,21,24,30,34,36,40,47]) [9,10,11] [1,2,3,4,5,6,7,8] λ_ _=>?_;rw[b1g _ _ hI.1 hpl];refine J.append hX tk 9 10 0 rfl rfl rfl rfl rfl rfl rfl rfl rfl rfl rfl rfl rfl rfl rfl rfl ?_ ?_ (λ_=>rfl) λa' cap'=>⟨_,b2a ⟨Nand.fillP K pg,false,true⟩ rfl rfl,⟨rfl,rfl,rfl,rfl,rfl,rfl,rfl,rfl,trivial⟩,?_⟩
  ·simp only[maxLen];omega
  ·omega
  refine J.q λ_=>?_;rw[a5P _ ⟨Nand.fillP K pg,false,true⟩];refine J.q λ_=>?_;refine J.closeN p N (N.cutN.push i j ⟨Nand.fillP K pg,false,true⟩) Y i j hj ({N.blk i j with cells:=(N.blk i j).cells++[⟨Nand.fillP K pg,false,true⟩]}) (a',cap') [1,4,5,6,7,8,9] rfl rfl rfl rfl (rfl) rfl ?_;refine J.qr [1] λ_=>?_;subst h5;exact⟨(b0t h rfl h6).symm▸rfl,by rw[b0s h rfl h6,hK];rfl⟩
 ·refine J.p (.of [0,4,8,13,17,22,24,28,32,36,40]) [10] [1,2,3,4,6,7,8,9] λ_=>?_;refine J.qp (b5X Y.q N.plan i j k) [5] λ_=>?_;refine J.p (.of [0,4,8,13,17,22]) [] [1,2,3,4,6,7,8,9] λ_=>?_;refine J.qp (b2e Y.q N.plan i j k) [5] λ_=>?_;refine J.pq (.of [0,4,8,12,17,21,24,28,34,38,40,44,51]) [10,11,12] [1,2,3,4,5,6,7,8] λ_ _=>?_;refine J.append hX tk 9 10 0 rfl rfl rfl rfl rfl rfl rfl rfl rfl rfl rfl rfl rfl rfl rfl rfl ?_ ?_ (λ_=>rfl) λa' cap'=>⟨_,b2a ⟨pg,decide (((i:Int),(j:Int),(k:Int))∈N.plan)||(N.blk i j).met,false⟩ rfl rfl,⟨rfl,rfl,rfl,rfl,rfl,rfl,rfl,rfl,trivial⟩,?_⟩
  ·simp only[maxLen];omega
  ·omega
  refine J.q λ_=>?_;rw[a5P _ ⟨pg,N.fails i j k,false⟩];refine J.q λ_=>?_;refine J.closeN p N (Nand.push {N.cutN with plan:=N.plan.erase ((i:Int),(j:Int),(k:Int))} i j ⟨pg,N.fails i j k,false⟩) Y i j hj ({N.blk i j with cells:=(N.blk i j).cells++[⟨pg,N.fails i j k,false⟩]}) (a',cap') [1,4,5,6,7,8,9] rfl rfl rfl rfl (rfl) rfl ?_;refine J.qd (λ_ h9=>?_) λ_ h9=>?_
  ·refine J.qr [1] λ_=>?_;subst h5;exact⟨by rw[a3o h rfl h6];exact congrArg (Value.int IntKind.i64) (if_pos h9).symm,by rw[a3n h rfl h6];rfl⟩
  ·refine J.qr [1] λ_=>?_;subst h5;exact⟨by rw[a3o h rfl h6];exact congrArg (Value.int IntKind.i64) (if_neg (by rw[show N.fails i j (N.blk i j).cells.length=false from h9];simp)).symm,by rw[a3n h rfl h6];rfl⟩
theorem Q7:∀(l:List NCell) (k i:Nat) (v:Value) (f:NCell->NCell) (c:NCell),l[k]? =some c->i<34->c.vals.set i v=(f c).vals->(s8 l).set (k*34+i) v=s8 (l.modify k f)
 | [],k,i,v,f,c,h,_,_=>by simp at h
 | x::l,0,i,v,f,c,h,hi,hv=>by
  simp at h;subst h;simp only[s8,List.flatMap_cons,List.modify_cons,Nat.zero_mul,Nat.zero_add,if_true];rw[List.set_append_left _ _ (by simpa[NCell.vals]using hi),hv]
 | x::l,k+1,i,v,f,c,h,hi,hv=>by
  have:=Q7 l k i v f c (by simpa using h) hi hv;simp only[s8,List.flatMap_cons,List.modify_cons]at this ⊢;rw[List.set_append_right _ _ (by simp[NCell.vals];omega),show(k+1)*34+i-x.vals.length=k*34+i from by simp[NCell.vals];omega,this];simp
theorem b5A {N:Nand} {x y z n xx:Int} (h:C0 N.dies N.blocks N.pages x y z=true):N.fault 1 x y z n xx=(true,{N with plan:=b1u N.plan (x,y,z)}):=by
 unfold Nand.fault;rw[if_neg (by simp[h]),if_pos rfl];rfl
theorem b5z {N:Nand} {x y z n xx:Int} (h:C0 N.dies N.blocks N.pages x y z=true):N.fault 2 x y z n xx=(true,N.setBlk x.toNat y.toNat {N.blk x.toNat y.toNat with fails:=true}):=by
 unfold Nand.fault;rw[if_neg (by simp[h]),if_neg (by decide),if_pos rfl]
theorem a9K {N:Nand} {x y z n xx:Int} (h:C0 N.dies N.blocks N.pages x y z=true):N.fault 3 x y z n xx=(true,N.setCell x y z λc=>{c with lost:=true}):=by
 unfold Nand.fault;rw[if_neg (by simp[h]),if_neg (by decide),if_neg (by decide),if_pos rfl]
theorem b5y {N:Nand} {x y z n xx:Int} (h:C0 N.dies N.blocks N.pages x y z=true):N.fault 4 x y z n xx=(true,{N with dead:=N.dead.set x.toNat true}):=by
 unfold Nand.fault;rw[if_neg (by simp[h]),if_neg (by decide),if_neg (by decide),if_neg (by decide),if_pos rfl]
theorem b3G {N:Nand} {k x y z n xx:Int} (h1:k≠1) (h2:k≠2) (h3:k≠3) (h4:k≠4) (h5:k≠5):N.fault k x y z n xx=(false,N):=by
 unfold Nand.fault;split<;>simp_all
theorem a7o {l:List NCell} {k:Nat} {f:NCell->NCell} (h:l.length<=k):l.modify k f=l:=by
 apply List.ext_getElem?;intro j;rw[List.getElem?_modify]
 by_cases e:k=j
 ·subst e;rw[List.getElem?_eq_none h];rfl
 ·simp[e]
theorem a2O {N:Nand} {x y z n xx:Int} (h:C0 N.dies N.blocks N.pages x y z=true):N.fault 5 x y z n xx=if n<0\/32<=n then(false,N)else
  match N.pageAt x y z with
  | none=>(true,N)
  | some c=>if c.turned then(false,N)else if c.lost then(true,N)else
   (true,N.setCell x y z λc=>{c with p:=Nand.xorAt c.p n.toNat (UInt8.ofNat (xx % 256).toNat),turned:=true}):=by
 unfold Nand.fault;rw[if_neg (by simp[h]),if_neg (by decide),if_neg (by decide),if_neg (by decide),if_neg (by decide),if_pos rfl]
 try rfl
theorem a2m {N:Nand} {x y z n xx:Int} (h:C0 N.dies N.blocks N.pages x y z=true) (h2:N.pageAt x y z=none) {b:Bool} (hb:(decide (n<0)||decide (n>=32))=b):N.fault 5 x y z n xx=(!b,N):=by
 subst hb;rw[a2O h,h2]
 by_cases h3:n<0\/32<=n
 ·rw[if_pos h3];simp;omega
 ·rw[if_neg h3];simp;omega
theorem a4A {N:Nand} {x y z n xx:Int} {c:NCell} (h:C0 N.dies N.blocks N.pages x y z=true) (h2:N.pageAt x y z=some c) (hb:(decide (n<0)||decide (n>=32)||(true&&c.turned))=true):N.fault 5 x y z n xx=(false,N):=by
 rw[a2O h,h2]
 by_cases h3:n<0\/32<=n
 ·rw[if_pos h3]
 ·rw[if_neg h3];simp only[Bool.or_eq_true,decide_eq_true_eq,Bool.true_and]at hb;rcases hb with hb | hb
  ·omega
  ·simp only;rw[if_pos hb]
theorem a5K {c:NCell} (h:c.p.length=32):c.vals=c.p.map bv++[.bool c.lost, .bool c.turned]:=by
 rw[<- B6 c.p h];rfl
theorem b1H {c:NCell} (h:c.p.length=32) {e:Nat} (he:e<32):c.vals[e]? =some (bv (c.p.getD e 0)):=by
 rw[a5K h,List.getElem?_append_left (by simpa[h]using he)];simp[h,he]
theorem b1x (b:UInt8) (xx:Int):IntKind.u8.wrap ((BitVec.ofInt IntKind.u8.bits (b.toNat:Int) ^^^ BitVec.ofInt IntKind.u8.bits (IntKind.u8.wrap xx)).toNat:Int)=((b ^^^ UInt8.ofNat (xx % 256).toNat).toNat:Int):=by
 have h0:IntKind.u8.wrap xx=xx % 256:=by simp[IntKind.wrap,IntKind.bits,IntKind.signed]
 obtain⟨m,hm⟩:∃m:Nat,xx % 256=m:=⟨(xx % 256).toNat,by omega⟩;have hm2:m<256:=by omega
 rw[h0,hm];simp only[Int.toNat_natCast];have e1:(BitVec.ofInt IntKind.u8.bits (b.toNat:Int) ^^^ BitVec.ofInt IntKind.u8.bits (m:Int)).toNat=b.toNat ^^^ m:=by
  rw[BitVec.toNat_xor];have:=b.toNat_lt;show(BitVec.ofInt 8 (b.toNat:Int)).toNat ^^^ (BitVec.ofInt 8 (m:Int)).toNat=_;rw[BitVec.ofInt_natCast,BitVec.ofInt_natCast,BitVec.toNat_ofNat,BitVec.toNat_ofNat,Nat.mod_eq_of_lt this,Nat.mod_eq_of_lt hm2]
 have e2:(b ^^^ UInt8.ofNat m).toNat=b.toNat ^^^ m:=by
  rw[UInt8.toNat_xor,UInt8.toNat_ofNat',Nat.mod_eq_of_lt hm2]
 rw[e1,e2];have hx:b.toNat ^^^ m<256:=Nat.xor_lt_two_pow (n:=8) b.toNat_lt hm2;have:IntKind.u8.wrap ((b.toNat ^^^ m:Nat):Int)=((b.toNat ^^^ m:Nat):Int) % 256:=by simp[IntKind.wrap,IntKind.bits,IntKind.signed]
 rw[this];omega
theorem a0o (p:Nat) (N:Nand) (hN:N.Ok) (at_ kind x y z n xx:Int):FP 72 [pp p, .agg #[iI at_,iI kind,iI x,iI y,iI z,iI n,iI xx]] [i5 p N]
  (λv As=>v= .bool (N.fault kind x y z n xx).1/\As=[i5 p (N.fault kind x y z n xx).2]):=by
 have hbd:=hN.bd;refine FE [2,0] Tryz.func72 λX F hX=>?_;refine J.o (α:=NLoc) 1 λY=>?_;refine J.pq (.of [0,4,8,12,16,20,25,28,33,38,40,44]) [] [1,2,3,4,5,6] λ_ _=>?_;refine J.ca hX (by kernel_rfl) (a7L _ _ _ x y z (by omega) (by omega) (by omega)) [] 0 rfl rfl rfl rfl rfl rfl (λ_=>rfl) ?_;refine cpq ⟨_,rfl,⟨rfl,rfl,rfl,rfl,rfl,rfl,trivial⟩,?_⟩;refine J.qd (λ_ h=>?_) λ_ h=>?_
 ·simp only[Bool.false_or,Bool.not_eq_true']at h;refine J.q λ_=>?_;refine J.cl (I4 p N) (Y) [1,2,3,4,5] ?_;refine J.qr [1] λ_=>?_;exact⟨by simp[Nand.fault,h],by simp[Nand.fault,h];rfl⟩
 simp only[Bool.false_or,Bool.not_eq_false']at h;have hr:0<=x/\x<N.dies/\0<=y/\y<N.blocks/\0<=z/\z<N.pages:=by simp[C0]at h;omega
 obtain⟨i,rfl⟩:=Int.eq_ofNat_of_zero_le hr.1;obtain⟨j,rfl⟩:=Int.eq_ofNat_of_zero_le hr.2.2.1;obtain⟨k,rfl⟩:=Int.eq_ofNat_of_zero_le hr.2.2.2.2.1;have hi:i<N.dies:=by omega
 have hj:j<N.blocks:=by omega
 have hlen:=(hN.cells i j hi hj).1;refine J.openAt 5 (i*N.blocks+j) rfl rfl (L4 _ _ _ _ _ (a3H hi hj)) rfl ?_;rw[(H3 hj).1,(H3 hj).2];refine J.o (α:=(Option Nat×Nat)) 7 λc=>?_;refine J.p (.of [0,4,8,13,16,20,25,28,32,37,42,45,48]) [12] [1,2,3,4,5,6,7,8] λ_=>?_;refine J.qp (T9 i j) [] λ_=>?_;refine J.valT hX (pp (Y.bp (i*N.blocks+j))) 8 rfl rfl (λ_ a w he hC=>?_) rfl ?_
 ·refine(l8 (key:=((i:Int),(j:Int),0)) J9 X5 (z:= .pointer none) (λw=>by kernel_rfl) rfl rfl rfl rfl he rfl rfl (hC rfl _ (g7 (i:=2) rfl))).trans ?_;simp only[M7 hi hj];rfl
 refine J.p (.of [0,4,9,12,16,20,25,28,32,36]) [9] [1,2,3,4,5,6,7,8] λ_=>?_;refine J.qd (λ_ h1=>?_) λ_ h1=>?_
 ·simp only[beq_iff_eq]at h1;subst h1;refine J.p (.of [0,4,8,13,16,21,26]) [] [1,2,4,5,6,7,8] λ_=>?_;refine J.qp (b7z Y.q N.plan i j k) [3] λ_=>?_;refine J.q λ_=>?_;refine J.closeN p N ({N with plan:=b1u N.plan ((i:Int),(j:Int),(k:Int))}) Y i j hj (N.blk i j) _ [1,2,3,4,5,7,8] rfl rfl rfl rfl (C2 _ _ _) rfl ?_;refine J.qr [1] λ_=>?_;rw[b5A h];exact⟨rfl,rfl⟩
 simp only[beq_eq_false_iff_ne,ne_eq]at h1;refine J.qd (λ_ h2=>?_) λ_ h2=>?_
 ·simp only[beq_iff_eq]at h2;subst h2;refine J.q λ_=>?_;refine J.closeN p N (N.setBlk i j {N.blk i j with fails:=true}) Y i j hj ({N.blk i j with fails:=true}) _ [1,2,3,4,5,7,8] rfl rfl rfl rfl (rfl) rfl ?_;refine J.qr [1] λ_=>?_;rw[b5z h];exact⟨rfl,rfl⟩
 simp only[beq_eq_false_iff_ne,ne_eq]at h2;refine J.qd (λ_ h3=>?_) λ_ h3=>?_
 ·simp only[beq_iff_eq]at h3;subst h3;refine J.qd (λ_ h5=>?_) λ_ h5=>?_
  ·simp only[decide_eq_true_eq,Int.ofNat_lt]at h5;refine J.know (λh' s=>i7 (by omega) (s.get (i:=8) rfl)) λhg=>?_;obtain⟨g,hg⟩:=hg;obtain⟨c1,c2⟩:=c;simp only at hg;subst hg;refine J.openOwn 8 rfl rfl (λ_=>rfl) λr q1 q2 q3 q4=>?_;obtain⟨cl,hcl⟩:∃cl,(N.blk i j).cells[k]? =some cl:=⟨_,List.getElem?_eq_getElem h5⟩;refine J.pq (.of [0,4,8,13,16,20,25,28,32,39]) [7,8,9] [1,2,3,4,5,6,7] λ_ _=>?_;refine J.s1 8 (s8 ((N.blk i j).cells.modify k λc=>{c with lost:=true})++r) ?_ ?_ ?_
   ·rw[List.length_append,l9];show 0+(k:Int).toNat*34+32<_;simp only[Int.toNat_natCast];omega
   ·rw[show 0+(k:Int).toNat*34+32=k*34+32 from by simp,List.set_append_left _ _ (by rw[l9];omega)];rw[Q7 _ k 32 _ (λc=>{c with lost:=true}) cl hcl (by omega) rfl]
   refine J.closeOwn (e:=178) (size:=34) (n:=(N.blk i j).cells.length) (cap:=c2) (xs:=s8 ((N.blk i j).cells.modify k λc=>{c with lost:=true})) 8 rfl rfl (by rw[l9,List.length_modify]) q2 q3 (by rw[List.length_append,l9,List.length_modify];rw[l9]at q4;exact q4) (by rw[List.take_left' (by rw[l9,List.length_modify])]) rfl ?_;rw[show(N.blk i j).cells.length=((N.blk i j).cells.modify k λc=>{c with lost:=true}).length from by rw[List.length_modify]];refine J.q λ_=>?_;refine J.closeN p N (N.setCell i j k λc=>{c with lost:=true}) Y i j hj ({N.blk i j with cells:=(N.blk i j).cells.modify k λc=>{c with lost:=true}}) (some g,c2) [1,2,3,4,5,7,8] rfl rfl rfl rfl (rfl) rfl ?_;refine J.qr [1] λ_=>?_;rw[a9K h];exact⟨rfl,rfl⟩
  ·simp only[decide_eq_false_iff_not,Int.ofNat_lt,Nat.not_lt]at h5;refine J.q λ_=>?_;refine J.closeN p N (N.setCell i j k λc=>{c with lost:=true}) Y i j hj (N.blk i j) _ [1,2,3,4,5,7,8] rfl rfl rfl rfl ((by simp only[Nand.setCell,Nand.setBlk,Int.toNat_natCast];rw[a7o h5])) rfl ?_;refine J.qr [1] λ_=>?_;rw[a9K h];exact⟨rfl,rfl⟩
 simp only[beq_eq_false_iff_ne,ne_eq]at h3;refine J.qd (λ_ h4=>?_) λ_ h4=>?_
 ·simp only[beq_iff_eq]at h4;subst h4;refine J.pq (.of [0,4,8,13,16,20,25,28,35]) [7,8] [1,2,3,5,6,7,8] λ_ _=>?_;refine J.s1 4 ((N.dead.set i true).map Value.bool) ?_ ?_ ?_
  ·rw[List.length_map,hN.dead];show 0+(i:Int).toNat*1<_;omega
  ·rw[show 0+(i:Int).toNat*1=i from by omega,List.map_set]
  refine J.q λ_=>?_;refine J.closeN p N ({N with dead:=N.dead.set i true}) Y i j hj (N.blk i j) _ [1,2,3,4,5,7,8] rfl rfl rfl rfl (C2 _ _ _) rfl ?_;refine J.qr [1] λ_=>?_;rw[b5y h];exact⟨rfl,rfl⟩
 simp only[beq_eq_false_iff_ne,ne_eq]at h4;refine J.qd (λ_ h6=>?_) λ_ h6=>?_
 ·simp only[beq_iff_eq]at h6;subst h6
  by_cases h5:k<(N.blk i j).cells.length
  ·rw[show decide ((k:Int)<((N.blk i j).cells.length:Int))=true from decide_eq_true (by omega)];refine J.know (λh' s=>i7 (by omega) (s.get (i:=8) rfl)) λhg=>?_;obtain⟨g,hg⟩:=hg;obtain⟨c1,c2⟩:=c;simp only at hg;subst hg;refine J.openOwn 8 rfl rfl (λ_=>rfl) λr q1 q2 q3 q4=>?_;obtain⟨cl,hcl⟩:∃cl,(N.blk i j).cells[k]? =some cl:=⟨_,List.getElem?_eq_getElem h5⟩;refine J.pq (.of [0,5,8,12,16,21,24,28,32,36,40,44,48,52,57,60,64,69,72,76,81,84,88]) [] [1,2,3,4,5,6,7,8] λ_ _=>?_;have hpa:N.pageAt i j k=some cl:=by simp only[Nand.pageAt,Int.toNat_natCast];exact hcl
   have hoff:∀e,e<34->(s8 (N.blk i j).cells++r)[k*34+e]? =cl.vals[e]?:=λe he=>by
    rw[List.getElem?_append_left (by rw[l9];omega)];exact a2q hcl he
   refine J.vT (.bool cl.turned) rfl rfl (λhg a w he hC=>?_) ?_
   ·exact i4 tk rfl rfl he hg rfl rfl (hC rfl _ (g7 (i:=8) rfl)) (by rw[show 0+((k:Int)).toNat*34+33=k*34+33 from by simp];exact hoff 33 (by omega))
   refine J.qd (λ_ h7=>?_) λ_ h7=>?_
   ·refine J.closeOwn (e:=178) (size:=34) (n:=(N.blk i j).cells.length) (cap:=c2) (xs:=s8 (N.blk i j).cells) 8 rfl rfl q1 q2 q3 (by rw[List.length_append];exact q4) (by rw[List.take_left' q1]) rfl ?_;refine J.q λ_=>?_;refine J.closeN p N (N) Y i j hj (N.blk i j) (some g,c2) [1,2,3,4,5,7,8] rfl rfl rfl rfl (C2 _ _ _) rfl ?_;refine J.qr [1] λ_=>?_;rw[a4A h hpa h7];exact⟨rfl,rfl⟩
   refine J.pq (.of [0,4,8,12,16,21,24,28,33,36,40,45,48,52]) [] [1,2,3,4,5,6,7,8] λ_ _=>?_;refine J.vT (.bool cl.lost) rfl rfl (λhg a w he hC=>?_) ?_
   ·exact i4 tk rfl rfl he hg rfl rfl (hC rfl _ (g7 (i:=8) rfl)) (by rw[show 0+((k:Int)).toNat*34+32=k*34+32 from by simp];exact hoff 32 (by omega))
   refine J.qd (λ_ h8=>?_) λ_ h8=>?_
   ·have hn:0<=n/\n<32:=by
     simp only[Bool.or_eq_false_iff,decide_eq_false_iff_not]at h7;omega
    obtain⟨e,rfl⟩:=Int.eq_ofNat_of_zero_le hn.1;have he32:e<32:=by omega
    have hp32:cl.p.length=32:=(hN.cells i j hi hj).2 cl (List.mem_of_getElem? hcl);refine J.pn 14 (.of [0,4,8,13,16,20,25,28,33,36,40,44,52,57,60,68,72,50,64,76,82]) [] [1,2,3,4,5,6,7] λ_ _=>?_;refine J.vT (.int .u8 (IntKind.u8.wrap xx)) rfl rfl (λhg a w he hC=>?_) ?_
    ·exact R7 tk rfl rfl he rfl rfl rfl
    refine J.q λ_=>?_;refine J.val hX (bv (cl.p.getD e 0)) 0 rfl rfl (λhg a w he hs=>?_) rfl ⟨rfl,rfl,rfl,rfl,rfl,rfl,rfl,trivial⟩ ?_
    ·exact i4 tk rfl rfl he hg rfl rfl (hs.get (i:=8) rfl) (by rw[show 0+((k:Int)).toNat*34+0+((e:Int)).toNat*1=k*34+e from by simp,hoff e (by omega)];exact b1H hp32 he32)
    refine J.q λ_=>?_;have hlen':(s8 (N.blk i j).cells++r).length=c2*34:=by rw[List.length_append];exact q4
    have hnl:k*34+34<=(N.blk i j).cells.length*34:=by omega
    refine J.s1 8 (s8 ((N.blk i j).cells.modify k λc=>{c with p:=Nand.xorAt c.p e (UInt8.ofNat (xx % 256).toNat)})++r) ?_ ?_ ?_
    ·rw[List.length_append,l9];show 0+(k:Int).toNat*34+0+(e:Int).toNat*1<_;simp only[Int.toNat_natCast];omega
    ·rw[show 0+(k:Int).toNat*34+0+(e:Int).toNat*1=k*34+e from by simp,List.set_append_left _ _ (by rw[l9];omega)];rw[Q7 _ k e _ (λc=>{c with p:=Nand.xorAt c.p e (UInt8.ofNat (xx % 256).toNat)}) cl hcl (by omega) ?_];rw[b1x,a5K hp32,a5K (by simp[Nand.xorAt,hp32]),List.set_append_left _ _ (by simpa[hp32]using he32)];congr 1;exact(List.map_set (f:=bv)).symm
    refine J.pq (.of [0,4,8,13,16,20,25,28,32,39]) [7,8,9] [1,2,3,4,5,6,7] λ_ _=>?_;refine J.s1 8 (s8 ((N.blk i j).cells.modify k λc=>{c with p:=Nand.xorAt c.p e (UInt8.ofNat (xx % 256).toNat),turned:=true})++r) ?_ ?_ ?_
    ·rw[List.length_append,l9,List.length_modify];show 0+(k:Int).toNat*34+33<_;simp only[Int.toNat_natCast];omega
    ·rw[show 0+(k:Int).toNat*34+33=k*34+33 from by simp,List.set_append_left _ _ (by rw[l9,List.length_modify];omega)];rw[Q7 _ k 33 _ (λc=>{c with turned:=true}) _ (by rw[List.getElem?_modify_eq,hcl];rfl) (by omega) rfl,List.modify_modify_eq];rfl
    refine J.closeOwn (e:=178) (size:=34) (n:=(N.blk i j).cells.length) (cap:=c2) (xs:=s8 ((N.blk i j).cells.modify k λc=>{c with p:=Nand.xorAt c.p e (UInt8.ofNat (xx % 256).toNat),turned:=true})) 8 rfl rfl (by rw[l9,List.length_modify]) q2 q3 (by rw[List.length_append,l9,List.length_modify];rw[l9]at q4;exact q4) (by rw[List.take_left' (by rw[l9,List.length_modify])]) rfl ?_;rw[show(N.blk i j).cells.length=((N.blk i j).cells.modify k λc=>{c with p:=Nand.xorAt c.p e (UInt8.ofNat (xx % 256).toNat),turned:=true}).length from by rw[List.length_modify]];refine J.q λ_=>?_;refine J.closeN p N (N.setCell i j k λc=>{c with p:=Nand.xorAt c.p e (UInt8.ofNat (xx % 256).toNat),turned:=true}) Y i j hj ({N.blk i j with cells:=(N.blk i j).cells.modify k λc=>{c with p:=Nand.xorAt c.p e (UInt8.ofNat (xx % 256).toNat),turned:=true}}) (some g,c2) [1,2,3,4,5,7,8] rfl rfl rfl rfl (rfl) rfl ?_;refine J.qr [1] λ_=>?_;rw[a2O h,hpa];simp only[Bool.or_eq_false_iff,Bool.true_and]at h7;simp only[Bool.true_and,Bool.not_eq_true']at h8;rw[if_neg (by omega)];simp only[h7.2,h8,Bool.false_eq_true,if_false];exact⟨trivial,rfl⟩
   ·refine J.closeOwn (e:=178) (size:=34) (n:=(N.blk i j).cells.length) (cap:=c2) (xs:=s8 (N.blk i j).cells) 8 rfl rfl q1 q2 q3 (by rw[List.length_append];exact q4) (by rw[List.take_left' q1]) rfl ?_;refine J.q λ_=>?_;refine J.closeN p N (N) Y i j hj (N.blk i j) (some g,c2) [1,2,3,4,5,7,8] rfl rfl rfl rfl (C2 _ _ _) rfl ?_;refine J.qr [1] λ_=>?_;rw[a2O h,hpa];simp only[Bool.or_eq_false_iff,Bool.true_and,decide_eq_false_iff_not]at h7;simp only[Bool.true_and,Bool.not_eq_false']at h8;rw[if_neg (by omega)];simp only[h7.2,h8,Bool.false_eq_true,if_false,if_true];exact⟨trivial,rfl⟩
  ·rw[show decide ((k:Int)<((N.blk i j).cells.length:Int))=false from decide_eq_false (by omega)];refine J.pn 18 (.of [0,5,8,12,16,21,24,28,32,36,40,44,48,52,57,60,64,69,72,76,81,84,88]) [] [1,2,3,4,5,6,7,8] λ_ _=>?_;have hpa:N.pageAt i j k=none:=by simp only[Nand.pageAt,Int.toNat_natCast];exact List.getElem?_eq_none (by omega)
   refine J.vT (pp 0) rfl rfl (λhg a w he hC=>by simp[G.on]at hg) ?_;refine J.q λ_=>?_;refine J.vT (.bool false) rfl rfl (λhg a w he hC=>by simp[G.on]at hg) ?_;refine J.qd (λ_ h7=>?_) λ_ h7=>?_
   ·refine J.q λ_=>?_;refine J.closeN p N (N) Y i j hj (N.blk i j) _ [1,2,3,4,5,7,8] rfl rfl rfl rfl (C2 _ _ _) rfl ?_;refine J.qr [1] λ_=>?_;rw[a2m h hpa (b:=true) (by simpa using h7)];exact⟨rfl,rfl⟩
   refine J.pn 9 (.of [0,4,8,12,16,21,24,28,33,36,40,45,48,52]) [] [1,2,3,4,5,6,7,8] λ_ _=>?_;refine J.vT (pp 0) rfl rfl (λhg a w he hC=>by simp[G.on]at hg) ?_;refine J.q λ_=>?_;refine J.vT (.bool false) rfl rfl (λhg a w he hC=>by simp[G.on]at hg) ?_;refine J.qF λ_=>?_;refine J.q λ_=>?_;refine J.closeN p N (N) Y i j hj (N.blk i j) _ [1,2,3,4,5,7,8] rfl rfl rfl rfl (C2 _ _ _) rfl ?_;refine J.qr [1] λ_=>?_;rw[a2m h hpa (b:=false) (by simpa using h7)];exact⟨rfl,rfl⟩
 simp only[beq_eq_false_iff_ne,ne_eq]at h6;refine J.q λ_=>?_;refine J.closeN p N (N) Y i j hj (N.blk i j) _ [1,2,3,4,5,7,8] rfl rfl rfl rfl (C2 _ _ _) rfl ?_;refine J.qr [1] λ_=>?_;rw[b3G h1 h2 h3 h4 h6];exact⟨rfl,rfl⟩
def B0:NBlock:=⟨[],0,false,false⟩
def b7o (d b p:Nat) (x:Nat×Nat×Nat×Nat):List Value:=
 [iI d,iI b,iI p, .map (some x.2.1),pp x.2.2.1, .slice (some ⟨x.2.2.2,0,none⟩) d d, .bool false,iI 0,iI 0, .bool false,iI 0,iI 0]
theorem a5G {k:A3} {v:Value}:∀{l:List (A3×Value)},(∀x∈l,x.1≠k)->N9 l k v=l++[(k,v)]
 | [],_=>rfl
 | x::l,h=>by
  have h1:=h x (by simp);simp only[N9,if_neg (Ne.symm h1),a5G (l:=l) (λy hy=>h y (by simp[hy])),List.cons_append]
def upd (bp:Nat->Nat) (n v:Nat):Nat->Nat:=λk=>if k=n then v else bp k
theorem b1p (nb n:Nat) (bp:Nat->Nat) (v:Nat):a0j nb (n+1) (upd bp n v)=a0j nb n bp++[((((n/nb:Nat):Int),((n % nb:Nat):Int),0),pp v)]:=by
 unfold a0j;rw[List.range_succ,List.map_append];congr 1
 ·apply List.map_congr_left;intro k hk;have:k≠n:=by have:=List.mem_range.1 hk;omega
  simp[upd,this]
 ·simp[upd]
theorem a4i (nb n:Nat) (bp:Nat->Nat) (v:Nat):J1 nb (n+1) (upd bp n v) (λ_ _=>B0)=J1 nb n bp (λ_ _=>B0)++[a4C v B0]:=by
 unfold J1;rw[List.range_succ,List.map_append];congr 1
 ·apply List.map_congr_left;intro k hk;have:k≠n:=by have:=List.mem_range.1 hk;omega
  simp[upd,this]
 ·simp[upd]
theorem a5F {nb j:Nat} (i:Nat) (hj:j<nb) (bp:Nat->Nat) (v:Nat):N9 (a0j nb (i*nb+j) bp) ((i:Int),(j:Int),0) (pp v)=a0j nb (i*nb+j+1) (upd bp (i*nb+j) v):=by
 rw[b1p,(H3 hj).1,(H3 hj).2,a5G];intro x hx;simp only[a0j,List.mem_map,List.mem_range]at hx;obtain⟨k,hk,rfl⟩:=hx;intro e;simp only[Prod.mk.injEq,Int.natCast_inj,and_true]at e;have h1:=Nat.div_add_mod k nb;rw[e.1,e.2,Nat.mul_comm]at h1;omega
theorem a7Y {BL:List Atom} {v:Nat} {h:Hl} (s:Sep [.hp (HP.of BL), .pt v 118 [.slice none 0 0,iI 0, .bool false, .bool false]] h):Sep [.hp (HP.of (BL++[a4C v B0]))] h:=by
 have s1:Sep [.hp (HP.of BL),a4C v B0] h:=s.turn1 [1] rfl (As:=[a4C v B0]) (λh' s'=>Sep.one ⟨(none,0),by
  refine⟨λ_=>0,λi A hA=>?_⟩
  match i,hA with
  | 0,hA=>simp at hA;subst hA;exact Atom.up (A:= .pt v 118 [.slice none 0 0,iI 0, .bool false, .bool false]) (λb o hb=>res_some.2 ⟨rfl,hb⟩) (s'.get (i:=0) rfl)
  | 1,hA=>simp at hA;subst hA;exact⟨rfl,rfl,rfl⟩
  | k+2,hA=>simp at hA⟩)
 exact Sep.hpOf.2 s1.flat
theorem a4Z (d b p:Nat) (hg:p9 d b p=true):FP 34 [.agg #[iI d,iI b,iI p]] [] (λv As=>∃q,v=pp q/\As=[i5 q (Nand.new d b p)]):=by
 have hbd:(3<=d/\d<=6)/\(8<=b/\b<=16)/\(2<=p/\p<=8):=by simp[p9]at hg;omega
 refine FE [0] Tryz.func34 λX F hX=>?_;refine J.q λg1=>?_;refine J.cb (a2n d b p) [] ?_;refine cpq ⟨_,rfl,trivial,?_⟩;rw[hg];refine J.qF λ_=>?_;refine J.p (.take false 0 (.take true 3 (.take false 4 (.alt false 1 ((.alt false 2 ((.of [22,24,30,32])) (.alt false 5 ((.of [10,24,30,32])) .non))) (.alt false 2 ((.alt false 1 ((.of [22,24,30,32])) (.alt false 5 ((.of [6,24,30,32])) .non))) (.alt false 5 ((.alt false 1 ((.of [10,24,30,32])) (.alt false 2 ((.of [6,24,30,32])) .non))) .non)))))) [8] [1] λ_=>?_;refine J.join (α:=Nat×Nat×Nat×Nat) (λx=>[⟨3,pp x.1,3, .tt⟩,⟨1,pp (g1 0),2, .tt⟩]) (λx=>[.hp F, .pt (g1 0) 23 [iI d,iI b,iI p], .pt x.1 94 (b7o d b p x), .ob x.2.1 (.map #[] 0),O2 x.2.2.1 [], .pt x.2.2.2 4 (List.replicate d (.bool false))]) (λhj=>?_) (λx=>?_)
 ·refine J.qn 3 λ_=>?_;refine J.alts ?_ (J.alts ?_ ?_)
  ·skip
   refine J.qn 1 λmm=>?_;refine J.alts ?_ ?_
   ·skip
    refine J.qc (a6X) [] λ_=>?_;rintro v As ⟨q,rfl,rfl⟩;refine⟨_,rfl,⟨rfl,trivial⟩,?_⟩;refine J.makeSlice hX tk 5 rfl rfl rfl rfl rfl rfl rfl rfl rfl rfl ?_ ?_ (λ_=>rfl) (λ_=>rfl) λdd=>⟨⟨rfl,trivial⟩,?_⟩
    ·simp only[maxLen];omega
    ·omega
    refine J.qn 4 λnn=>?_;exact J.goto [0,1,5,2,3,4] (hj (nn 0,mm 0,q,dd)) ⟨rfl,rfl,trivial⟩ rfl rfl
   ·skip
    refine J.makeSlice hX tk 4 rfl rfl rfl rfl rfl rfl rfl rfl rfl rfl ?_ ?_ (λ_=>rfl) (λ_=>rfl) λdd=>⟨⟨rfl,trivial⟩,?_⟩
    ·simp only[maxLen];omega
    ·omega
    refine J.qc (a6X) [] λ_=>?_;rintro v As ⟨q,rfl,rfl⟩;refine⟨_,rfl,⟨rfl,trivial⟩,?_⟩;refine J.qn 4 λnn=>?_;exact J.goto [0,1,5,2,4,3] (hj (nn 0,mm 0,q,dd)) ⟨rfl,rfl,trivial⟩ rfl rfl
  ·skip
   refine J.qc (a6X) [] λ_=>?_;rintro v As ⟨q,rfl,rfl⟩;refine⟨_,rfl,⟨rfl,trivial⟩,?_⟩;refine J.alts ?_ ?_
   ·skip
    refine J.qn 1 λmm=>?_;refine J.makeSlice hX tk 5 rfl rfl rfl rfl rfl rfl rfl rfl rfl rfl ?_ ?_ (λ_=>rfl) (λ_=>rfl) λdd=>⟨⟨rfl,trivial⟩,?_⟩
    ·simp only[maxLen];omega
    ·omega
    refine J.qn 4 λnn=>?_;exact J.goto [0,1,5,3,2,4] (hj (nn 0,mm 0,q,dd)) ⟨rfl,rfl,trivial⟩ rfl rfl
   ·skip
    refine J.makeSlice hX tk 4 rfl rfl rfl rfl rfl rfl rfl rfl rfl rfl ?_ ?_ (λ_=>rfl) (λ_=>rfl) λdd=>⟨⟨rfl,trivial⟩,?_⟩
    ·simp only[maxLen];omega
    ·omega
    refine J.qn 1 λmm=>?_;refine J.qn 4 λnn=>?_;exact J.goto [0,1,5,4,2,3] (hj (nn 0,mm 0,q,dd)) ⟨rfl,rfl,trivial⟩ rfl rfl
  ·skip
   refine J.makeSlice hX tk 3 rfl rfl rfl rfl rfl rfl rfl rfl rfl rfl ?_ ?_ (λ_=>rfl) (λ_=>rfl) λdd=>⟨⟨rfl,trivial⟩,?_⟩
   ·simp only[maxLen];omega
   ·omega
   refine J.alts ?_ ?_
   ·skip
    refine J.qn 1 λmm=>?_;refine J.qc (a6X) [] λ_=>?_;rintro v As ⟨q,rfl,rfl⟩;refine⟨_,rfl,⟨rfl,trivial⟩,?_⟩;refine J.qn 4 λnn=>?_;exact J.goto [0,1,5,3,4,2] (hj (nn 0,mm 0,q,dd)) ⟨rfl,rfl,trivial⟩ rfl rfl
   ·skip
    refine J.qc (a6X) [] λ_=>?_;rintro v As ⟨q,rfl,rfl⟩;refine⟨_,rfl,⟨rfl,trivial⟩,?_⟩;refine J.qn 1 λmm=>?_;refine J.qn 4 λnn=>?_;exact J.goto [0,1,5,4,3,2] (hj (nn 0,mm 0,q,dd)) ⟨rfl,rfl,trivial⟩ rfl rfl
 obtain⟨q0,r,q,dd⟩:=x;refine J.turn1 [3] rfl (As:=[B4 r a3v (a0j b (0*b) λ_=>0), .hp (HP.of (J1 b (0*b) (λ_=>0) λ_ _=>B0))]) (λh s=>?_) rfl ?_
 ·rw[Nat.zero_mul];refine⟨λ_=>0,λi A hA=>?_⟩
  match i,hA with
  | 0,hA=>simp at hA;subst hA;exact⟨#[],0,res_some.2 ⟨rfl,s.get (i:=0) rfl⟩,rfl,by simp,by simp⟩
  | 1,hA=>simp at hA;subst hA;exact Sep.nil _
  | k+2,hA=>simp at hA
 refine J.q λ_=>?_;refine J.l (α:=(Nat×(Nat->Nat))) (λx=>x.1<=d) (λx=>[si 19 x.1,si 18 d,⟨3,pp q0,3, .tt⟩,⟨1,pp (g1 0),2, .tt⟩]) [3,6] (λx=>[B4 r a3v (a0j b (x.1*b) x.2), .hp (HP.of (J1 b (x.1*b) x.2 λ_ _=>B0))]) (λx=>d-x.1) ((0,λ_=>0)) (Nat.zero_le _) λx hI=>?_;obtain⟨i,bp⟩:=x;dsimp only at hI ⊢;refine J.qd (λ_ h1=>?_) λ_ h1=>?_
 ·simp only[decide_eq_true_eq,Int.ofNat_lt]at h1;refine J.q λ_=>?_;refine J.l (α:=(Nat×(Nat->Nat))) (λy=>y.1<=b) (λy=>[si 24 y.1,si 23 b,si 4 i,si 19 i,si 18 d,⟨3,pp q0,3, .tt⟩,⟨1,pp (g1 0),2, .tt⟩]) [3,6] (λy=>[B4 r a3v (a0j b (i*b+y.1) y.2), .hp (HP.of (J1 b (i*b+y.1) y.2 λ_ _=>B0))]) (λy=>b-y.1) ((0,bp)) (Nat.zero_le _) λy hI=>?_;obtain⟨j,bp'⟩:=y;dsimp only at hI ⊢;refine J.qd (λ_ h2=>?_) λ_ h2=>?_
  ·simp only[decide_eq_true_eq,Int.ofNat_lt]at h2;refine J.pq (.take true 0 (.take true 1 (.take true 2 (.take false 3 (.take true 4 (.take true 5 (.take true 7 (.alt false 6 ((.of [34,39])) (.alt false 8 ((.of [26,39])) .non))))))))) [9] [1,2] λ_ _=>?_;refine J.alts ?_ ?_
   ·refine J.qp (T9 i j) [] λ_=>?_;refine J.q λbb=>?_;refine J.mapUpdate hX J9 X5 ((i:Int),(j:Int),0) 3 rfl rfl rfl rfl rfl rfl rfl rfl rfl rfl rfl rfl (λ_=>rfl) (by rw[a5F i h2];rfl) ⟨trivial,?_⟩;refine J.turn1 [6,7] rfl (As:=[.hp (HP.of (J1 b (i*b+j+1) (upd bp' (i*b+j) (bb 0)) λ_ _=>B0))]) (λh s=>by rw[a4i];exact a7Y s) rfl ?_;refine J.q λ_=>?_;refine J.n ((j+1,upd bp' (i*b+j) (bb 0))) (by dsimp only;omega) (by dsimp only;omega) [0,1,2,3,4,5,6]
   ·refine J.q λbb=>?_;refine J.cb (T9 i j) [] ?_;refine cpq ⟨_,rfl,⟨rfl,rfl,trivial⟩,?_⟩;refine J.mapUpdate hX J9 X5 ((i:Int),(j:Int),0) 3 rfl rfl rfl rfl rfl rfl rfl rfl rfl rfl rfl rfl (λ_=>rfl) (by rw[a5F i h2];rfl) ⟨trivial,?_⟩;refine J.turn1 [6,7] rfl (As:=[.hp (HP.of (J1 b (i*b+j+1) (upd bp' (i*b+j) (bb 0)) λ_ _=>B0))]) (λh s=>by rw[a4i];exact a7Y s) rfl ?_;refine J.q λ_=>?_;refine J.n ((j+1,upd bp' (i*b+j) (bb 0))) (by dsimp only;omega) (by dsimp only;omega) [0,1,2,3,4,5,6]
  ·simp only[decide_eq_false_iff_not,Int.ofNat_lt]at h2;obtain rfl:j=b:=by omega
   rw[show i*j+j=(i+1)*j from(Nat.succ_mul i j).symm];refine J.q λ_=>?_;refine J.n ((i+1,bp')) (by dsimp only;omega) (by dsimp only;omega) [0,1,2,3,4,5,6]
 ·simp only[decide_eq_false_iff_not,Int.ofNat_lt]at h1;obtain rfl:i=d:=by omega
  refine J.close (f:=I4 q0 (Nand.new i b p)) ⟨r,q,dd,bp⟩ [2,3,4,5,6] rfl (by simp only[I4,Nand.new,List.map_replicate];rfl) rfl ?_;refine J.qr [2] λ_=>?_;exact⟨q0,rfl,rfl⟩
def C1 (x y:Int):Int:=if x<y then-1 else if x>y then 1 else 0
theorem a6A (x:Int):FP 145 [iI x] [] (λv As=>v= .bool false/\As=[]):=by
 refine FE [] Tryz.func145 λX F hX=>?_;refine J.qr [] λ_=>?_;exact⟨by simp,rfl⟩
theorem K9 (x y:Int):FP 94 [iI x,iI y] [] (λv As=>v=iI (C1 x y)/\As=[]):=by
 refine FE [] Tryz.func94 λX F hX=>?_;refine J.qp (a6A x) [] λ_=>?_;refine J.qp (a6A y) [] λ_=>?_;refine J.qF λ_=>?_;refine J.qF λ_=>?_;refine J.qd (λ_ h1=>?_) λ_ h1=>?_
 ·refine J.qr [] λ_=>?_;simp only[decide_eq_true_eq]at h1;exact⟨by simp[C1,h1],rfl⟩
 simp only[decide_eq_false_iff_not]at h1;refine J.qd (λ_ h2=>?_) λ_ h2=>?_
 ·refine J.qr [] λ_=>?_;simp only[decide_eq_true_eq]at h2;exact⟨by rw[C1,if_neg h1,if_pos h2],rfl⟩
 refine J.qr [] λ_=>?_;simp only[decide_eq_false_iff_not]at h2;exact⟨by rw[C1,if_neg h1,if_neg h2],rfl⟩
def orI (l:List Int):Int:=match l with
 | []=>0
 | x::r=>if x≠0 then x else orI r
theorem b8c (b:Nat) (x y z:Int):FP 189 [.slice (some ⟨b,0,none⟩) 3 3] [.pt b 3 [iI x,iI y,iI z]] (λv As=>v=iI (orI [x,y,z])/\As=[.pt b 3 [iI x,iI y,iI z]]):=by
 refine FE [2] Tryz.func189 λX F hX=>?_;refine J.q λ_=>?_;refine J.l (α:=Nat) (λk=>k<=3/\orI ([x,y,z].drop k)=orI [x,y,z]) (λk=>[si 8 k,si 7 3,⟨6, .slice (some ⟨b,0,none⟩) 3 3,2, .tt⟩,si 3 0]) [] (λk=>[]) (λk=>3-k) (0) (⟨by omega,rfl⟩) λk hI=>?_;refine J.qd (λ_ h1=>?_) λ_ h1=>?_
 ·simp only[decide_eq_true_eq]at h1;obtain⟨v,hv⟩:∃v,([x,y,z]:List Int)[k]? =some v:=⟨_,List.getElem?_eq_getElem (by simp;omega)⟩;have hd:([x,y,z]:List Int).drop k=v::([x,y,z]:List Int).drop (k+1):=by
   obtain⟨h2,h3⟩:=List.getElem?_eq_some_iff.1 hv;rw[List.drop_eq_getElem_cons h2,h3]
  refine J.q λ_=>?_;refine J.v (iI v) rfl rfl (λhg a w he hs=>?_) ?_
  ·exact i4 tk rfl rfl he rfl rfl rfl (hs.get (i:=1) rfl) (by
    rw[show 0+(k:Int).toNat*1=k from by omega,show([iI x,iI y,iI z]:List Value)=([x,y,z]:List Int).map (.int .i64)from rfl,List.getElem?_map,hv];rfl)
  refine J.qd (λ_ h2=>?_) λ_ h2=>?_
  ·simp only[bne_iff_ne,ne_eq]at h2;refine J.qr [1] λ_=>?_;refine⟨?_,rfl⟩;rw[<- hI.2,hd];simp[orI,h2]
  ·simp only[bne_eq_false_iff_eq]at h2;refine J.q λ_=>?_;refine J.nx (k+1) (⟨by omega,by rw[<- hI.2,hd,orI,if_neg (by simp[h2])]⟩) (by omega) (λ_ s=>s)
 ·simp only[decide_eq_false_iff_not]at h1;refine J.qr [1] λ_=>?_;refine⟨?_,rfl⟩;rw[<- hI.2,List.drop_of_length_le (by simp;omega)];rfl
abbrev O0 (x:A3):Value:= .agg #[iI x.1,iI x.2.1,iI x.2.2]
def a6d (x y:A3):Int:=orI [C1 x.1 y.1,C1 x.2.1 y.2.1,C1 x.2.2 y.2.2]
theorem a9i (x y:A3):FP 269 [O0 x,O0 y] [] (λv As=>v=iI (a6d x y)/\As=[]):=by
 refine FE [0,0] Tryz.func269 λX F hX=>?_;refine J.p (.of [0,5,8,13,20,25,28,33,40,45,48,53,18,38,58,62,66,68]) [17] [1,2] λ_=>?_;refine J.qp (K9 x.1 y.1) [] λ_=>?_;refine J.qp (K9 x.2.1 y.2.1) [] λ_=>?_;refine J.qp (K9 x.2.2 y.2.2) [] λ_=>?_;refine J.q λbb=>?_;refine J.cb (b8c (bb 0) (C1 x.1 y.1) (C1 x.2.1 y.2.1) (C1 x.2.2 y.2.2)) [3] ?_;refine cpq ⟨_,rfl,⟨rfl,rfl,trivial⟩,?_⟩;exact J.qx []
end Go.Proofs.YtpohajhbfllbbaaGreat
