/- Helpers. No condition. -/
import Derived.Test.YtmafiplddapokaaGreatU04
import Derived.Shelf.GgSortFunc.InsertionK
import Derived.Sort.Grow
import Derived.Shelf.SlLaysF0
import Derived.Shelf.SlSortCmp.WholeK
set_option maxRecDepth 20000
set_option linter.all false
namespace Go.Proofs.YtmafiplddapokaaGreat
open Go Go.RowKit
theorem a1r {N:Nand} {Y:NLoc} {i j:Nat} (hi:i<N.dies) (hj:j<N.blocks):Q6 (a3T N.blocks (N.dies*N.blocks) Y.bp) ((i:Int),(j:Int),0)=some (pp (Y.bp (i*N.blocks+j))):=by
 rw[b3o _ _ _ _ hj,d8 (a7Y hi hj)]
theorem b0b {N:Nand} {Y:NLoc} {x y:Int} (hb:0<N.blocks) (h:¬(0<=x/\x<N.dies/\0<=y/\y<N.blocks)):Q6 (a3T N.blocks (N.dies*N.blocks) Y.bp) (x,y,0)=none:=by
 refine a8C _ hb _ _ _ λi j hij hj e=>h ?_;simp only[C4]at e;have hi:i<N.dies:=by
  rcases O7 i N.dies with h | h
  ·exact h
  ·have:=B5 N.blocks h;omega
 omega
theorem b6Z (p:Nat) (N:Nand) (hN:N.Ok) (x y:Int):FP 113 [pp p,iI x,iI y] [B8 p N] (λv As=>v=iI (N.next x y)/\As=[B8 p N]):=by
 have hbd:=hN.bd
 by_cases hr:0<=x/\x<N.dies/\0<=y/\y<N.blocks
 ·obtain⟨i,rfl⟩:=f9 hr.1;obtain⟨j,rfl⟩:=f9 hr.2.2.1;have hi:i<N.dies:=by omega
  have hj:j<N.blocks:=by omega
  have hv:((N.next i j:Nat):Int)=((N.blk i j).cells.length:Nat):=by rw[Nand.next,d8 (by omega)];rfl
  refine FE [2,0,0] Tryz.func113 λX F hX=>?_;refine J.o (α:=NLoc) 1 λY=>?_;refine J.openAt 5 (i*N.blocks+j) rfl rfl (a1d _ _ _ _ _ (a7Y hi hj)) rfl ?_;rw[(a0j hj).1,(a0j hj).2];refine J.o (α:=(Option Nat×Nat)) 6 λc=>?_;refine J.p (.of [0,4,8,12,16,20,25,28,32,38,41,44,48]) [] [1,2,3,4,6,7] λ_=>?_;refine J.qp (a2A i j) [] λ_=>?_;refine J.valT hX (pp (Y.bp (i*N.blocks+j))) 7 rfl rfl (λ_ a w he hC=>?_) rfl ?_
  ·refine(I5 (key:=((i:Int),(j:Int),0)) a0T a3k (z:= .pointer none) (λw=>by kernel_rfl) rfl rfl rfl rfl he rfl rfl (hC rfl _ (B6 (i:=2) rfl))).trans ?_;simp only[a1r hi hj];rfl
  refine J.qF λ_=>?_;refine J.p (.of [0,4,8,13,16,20,26,29,32,36,41,44,48]) [12] [1,2,3,4,6,7] λ_=>?_;refine J.qp (a2A i j) [] λ_=>?_;refine J.valT hX (pp (Y.bp (i*N.blocks+j))) 7 rfl rfl (λ_ a w he hC=>?_) rfl ?_
  ·refine(I5 (key:=((i:Int),(j:Int),0)) a0T a3k (z:= .pointer none) (λw=>by kernel_rfl) rfl rfl rfl rfl he rfl rfl (hC rfl _ (B6 (i:=2) rfl))).trans ?_;simp only[a1r hi hj];rfl
  refine J.q λ_=>?_;refine J.closeN p N (N) Y i j hj (N.blk i j) _ [1,2,3,4,5,6,7] rfl rfl rfl rfl (V9 _ _ _) rfl ?_;refine J.qr [1] λ_=>?_;exact⟨by rw[hv],rfl⟩
 ·refine FE [2,0,0] Tryz.func113 λX F hX=>?_;refine J.o (α:=NLoc) 1 λY=>?_;refine J.p (.of [0,4,8,12,16,20,25,28,32,38,41,44,48]) [] [1,2,3,4] λ_=>?_;refine J.qp (a2A x y) [] λ_=>?_;refine J.vT (.pointer none) rfl rfl (λ_ a w he hC=>?_) ?_
  ·refine(I5 (key:=(x,y,0)) a0T a3k (z:= .pointer none) (λw=>by kernel_rfl) rfl rfl rfl rfl he rfl rfl (hC rfl _ (B6 (i:=2) rfl))).trans ?_;simp only[b0b (show 0<N.blocks by omega) hr];rfl
  refine J.qT λ_=>?_;refine J.q λ_=>?_;refine J.cl (a0y p N) (Y) [1,2,3,4,5] ?_;refine J.qr [1] λ_=>?_;exact⟨by simp[Nand.next,hr],rfl⟩
theorem b2O (p:Nat) (N:Nand) (hN:N.Ok) (x y:Int):FP 110 [pp p,iI x,iI y] [B8 p N] (λv As=>v=iI (N.wornAt x y)/\As=[B8 p N]):=by
 have hbd:=hN.bd
 by_cases hr:0<=x/\x<N.dies/\0<=y/\y<N.blocks
 ·obtain⟨i,rfl⟩:=f9 hr.1;obtain⟨j,rfl⟩:=f9 hr.2.2.1;have hi:i<N.dies:=by omega
  have hj:j<N.blocks:=by omega
  have hv:N.wornAt i j=(N.blk i j).worn:=by rw[Nand.wornAt,d8 (by omega)];rfl
  refine FE [2,0,0] Tryz.func110 λX F hX=>?_;refine J.o (α:=NLoc) 1 λY=>?_;refine J.openAt 5 (i*N.blocks+j) rfl rfl (a1d _ _ _ _ _ (a7Y hi hj)) rfl ?_;rw[(a0j hj).1,(a0j hj).2];refine J.o (α:=(Option Nat×Nat)) 6 λc=>?_;refine J.p (.of [0,4,8,12,16,20,25,28,32,38,41,44,48]) [] [1,2,3,4,6,7] λ_=>?_;refine J.qp (a2A i j) [] λ_=>?_;refine J.valT hX (pp (Y.bp (i*N.blocks+j))) 7 rfl rfl (λ_ a w he hC=>?_) rfl ?_
  ·refine(I5 (key:=((i:Int),(j:Int),0)) a0T a3k (z:= .pointer none) (λw=>by kernel_rfl) rfl rfl rfl rfl he rfl rfl (hC rfl _ (B6 (i:=2) rfl))).trans ?_;simp only[a1r hi hj];rfl
  refine J.qF λ_=>?_;refine J.p (.of [0,4,8,13,16,20,26,29,32,36,41,44]) [11] [1,2,3,4,6,7] λ_=>?_;refine J.qp (a2A i j) [] λ_=>?_;refine J.valT hX (pp (Y.bp (i*N.blocks+j))) 7 rfl rfl (λ_ a w he hC=>?_) rfl ?_
  ·refine(I5 (key:=((i:Int),(j:Int),0)) a0T a3k (z:= .pointer none) (λw=>by kernel_rfl) rfl rfl rfl rfl he rfl rfl (hC rfl _ (B6 (i:=2) rfl))).trans ?_;simp only[a1r hi hj];rfl
  refine J.q λ_=>?_;refine J.closeN p N (N) Y i j hj (N.blk i j) _ [1,2,3,4,5,6,7] rfl rfl rfl rfl (V9 _ _ _) rfl ?_;refine J.qr [1] λ_=>?_;exact⟨by rw[hv],rfl⟩
 ·refine FE [2,0,0] Tryz.func110 λX F hX=>?_;refine J.o (α:=NLoc) 1 λY=>?_;refine J.p (.of [0,4,8,12,16,20,25,28,32,38,41,44,48]) [] [1,2,3,4] λ_=>?_;refine J.qp (a2A x y) [] λ_=>?_;refine J.vT (.pointer none) rfl rfl (λ_ a w he hC=>?_) ?_
  ·refine(I5 (key:=(x,y,0)) a0T a3k (z:= .pointer none) (λw=>by kernel_rfl) rfl rfl rfl rfl he rfl rfl (hC rfl _ (B6 (i:=2) rfl))).trans ?_;simp only[b0b (show 0<N.blocks by omega) hr];rfl
  refine J.qT λ_=>?_;refine J.q λ_=>?_;refine J.cl (a0y p N) (Y) [1,2,3,4,5] ?_;refine J.qr [1] λ_=>?_;exact⟨by simp[Nand.wornAt,hr],rfl⟩
theorem a2B (p:Nat) (N:Nand):FP 9 [pp p] [B8 p N] (λv As=>v= .agg #[iI N.dies,iI N.blocks,iI N.pages]/\As=[B8 p N]):=by
 refine FE [2] Tryz.func9 λX F hX=>?_;refine J.o (α:=NLoc) 1 λY=>?_;refine J.qF λ_=>?_;refine J.q λ_=>?_;refine J.cl (a0y p N) (Y) [1,2,3,4,5] ?_;exact J.qx [1]
theorem a5d (p:Nat) (N:Nand):FP 15 [pp p] [B8 p N] (λv As=>v= .bool (!N.off)/\As=[B8 p N]):=by
 refine FE [2] Tryz.func15 λX F hX=>?_;refine J.o (α:=NLoc) 1 λY=>?_;refine J.q λ_=>?_;refine J.cl (a0y p N) (Y) [1,2,3,4,5] ?_;refine J.qr [1] λ_=>?_;exact⟨by simp,rfl⟩
theorem b6Y (p:Nat) (N:Nand):FP 77 [pp p] [B8 p N] (λv As=>v=iI N.ops/\As=[B8 p N]):=by
 refine FE [2] Tryz.func77 λX F hX=>?_;refine J.o (α:=NLoc) 1 λY=>?_;refine J.qF λ_=>?_;refine J.q λ_=>?_;refine J.cl (a0y p N) (Y) [1,2,3,4,5] ?_;exact J.qx [1]
theorem a7T (p:Nat) (N:Nand):FP 20 [pp p] [B8 p N] (λv As=>v=iI N.broken/\As=[B8 p N]):=by
 refine FE [2] Tryz.func20 λX F hX=>?_;refine J.o (α:=NLoc) 1 λY=>?_;refine J.qF λ_=>?_;refine J.q λ_=>?_;refine J.cl (a0y p N) (Y) [1,2,3,4,5] ?_;exact J.qx [1]
theorem b4O (p:Nat) (N:Nand):FP 17 [pp p] [B8 p N] (λv As=>v= .tuple #[]/\As=[B8 p N.onN]):=by
 refine FE [2] Tryz.func17 λX F hX=>?_;refine J.o (α:=NLoc) 1 λY=>?_;refine J.qT λ_=>?_;refine J.q λ_=>?_;refine J.cl (a0y p N.onN) (Y) [1,2,3,4,5] ?_;refine J.q λ_=>?_;refine J.f [1] ?_;exact⟨rfl,rfl⟩
theorem a6t (p:Nat) (N:Nand) (x k:Int):FP 14 [pp p,iI x,iI k] [B8 p N] (λv As=>v= .tuple #[]/\As=[B8 p (N.setCut x k)]):=by
 refine FE [2,0,0] Tryz.func14 λX F hX=>?_;refine J.o (α:=NLoc) 1 λY=>?_;refine J.qd (λ_ h=>?_) λ_ h=>?_
 ·refine J.q λ_=>?_;refine J.cl (a0y p N) (Y) [1,2,3,4,5] ?_;refine J.qr [1] λ_=>?_;simp only[D2]at h;exact⟨rfl,by simp[Nand.setCut,h,N9];rfl⟩
 ·simp only[D2]at h;have hs:N.setCut x k={N with cuts:=decide (x>=0),left:=x,keep:=if 32<(if 0>k then 0 else k)then 32 else(if 0>k then 0 else k),off:=decide (x<0)}:=by
   simp only[Nand.setCut,h];have:min (max k 0) 32=if 32<(if 0>k then 0 else k)then 32 else(if 0>k then 0 else k):=by(repeat' split)<;>omega
   rw[this];rfl
  refine J.q λ_=>?_;refine J.cl (a0y p {N with cuts:=decide (x>=0),left:=x,keep:=if 32<(if 0>k then 0 else k)then 32 else(if 0>k then 0 else k),off:=decide (x<0)}) (Y) [1,2,3,4,5] ?_;refine J.q λ_=>?_;refine J.f [1] ?_;exact⟨rfl,by rw[hs];rfl⟩
theorem c0o (p:Nat) (N:Nand) (Y:NLoc) (hN:N.Ok) (hR:N.Room):FP 219 [pp p] [.pt p 92 (N.mainV Y)] (λv As=>v= .bool N.cutB/\As=[.pt p 92 (N.cutN.mainV Y)]):=by
 have h1:=hN.num.1;have h2:=hR.ops;have h3:=hN.lft;have h4:=hN.lf2;refine FE [2] Tryz.func219 λX F hX=>?_;refine J.qd (λ_ h=>?_) λ_ h=>?_
 ·simp only[i4]at h;have hs:N.cutN={N with ops:=N.ops+1}:=by simp[Nand.cutN,Nand.cutB,h]
  refine J.qr [1] λ_=>?_;exact⟨by simp[Nand.cutB,h],by rw[hs];rfl⟩
 simp only[A9]at h;have h3:=h3 h;refine J.qd (λ_ h5=>?_) λ_ h5=>?_
 ·simp only[d5]at h5;have hs:N.cutN={N with ops:=N.ops+1,left:=N.left-1}:=by
   have hcb:N.cutB=false:=by simp[Nand.cutB,h];omega
   simp[Nand.cutN,hcb,h]
  refine J.qr [1] λ_=>?_;exact⟨by congr 1;simp[Nand.cutB,h];omega,by rw[hs];rfl⟩
 simp only[c8]at h5;have hcb:N.cutB=true:=by simp[Nand.cutB,h];omega
 have hs:N.cutN={N with ops:=N.ops+1,left:=N.left-1,cuts:=false,off:=true}:=by
  simp[Nand.cutN,hcb,h]
 refine J.qr [1] λ_=>?_;exact⟨by rw[hcb],by rw[hs];rfl⟩
theorem a7S (p:Nat) (N:Nand) (hN:N.Ok) (x:Int):FP 78 [pp p,iI x] [B8 p N] (λv As=>v= .bool (N.deadAt x)/\As=[B8 p N]):=by
 have hd:=hN.dead;refine FE [2,0] Tryz.func78 λX F hX=>?_;refine J.o (α:=NLoc) 1 λY=>?_;refine J.q λ_=>?_;refine J.v (.bool (N.dead.getD x.toNat false)) rfl rfl (λhg a w he hs=>?_) ?_
 ·simp only[G.on,f7,d5]at hg;refine D4 tk rfl rfl he (by simp[G.on,hg]) rfl rfl (hs.get (i:=4) rfl) ?_;have:x.toNat<N.dead.length:=by omega
  simp[this]
 refine J.q λ_=>?_;refine J.cl (a0y p N) (Y) [1,2,3,4,5] ?_;refine J.qr [1] λ_=>?_;refine⟨?_,rfl⟩;congr 1
theorem a7Q (p:Nat) (N:Nand) (hN:N.Ok) (x y z:Int):FP 204 [pp p, .agg #[iI x,iI y,iI z]] [B8 p N] (λv As=>v= .tuple #[.agg (R8 (N.readV x y z)).toArray,iI (N.readE x y z)]/\As=[B8 p N]):=by
 have hbd:=hN.bd;refine FE [2,0] Tryz.func204 λX F hX=>?_;refine J.qp (a5T p N hN x y z) [1] λ_=>?_;refine J.qd (λ_ h=>?_) λ_ h=>?_
 ·simp only[E6,H5]at h;refine J.qr [1] λ_=>?_;exact⟨by simp only[Nand.readV,Nand.readE,H5,h,not_false_eq_true,d8];rfl,rfl⟩
 simp only[z7]at h;obtain⟨hoff,hdd,hr⟩:=Nand.refuses_zero h;obtain⟨i,rfl⟩:=f9 hr.1;obtain⟨j,rfl⟩:=f9 hr.2.2.1;obtain⟨k,rfl⟩:=f9 hr.2.2.2.2.1;have hi:i<N.dies:=by omega
 have hj:j<N.blocks:=by omega
 refine J.o (α:=NLoc) 1 λY=>?_;refine J.openAt 7 (i*N.blocks+j) rfl rfl (a1d _ _ _ _ _ (a7Y hi hj)) rfl ?_;rw[(a0j hj).1,(a0j hj).2];refine J.o (α:=(Option Nat×Nat)) 8 λc=>?_;refine J.p (.of [0,4,8,13,16,21,24,29,34,37,40]) [10] [1,2,3,4,5,6,7,8,9] λ_=>?_;refine J.qp (a2A i j) [] λ_=>?_;refine J.valT hX (pp (Y.bp (i*N.blocks+j))) 9 rfl rfl (λ_ a w he hC=>?_) rfl ?_
 ·refine(I5 (key:=((i:Int),(j:Int),0)) a0T a3k (z:= .pointer none) (λw=>by kernel_rfl) rfl rfl rfl rfl he rfl rfl (hC rfl _ (B6 (i:=4) rfl))).trans ?_;simp only[a1r hi hj];rfl
 refine J.p (.of [0,5,8,12,16,21,24,28,32]) [] [1,2,3,4,5,6,7,8,9] λ_=>?_;refine J.qd (λ_ h5=>?_) λ_ h5=>?_
 ·simp only[a0S,d5,Int.ofNat_le]at h5;have hp:N.pageAt i j k=none:=by simp[Nand.pageAt,h5]
  refine J.q λ_=>?_;refine J.closeN p N (N) Y i j hj (N.blk i j) _ [1,4,5,6,7,8,9] rfl rfl rfl rfl (V9 _ _ _) rfl ?_;refine J.qr [1] λ_=>?_;exact⟨by simp only[Nand.readV,Nand.readE,h,hp,H5,a2N,W0];rfl,rfl⟩
 simp only[a0S,c8,Int.ofNat_le,Nat.not_le]at h5;obtain⟨cl,hcl⟩:∃cl,(N.blk i j).cells[k]? =some cl:=⟨_,c9 h5⟩;have hp:N.pageAt i j k=some cl:=by simp only[Nand.pageAt,j4];exact hcl
 refine J.know (λh' s=>D1 (by omega) (s.get (i:=9) rfl)) λhg=>?_;obtain⟨g,hg⟩:=hg;obtain⟨c1,c2⟩:=c;simp only at hg;subst hg;refine J.pq (.of [0,4,8,13,16,21,24,28,33,36]) [] [1,2,3,4,5,6,7,8,9] λ_ _=>?_;refine J.vT (.bool cl.lost) rfl rfl (λ_ a w he hC=>?_) ?_
 ·exact I2 tk rfl rfl he rfl rfl rfl (hC rfl _ (B6 (i:=9) rfl)) (by rw[show 0+((k:Int)).toNat*34+32=k*34+32 from by simp];exact a6H hcl (by omega))
 refine J.qd (λ_ h6=>?_) λ_ h6=>?_
 ·refine J.q λ_=>?_;refine J.closeN p N (N) Y i j hj (N.blk i j) _ [1,4,5,6,7,8,9] rfl rfl rfl rfl (V9 _ _ _) rfl ?_;refine J.qr [1] λ_=>?_;exact⟨by simp only[Nand.readV,Nand.readE,h,hp,h6,H5,a2N,W0,X7];rfl,rfl⟩
 refine J.pq (.of [0,4,8,13,16,21,24,28,33,39,40]) [9,10] [1,2,4,5,6,7,8,9] λ_ _=>?_;refine J.vT (.agg (R8 cl.p).toArray) rfl rfl (λ_ a w he hC=>?_) ?_
 ·exact J8 tk rfl rfl he rfl rfl rfl (hC rfl _ (B6 (i:=9) rfl)) (by rw[show 0+((k:Int)).toNat*34+0=k*34 from by simp];exact b2j hcl) rfl
 refine J.q λ_=>?_;refine J.closeN p N (N) Y i j hj (N.blk i j) _ [1,4,5,6,7,8,9] rfl rfl rfl rfl (V9 _ _ _) rfl ?_;refine J.qr [1] λ_=>?_;exact⟨by simp only[Nand.readV,Nand.readE,h,hp,h6,H5,a2N,W0,H2];rfl,rfl⟩
def a3P (a b:Nat) (p:List UInt8):List UInt8:=p.take a++List.replicate (b-a) 255++p.drop b
theorem a9P (a b:Nat) (p:List UInt8) (h1:a<=b) (h2:b<=p.length):(a3P a b p).length=p.length:=by simp[a3P];omega
theorem b2Z (a:Nat) (p:List UInt8):a3P a a p=p:=by simp[a3P]
theorem b5r (a b:Nat) (p:List UInt8) (h1:a<=b) (h2:b<p.length):(a3P a b p).set b 255=a3P a (b+1) p:=by
 apply x9;intro j;have hl:=a9P a b p h1 (by omega);rw[z8,hl];simp only[a3P,m7,I9,j9,X8,C2,E9,K8]
 by_cases e:b=j
 ·subst e;rw[d8 rfl,d8 h2,d6 (by omega),d8 (by omega),d8 (by omega)]
 ·rw[d6 e]
  by_cases h3:j<min a p.length
  ·rw[d8 h3,d8 h3]
  ·rw[d6 h3,d6 h3]
   by_cases h4:j<b
   ·rw[d8 (by omega),d8 (by omega),d8 (by omega),d8 (by omega)]
   ·rw[d6 (by omega),d6 (by omega)];congr 1;omega
theorem b4E (p:List UInt8) (h:p.length=32) (k:Nat) (v:UInt8):(R8 p).set k (bv v)=R8 (p.set k v):=by
 rw[V6 p h,V6 _ (by simpa using h),L7]
theorem b2i (l:List NCell) (c:NCell):O6 (l++[c])=O6 l++c.vals:=by simp[O6]
theorem b5s (K:Nat) (p:List UInt8) (h:K<=32) (hp:p.length=32):a3P K 32 p=Nand.fillP K p:=by
 simp only[a3P,Nand.fillP];rw[E7 (by omega),m6]
theorem b0l (l:List NCell) (c:NCell):l.length+1=(l++[c]).length:=by simp
theorem b6p {L L2:List Atom} {k e n cap:Nat} {ao:Option Nat} {l:List NCell} {cs:List Value} (c:NCell) (h:cs=c.vals) (hL:U3 L k (m9 e 34 ao n cap (O6 (l++[c])))=some L2):U3 L k (m9 e 34 ao n cap (O6 l++cs))=some L2:=by
 rw[h,<- b2i];exact hL
theorem b4C {N:Nand} {x y z:Int} {pg:List UInt8} (h:N.refuses x y z=0) (h5:z=(N.blk x.toNat y.toNat).cells.length) (h6:N.cutB=true):N.progN x y z pg=N.cutN.push x.toNat y.toNat ⟨Nand.fillP N.keep.toNat pg,false,true⟩:=by
 unfold Nand.progN;rw[d6 (by simp[h]),d6 (by simp[h5]),d8 h6]
theorem a4Z {N:Nand} {x y z:Int} {pg:List UInt8} (h:N.refuses x y z=0) (h5:z=(N.blk x.toNat y.toNat).cells.length) (h6:N.cutB=false):N.progN x y z pg=Nand.push {N.cutN with plan:=N.plan.erase (x,y,z)} x.toNat y.toNat ⟨pg,N.fails x y z,false⟩:=by
 unfold Nand.progN;rw[d6 (by simp[h]),d6 (by simp[h5]),d6 (by simp[h6])]
theorem b4D {N:Nand} {x y z:Int} (h:N.refuses x y z=0) (h5:z=(N.blk x.toNat y.toNat).cells.length) (h6:N.cutB=true):N.progE x y z=9:=by
 unfold Nand.progE;rw[d6 (by simp[h]),d6 (by simp[h5]),d8 h6]
theorem a5a {N:Nand} {x y z:Int} (h:N.refuses x y z=0) (h5:z=(N.blk x.toNat y.toNat).cells.length) (h6:N.cutB=false):N.progE x y z=if N.fails x y z then 7 else 0:=by
 unfold Nand.progE;rw[d6 (by simp[h]),d6 (by simp[h5]),d6 (by simp[h6])]
theorem a4b (p:Nat) (N:Nand) (hN:N.Ok) (hR:N.Room) (x y z:Int) (pg:List UInt8) (hpl:pg.length=32):
  FP 201 [pp p, .agg #[iI x,iI y,iI z], .agg (R8 pg).toArray] [B8 p N] (Ps (iI (N.progE x y z)) [B8 p (N.progN x y z pg)]):=by
 have hbd:=hN.bd;have hnum:=hN.num;have hr1:=hR.broken;refine FE [2,0,0] Tryz.func201 λX F hX=>?_;refine J.q λbs=>?_;refine J.cb (a5T p N hN x y z) [1] ?_;refine cpq ⟨_,rfl,trivial,?_⟩;refine J.qd (λ_ h=>?_) λ_ h=>?_
 ·simp only[E6,H5]at h;refine J.qr [1] λ_=>?_;exact⟨by simp only[Nand.progE,H5,h,not_false_eq_true,d8],by simp only[Nand.progN,H5,h,not_false_eq_true,d8];rfl⟩
 simp only[z7]at h;obtain⟨hoff,hdd,hr⟩:=Nand.refuses_zero h;obtain⟨i,rfl⟩:=f9 hr.1;obtain⟨j,rfl⟩:=f9 hr.2.2.1;obtain⟨k,rfl⟩:=f9 hr.2.2.2.2.1;have hi:i<N.dies:=by omega
 have hj:j<N.blocks:=by omega
 have hlen:=(hN.cells i j hi hj).1;refine J.o (α:=NLoc) 1 λY=>?_;refine J.openAt 7 (i*N.blocks+j) rfl rfl (a1d _ _ _ _ _ (a7Y hi hj)) rfl ?_;rw[(a0j hj).1,(a0j hj).2];refine J.o (α:=(Option Nat×Nat)) 8 λc=>?_;refine J.p (.of [0,4,8,13,16,21,24,29,34,37,40]) [10] [1,2,3,4,5,6,7,8,9] λ_=>?_;refine J.qp (a2A i j) [] λ_=>?_;refine J.valT hX (pp (Y.bp (i*N.blocks+j))) 9 rfl rfl (λ_ a w he hC=>?_) rfl ?_
 ·refine(I5 (key:=((i:Int),(j:Int),0)) a0T a3k (z:= .pointer none) (λw=>by kernel_rfl) rfl rfl rfl rfl he rfl rfl (hC rfl _ (B6 (i:=4) rfl))).trans ?_;simp only[a1r hi hj];rfl
 refine J.p (.of [0,5,8,12,16,21,24,28]) [] [1,2,3,4,5,6,7,8,9] λ_=>?_;refine J.qd (λ_ h5=>?_) λ_ h5=>?_
 ·simp only[E6,H5]at h5;refine J.q λ_=>?_;refine J.closeN p N ({N with broken:=N.broken+1}) Y i j hj (N.blk i j) _ [1,4,5,6,7,8,9] rfl rfl rfl rfl (V9 _ _ _) rfl ?_;refine J.qr [1] λ_=>?_;exact⟨by simp[Nand.progE,h,h5],by simp[Nand.progN,h,h5];rfl⟩
 simp only[z7,a4s]at h5;refine J.qp (c0o p N Y hN hR) [1] λ_=>?_;refine J.qd (λ_ h6=>?_) λ_ h6=>?_
 ·have hkp:=hN.kp;obtain⟨K,hK⟩:∃K:Nat,N.keep=K:=⟨N.keep.toNat,by omega⟩;have hK2:N.cutN.keep=K:=hK;refine J.q λ_=>?_;rw[hK2];refine J.q λ_=>?_;refine J.lo (α:=Nat) (λm=>K<=m/\m<=32) (λm=>[si 9 m,⟨5,pp (bs (0+1)),4, .tt⟩,⟨8,pp (Y.bp (i*N.blocks+j)),9, .tt⟩]) [3] (λm=>[.pt (bs (0+1)) 110 (R8 (a3P K m pg))]) (λm=>32-m) (K) (⟨i7 _,by omega⟩) rfl ?_ (λ_=>rfl) λm hI=>?_
  ·rw[b2Z];rfl
  refine J.qd (λ_ h7=>?_) λ_ h7=>?_
  ·simp only[d5]at h7;refine J.q λ_=>?_;refine J.s1 3 (R8 (a3P K (m+1) pg)) ?_ ?_ ?_
   ·show 0+(m:Int).toNat*1<32;omega
   ·rw[show 0+(m:Int).toNat*1=m from by omega,<- b5r _ _ _ hI.1 (by omega)];exact b4E _ (by rw[a9P _ _ _ hI.1 (by omega)];exact hpl) m 255
   refine J.q λ_=>?_;refine J.nx (m+1) (⟨by omega,by omega⟩) (by omega) (λ_ s=>s)
  simp only[c8]at h7;obtain rfl:m=32:=by omega
  refine J.pq (.of [0,4,8,12,17,21,24,30,34,36,40,47]) [9,10,11] [1,2,3,4,5,6,7,8] λ_ _=>?_;rw[b5s _ _ hI.1 hpl];refine J.append hX tk 9 10 0 rfl rfl rfl rfl rfl rfl rfl rfl rfl rfl rfl rfl rfl rfl rfl rfl ?_ ?_ (λ_=>rfl) λa' cap'=>⟨_,b6p ⟨Nand.fillP K pg,false,true⟩ rfl rfl,⟨rfl,rfl,rfl,rfl,rfl,rfl,rfl,rfl,trivial⟩,?_⟩
  ·simp only[maxLen];omega
  ·omega
  refine J.q λ_=>?_;rw[b0l _ ⟨Nand.fillP K pg,false,true⟩];refine J.q λ_=>?_;refine J.closeN p N (N.cutN.push i j ⟨Nand.fillP K pg,false,true⟩) Y i j hj ({N.blk i j with cells:=(N.blk i j).cells++[⟨Nand.fillP K pg,false,true⟩]}) (a',cap') [1,4,5,6,7,8,9] rfl rfl rfl rfl (rfl) rfl ?_;refine J.qr [1] λ_=>?_;subst h5;exact⟨(b4D h rfl h6).symm▸rfl,by rw[b4C h rfl h6,hK];rfl⟩
 ·refine J.p (.of [0,4,8,13,17,22,24,28,32,36,40]) [10] [1,2,3,4,6,7,8,9] λ_=>?_;refine J.qp (c0k Y.q N.plan i j k) [5] λ_=>?_;refine J.p (.of [0,4,8,13,17,22]) [] [1,2,3,4,6,7,8,9] λ_=>?_;refine J.qp (b6t Y.q N.plan i j k) [5] λ_=>?_;refine J.pq (.of [0,4,8,12,17,21,24,28,34,38,40,44,51]) [10,11,12] [1,2,3,4,5,6,7,8] λ_ _=>?_;refine J.append hX tk 9 10 0 rfl rfl rfl rfl rfl rfl rfl rfl rfl rfl rfl rfl rfl rfl rfl rfl ?_ ?_ (λ_=>rfl) λa' cap'=>⟨_,b6p ⟨pg,decide (((i:Int),(j:Int),(k:Int))∈N.plan)||(N.blk i j).met,false⟩ rfl rfl,⟨rfl,rfl,rfl,rfl,rfl,rfl,rfl,rfl,trivial⟩,?_⟩
  ·simp only[maxLen];omega
  ·omega
  refine J.q λ_=>?_;rw[b0l _ ⟨pg,N.fails i j k,false⟩];refine J.q λ_=>?_;refine J.closeN p N (Nand.push {N.cutN with plan:=N.plan.erase ((i:Int),(j:Int),(k:Int))} i j ⟨pg,N.fails i j k,false⟩) Y i j hj ({N.blk i j with cells:=(N.blk i j).cells++[⟨pg,N.fails i j k,false⟩]}) (a',cap') [1,4,5,6,7,8,9] rfl rfl rfl rfl (rfl) rfl ?_;refine J.qd (λ_ h9=>?_) λ_ h9=>?_
  ·refine J.qr [1] λ_=>?_;subst h5;exact⟨by rw[a5a h rfl h6];exact congrArg (Value.int IntKind.i64) (d8 h9).symm,by rw[a4Z h rfl h6];rfl⟩
  ·refine J.qr [1] λ_=>?_;subst h5;exact⟨by rw[a5a h rfl h6];exact congrArg (Value.int IntKind.i64) (d6 (by rw[show N.fails i j (N.blk i j).cells.length=false from h9];simp)).symm,by rw[a4Z h rfl h6];rfl⟩
theorem a1T:∀(l:List NCell) (k i:Nat) (v:Value) (f:NCell->NCell) (c:NCell),l[k]? =some c->i<34->c.vals.set i v=(f c).vals->(O6 l).set (k*34+i) v=O6 (l.modify k f)
 | [],k,i,v,f,c,h,_,_=>by simp at h
 | x::l,0,i,v,f,c,h,hi,hv=>by
  simp at h;subst h;simp only[O6,u0,List.modify_cons,P8,J6,X7];rw[P7 _ _ (by simpa[NCell.vals]using hi),hv]
 | x::l,k+1,i,v,f,c,h,hi,hv=>by
  have:=a1T l k i v f c (by simpa using h) hi hv;simp only[O6,u0,List.modify_cons]at this ⊢;rw[R0 _ _ (by simp[NCell.vals];omega),show(k+1)*34+i-x.vals.length=k*34+i from by simp[NCell.vals];omega,this];simp
theorem b9R {N:Nand} {x y z n xx:Int} (h:V8 N.dies N.blocks N.pages x y z=true):N.fault 1 x y z n xx=(true,{N with plan:=b5F N.plan (x,y,z)}):=by
 unfold Nand.fault;rw[d6 (by simp[h]),d8 rfl];rfl
theorem b9Q {N:Nand} {x y z n xx:Int} (h:V8 N.dies N.blocks N.pages x y z=true):N.fault 2 x y z n xx=(true,N.setBlk x.toNat y.toNat {N.blk x.toNat y.toNat with fails:=true}):=by
 unfold Nand.fault;rw[d6 (by simp[h]),d6 (by decide),d8 rfl]
theorem b3Y {N:Nand} {x y z n xx:Int} (h:V8 N.dies N.blocks N.pages x y z=true):N.fault 3 x y z n xx=(true,N.setCell x y z λc=>{c with lost:=true}):=by
 unfold Nand.fault;rw[d6 (by simp[h]),d6 (by decide),d6 (by decide),d8 rfl]
theorem b9P {N:Nand} {x y z n xx:Int} (h:V8 N.dies N.blocks N.pages x y z=true):N.fault 4 x y z n xx=(true,{N with dead:=N.dead.set x.toNat true}):=by
 unfold Nand.fault;rw[d6 (by simp[h]),d6 (by decide),d6 (by decide),d6 (by decide),d8 rfl]
theorem b8a {N:Nand} {k x y z n xx:Int} (h1:k≠1) (h2:k≠2) (h3:k≠3) (h4:k≠4) (h5:k≠5):N.fault k x y z n xx=(false,N):=by
 unfold Nand.fault;split<;>simp_all
theorem b1G {l:List NCell} {k:Nat} {f:NCell->NCell} (h:l.length<=k):l.modify k f=l:=by
 apply x9;intro j;rw[a1s]
 by_cases e:k=j
 ·subst e;rw[j5 h];rfl
 ·simp[e]
theorem a7h {N:Nand} {x y z n xx:Int} (h:V8 N.dies N.blocks N.pages x y z=true):N.fault 5 x y z n xx=if n<0\/32<=n then(false,N)else
  match N.pageAt x y z with
  | none=>(true,N)
  | some c=>if c.turned then(false,N)else if c.lost then(true,N)else
   (true,N.setCell x y z λc=>{c with p:=Nand.xorAt c.p n.toNat (UInt8.ofNat (xx % 256).toNat),turned:=true}):=by
 unfold Nand.fault;rw[d6 (by simp[h]),d6 (by decide),d6 (by decide),d6 (by decide),d6 (by decide),d8 rfl]
 try rfl
theorem a6E {N:Nand} {x y z n xx:Int} (h:V8 N.dies N.blocks N.pages x y z=true) (h2:N.pageAt x y z=none) {b:Bool} (hb:(decide (n<0)||decide (n>=32))=b):N.fault 5 x y z n xx=(!b,N):=by
 subst hb;rw[a7h h,h2]
 by_cases h3:n<0\/32<=n
 ·rw[d8 h3];simp;omega
 ·rw[d6 h3];simp;omega
theorem a8R {N:Nand} {x y z n xx:Int} {c:NCell} (h:V8 N.dies N.blocks N.pages x y z=true) (h2:N.pageAt x y z=some c) (hb:(decide (n<0)||decide (n>=32)||(true&&c.turned))=true):N.fault 5 x y z n xx=(false,N):=by
 rw[a7h h,h2]
 by_cases h3:n<0\/32<=n
 ·rw[d8 h3]
 ·rw[d6 h3];simp only[j6,d5,q9]at hb;rcases hb with hb | hb
  ·omega
  ·simp only;rw[d8 hb]
theorem b0f {c:NCell} (h:c.p.length=32):c.vals=c.p.map bv++[.bool c.lost, .bool c.turned]:=by
 rw[<- V6 c.p h];rfl
theorem b5S {c:NCell} (h:c.p.length=32) {e:Nat} (he:e<32):c.vals[e]? =some (bv (c.p.getD e 0)):=by
 rw[b0f h,D8 (by simpa[h]using he)];simp[h,he]
theorem b5I (b:UInt8) (xx:Int):IntKind.u8.wrap ((BitVec.ofInt IntKind.u8.bits (b.toNat:Int) ^^^ BitVec.ofInt IntKind.u8.bits (IntKind.u8.wrap xx)).toNat:Int)=((b ^^^ UInt8.ofNat (xx % 256).toNat).toNat:Int):=by
 have h0:IntKind.u8.wrap xx=xx % 256:=by simp[IntKind.wrap,IntKind.bits,IntKind.signed]
 obtain⟨m,hm⟩:∃m:Nat,xx % 256=m:=⟨(xx % 256).toNat,by omega⟩;have hm2:m<256:=by omega
 rw[h0,hm];simp only[j4];have e1:(BitVec.ofInt IntKind.u8.bits (b.toNat:Int) ^^^ BitVec.ofInt IntKind.u8.bits (m:Int)).toNat=b.toNat ^^^ m:=by
  rw[BitVec.toNat_xor];have:=b.toNat_lt;show(BitVec.ofInt 8 (b.toNat:Int)).toNat ^^^ (BitVec.ofInt 8 (m:Int)).toNat=_;rw[a4l,a4l,a5H,a5H,K4 this,K4 hm2]
 have e2:(b ^^^ UInt8.ofNat m).toNat=b.toNat ^^^ m:=by
  rw[UInt8.toNat_xor,a5B,K4 hm2]
 rw[e1,e2];have hx:b.toNat ^^^ m<256:=X4 (n:=8) b.toNat_lt hm2;have:IntKind.u8.wrap ((b.toNat ^^^ m:Nat):Int)=((b.toNat ^^^ m:Nat):Int) % 256:=by simp[IntKind.wrap,IntKind.bits,IntKind.signed]
 rw[this];omega
theorem a4c (p:Nat) (N:Nand) (hN:N.Ok) (at_ kind x y z n xx:Int):FP 13 [pp p, .agg #[iI at_,iI kind,iI x,iI y,iI z,iI n,iI xx]] [B8 p N]
  (λv As=>v= .bool (N.fault kind x y z n xx).1/\As=[B8 p (N.fault kind x y z n xx).2]):=by
 have hbd:=hN.bd;refine FE [2,0] Tryz.func13 λX F hX=>?_;refine J.o (α:=NLoc) 1 λY=>?_;refine J.pq (.of [0,4,8,12,16,20,25,28,33,38,40,44]) [] [1,2,3,4,5,6] λ_ _=>?_;refine J.ca hX (by kernel_rfl) (b2c _ _ _ x y z (by omega) (by omega) (by omega)) [] 0 rfl rfl rfl rfl rfl rfl (λ_=>rfl) ?_;refine cpq ⟨_,rfl,⟨rfl,rfl,rfl,rfl,rfl,rfl,trivial⟩,?_⟩;refine J.qd (λ_ h=>?_) λ_ h=>?_
 ·simp only[D2,i4]at h;refine J.q λ_=>?_;refine J.cl (a0y p N) (Y) [1,2,3,4,5] ?_;refine J.qr [1] λ_=>?_;exact⟨by simp[Nand.fault,h],by simp[Nand.fault,h];rfl⟩
 simp only[D2,A9]at h;have hr:0<=x/\x<N.dies/\0<=y/\y<N.blocks/\0<=z/\z<N.pages:=by simp[V8]at h;omega
 obtain⟨i,rfl⟩:=f9 hr.1;obtain⟨j,rfl⟩:=f9 hr.2.2.1;obtain⟨k,rfl⟩:=f9 hr.2.2.2.2.1;have hi:i<N.dies:=by omega
 have hj:j<N.blocks:=by omega
 have hlen:=(hN.cells i j hi hj).1;refine J.openAt 5 (i*N.blocks+j) rfl rfl (a1d _ _ _ _ _ (a7Y hi hj)) rfl ?_;rw[(a0j hj).1,(a0j hj).2];refine J.o (α:=(Option Nat×Nat)) 7 λc=>?_;refine J.p (.of [0,4,8,13,16,20,25,28,32,37,42,45,48]) [12] [1,2,3,4,5,6,7,8] λ_=>?_;refine J.qp (a2A i j) [] λ_=>?_;refine J.valT hX (pp (Y.bp (i*N.blocks+j))) 8 rfl rfl (λ_ a w he hC=>?_) rfl ?_
 ·refine(I5 (key:=((i:Int),(j:Int),0)) a0T a3k (z:= .pointer none) (λw=>by kernel_rfl) rfl rfl rfl rfl he rfl rfl (hC rfl _ (B6 (i:=2) rfl))).trans ?_;simp only[a1r hi hj];rfl
 refine J.p (.of [0,4,9,12,16,20,25,28,32,36]) [9] [1,2,3,4,5,6,7,8] λ_=>?_;refine J.qd (λ_ h1=>?_) λ_ h1=>?_
 ·simp only[A4]at h1;subst h1;refine J.p (.of [0,4,8,13,16,21,26]) [] [1,2,4,5,6,7,8] λ_=>?_;refine J.qp (c1P Y.q N.plan i j k) [3] λ_=>?_;refine J.q λ_=>?_;refine J.closeN p N ({N with plan:=b5F N.plan ((i:Int),(j:Int),(k:Int))}) Y i j hj (N.blk i j) _ [1,2,3,4,5,7,8] rfl rfl rfl rfl (V9 _ _ _) rfl ?_;refine J.qr [1] λ_=>?_;rw[b9R h];exact⟨rfl,rfl⟩
 simp only[l8,H5]at h1;refine J.qd (λ_ h2=>?_) λ_ h2=>?_
 ·simp only[A4]at h2;subst h2;refine J.q λ_=>?_;refine J.closeN p N (N.setBlk i j {N.blk i j with fails:=true}) Y i j hj ({N.blk i j with fails:=true}) _ [1,2,3,4,5,7,8] rfl rfl rfl rfl (rfl) rfl ?_;refine J.qr [1] λ_=>?_;rw[b9Q h];exact⟨rfl,rfl⟩
 simp only[l8,H5]at h2;refine J.qd (λ_ h3=>?_) λ_ h3=>?_
 ·simp only[A4]at h3;subst h3;refine J.qd (λ_ h5=>?_) λ_ h5=>?_
  ·simp only[d5,i5]at h5;refine J.know (λh' s=>D1 (by omega) (s.get (i:=8) rfl)) λhg=>?_;obtain⟨g,hg⟩:=hg;obtain⟨c1,c2⟩:=c;simp only at hg;subst hg;refine J.openOwn 8 rfl rfl (λ_=>rfl) λr q1 q2 q3 q4=>?_;obtain⟨cl,hcl⟩:∃cl,(N.blk i j).cells[k]? =some cl:=⟨_,c9 h5⟩;refine J.pq (.of [0,4,8,13,16,20,25,28,32,39]) [7,8,9] [1,2,3,4,5,6,7] λ_ _=>?_;refine J.s1 8 (O6 ((N.blk i j).cells.modify k λc=>{c with lost:=true})++r) ?_ ?_ ?_
   ·rw[f8,I6];show 0+(k:Int).toNat*34+32<_;simp only[j4];omega
   ·rw[show 0+(k:Int).toNat*34+32=k*34+32 from by simp,P7 _ _ (by rw[I6];omega)];rw[a1T _ k 32 _ (λc=>{c with lost:=true}) cl hcl (by omega) rfl]
   refine J.closeOwn (e:=112) (size:=34) (n:=(N.blk i j).cells.length) (cap:=c2) (xs:=O6 ((N.blk i j).cells.modify k λc=>{c with lost:=true})) 8 rfl rfl (by rw[I6,O1]) q2 q3 (by rw[f8,I6,O1];rw[I6]at q4;exact q4) (by rw[D6 (by rw[I6,O1])]) rfl ?_;rw[show(N.blk i j).cells.length=((N.blk i j).cells.modify k λc=>{c with lost:=true}).length from by rw[O1]];refine J.q λ_=>?_;refine J.closeN p N (N.setCell i j k λc=>{c with lost:=true}) Y i j hj ({N.blk i j with cells:=(N.blk i j).cells.modify k λc=>{c with lost:=true}}) (some g,c2) [1,2,3,4,5,7,8] rfl rfl rfl rfl (rfl) rfl ?_;refine J.qr [1] λ_=>?_;rw[b3Y h];exact⟨rfl,rfl⟩
  ·simp only[c8,i5,Nat.not_lt]at h5;refine J.q λ_=>?_;refine J.closeN p N (N.setCell i j k λc=>{c with lost:=true}) Y i j hj (N.blk i j) _ [1,2,3,4,5,7,8] rfl rfl rfl rfl ((by simp only[Nand.setCell,Nand.setBlk,j4];rw[b1G h5])) rfl ?_;refine J.qr [1] λ_=>?_;rw[b3Y h];exact⟨rfl,rfl⟩
 simp only[l8,H5]at h3;refine J.qd (λ_ h4=>?_) λ_ h4=>?_
 ·simp only[A4]at h4;subst h4;refine J.pq (.of [0,4,8,13,16,20,25,28,35]) [7,8] [1,2,3,5,6,7,8] λ_ _=>?_;refine J.s1 4 ((N.dead.set i true).map Value.bool) ?_ ?_ ?_
  ·rw[l7,hN.dead];show 0+(i:Int).toNat*1<_;omega
  ·rw[show 0+(i:Int).toNat*1=i from by omega,L7]
  refine J.q λ_=>?_;refine J.closeN p N ({N with dead:=N.dead.set i true}) Y i j hj (N.blk i j) _ [1,2,3,4,5,7,8] rfl rfl rfl rfl (V9 _ _ _) rfl ?_;refine J.qr [1] λ_=>?_;rw[b9P h];exact⟨rfl,rfl⟩
 simp only[l8,H5]at h4;refine J.qd (λ_ h6=>?_) λ_ h6=>?_
 ·simp only[A4]at h6;subst h6
  by_cases h5:k<(N.blk i j).cells.length
  ·rw[show decide ((k:Int)<((N.blk i j).cells.length:Int))=true from i6 (by omega)];refine J.know (λh' s=>D1 (by omega) (s.get (i:=8) rfl)) λhg=>?_;obtain⟨g,hg⟩:=hg;obtain⟨c1,c2⟩:=c;simp only at hg;subst hg;refine J.openOwn 8 rfl rfl (λ_=>rfl) λr q1 q2 q3 q4=>?_;obtain⟨cl,hcl⟩:∃cl,(N.blk i j).cells[k]? =some cl:=⟨_,c9 h5⟩;refine J.pq (.of [0,5,8,12,16,21,24,28,32,36,40,44,48,52,57,60,64,69,72,76,81,84,88]) [] [1,2,3,4,5,6,7,8] λ_ _=>?_;have hpa:N.pageAt i j k=some cl:=by simp only[Nand.pageAt,j4];exact hcl
   have hoff:∀e,e<34->(O6 (N.blk i j).cells++r)[k*34+e]? =cl.vals[e]?:=λe he=>by
    rw[D8 (by rw[I6];omega)];exact a6H hcl he
   refine J.vT (.bool cl.turned) rfl rfl (λhg a w he hC=>?_) ?_
   ·exact D4 tk rfl rfl he hg rfl rfl (hC rfl _ (B6 (i:=8) rfl)) (by rw[show 0+((k:Int)).toNat*34+33=k*34+33 from by simp];exact hoff 33 (by omega))
   refine J.qd (λ_ h7=>?_) λ_ h7=>?_
   ·refine J.closeOwn (e:=112) (size:=34) (n:=(N.blk i j).cells.length) (cap:=c2) (xs:=O6 (N.blk i j).cells) 8 rfl rfl q1 q2 q3 (by rw[f8];exact q4) (by rw[D6 q1]) rfl ?_;refine J.q λ_=>?_;refine J.closeN p N (N) Y i j hj (N.blk i j) (some g,c2) [1,2,3,4,5,7,8] rfl rfl rfl rfl (V9 _ _ _) rfl ?_;refine J.qr [1] λ_=>?_;rw[a8R h hpa h7];exact⟨rfl,rfl⟩
   refine J.pq (.of [0,4,8,12,16,21,24,28,33,36,40,45,48,52]) [] [1,2,3,4,5,6,7,8] λ_ _=>?_;refine J.vT (.bool cl.lost) rfl rfl (λhg a w he hC=>?_) ?_
   ·exact D4 tk rfl rfl he hg rfl rfl (hC rfl _ (B6 (i:=8) rfl)) (by rw[show 0+((k:Int)).toNat*34+32=k*34+32 from by simp];exact hoff 32 (by omega))
   refine J.qd (λ_ h8=>?_) λ_ h8=>?_
   ·have hn:0<=n/\n<32:=by
     simp only[E5,c8]at h7;omega
    obtain⟨e,rfl⟩:=f9 hn.1;have he32:e<32:=by omega
    have hp32:cl.p.length=32:=(hN.cells i j hi hj).2 cl (j8 hcl);refine J.pn 14 (.of [0,4,8,13,16,20,25,28,33,36,40,44,52,57,60,68,72,50,64,76,82]) [] [1,2,3,4,5,6,7] λ_ _=>?_;refine J.vT (.int .u8 (IntKind.u8.wrap xx)) rfl rfl (λhg a w he hC=>?_) ?_
    ·exact Y9 tk rfl rfl he rfl rfl rfl
    refine J.q λ_=>?_;refine J.val hX (bv (cl.p.getD e 0)) 0 rfl rfl (λhg a w he hs=>?_) rfl ⟨rfl,rfl,rfl,rfl,rfl,rfl,rfl,trivial⟩ ?_
    ·exact D4 tk rfl rfl he hg rfl rfl (hs.get (i:=8) rfl) (by rw[show 0+((k:Int)).toNat*34+0+((e:Int)).toNat*1=k*34+e from by simp,hoff e (by omega)];exact b5S hp32 he32)
    refine J.q λ_=>?_;have hlen':(O6 (N.blk i j).cells++r).length=c2*34:=by rw[f8];exact q4
    have hnl:k*34+34<=(N.blk i j).cells.length*34:=by omega
    refine J.s1 8 (O6 ((N.blk i j).cells.modify k λc=>{c with p:=Nand.xorAt c.p e (UInt8.ofNat (xx % 256).toNat)})++r) ?_ ?_ ?_
    ·rw[f8,I6];show 0+(k:Int).toNat*34+0+(e:Int).toNat*1<_;simp only[j4];omega
    ·rw[show 0+(k:Int).toNat*34+0+(e:Int).toNat*1=k*34+e from by simp,P7 _ _ (by rw[I6];omega)];rw[a1T _ k e _ (λc=>{c with p:=Nand.xorAt c.p e (UInt8.ofNat (xx % 256).toNat)}) cl hcl (by omega) ?_];rw[b5I,b0f hp32,b0f (by simp[Nand.xorAt,hp32]),P7 _ _ (by simpa[hp32]using he32)];congr 1;exact(L7 (f:=bv)).symm
    refine J.pq (.of [0,4,8,13,16,20,25,28,32,39]) [7,8,9] [1,2,3,4,5,6,7] λ_ _=>?_;refine J.s1 8 (O6 ((N.blk i j).cells.modify k λc=>{c with p:=Nand.xorAt c.p e (UInt8.ofNat (xx % 256).toNat),turned:=true})++r) ?_ ?_ ?_
    ·rw[f8,I6,O1];show 0+(k:Int).toNat*34+33<_;simp only[j4];omega
    ·rw[show 0+(k:Int).toNat*34+33=k*34+33 from by simp,P7 _ _ (by rw[I6,O1];omega)];rw[a1T _ k 33 _ (λc=>{c with turned:=true}) _ (by rw[List.getElem?_modify_eq,hcl];rfl) (by omega) rfl,List.modify_modify_eq];rfl
    refine J.closeOwn (e:=112) (size:=34) (n:=(N.blk i j).cells.length) (cap:=c2) (xs:=O6 ((N.blk i j).cells.modify k λc=>{c with p:=Nand.xorAt c.p e (UInt8.ofNat (xx % 256).toNat),turned:=true})) 8 rfl rfl (by rw[I6,O1]) q2 q3 (by rw[f8,I6,O1];rw[I6]at q4;exact q4) (by rw[D6 (by rw[I6,O1])]) rfl ?_;rw[show(N.blk i j).cells.length=((N.blk i j).cells.modify k λc=>{c with p:=Nand.xorAt c.p e (UInt8.ofNat (xx % 256).toNat),turned:=true}).length from by rw[O1]];refine J.q λ_=>?_;refine J.closeN p N (N.setCell i j k λc=>{c with p:=Nand.xorAt c.p e (UInt8.ofNat (xx % 256).toNat),turned:=true}) Y i j hj ({N.blk i j with cells:=(N.blk i j).cells.modify k λc=>{c with p:=Nand.xorAt c.p e (UInt8.ofNat (xx % 256).toNat),turned:=true}}) (some g,c2) [1,2,3,4,5,7,8] rfl rfl rfl rfl (rfl) rfl ?_;refine J.qr [1] λ_=>?_;rw[a7h h,hpa];simp only[E5,q9]at h7;simp only[q9,i4]at h8;rw[d6 (by omega)];simp only[h7.2,h8,H2,W0];exact⟨trivial,rfl⟩
   ·refine J.closeOwn (e:=112) (size:=34) (n:=(N.blk i j).cells.length) (cap:=c2) (xs:=O6 (N.blk i j).cells) 8 rfl rfl q1 q2 q3 (by rw[f8];exact q4) (by rw[D6 q1]) rfl ?_;refine J.q λ_=>?_;refine J.closeN p N (N) Y i j hj (N.blk i j) (some g,c2) [1,2,3,4,5,7,8] rfl rfl rfl rfl (V9 _ _ _) rfl ?_;refine J.qr [1] λ_=>?_;rw[a7h h,hpa];simp only[E5,q9,c8]at h7;simp only[q9,A9]at h8;rw[d6 (by omega)];simp only[h7.2,h8,H2,W0,X7];exact⟨trivial,rfl⟩
  ·rw[show decide ((k:Int)<((N.blk i j).cells.length:Int))=false from n8 (by omega)];refine J.pn 18 (.of [0,5,8,12,16,21,24,28,32,36,40,44,48,52,57,60,64,69,72,76,81,84,88]) [] [1,2,3,4,5,6,7,8] λ_ _=>?_;have hpa:N.pageAt i j k=none:=by simp only[Nand.pageAt,j4];exact j5 (by omega)
   refine J.vT (pp 0) rfl rfl (λhg a w he hC=>by simp[G.on]at hg) ?_;refine J.q λ_=>?_;refine J.vT (.bool false) rfl rfl (λhg a w he hC=>by simp[G.on]at hg) ?_;refine J.qd (λ_ h7=>?_) λ_ h7=>?_
   ·refine J.q λ_=>?_;refine J.closeN p N (N) Y i j hj (N.blk i j) _ [1,2,3,4,5,7,8] rfl rfl rfl rfl (V9 _ _ _) rfl ?_;refine J.qr [1] λ_=>?_;rw[a6E h hpa (b:=true) (by simpa using h7)];exact⟨rfl,rfl⟩
   refine J.pn 9 (.of [0,4,8,12,16,21,24,28,33,36,40,45,48,52]) [] [1,2,3,4,5,6,7,8] λ_ _=>?_;refine J.vT (pp 0) rfl rfl (λhg a w he hC=>by simp[G.on]at hg) ?_;refine J.q λ_=>?_;refine J.vT (.bool false) rfl rfl (λhg a w he hC=>by simp[G.on]at hg) ?_;refine J.qF λ_=>?_;refine J.q λ_=>?_;refine J.closeN p N (N) Y i j hj (N.blk i j) _ [1,2,3,4,5,7,8] rfl rfl rfl rfl (V9 _ _ _) rfl ?_;refine J.qr [1] λ_=>?_;rw[a6E h hpa (b:=false) (by simpa using h7)];exact⟨rfl,rfl⟩
 simp only[l8,H5]at h6;refine J.q λ_=>?_;refine J.closeN p N (N) Y i j hj (N.blk i j) _ [1,2,3,4,5,7,8] rfl rfl rfl rfl (V9 _ _ _) rfl ?_;refine J.qr [1] λ_=>?_;rw[b8a h1 h2 h3 h4 h6];exact⟨rfl,rfl⟩
def B0:NBlock:=⟨[],0,false,false⟩
def c1E (d b p:Nat) (x:Nat×Nat×Nat×Nat):List Value:=
 [iI d,iI b,iI p, .map (some x.2.1),pp x.2.2.1, .slice (some ⟨x.2.2.2,0,none⟩) d d, .bool false,iI 0,iI 0, .bool false,iI 0,iI 0]
theorem b0a {k:A3} {v:Value}:∀{l:List (A3×Value)},(∀x∈l,x.1≠k)->a1u l k v=l++[(k,v)]
 | [],_=>rfl
 | x::l,h=>by
  have h1:=h x (by simp);simp only[a1u,d6 (Ne.symm h1),b0a (l:=l) (λy hy=>h y (by simp[hy])),U6]
def upd (bp:Nat->Nat) (n v:Nat):Nat->Nat:=λk=>if k=n then v else bp k
theorem b5A (nb n:Nat) (bp:Nat->Nat) (v:Nat):a3T nb (n+1) (upd bp n v)=a3T nb n bp++[((((n/nb:Nat):Int),((n % nb:Nat):Int),0),pp v)]:=by
 unfold a3T;rw[s9,t7];congr 1
 ·apply W1;intro k hk;have:k≠n:=by have:=List.mem_range.1 hk;omega
  simp[upd,this]
 ·simp[upd]
theorem a8z (nb n:Nat) (bp:Nat->Nat) (v:Nat):a0F nb (n+1) (upd bp n v) (λ_ _=>B0)=a0F nb n bp (λ_ _=>B0)++[a8U v B0]:=by
 unfold a0F;rw[s9,t7];congr 1
 ·apply W1;intro k hk;have:k≠n:=by have:=List.mem_range.1 hk;omega
  simp[upd,this]
 ·simp[upd]
theorem a9Z {nb j:Nat} (i:Nat) (hj:j<nb) (bp:Nat->Nat) (v:Nat):a1u (a3T nb (i*nb+j) bp) ((i:Int),(j:Int),0) (pp v)=a3T nb (i*nb+j+1) (upd bp (i*nb+j) v):=by
 rw[b5A,(a0j hj).1,(a0j hj).2,b0a];intro x hx;simp only[a3T,P9,J5]at hx;obtain⟨k,hk,rfl⟩:=hx;intro e;simp only[C4,a4s,and_true]at e;have h1:=a4r k nb;rw[e.1,e.2,O0]at h1;omega
theorem b2p {BL:List Atom} {v:Nat} {h:Hl} (s:Sep [.hp (HP.of BL), .pt v 107 [.slice none 0 0,iI 0, .bool false, .bool false]] h):Sep [.hp (HP.of (BL++[a8U v B0]))] h:=by
 have s1:Sep [.hp (HP.of BL),a8U v B0] h:=s.turn1 [1] rfl (As:=[a8U v B0]) (λh' s'=>Sep.one ⟨(none,0),by
  refine⟨λ_=>0,λi A hA=>?_⟩
  match i,hA with
  | 0,hA=>simp at hA;subst hA;exact Atom.up (A:= .pt v 107 [.slice none 0 0,iI 0, .bool false, .bool false]) (λb o hb=>res_some.2 ⟨rfl,hb⟩) (s'.get (i:=0) rfl)
  | 1,hA=>simp at hA;subst hA;exact⟨rfl,rfl,rfl⟩
  | k+2,hA=>simp at hA⟩)
 exact Sep.hpOf.2 s1.flat
theorem a7R (d b p:Nat) (hg:O8 d b p=true):FP 35 [.agg #[iI d,iI b,iI p]] [] (λv As=>∃q,v=pp q/\As=[B8 q (Nand.new d b p)]):=by
 have hbd:(3<=d/\d<=6)/\(8<=b/\b<=16)/\(2<=p/\p<=8):=by simp[O8]at hg;omega
 refine FE [0] Tryz.func35 λX F hX=>?_;refine J.q λg1=>?_;refine J.cb (a6F d b p) [] ?_;refine cpq ⟨_,rfl,trivial,?_⟩;rw[hg];refine J.qF λ_=>?_;refine J.p (.take false 0 (.take true 3 (.take false 4 (.alt false 1 ((.alt false 2 ((.of [22,24,30,32])) (.alt false 5 ((.of [10,24,30,32])) .non))) (.alt false 2 ((.alt false 1 ((.of [22,24,30,32])) (.alt false 5 ((.of [6,24,30,32])) .non))) (.alt false 5 ((.alt false 1 ((.of [10,24,30,32])) (.alt false 2 ((.of [6,24,30,32])) .non))) .non)))))) [8] [1] λ_=>?_;refine J.join (α:=Nat×Nat×Nat×Nat) (λx=>[⟨3,pp x.1,3, .tt⟩,⟨1,pp (g1 0),2, .tt⟩]) (λx=>[.hp F, .pt (g1 0) 23 [iI d,iI b,iI p], .pt x.1 92 (c1E d b p x), .ob x.2.1 (.map #[] 0),a1z x.2.2.1 [], .pt x.2.2.2 4 (List.replicate d (.bool false))]) (λhj=>?_) (λx=>?_)
 ·refine J.qn 3 λ_=>?_;refine J.alts ?_ (J.alts ?_ ?_)
  ·skip
   refine J.qn 1 λmm=>?_;refine J.alts ?_ ?_
   ·skip
    refine J.qc (b1q) [] λ_=>?_;rintro v As ⟨q,rfl,rfl⟩;refine⟨_,rfl,⟨rfl,trivial⟩,?_⟩;refine J.makeSlice hX tk 5 rfl rfl rfl rfl rfl rfl rfl rfl rfl rfl ?_ ?_ (λ_=>rfl) (λ_=>rfl) λdd=>⟨⟨rfl,trivial⟩,?_⟩
    ·simp only[maxLen];omega
    ·omega
    refine J.qn 4 λnn=>?_;exact J.goto [0,1,5,2,3,4] (hj (nn 0,mm 0,q,dd)) ⟨rfl,rfl,trivial⟩ rfl rfl
   ·skip
    refine J.makeSlice hX tk 4 rfl rfl rfl rfl rfl rfl rfl rfl rfl rfl ?_ ?_ (λ_=>rfl) (λ_=>rfl) λdd=>⟨⟨rfl,trivial⟩,?_⟩
    ·simp only[maxLen];omega
    ·omega
    refine J.qc (b1q) [] λ_=>?_;rintro v As ⟨q,rfl,rfl⟩;refine⟨_,rfl,⟨rfl,trivial⟩,?_⟩;refine J.qn 4 λnn=>?_;exact J.goto [0,1,5,2,4,3] (hj (nn 0,mm 0,q,dd)) ⟨rfl,rfl,trivial⟩ rfl rfl
  ·skip
   refine J.qc (b1q) [] λ_=>?_;rintro v As ⟨q,rfl,rfl⟩;refine⟨_,rfl,⟨rfl,trivial⟩,?_⟩;refine J.alts ?_ ?_
   ·skip
    refine J.qn 1 λmm=>?_;refine J.makeSlice hX tk 5 rfl rfl rfl rfl rfl rfl rfl rfl rfl rfl ?_ ?_ (λ_=>rfl) (λ_=>rfl) λdd=>⟨⟨rfl,trivial⟩,?_⟩
    ·simp only[maxLen];omega
    ·omega
    refine J.qn 4 λnn=>?_;exact J.goto [0,1,5,3,2,4] (hj (nn 0,mm 0,q,dd)) ⟨rfl,rfl,trivial⟩ rfl rfl
   ·skip
    refine J.makeSlice hX tk 4 rfl rfl rfl rfl rfl rfl rfl rfl rfl rfl ?_ ?_ (λ_=>rfl) (λ_=>rfl) λdd=>⟨⟨rfl,trivial⟩,?_⟩
    ·simp only[maxLen];omega
    ·omega
    refine J.qn 1 λmm=>?_;refine J.qn 4 λnn=>?_;exact J.goto [0,1,5,4,2,3] (hj (nn 0,mm 0,q,dd)) ⟨rfl,rfl,trivial⟩ rfl rfl
  ·skip
   refine J.makeSlice hX tk 3 rfl rfl rfl rfl rfl rfl rfl rfl rfl rfl ?_ ?_ (λ_=>rfl) (λ_=>rfl) λdd=>⟨⟨rfl,trivial⟩,?_⟩
   ·simp only[maxLen];omega
   ·omega
   refine J.alts ?_ ?_
   ·skip
    refine J.qn 1 λmm=>?_;refine J.qc (b1q) [] λ_=>?_;rintro v As ⟨q,rfl,rfl⟩;refine⟨_,rfl,⟨rfl,trivial⟩,?_⟩;refine J.qn 4 λnn=>?_;exact J.goto [0,1,5,3,4,2] (hj (nn 0,mm 0,q,dd)) ⟨rfl,rfl,trivial⟩ rfl rfl
   ·skip
    refine J.qc (b1q) [] λ_=>?_;rintro v As ⟨q,rfl,rfl⟩;refine⟨_,rfl,⟨rfl,trivial⟩,?_⟩;refine J.qn 1 λmm=>?_;refine J.qn 4 λnn=>?_;exact J.goto [0,1,5,4,3,2] (hj (nn 0,mm 0,q,dd)) ⟨rfl,rfl,trivial⟩ rfl rfl
 obtain⟨q0,r,q,dd⟩:=x;refine J.turn1 [3] rfl (As:=[U8 r a3v (a3T b (0*b) λ_=>0), .hp (HP.of (a0F b (0*b) (λ_=>0) λ_ _=>B0))]) (λh s=>?_) rfl ?_
 ·rw[P8];refine⟨λ_=>0,λi A hA=>?_⟩
  match i,hA with
  | 0,hA=>simp at hA;subst hA;exact⟨#[],0,res_some.2 ⟨rfl,s.get (i:=0) rfl⟩,rfl,by simp,by simp⟩
  | 1,hA=>simp at hA;subst hA;exact Sep.nil _
  | k+2,hA=>simp at hA
 refine J.q λ_=>?_;refine J.l (α:=(Nat×(Nat->Nat))) (λx=>x.1<=d) (λx=>[si 19 x.1,si 18 d,⟨3,pp q0,3, .tt⟩,⟨1,pp (g1 0),2, .tt⟩]) [3,6] (λx=>[U8 r a3v (a3T b (x.1*b) x.2), .hp (HP.of (a0F b (x.1*b) x.2 λ_ _=>B0))]) (λx=>d-x.1) ((0,λ_=>0)) (j7 _) λx hI=>?_;obtain⟨i,bp⟩:=x;dsimp only at hI ⊢;refine J.qd (λ_ h1=>?_) λ_ h1=>?_
 ·simp only[d5,i5]at h1;refine J.q λ_=>?_;refine J.l (α:=(Nat×(Nat->Nat))) (λy=>y.1<=b) (λy=>[si 24 y.1,si 23 b,si 4 i,si 19 i,si 18 d,⟨3,pp q0,3, .tt⟩,⟨1,pp (g1 0),2, .tt⟩]) [3,6] (λy=>[U8 r a3v (a3T b (i*b+y.1) y.2), .hp (HP.of (a0F b (i*b+y.1) y.2 λ_ _=>B0))]) (λy=>b-y.1) ((0,bp)) (j7 _) λy hI=>?_;obtain⟨j,bp'⟩:=y;dsimp only at hI ⊢;refine J.qd (λ_ h2=>?_) λ_ h2=>?_
  ·simp only[d5,i5]at h2;refine J.pq (.take true 0 (.take true 1 (.take true 2 (.take false 3 (.take true 4 (.take true 5 (.take true 7 (.alt false 6 ((.of [34,39])) (.alt false 8 ((.of [26,39])) .non))))))))) [9] [1,2] λ_ _=>?_;refine J.alts ?_ ?_
   ·refine J.qp (a2A i j) [] λ_=>?_;refine J.q λbb=>?_;refine J.mapUpdate hX a0T a3k ((i:Int),(j:Int),0) 3 rfl rfl rfl rfl rfl rfl rfl rfl rfl rfl rfl rfl (λ_=>rfl) (by rw[a9Z i h2];rfl) ⟨trivial,?_⟩;refine J.turn1 [6,7] rfl (As:=[.hp (HP.of (a0F b (i*b+j+1) (upd bp' (i*b+j) (bb 0)) λ_ _=>B0))]) (λh s=>by rw[a8z];exact b2p s) rfl ?_;refine J.q λ_=>?_;refine J.n ((j+1,upd bp' (i*b+j) (bb 0))) (by dsimp only;omega) (by dsimp only;omega) [0,1,2,3,4,5,6]
   ·refine J.q λbb=>?_;refine J.cb (a2A i j) [] ?_;refine cpq ⟨_,rfl,⟨rfl,rfl,trivial⟩,?_⟩;refine J.mapUpdate hX a0T a3k ((i:Int),(j:Int),0) 3 rfl rfl rfl rfl rfl rfl rfl rfl rfl rfl rfl rfl (λ_=>rfl) (by rw[a9Z i h2];rfl) ⟨trivial,?_⟩;refine J.turn1 [6,7] rfl (As:=[.hp (HP.of (a0F b (i*b+j+1) (upd bp' (i*b+j) (bb 0)) λ_ _=>B0))]) (λh s=>by rw[a8z];exact b2p s) rfl ?_;refine J.q λ_=>?_;refine J.n ((j+1,upd bp' (i*b+j) (bb 0))) (by dsimp only;omega) (by dsimp only;omega) [0,1,2,3,4,5,6]
  ·simp only[c8,i5]at h2;obtain rfl:j=b:=by omega
   rw[show i*j+j=(i+1)*j from(K6 i j).symm];refine J.q λ_=>?_;refine J.n ((i+1,bp')) (by dsimp only;omega) (by dsimp only;omega) [0,1,2,3,4,5,6]
 ·simp only[c8,i5]at h1;obtain rfl:i=d:=by omega
  refine J.close (f:=a0y q0 (Nand.new i b p)) ⟨r,q,dd,bp⟩ [2,3,4,5,6] rfl (by simp only[a0y,Nand.new,a2o];rfl) rfl ?_;refine J.qr [2] λ_=>?_;exact⟨q0,rfl,rfl⟩
def Q9 (x y:Int):Int:=if x<y then-1 else if x>y then 1 else 0
theorem b0W (x:Int):FP 194 [iI x] [] (λv As=>v= .bool false/\As=[]):=by
 refine FE [] Tryz.func194 λX F hX=>?_;refine J.qr [] λ_=>?_;exact⟨by simp,rfl⟩
theorem a1c (x y:Int):FP 135 [iI x,iI y] [] (λv As=>v=iI (Q9 x y)/\As=[]):=by
 refine FE [] Tryz.func135 λX F hX=>?_;refine J.qp (b0W x) [] λ_=>?_;refine J.qp (b0W y) [] λ_=>?_;refine J.qF λ_=>?_;refine J.qF λ_=>?_;refine J.qd (λ_ h1=>?_) λ_ h1=>?_
 ·refine J.qr [] λ_=>?_;simp only[d5]at h1;exact⟨by simp[Q9,h1],rfl⟩
 simp only[c8]at h1;refine J.qd (λ_ h2=>?_) λ_ h2=>?_
 ·refine J.qr [] λ_=>?_;simp only[d5]at h2;exact⟨by rw[Q9,d6 h1,d8 h2],rfl⟩
 refine J.qr [] λ_=>?_;simp only[c8]at h2;exact⟨by rw[Q9,d6 h1,d6 h2],rfl⟩
def orI (l:List Int):Int:=match l with
 | []=>0
 | x::r=>if x≠0 then x else orI r
theorem c2t (b:Nat) (x y z:Int):FP 185 [.slice (some ⟨b,0,none⟩) 3 3] [.pt b 3 [iI x,iI y,iI z]] (λv As=>v=iI (orI [x,y,z])/\As=[.pt b 3 [iI x,iI y,iI z]]):=by
 refine FE [2] Tryz.func185 λX F hX=>?_;refine J.q λ_=>?_;refine J.l (α:=Nat) (λk=>k<=3/\orI ([x,y,z].drop k)=orI [x,y,z]) (λk=>[si 8 k,si 7 3,⟨6, .slice (some ⟨b,0,none⟩) 3 3,2, .tt⟩,si 3 0]) [] (λk=>[]) (λk=>3-k) (0) (⟨by omega,rfl⟩) λk hI=>?_;refine J.qd (λ_ h1=>?_) λ_ h1=>?_
 ·simp only[d5]at h1;obtain⟨v,hv⟩:∃v,([x,y,z]:List Int)[k]? =some v:=⟨_,c9 (by simp;omega)⟩;have hd:([x,y,z]:List Int).drop k=v::([x,y,z]:List Int).drop (k+1):=by
   obtain⟨h2,h3⟩:=List.getElem?_eq_some_iff.1 hv;rw[t6 h2,h3]
  refine J.q λ_=>?_;refine J.v (iI v) rfl rfl (λhg a w he hs=>?_) ?_
  ·exact D4 tk rfl rfl he rfl rfl rfl (hs.get (i:=1) rfl) (by
    rw[show 0+(k:Int).toNat*1=k from by omega,show([iI x,iI y,iI z]:List Value)=([x,y,z]:List Int).map (.int .i64)from rfl,i9,hv];rfl)
  refine J.qd (λ_ h2=>?_) λ_ h2=>?_
  ·simp only[E6,H5]at h2;refine J.qr [1] λ_=>?_;refine⟨?_,rfl⟩;rw[<- hI.2,hd];simp[orI,h2]
  ·simp only[z7]at h2;refine J.q λ_=>?_;refine J.nx (k+1) (⟨by omega,by rw[<- hI.2,hd,orI,d6 (by simp[h2])]⟩) (by omega) (λ_ s=>s)
 ·simp only[c8]at h1;refine J.qr [1] λ_=>?_;refine⟨?_,rfl⟩;rw[<- hI.2,E7 (by simp;omega)];rfl
abbrev a1v (x:A3):Value:= .agg #[iI x.1,iI x.2.1,iI x.2.2]
def a6Q (x y:A3):Int:=orI [Q9 x.1 y.1,Q9 x.2.1 y.2.1,Q9 x.2.2 y.2.2]
theorem b3z (x y:A3):FP 266 [a1v x,a1v y] [] (λv As=>v=iI (a6Q x y)/\As=[]):=by
 refine FE [0,0] Tryz.func266 λX F hX=>?_;refine J.p (.of [0,5,8,13,20,25,28,33,40,45,48,53,18,38,58,62,66,68]) [17] [1,2] λ_=>?_;refine J.qp (a1c x.1 y.1) [] λ_=>?_;refine J.qp (a1c x.2.1 y.2.1) [] λ_=>?_;refine J.qp (a1c x.2.2 y.2.2) [] λ_=>?_;refine J.q λbb=>?_;refine J.cb (c2t (bb 0) (Q9 x.1 y.1) (Q9 x.2.1 y.2.1) (Q9 x.2.2 y.2.2)) [3] ?_;refine cpq ⟨_,rfl,⟨rfl,rfl,trivial⟩,?_⟩;exact J.qx []
def d3:A3:=(0,0,0)
def D7 (l:List A3):List Value:=l.flatMap λx=>[iI x.1,iI x.2.1,iI x.2.2]
theorem M8 (l:List A3):(D7 l).length=l.length*3:=by
 induction l with
 | nil=>rfl
 | cons x l ih=>simp only[D7,u0,f8,l5]at ih ⊢;rw[ih];simp;omega
theorem X3:∀(l:List A3) (r:List Value) (k:Nat) (x:A3),l[k]? =some x->((D7 l++r).drop (k*3)).take 3=[iI x.1,iI x.2.1,iI x.2.2]
 | [],_,_,_,h=>by simp at h
 | y::l,r,0,x,h=>by simp at h;subst h;simp[D7]
 | y::l,r,k+1,x,h=>by
  have:=X3 l r k x (by simpa using h);rw[show(k+1)*3=3+k*3 from by omega,<- C0];simpa[D7]using this
theorem a1b:∀(l:List A3) (r:List Value) (k:Nat) (x:A3),k<l.length->(D7 l++r).take (k*3)++[iI x.1,iI x.2.1,iI x.2.2]++(D7 l++r).drop (k*3+3)=D7 (l.set k x)++r
 | [],_,_,_,h=>by simp at h
 | y::l,r,0,x,h=>by simp[D7]
 | y::l,r,k+1,x,h=>by
  have:=a1b l r k x (by simpa using h);rw[show(k+1)*3=3+k*3 from by omega];simp only[D7,u0,R6,m7,U6,R4]at this ⊢;rw[show 3+k*3=k*3+1+1+1 from by omega,show k*3+1+1+1+3=(k*3+3)+1+1+1 from by omega];simp only[a4I,a1F,U6,this]
def swp (l:List A3) (j:Nat):List A3:=(l.set j (l.getD (j-1) d3)).set (j-1) (l.getD j d3)
def b2B (f:A3->A3->Int):Nat->List A3->List A3
 | 0,l=>l
 | j+1,l=>if f (l.getD (j+1) d3) (l.getD j d3)<0 then b2B f j (swp l (j+1))else l
def a0Y (f:A3->A3->Int) (l:List A3):Nat->List A3
 | 0=>l
 | k+1=>b2B f (k+1) (a0Y f l k)
def a3K (f:A3->A3->Int) (l:List A3):List A3:=a0Y f l (l.length-1)
theorem a6Y (l:List A3) (j:Nat):(swp l j).length=l.length:=by simp[swp]
theorem b6m (l:List A3) (j:Nat) (h:j+1<l.length):(swp l (j+1)).Perm l:=by
 induction l generalizing j with
 | nil=>simp at h
 | cons x l ih=>
  cases j with
  | zero=>
   cases l with
   | nil=>simp at h
   | cons y l=>simp only[swp,R6,a0H,P6,J6,List.getD_cons_zero,a4J];exact List.Perm.swap _ _ _
  | succ j=>
   have:=ih j (by simpa using h);simp only[swp,P6,R6,a4J]at this ⊢;exact this.cons x
theorem a5P (f:A3->A3->Int):∀(j:Nat) (l:List A3),j<l.length->(b2B f j l).Perm l
 | 0,l,_=>a0p _
 | j+1,l,h=>by
  unfold b2B;split
  ·exact(a5P f j _ (by rw[a6Y];omega)).trans (b6m l j h)
  ·exact a0p _
theorem a6x (f:A3->A3->Int) (l:List A3):∀k,k<l.length->(a0Y f l k).Perm l/\(a0Y f l k).length=l.length
 | 0,_=>⟨a0p _,rfl⟩
 | k+1,h=>by
  obtain⟨h1,h2⟩:=a6x f l k (by omega);exact⟨(a5P f (k+1) _ (by omega)).trans h1,by rw[a0Y,(a5P f (k+1) _ (by omega)).length_eq,h2]⟩
theorem a0X (f:A3->A3->Int) (l:List A3):(a3K f l).Perm l:=by
 cases l with
 | nil=>exact a0p _
 | cons x l=>exact(a6x f (x::l) _ (by simp)).1
theorem b1o (f:A3->A3->Int):∀(j:Nat) (l:List A3),(b2B f j l).length=l.length
  | 0,l=>rfl
  | j + 1, l => by unfold b2B; split
                   · rw[b1o f j,a6Y]
                   · rfl
theorem a8i (f:A3->A3->Int) (l:List A3):∀k,(a0Y f l k).length=l.length
 | 0=>rfl
 | k+1=>by rw[a0Y,b1o,a8i f l k]
def fnV (c:Nat):Value:= .func (.func c) #[] #[]
theorem c1e (c:Nat) (f:A3->A3->Int) (hcal:K0 Tryz.prog c=true) (hf:∀x y,Fn Tryz.prog c [a1v x,a1v y] [] (Ps (iI (f x y)) []))
  (g n cap:Nat) (l:List A3) (hl:l.length=n) (hn:n<=4611686018427387904) (r:List Value):FP 274 [.slice (some ⟨g,0,none⟩) n cap,iI 0,iI n,fnV c] [.pt g 39 (D7 l++r)]
  (Ps (.tuple #[]) [.pt g 39 (D7 (a3K f l)++r)]):=by
 refine FE [2,0,0,0] Tryz.func274 λX F hX=>?_;refine J.q λ_=>?_;refine J.l (α:=Nat) (λi=>1<=i/\i<=max 1 n) (λi=>[si 8 i,⟨0, .slice (some ⟨g,0,none⟩) n cap,2, .tt⟩,si 1 0,si 2 n,⟨3,fnV c,0, .tt⟩]) [1] (λi=>[.pt g 39 (D7 (a0Y f l (i-1))++r)]) (λi=>n-i) (1) (⟨by omega,by omega⟩) λi hI=>?_;refine J.qd (λ_ h1=>?_) λ_ h1=>?_
 ·simp only[d5,i5]at h1;refine J.q λ_=>?_;refine J.l (α:=(Nat×List A3)) (λy=>y.1<=i/\y.2.length=n/\b2B f y.1 y.2=a0Y f l i) (λy=>[si 9 y.1,si 8 i,⟨0, .slice (some ⟨g,0,none⟩) n cap,2, .tt⟩,si 1 0,si 2 n,⟨3,fnV c,0, .tt⟩]) [1] (λy=>[.pt g 39 (D7 y.2++r)]) (λy=>y.1) ((i,a0Y f l (i-1))) (⟨i7 _,by rw[a8i,hl],by obtain⟨k,rfl⟩:∃k,i=k+1:=⟨i-1,by omega⟩;rfl⟩) λy hI=>?_;obtain⟨j,m⟩:=y;dsimp only at hI ⊢;have hget:∀e,e<n->m[e]? =some (m.getD e d3):=λe he=>by rw[d7,c9 (by omega),j3]
  rcases P5 j with h2 | h2
  ·subst h2;refine J.pn 4 (.of [0,4,8,12,16,20,24,28,33,36,40,44,48,53,58,60,64]) [] [1] λ_ _=>?_;rw[show decide (((0:Nat):Int)>0)=false from rfl];refine J.q λ_=>?_;refine J.vT (a1v d3) rfl rfl (λhg a w he hC=>by simp[G.on]at hg) ?_;refine J.q λ_=>?_;refine J.vT (a1v d3) rfl rfl (λhg a w he hC=>by simp[G.on]at hg) ?_;refine J.q λ_=>?_;refine J.gcase hX rfl rfl rfl ⟨rfl,trivial⟩ (λh=>by cases h) (λ_=>?_);refine J.vT (.bool false) rfl rfl (λhg a w he hC=>by simp[G.on]at hg) ?_;refine J.qF λ_=>?_;have hm:m=a0Y f l (i+1-1):=hI.2.2;rw[hm];refine J.q λ_=>?_;refine J.n (i+1) (⟨by omega,by omega⟩) (by omega) [0,1]
  ·obtain⟨j,rfl⟩:∃k,j=k+1:=⟨j-1,by omega⟩;refine J.pn 4 (.of [0,4,8,12,16,20,24,28,33,36,40,44,48,53,58,60,64]) [] [1] λ_ _=>?_;rw[show decide (((j+1:Nat):Int)>0)=true from i6 (by omega)];refine J.q λ_=>?_;refine J.vT (a1v (m.getD (j+1) d3)) rfl rfl (λhg a w he hC=>?_) ?_
   ·exact H9 tk rfl rfl he hg rfl rfl (hC rfl _ (B6 (i:=1) rfl)) (by rw[show 0+((j+1:Nat):Int).toNat*3=(j+1)*3 from by omega];exact X3 m r _ _ (hget _ (by omega))) rfl
   refine J.q λ_=>?_;refine J.vT (a1v (m.getD j d3)) rfl rfl (λhg a w he hC=>?_) ?_
   ·exact H9 tk rfl rfl he hg rfl rfl (hC rfl _ (B6 (i:=1) rfl)) (by rw[show 0+(((j+1:Nat):Int)-1).toNat*3=j*3 from by omega];exact X3 m r _ _ (hget _ (by omega))) rfl
   refine J.q λ_=>?_;refine J.call hX hcal (hf (m.getD (j+1) d3) (m.getD j d3)) [] 0 rfl rfl rfl rfl (by(repeat' (first | exact Conj.nil | refine Conj.cons ?_ ?_ | omega | exact hq0 | (simpa using hq0) | (exactλh=>h) | exact rfl | (intro hq;have hq0:=hq;try simp only[f7,j6,d5,i4,c8]at hq) | (simp;done) | (simp;omega) | decide))) rfl rfl (λ_=>rfl) ?_;refine cpq ⟨_,rfl,⟨rfl,trivial⟩,?_⟩;refine J.qd (λ_ h3=>?_) λ_ h3=>?_
   ·simp only[q9,d5]at h3;refine J.pq (.take true 0 (.take true 1 (.take true 2 (.take true 3 (.take true 4 (.take true 5 (.take true 6 (.take true 7 (.take true 8 (.take true 10 (.take true 11 (.take true 12 (.alt false 9 ((.of [54,56,62,64,71])) (.alt false 13 ((.of [38,56,62,64,71])) .non)))))))))))))) [16,17] [] λ_ _=>?_;refine J.alts ?_ ?_
    ·refine J.v (a1v (m.getD j d3)) rfl rfl (λhg a w he hs=>?_) ?_
     ·exact H9 tk rfl rfl he hg rfl rfl (hs.get (i:=1) rfl) (by rw[show 0+(((j+1:Nat):Int)-1).toNat*3=j*3 from by omega];exact X3 m r _ _ (hget _ (by omega))) rfl
     refine J.q λ_=>?_;refine J.v (a1v (m.getD (j+1) d3)) rfl rfl (λhg a w he hs=>?_) ?_
     ·exact H9 tk rfl rfl he hg rfl rfl (hs.get (i:=1) rfl) (by rw[show 0+((j+1:Nat):Int).toNat*3=(j+1)*3 from by omega];exact X3 m r _ _ (hget _ (by omega))) rfl
     refine J.q λ_=>?_;refine J.storeN hX tk 1 rfl rfl rfl rfl rfl rfl rfl rfl rfl rfl rfl rfl rfl ?_ (D7 (m.set (j+1) (m.getD j d3))++r) ?_ rfl (λ_=>rfl) ⟨trivial,?_⟩
     ·rw[f8,M8];show 0+((j+1:Nat):Int).toNat*3+3<=_;omega
     ·rw[show 0+((j+1:Nat):Int).toNat*3=(j+1)*3 from by omega];exact a1b m r (j+1) _ (by omega)
     refine J.q λ_=>?_;refine J.storeN hX tk 1 rfl rfl rfl rfl rfl rfl rfl rfl rfl rfl rfl rfl rfl ?_ (D7 (swp m (j+1))++r) ?_ rfl (λ_=>rfl) ⟨trivial,?_⟩
     ·rw[f8,M8,A7];show 0+(((j+1:Nat):Int)-1).toNat*3+3<=_;omega
     ·rw[show 0+(((j+1:Nat):Int)-1).toNat*3=j*3 from by omega];exact a1b _ r j _ (by rw[A7];omega)
     refine J.q λ_=>?_;rw[show((j+1:Nat):Int)-1=(j:Int)from by omega];refine J.q λ_=>?_;refine J.n ((j,swp m (j+1))) (⟨by dsimp only;omega,by rw[a6Y];exact hI.2.1,by rw[<- hI.2.2];exact(d8 h3).symm⟩) (by dsimp only;omega) [0,1]
    ·refine J.v (a1v (m.getD (j+1) d3)) rfl rfl (λhg a w he hs=>?_) ?_
     ·exact H9 tk rfl rfl he hg rfl rfl (hs.get (i:=1) rfl) (by rw[show 0+((j+1:Nat):Int).toNat*3=(j+1)*3 from by omega];exact X3 m r _ _ (hget _ (by omega))) rfl
     refine J.q λ_=>?_;refine J.v (a1v (m.getD j d3)) rfl rfl (λhg a w he hs=>?_) ?_
     ·exact H9 tk rfl rfl he hg rfl rfl (hs.get (i:=1) rfl) (by rw[show 0+(((j+1:Nat):Int)-1).toNat*3=j*3 from by omega];exact X3 m r _ _ (hget _ (by omega))) rfl
     refine J.q λ_=>?_;refine J.storeN hX tk 1 rfl rfl rfl rfl rfl rfl rfl rfl rfl rfl rfl rfl rfl ?_ (D7 (m.set (j+1) (m.getD j d3))++r) ?_ rfl (λ_=>rfl) ⟨trivial,?_⟩
     ·rw[f8,M8];show 0+((j+1:Nat):Int).toNat*3+3<=_;omega
     ·rw[show 0+((j+1:Nat):Int).toNat*3=(j+1)*3 from by omega];exact a1b m r (j+1) _ (by omega)
     refine J.q λ_=>?_;refine J.storeN hX tk 1 rfl rfl rfl rfl rfl rfl rfl rfl rfl rfl rfl rfl rfl ?_ (D7 (swp m (j+1))++r) ?_ rfl (λ_=>rfl) ⟨trivial,?_⟩
     ·rw[f8,M8,A7];show 0+(((j+1:Nat):Int)-1).toNat*3+3<=_;omega
     ·rw[show 0+(((j+1:Nat):Int)-1).toNat*3=j*3 from by omega];exact a1b _ r j _ (by rw[A7];omega)
     refine J.q λ_=>?_;rw[show((j+1:Nat):Int)-1=(j:Int)from by omega];refine J.q λ_=>?_;refine J.n ((j,swp m (j+1))) (⟨by dsimp only;omega,by rw[a6Y];exact hI.2.1,by rw[<- hI.2.2];exact(d8 h3).symm⟩) (by dsimp only;omega) [0,1]
   ·simp only[q9,c8]at h3;have hm:m=a0Y f l (i+1-1):=by rw[show i+1-1=i from rfl,<- hI.2.2];exact(d6 h3).symm
    rw[hm];refine J.q λ_=>?_;refine J.n (i+1) (⟨by omega,by omega⟩) (by omega) [0,1]
 ·simp only[c8,i5]at h1;have hi:a0Y f l (i-1)=a3K f l:=by
   rw[a3K,hl,show i-1=n-1 from by omega]
  rw[hi];refine J.q λ_=>?_;refine J.f [1] ?_;exact⟨rfl,rfl⟩
def b7i (x:Nat):Nat:=([0,1,2,2,3,3,3,3,4,4,4,4,4]:List Nat).getD x 0
theorem c2l:Tryz.prog.underlying 9=some .string:=by kernel_rfl
theorem b0I {P:Program} {E:Env} {w:World} {n0:Nat} {a:Act} {o:Oper} {ty:TypeId} {s:ByteArray} {y:Operand} {k tg:Nat} {g:G} {ik:IntKind} {i:Int} {b:UInt8} (hop:o.op= .index ty (.const (.string s)) y) (hy:ev E y=some ⟨k, .int ik i,tg,g⟩) (he:EnvOK n0 E a) (hg:g.on=true) (hd:P.underlying ty=some .string)
  (h0:0<=i) (hb:s.data.toList[i.toNat]? =some b):(execOp a.eval o).run P w= .ok (.value (.int .u8 b.toNat)) w:=by
 have ey:=C5 he hy;simp only[Slot.val,hg]at ey;have h1:=run_index_string (P:=P) (w:=w) ty s ik i hd;have hlt:i.toNat<s.size:=(List.getElem?_eq_some_iff.1 hb).1;have hv:s[i.toNat]'hlt=b:=by
  have:=(List.getElem?_eq_some_iff.1 hb).2;rw[<- this];rfl
 rw[dif_pos ⟨h0,by omega⟩,hv]at h1;simp only[execOp,hop,ey,Sem.run_bind];have e1:a.eval (.const (.string s))= .string s:=rfl;rw[e1,h1];rfl
theorem b9z {x:Nat} (hx:x<=12):b7i x<=4:=by
 obtain rfl | rfl | rfl | rfl | rfl | rfl | rfl | rfl | rfl | rfl | rfl | rfl | rfl:x=0\/x=1\/x=2\/x=3\/x=4\/x=5\/x=6\/x=7\/x=8\/x=9\/x=10\/x=11\/x=12:=by omega
 all_goals decide
theorem c0c (x:Nat) (hx:x<=12):FP 217 [.int .u64 x] [] (λv As=>(∃k:Nat,k<=8/\v=iI k)/\As=[]):=by
 have h4:=b9z hx;refine FE [0] Tryz.func217 λX F hX=>?_;refine J.qd (λ_ h1=>?_) λ_ h1=>?_
 ·simp only[d5]at h1;omega
 refine J.qd (λ_ h2=>?_) λ_ h2=>?_
 ·simp only[d5]at h2;omega
 refine J.qd (λ_ h3=>?_) λ_ h3=>?_
 ·simp only[d5]at h3;omega
 refine J.q λ_=>?_;refine J.v (.int .u8 (UInt8.ofNat (b7i x)).toNat) rfl rfl (λhg a w he hs=>?_) ?_
 ·refine b0I rfl rfl he rfl c2l (by omega) ?_;obtain rfl | rfl | rfl | rfl | rfl | rfl | rfl | rfl | rfl | rfl | rfl | rfl | rfl:x=0\/x=1\/x=2\/x=3\/x=4\/x=5\/x=6\/x=7\/x=8\/x=9\/x=10\/x=11\/x=12:=by omega
  all_goals rfl
 have h5:(UInt8.ofNat (b7i x)).toNat=b7i x:=by rw[a5B];omega
 rw[h5];refine J.qr [] λ_=>?_;exact⟨⟨b7i x,by omega,by simp⟩,rfl⟩
theorem c0u (x:Nat) (hx:x<=12):FP 171 [.int .u64 x] [] (λv As=>(∃k:Nat,k<=8/\v=iI k)/\As=[]):=by
 refine FE [0] Tryz.func171 λX F hX=>?_;refine J.qF λ_=>?_;refine J.qc (c0c x hx) [] λ_=>?_;rintro v As ⟨⟨k,hk,rfl⟩,rfl⟩;refine⟨_,rfl,trivial,?_⟩;refine J.qr [] λ_=>?_;exact⟨⟨k,hk,rfl⟩,rfl⟩
theorem c0O (c:Nat) (f:A3->A3->Int) (hcal:K0 Tryz.prog c=true) (hf:∀x y,Fn Tryz.prog c [a1v x,a1v y] [] (Ps (iI (f x y)) []))
  (g n cap:Nat) (l:List A3) (hl:l.length=n) (hn:n<=12) (r:List Value) (k:Nat):FP 271 [.slice (some ⟨g,0,none⟩) n cap,iI 0,iI n,iI k,fnV c] [.pt g 39 (D7 l++r)]
  (Ps (.tuple #[]) [.pt g 39 (D7 (a3K f l)++r)]):=by
 refine FE [2,0,0,0,0] Tryz.func271 λX F hX=>?_;refine J.q λ_=>?_;refine J.l (α:=Nat) (λy=>True) (λy=>[⟨0, .slice (some ⟨g,0,none⟩) n cap,2, .tt⟩,si 1 0,si 2 n,si 3 k,⟨4,fnV c,0, .tt⟩]) [1] (λy=>[.pt g 39 (D7 l++r)]) (λy=>0) (0) (trivial) λy hI=>?_;refine J.qd (λ_ h1=>?_) λ_ h1=>?_
 ·refine J.q λ_=>?_;rw[show(n:Int)-0=n from by omega]at*;refine J.qp (c1e c f hcal hf g n cap l hl (by omega) r) [1] λ_=>?_;exact J.qx [1]
 ·simp only[c8]at h1;omega
theorem b9i (c:Nat) (d:Value) (k:Nat):FP 271 [d,iI 0,iI 0,iI k,fnV c] [] (Ps (.tuple #[]) []):=by
 have h0:FP 274 [d,iI 0,iI 0,fnV c] [] (Ps (.tuple #[]) []):=by
  refine FE [0,0,0,0] Tryz.func274 λX F hX=>?_;refine J.q λ_=>?_;refine J.l (α:=Nat) (λy=>True) (λy=>[si 8 (0+1),sv 0 d,si 1 0,si 2 0,⟨3,fnV c,0, .tt⟩]) [] (λy=>[]) (λy=>0) (0) (trivial) λy hI=>?_;refine J.qd (λ_ h1=>?_) λ_ h1=>?_
  ·simp at h1
  ·refine J.q λ_=>?_;refine J.f [] ?_;exact⟨rfl,rfl⟩
 refine FE [0,0,0,0,0] Tryz.func271 λX F hX=>?_;refine J.q λ_=>?_;refine J.l (α:=Nat) (λy=>True) (λy=>[sv 0 d,si 1 0,si 2 0,si 3 k,⟨4,fnV c,0, .tt⟩]) [] (λy=>[]) (λy=>0) (0) (trivial) λy hI=>?_;refine J.qd (λ_ h1=>?_) λ_ h1=>?_
 ·refine J.qp (h0) [] λ_=>?_;exact J.qx []
 ·simp at h1
theorem a7C (c:Nat) (f:A3->A3->Int) (hcal:K0 Tryz.prog c=true) (hf:∀x y,Fn Tryz.prog c [a1v x,a1v y] [] (Ps (iI (f x y)) []))
  (a:Option Nat) (n cap:Nat) (l:List A3) (hl:l.length=n) (hn:n<=12):FP 265 [slv a n cap,fnV c] [m9 39 3 a n cap (D7 l)]
  (Ps (.tuple #[]) [m9 39 3 a n cap (D7 (a3K f l))]):=by
 refine FE [0,0] Tryz.func265 λX F hX=>?_;refine J.qc (c0u n hn) [] λ_=>?_;rintro v As ⟨⟨k,hk,rfl⟩,rfl⟩;refine⟨_,rfl,trivial,?_⟩;refine J.q λ_=>?_;cases a with
 | none=>
  refine J.know (λh' s=>(s.get (i:=1) rfl).2.1) λhn0=>?_;subst hn0;have:l=[]:=n5 hl;subst this;refine J.qp (b9i c (slv none 0 cap) k) [] λ_=>?_;refine J.q λ_=>?_;refine J.f [1] ?_;exact⟨rfl,rfl⟩
 | some g=>
  refine J.openOwn 1 rfl rfl (λ_=>rfl) λr q1 q2 q3 q4=>?_;refine J.qp (c0O c f hcal hf g n cap l hl hn r k) [1] λ_=>?_;refine J.closeOwn (e:=39) (size:=3) (n:=n) (cap:=cap) (xs:=D7 (a3K f l)) 1 rfl rfl (by rw[M8,(a0X f l).length_eq,hl]) q2 q3 (by rw[f8,M8,(a0X f l).length_eq];rw[M8]at q4;exact q4) (by rw[D6 (by rw[M8,(a0X f l).length_eq,hl])]) rfl ?_;refine J.q λ_=>?_;refine J.f [1] ?_;exact⟨rfl,rfl⟩
def a8S (x:A3):List Value:=[.int .i64 x.1, .int .i64 x.2.1, .int .i64 x.2.2]
instance:Inhabited A3:=⟨d3⟩
theorem a8k (d:Array A3):(Go.Sort.flatK a8S 3 d).toList=D7 d.toList:=by
 apply x9;intro t;have hs:(Go.Sort.flatK a8S 3 d).toList.length=d.size*3:=by simp
 by_cases ht:t<d.size*3
 ·have hx:d.toList[t/3]? =some d[t/3]!:=by
   rw[D5,M9 (by omega),a4L d _ (by omega)]
  have h1:=X3 d.toList [] (t/3) _ hx;rw[m6]at h1;have h2:(D7 d.toList)[t]? =([.int .i64 d[t/3]!.1, .int .i64 d[t/3]!.2.1, .int .i64 d[t/3]!.2.2]:List Value)[t % 3]?:=by
   rw[<- h1,C2,d8 (a3t _ (by decide)),K8,show t/3*3+t % 3=t from by omega]
  rw[h2];have h3:=Go.Sort.get_flatK a8S 3 d t ht;rw[D5,M9 (by simpa using ht),<- a4L (Go.Sort.flatK a8S 3 d) t (by simpa using ht),h3];have:t % 3<3:=a3t _ (by decide);rcases(by omega:t % 3=0\/t % 3=1\/t % 3=2)with e | e | e<;>rw[e]<;>rfl
 ·rw[j5 (by omega),j5 (by rw[M8,Q8];omega)]
theorem a8O (F cur:Array Value) (h:F.size<=cur.size):(Go.Sort.putCells id 0 F cur).size=cur.size/\(Go.Sort.putCells id 0 F cur).toList.take F.size=F.toList:=by
 unfold Go.Sort.putCells;refine⟨by simp,?_⟩;apply x9;intro t;rw[C2]
 by_cases ht:t<F.size
 ·rw[d8 ht,D5,D5,M9 (by simp;omega),Array.getElem_mapIdx,d8 (by omega),a2P,M9 ht,a4L F t ht];rfl
 ·rw[d6 ht,j5 (by simpa using ht)]
theorem a6n (w:World) (g m e:Nat) (cur:Array Value) (F:Array Value) (os:Array Obj) (h:hl w g=some (.cells cur e (0,0))):
  hl (Go.Sort.grow (Go.Sort.putRow id (Go.Sort.ahead w m) g 0 F) os) g=some (.cells (Go.Sort.putCells id 0 F cur) e (0,0))/\
  (∀b o,b≠g->hl w b=some o->hl (Go.Sort.grow (Go.Sort.putRow id (Go.Sort.ahead w m) g 0 F) os) b=some o)/\Ext w (Go.Sort.grow (Go.Sort.putRow id (Go.Sort.ahead w m) g 0 F) os):=by
 have hsz:(Go.Sort.putRow id (Go.Sort.ahead w m) g 0 F).heap.size=w.heap.size:=Go.Sort.size_putRow id _ _ _ _;have key:∀b o,w.heap[b]? =some o->(Go.Sort.grow (Go.Sort.putRow id (Go.Sort.ahead w m) g 0 F) os).heap[b]? =(w.heap.modify g (Go.Sort.onCells (Go.Sort.putCells id 0 F)))[b]?:=λb o hb=>by
  have hlt:b<w.heap.size:=(Array.getElem?_eq_some_iff.1 hb).1;show((Go.Sort.putRow id (Go.Sort.ahead w m) g 0 F).heap++os)[b]? =_;rw[Array.getElem?_append_left (by omega)];rfl
 refine⟨?_,λb o hb ho=>?_,rfl,rfl,rfl,?_⟩
 ·show(Go.Sort.grow _ os).heap[g]? =_;rw[key g _ h,X9,d8 rfl,show w.heap[g]? =_ from h];rfl
 ·show(Go.Sort.grow _ os).heap[b]? =_;rw[key b _ ho,X9,d6 (λe=>hb e.symm)];exact ho
 ·show w.heap.size<=((Go.Sort.putRow id (Go.Sort.ahead w m) g 0 F).heap++os).size;rw[Array.size_append];omega
theorem c1f {w:World} {g e n cap:Nat} {l:List A3} (hl':l.length=n) (h:a0V e 3 (some g) n cap (D7 l) (hl w)):Go.Sort.HoldsK a8S 3 w g 0 l.toArray:=by
 obtain⟨h0,cur,h2,h3,h4,h5,h6⟩:=h;intro j hj;have hF:=a8k l.toArray;simp only[Go.Sort.size_flatK,List.size_toArray]at hj;have hb:Blk w g e cur:=h2;rw[J6];refine⟨?_,hb.frozen j⟩;rw[hb.cell,<- D5];have h7:(D7 l)[j]? =cur.toList[j]?:=by
  rw[<- h6,C2,d8 (by omega)]
 rw[<- h7,<- hF,D5,M9 (by simpa using hj),a4L _ _ (by simpa using hj)];rfl
set_option maxHeartbeats 400000 in
theorem a5I (a b:Int) (w:World):Calls Tryz.prog 135 #[.int .i64 a, .int .i64 b] w λe w'=>e= .returned (.int .i64 (Q9 a b))/\w=w':=by
 rcases Int.lt_trichotomy a b with h | h | h
 ·have h2:Q9 a b= -1:=by simp[Q9,h]
  go_enter Tryz.func135,Tryz.ntmps135
  go_wp2
  go_ret
  exact⟨b0r h2.symm,rfl⟩
 ·have h2:Q9 a b=0:=by simp[Q9,h]
  go_enter Tryz.func135,Tryz.ntmps135
  go_wp2
  go_ret
  exact⟨b0r h2.symm,rfl⟩
 ·have h2:Q9 a b=1:=by simp[Q9];omega
  go_enter Tryz.func135,Tryz.ntmps135
  go_wp2
  go_ret
  exact⟨b0r h2.symm,rfl⟩
set_option maxHeartbeats 800000 in
theorem c2k (g:Nat) (a b c:Int) (w:World) (h0:w.cell? ⟨g,0,none⟩=some (.int .i64 a)) (h1:w.cell? ⟨g,1,none⟩=some (.int .i64 b)) (h2:w.cell? ⟨g,2,none⟩=some (.int .i64 c)):Calls Tryz.prog 185 #[.slice (some ⟨g,0,none⟩) 3 3] w λe w'=>e= .returned (.int .i64 (orI [a,b,c]))/\w=w':=by
 have ho:orI [a,b,c]=if a≠0 then a else if b≠0 then b else if c≠0 then c else 0:=rfl
 go_enter Tryz.func185,Tryz.ntmps185
 go_wp2
 go_loop [8] (λx=>∃k:Nat,k<=3/\x= .int .i64 k/\(0<k->a=0)/\(1<k->b=0)/\(2<k->c=0)) (λx=>3-(intOf x).toNat)
 case atStart=>exact⟨0,by omega,rfl,by omega,by omega,by omega⟩
 case round=>
  obtain⟨k,hk,rfl,z1,z2,z3⟩:=hrel;rcases(by omega:k=0\/k=1\/k=2\/k=3)with rfl | rfl | rfl | rfl
  ·by_cases hz:a=0
   ·subst hz
    go_wp2
    go_round
    case rel=>exact⟨1,by omega,rfl,by simp,by omega,by omega⟩
    case measure=>simp[intOf]
   ·have ho2:=Lib.hid (show orI [a,b,c]=a by rw[ho,d8 hz]);clear ho
    go_wp2
    go_ret
    exact⟨b0r ho2.out.symm,rfl⟩
  ·have ha:=z1 (by omega);subst ha
   by_cases hz:b=0
   ·subst hz
    go_wp2
    go_round
    case rel=>exact⟨2,by omega,rfl,by simp,by simp,by omega⟩
    case measure=>simp[intOf]
   ·have ho2:=Lib.hid (show orI [0,b,c]=b by rw[ho,d6 (by simp),d8 hz]);clear ho
    go_wp2
    go_ret
    exact⟨b0r ho2.out.symm,rfl⟩
  ·have ha:=z1 (by omega);have hb:=z2 (by omega);subst ha hb
   by_cases hz:c=0
   ·subst hz
    go_wp2
    go_round
    case rel=>exact⟨3,by omega,rfl,by simp,by simp,by simp⟩
    case measure=>simp[intOf]
   ·have ho2:=Lib.hid (show orI [0,0,c]=c by rw[ho,d6 (by simp),d6 (by simp),d8 hz]);clear ho
    go_wp2
    go_ret
    exact⟨b0r ho2.out.symm,rfl⟩
  ·have ho2:=Lib.hid (show orI [a,b,c]=0 by rw[z1 (by omega),z2 (by omega),z3 (by omega)];rfl);clear ho z1 z2 z3
   go_wp2
   go_ret
   exact⟨b0r ho2.out.symm,rfl⟩
set_option maxRecDepth 100000 in
set_option maxHeartbeats 800000 in
theorem b8A (x y:A3) (w:World):Calls Tryz.prog 266 #[.agg #[.int .i64 x.1, .int .i64 x.2.1, .int .i64 x.2.2], .agg #[.int .i64 y.1, .int .i64 y.2.1, .int .i64 y.2.2]] w λe w'=>e= .returned (.int .i64 (a6Q x y))/\∃q os',w'=Go.Sort.grow (w.drewN q) os':=by
 obtain⟨x0,x1,x2⟩:=x;obtain⟨y0,y1,y2⟩:=y
 go_enter Tryz.func266,Tryz.ntmps266
 go_upto_region 1 with fail
 obtain⟨w0,hw0⟩:∃w0,(w.alloc (.cells #[.int .i64 x0, .int .i64 x1, .int .i64 x2] 39)).alloc (.cells #[.int .i64 y0, .int .i64 y1, .int .i64 y2] 39)=w0:=⟨_,rfl⟩;rw[hw0];have hg:w0=Go.Sort.grow w #[.cells #[.int .i64 x0, .int .i64 x1, .int .i64 x2] 39 (0,0), .cells #[.int .i64 y0, .int .i64 y1, .int .i64 y2] 39 (0,0)]:=by
  rw[<- hw0,Go.Sort.alloc_eq_grow,Go.Sort.alloc_eq_grow,Go.Sort.grow_grow];rfl
 have b0:Blk w0 w.heap.size 39 #[.int .i64 x0, .int .i64 x1, .int .i64 x2]:=by rw[<- hw0];exact(Blk.new w _ _).alloc _
 have b1:Blk w0 (w.heap.size+1) 39 #[.int .i64 y0, .int .i64 y1, .int .i64 y2]:=by rw[<- hw0];simpa using Blk.new (w.alloc (.cells #[.int .i64 x0, .int .i64 x1, .int .i64 x2] 39)) 39 #[.int .i64 y0, .int .i64 y1, .int .i64 y2]
 have c0:=(b0.cell 0).trans rfl;have c1:w0.cell? ⟨w.heap.size,1,none⟩=some (.int .i64 x1):=(b0.cell 1).trans rfl;have c2:w0.cell? ⟨w.heap.size,2,none⟩=some (.int .i64 x2):=(b0.cell 2).trans rfl;have d0:w0.cell? ⟨w.heap.size+1,0,none⟩=some (.int .i64 y0):=(b1.cell 0).trans rfl;have d1:w0.cell? ⟨w.heap.size+1,1,none⟩=some (.int .i64 y1):=(b1.cell 1).trans rfl;have d2:w0.cell? ⟨w.heap.size+1,2,none⟩=some (.int .i64 y2):=(b1.cell 2).trans rfl;have c0:w0.cell? ⟨w.heap.size,0,none⟩=some (.int .i64 x0):=(b0.cell 0).trans rfl;have Hg:=Lib.hid hg;clear hw0 b0 b1 hg;generalize w.heap.size=n at*
 go_still_tail 15,(by kernel_rfl)
 still_call ((a5I _ _ _).mono λ_ _ h=>⟨h.1,h.2.symm⟩)
 repeat still_step
 still_call ((a5I _ _ _).mono λ_ _ h=>⟨h.1,h.2.symm⟩)
 repeat still_step
 still_call ((a5I _ _ _).mono λ_ _ h=>⟨h.1,h.2.symm⟩)
 refine wpStill_nil ?_;have hb:=(Blk.new w0 3 #[.int .i64 (Q9 x0 y0), .int .i64 (Q9 x1 y1), .int .i64 (Q9 x2 y2)]).drew;have e0:=λW h0 h1 h2=>c2k w0.heap.size (Q9 x0 y0) (Q9 x1 y1) (Q9 x2 y2) W h0 h1 h2
 go_wp2_with (go_at_call 185;refine(e0 _ ((hb.cell 0).trans rfl) ((hb.cell 1).trans rfl) ((hb.cell 2).trans rfl)).mono ?_;rintro e w' ⟨rfl,rfl⟩)
 go_ret
 exact⟨rfl,1,_,by rw[Hg.out,Go.Sort.alloc_eq_grow,Go.Sort.grow_grow];rfl⟩
theorem a2k {P : Program} {f : FuncId} {B fn : Func} (h : P.funcs[f]? = some fn) (hn : (fn.name == "runtime.NumGoroutine") = false) (e : fn = { B with name := fn.name }) : Bears P f B := ⟨fn.name, hn, by rw [h, ← e]⟩
def c2m:Go.Shelf.Ren:=⟨λx=>match x with | 6=>265 | 14=>271 | 15=>171 | 28=>216 | 29=>217 | 20=>274 | 21=>275 | 22=>276 | 23=>277 | 24=>278 | 25=>279 | 26=>280 | 27=>281 | 46=>287 | 47=>244 | 48=>245 | 49=>288 | 50=>289 | 57=>294 | n=>n,
 λx=>match x with | 22=>278 | 24=>39 | 25=>325 | 3=>3 | 39=>146 | 53=>274 | 55=>276 | 4=>4 | 46=>267 | 45=>266 | 50=>271 | 5=>5 | 9=>9 | 66=>307 | 70=>305 | 76=>320 | 77=>321 | n=>n,λn=>n⟩
set_option maxRecDepth 100000 in
theorem c2p:SlLaysF0.n6 Tryz.prog c2m:=by
 constructor
 case f6=>exact a2k Tryz.func265 (by kernel_rfl) (by kernel_rfl)
 case f14=>exact a2k Tryz.func271 (by kernel_rfl) (by kernel_rfl)
 case f15=>exact Tryz.func171.trans (congrArg some (by kernel_rfl))
 case f20=>exact a2k Tryz.func274 (by kernel_rfl) (by kernel_rfl)
 case f21=>exact a2k Tryz.func275 (by kernel_rfl) (by kernel_rfl)
 case f22=>exact a2k Tryz.func276 (by kernel_rfl) (by kernel_rfl)
 case f23=>exact a2k Tryz.func277 (by kernel_rfl) (by kernel_rfl)
 case f24=>exact a2k Tryz.func278 (by kernel_rfl) (by kernel_rfl)
 case f25=>exact a2k Tryz.func279 (by kernel_rfl) (by kernel_rfl)
 case f26=>exact a2k Tryz.func280 (by kernel_rfl) (by kernel_rfl)
 case f27=>exact a2k Tryz.func281 (by kernel_rfl) (by kernel_rfl)
 case f28=>exact Tryz.func216.trans (congrArg some (by kernel_rfl))
 case f29=>exact Tryz.func217.trans (congrArg some (by kernel_rfl))
 case f46=>exact a2k Tryz.func287 (by kernel_rfl) (by kernel_rfl)
 case f47=>exact Tryz.func244.trans (congrArg some (by kernel_rfl))
 case f48=>exact Tryz.func245.trans (congrArg some (by kernel_rfl))
 case f49=>exact a2k Tryz.func288 (by kernel_rfl) (by kernel_rfl)
 case f50=>exact a2k Tryz.func289 (by kernel_rfl) (by kernel_rfl)
 case f57=>exact a2k Tryz.func294 (by kernel_rfl) (by kernel_rfl)
 all_goals first | kernel_rfl | (intro w;rfl)
theorem b2L (x y:A3):a6Q x y<0↔x.1<y.1\/x.1=y.1/\(x.2.1<y.2.1\/x.2.1=y.2.1/\x.2.2<y.2.2):=by
 simp only[a6Q,orI,Q9]
 (repeat' split)<;>omega
theorem b9o:Go.Sort.SWO (λx y:A3=>decide (a6Q x y<0))where
 irrefl x:=by rw[c8,b2L];omega
 trans x y z h1 h2:=by
  rw[d5,b2L]at*;omega
 ntrans x y z h1 h2:=by
  rw[c8,b2L]at*;omega
theorem b2D (a:Option Nat) (n cap:Nat) (l:List A3) (hq:l.length=n) (hn:n<=100000):Fn Tryz.prog 265 [slv a n cap,fnV 266] [m9 39 3 a n cap (D7 l)]
  (λv As=>v= .tuple #[]/\∃l',l'.Perm l/\As=[m9 39 3 a n cap (D7 l')]):=by
 cases a with
 | none=>
  intro F w hs;have h0:n=0:=(hs.get (i:=1) rfl).2.1;refine(a7C 266 a6Q (by kernel_rfl) b3z none n cap l hq (by omega) F w hs).mono λe w' ⟨v,As,h1,⟨h2,h3⟩,h4⟩=>⟨v,As,h1,⟨h2,_,a0X _ _,h3⟩,h4⟩
 | some g=>
  intro F w hs;have hown:a0V 39 3 (some g) n cap (D7 l) (hl w):=hs.get (i:=1) rfl;obtain⟨h0,cur,h2,h3,h4,h5,h6⟩:=hown;have hH:=c1f hq ⟨h0,cur,h2,h3,h4,h5,h6⟩;have hlt:g<w.heap.size:=(Array.getElem?_eq_some_iff.1 h2).1;have hcon:=AnyQ.slices_SortFunc c2p 3 (λw=>by kernel_rfl) (λw=>by kernel_rfl) a8S (λ_=>rfl) (λx v hv=>by
   simp only[a8S,H7,U5,a5A]at hv;rcases hv with rfl | rfl | rfl<;>rfl) a6Q b9o 266 #[] g 0 cap l.toArray w (enters_of Tryz.func266 (by kernel_rfl) rfl) (λ_ _ _ _ x y=>b8A x y _) hH hlt (by rw[List.size_toArray];omega)
  rw[List.size_toArray,hq]at hcon;refine Calls.mono hcon λe w' ⟨he,d',m,os,hp,_,hw⟩=>⟨.tuple #[],[m9 39 3 (some g) n cap (D7 d'.toList)],he,⟨rfl,d'.toList,?_,rfl⟩,?_,?_⟩
  all_goals have hs':d'.size=n:=by rw[hp.1,List.size_toArray,hq]
  ·have h7:=hp.2.2;have e1:(d'.extract 0 n).toList=d'.toList:=by rw[<- hs'];simp
   have e2:(l.toArray.extract 0 n).toList=l:=by rw[<- hq];simp
   rw[e1,e2]at h7;exact h7
  ·subst hw;obtain⟨k1,k2,_⟩:=a6n w g m 39 cur (Go.Sort.flatK a8S 3 d') os h2;have hF:(Go.Sort.flatK a8S 3 d').size<=cur.size:=by rw[Go.Sort.size_flatK,hs',h5];omega
   obtain⟨p1,p2⟩:=a8O _ cur hF;rw[Go.Sort.size_flatK,hs',a8k]at p2;obtain⟨own,ho⟩:=hs;obtain⟨_,cur',c1,_⟩:=ho 1 _ rfl;have hg1:=(res_some.1 c1).1;refine⟨own,λi A hA=>?_⟩
   match i,hA with
   | 0,hA=>
    simp at hA;subst hA;exact Atom.up (λb o hb=>res_some.2 ⟨(res_some.1 hb).1,k2 b o (λe=>by subst e;have:=(res_some.1 hb).1;omega) (res_some.1 hb).2⟩) (ho 0 _ rfl)
   | 1,hA=>
    simp at hA;subst hA;exact⟨by rw[M8,Q8,hs'],_,res_some.2 ⟨hg1,k1⟩,h3,h4,p1.trans h5,p2⟩
   | k+2,hA=>simp at hA
  ·subst hw;exact(a6n w g m 39 cur (Go.Sort.flatK a8S 3 d') os h2).2.2
theorem a3G:∀(n:Nat) (is:List Nat),is.Nodup->(∀i∈is,i<n)->is.length<=n
 | 0,is,_,h=>by
  cases is with
  | nil=>simp
  | cons x r=>have:=h x (by simp);omega
 | n+1,is,hn,h=>by
  have h1:=a3G n (is.erase n) (hn.erase n) (λi hi=>by
   rw[hn.mem_erase_iff]at hi;have:=h i hi.2;omega)
  rw[List.length_erase]at h1;split at h1<;>omega
def a0x (l:List A3) (is:List Nat):List A3:=is.map λi=>l.getD i d3
theorem a7K {l:List A3} {is:List Nat} (h:is.Perm (List.range l.length)):(a0x l is).Perm l:=by
 have h1:=h.map λi=>l.getD i d3;have h2:(List.range l.length).map (λi=>l.getD i d3)=l:=by
  apply x9;intro k;rw[i9]
  by_cases hk:k<l.length
  ·rw[I4 hk];simp[hk]
  ·rw[j5 (by simpa using hk),j5 (by simpa using hk)];rfl
 rwa [h2]at h1
theorem b2I {l:List A3} {is:List Nat} {j:Nat} {y:A3×Value} (hy:(Y0 l)[j]? =some y):D7 (a0x l is)++[iI y.1.1,iI y.1.2.1,iI y.1.2.2]=D7 (a0x l (is++[j])):=by
 rw[Y0,i9]at hy;cases h:l[j]? with
 | none=>rw[h]at hy;cases hy
 | some x=>
  rw[h]at hy;simp at hy;subst hy;simp[D7,a0x,h]
theorem c1Q (q:Nat) (l:List A3) (hl:l.length<=1000):FP 249 [pp q] [a1z q l]
  (λv As=>∃a cap l',l'.Perm l/\v=slv a l'.length cap/\As=[a1z q l,m9 39 3 a l'.length cap (D7 l')]):=by
 refine FE [2] Tryz.func249 λX F hX=>?_;refine J.o (α:=Nat) 1 λmr=>?_;refine J.qF λ_=>?_;refine J.q λ_=>?_;refine J.rangeMap hX 2 b8I rfl rfl rfl rfl rfl rfl rfl (λ_=>rfl) (λ_=>rfl) λr=>⟨trivial,?_⟩;refine J.turn1 [] rfl (As:=[m9 39 3 none 0 0 (D7 (a0x l []))]) (λh s=>Sep.one ⟨rfl,rfl,rfl⟩) rfl ?_;refine J.q λ_=>?_;refine J.l (α:=(List Nat×Option Nat×Nat)) (λx=>True) (λx=>[sp 11 r,sv 3 (slv x.2.1 x.1.length x.2.2)]) [2,3] (λx=>[itA mr r a3v (Y0 l) x.1,m9 39 3 x.2.1 x.1.length x.2.2 (D7 (a0x l x.1))]) (λx=>l.length-x.1.length) (([],none,0)) (trivial) λx hI=>?_;obtain⟨is,a,cap⟩:=x;dsimp only;refine J.q λ_=>?_;refine J.know (p:=is.Nodup/\∀i∈is,i<l.length) (λh s=>?_) λhk=>?_
 ·obtain⟨_,_,_,_,_,_,_,_,h1,h2,_⟩:=s.get (i:=2) rfl;exact⟨h1,λi hi=>by have:=h2 i hi;simpa[Y0]using this⟩
 have hle:=a3G _ _ hk.1 hk.2;refine J.rangeNext hX 2 rfl rfl rfl rfl rfl rfl rfl (λ_=>rfl) (λ_=>rfl) (λhp=>⟨trivial,?_⟩) (λj y hj hy=>⟨trivial,?_⟩)
 ·rw[show(Y0 l).length=l.length from by simp[Y0]]at hp;refine J.qF λ_=>?_;refine J.qc (b2D a is.length cap (a0x l is) (by simp[a0x]) (by omega)) [3] λ_=>?_;rintro v As ⟨rfl,l',hp',rfl⟩;refine⟨_,rfl,trivial,?_⟩;refine J.turn1 [2] rfl (As:=[U8 mr a3v (Y0 l)]) (λh s=>b7x s) rfl ?_;refine J.cl (λmr:Nat=>[.pt q 169 [.map (some mr)],U8 mr a3v (Y0 l)]) mr [1,2] ?_;refine J.qr [1,3] λ_=>?_;have hlen:is.length=l'.length:=by rw[hp'.length_eq];simp[a0x]
  refine⟨a,cap,l',hp'.trans (a7K hp),?_,?_⟩
  ·rw[<- hlen]
  ·rw[<- hlen];rfl
 ·have hjl:j<l.length:=by have:=(List.getElem?_eq_some_iff.1 hy).1;simpa[Y0]using this
  refine J.qT λ_=>?_;refine J.q λ_=>?_;have hlt:(is++[j]).length<=l.length:=a3G _ _ (by
   rw[M4];exact⟨hk.1,by simp,λa ha b hb=>by simp at hb;subst hb;rintro rfl;exact hj ha⟩) (λi hi=>by
   rw[L9]at hi;rcases hi with hi | hi
   ·exact hk.2 i hi
   ·simp at hi;subst hi;exact hjl)
  rw[f8,U0]at hlt;refine J.rangeEntry hX 2 rfl rfl rfl rfl rfl rfl rfl hy rfl ⟨trivial,?_⟩;refine J.q λ_=>?_;refine J.append hX tk 3 5 0 rfl rfl rfl rfl rfl rfl rfl rfl rfl rfl rfl rfl rfl rfl rfl rfl ?_ ?_ (λ_=>rfl) λa' cap'=>⟨_,(congrArg (λz=>U3 _ 3 (m9 _ _ _ _ _ z)) (b2I hy)).trans rfl,trivial,?_⟩
  ·simp only[maxLen];omega
  ·omega
  refine J.q λ_=>?_;rw[show is.length+1=(is++[j]).length from by simp];refine J.q λ_=>?_;refine J.n ((is++[j],a',cap')) (trivial) (by dsimp only;rw[f8,U0];omega) [0,1,2,3]
end Go.Proofs.YtmafiplddapokaaGreat
