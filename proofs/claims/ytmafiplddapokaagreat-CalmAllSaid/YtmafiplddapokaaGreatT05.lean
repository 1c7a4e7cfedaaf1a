/- Helpers. No condition. -/
import Derived.Test.YtmafiplddapokaaGreatT04
import Derived.Shelf.GgSortFunc.InsertionK
import Derived.Sort.Grow
import Derived.Shelf.SlLaysF0
import Derived.Shelf.SlSortCmp.WholeK
import Derived.Laws.AppendOwn
set_option maxRecDepth 20000
set_option linter.all false
namespace Go.Proofs.YtmafiplddapokaaGreat
open Go Go.RowKit
def a4l (a b:Nat) (p:List UInt8):List UInt8:=p.take a++List.replicate (b-a) 255++p.drop b
theorem b0p (a b:Nat) (p:List UInt8) (h1:a<=b) (h2:b<=p.length):(a4l a b p).length=p.length:=by simp[a4l];omega
theorem b3L (a:Nat) (p:List UInt8):a4l a a p=p:=by simp[a4l]
theorem b6h (a b:Nat) (p:List UInt8) (h1:a<=b) (h2:b<p.length):(a4l a b p).set b 255=a4l a (b+1) p:=by
 apply z8;intro j;have hl:=b0p a b p h1 (by omega);rw[A9,hl];simp only[a4l,m9,I8,l5,L7,C6,E7,J5]
 by_cases e:b=j
 ·subst e;rw[d7 rfl,d7 h2,d4 (by omega),d7 (by omega),d7 (by omega)]
 ·rw[d4 e]
  by_cases h3:j<min a p.length
  ·rw[d7 h3,d7 h3]
  ·rw[d4 h3,d4 h3]
   by_cases h4:j<b
   ·rw[d7 (by omega),d7 (by omega),d7 (by omega),d7 (by omega)]
   ·rw[d4 (by omega),d4 (by omega)];congr 1;omega
theorem b5v (p:List UInt8) (h:p.length=32) (k:Nat) (v:UInt8):(T4 p).set k (bv v)=T4 (p.set k v):=by
 rw[X2 p h,X2 _ (by simpa using h),A6]
theorem b2R (l:List NCell) (c:NCell):P5 (l++[c])=P5 l++c.vals:=by simp[P5]
theorem b6i (K:Nat) (p:List UInt8) (h:K<=32) (hp:p.length=32):a4l K 32 p=Nand.fillP K p:=by
 simp only[a4l,Nand.fillP];rw[H0 (by omega),l8]
theorem b0L (l:List NCell) (c:NCell):l.length+1=(l++[c]).length:=by simp
theorem b7d {L L2:List Atom} {k e n cap:Nat} {ao:Option Nat} {l:List NCell} {cs:List Value} (c:NCell) (h:cs=c.vals) (hL:V2 L k (l9 e 34 ao n cap (P5 (l++[c])))=some L2):V2 L k (l9 e 34 ao n cap (P5 l++cs))=some L2:=by
 rw[h,<- b2R];exact hL
theorem b5t {N:Nand} {x y z:Int} {pg:List UInt8} (h:N.refuses x y z=0) (h5:z=(N.blk x.toNat y.toNat).cells.length) (h6:N.cutB=true):N.progN x y z pg=N.cutN.push x.toNat y.toNat ⟨Nand.fillP N.keep.toNat pg,false,true⟩:=by
 unfold Nand.progN;rw[d4 (by simp[h]),d4 (by simp[h5]),d7 h6]
theorem a5v {N:Nand} {x y z:Int} {pg:List UInt8} (h:N.refuses x y z=0) (h5:z=(N.blk x.toNat y.toNat).cells.length) (h6:N.cutB=false):N.progN x y z pg=Nand.push {N.cutN with plan:=N.plan.erase (x,y,z)} x.toNat y.toNat ⟨pg,N.fails x y z,false⟩:=by
 unfold Nand.progN;rw[d4 (by simp[h]),d4 (by simp[h5]),d4 (by simp[h6])]
theorem b5u {N:Nand} {x y z:Int} (h:N.refuses x y z=0) (h5:z=(N.blk x.toNat y.toNat).cells.length) (h6:N.cutB=true):N.progE x y z=9:=by
 unfold Nand.progE;rw[d4 (by simp[h]),d4 (by simp[h5]),d7 h6]
theorem a5w {N:Nand} {x y z:Int} (h:N.refuses x y z=0) (h5:z=(N.blk x.toNat y.toNat).cells.length) (h6:N.cutB=false):N.progE x y z=if N.fails x y z then 7 else 0:=by
 unfold Nand.progE;rw[d4 (by simp[h]),d4 (by simp[h5]),d4 (by simp[h6])]
theorem a4w (p:Nat) (N:Nand) (hN:N.Ok) (hR:N.Room) (x y z:Int) (pg:List UInt8) (hpl:pg.length=32):
  FP 201 [pp p, .agg #[iI x,iI y,iI z], .agg (T4 pg).toArray] [C3 p N] (Ps (iI (N.progE x y z)) [C3 p (N.progN x y z pg)]):=by
 have hbd:=hN.bd;have hnum:=hN.num;have hr1:=hR.broken;refine FE [2,0,0] Tryz.func201 λX F hX=>?_;refine J.q λbs=>?_;refine J.cb (a6j p N hN x y z) [1] ?_;refine cpq ⟨_,rfl,trivial,?_⟩;refine J.qd (λ_ h=>?_) λ_ h=>?_
 ·simp only[G9,I1]at h;refine J.qr [1] λ_=>?_;exact⟨by simp only[Nand.progE,I1,h,not_false_eq_true,d7],by simp only[Nand.progN,I1,h,not_false_eq_true,d7];rfl⟩
 simp only[A8]at h;obtain⟨hoff,hdd,hr⟩:=Nand.refuses_zero h;obtain⟨i,rfl⟩:=f9 hr.1;obtain⟨j,rfl⟩:=f9 hr.2.2.1;obtain⟨k,rfl⟩:=f9 hr.2.2.2.2.1;have hi:i<N.dies:=by omega
 have hj:j<N.blocks:=by omega
 have hlen:=(hN.cells i j hi hj).1;refine J.o (α:=NLoc) 1 λY=>?_;refine J.openAt 7 (i*N.blocks+j) rfl rfl (a1q _ _ _ _ _ (a8u hi hj)) rfl ?_;rw[(a0w hj).1,(a0w hj).2];refine J.o (α:=(Option Nat×Nat)) 8 λc=>?_;refine J.p (.of [0,4,8,13,16,21,24,29,34,37,40]) [10] [1,2,3,4,5,6,7,8,9] λ_=>?_;refine J.qp (a2U i j) [] λ_=>?_;refine J.valT hX (pp (Y.bp (i*N.blocks+j))) 9 rfl rfl (λ_ a w he hC=>?_) rfl ?_
 ·refine(I5 (key:=((i:Int),(j:Int),0)) a1f a3I (z:= .pointer none) (λw=>by kernel_rfl) rfl rfl rfl rfl he rfl rfl (hC rfl _ (C0 (i:=4) rfl))).trans ?_;simp only[a1B hi hj];rfl
 refine J.p (.of [0,5,8,12,16,21,24,28]) [] [1,2,3,4,5,6,7,8,9] λ_=>?_;refine J.qd (λ_ h5=>?_) λ_ h5=>?_
 ·simp only[G9,I1]at h5;refine J.q λ_=>?_;refine J.closeN p N ({N with broken:=N.broken+1}) Y i j hj (N.blk i j) _ [1,4,5,6,7,8,9] rfl rfl rfl rfl (X5 _ _ _) rfl ?_;refine J.qr [1] λ_=>?_;exact⟨by simp[Nand.progE,h,h5],by simp[Nand.progN,h,h5];rfl⟩
 simp only[A8,a4P]at h5;refine J.qp (c1i p N Y hN hR) [1] λ_=>?_;refine J.qd (λ_ h6=>?_) λ_ h6=>?_
 ·have hkp:=hN.kp;obtain⟨K,hK⟩:∃K:Nat,N.keep=K:=⟨N.keep.toNat,by omega⟩;have hK2:N.cutN.keep=K:=hK;refine J.q λ_=>?_;rw[hK2];refine J.q λ_=>?_;refine J.lo (α:=Nat) (λm=>K<=m/\m<=32) (λm=>[si 9 m,⟨5,pp (bs (0+1)),4, .tt⟩,⟨8,pp (Y.bp (i*N.blocks+j)),9, .tt⟩]) [3] (λm=>[.pt (bs (0+1)) 110 (T4 (a4l K m pg))]) (λm=>32-m) (K) (⟨j3 _,by omega⟩) rfl ?_ (λ_=>rfl) λm hI=>?_
  ·rw[b3L];rfl
  refine J.qd (λ_ h7=>?_) λ_ h7=>?_
  ·simp only[d6]at h7;refine J.q λ_=>?_;refine J.s1 3 (T4 (a4l K (m+1) pg)) ?_ ?_ ?_
   ·show 0+(m:Int).toNat*1<32;omega
   ·rw[show 0+(m:Int).toNat*1=m from by omega,<- b6h _ _ _ hI.1 (by omega)];exact b5v _ (by rw[b0p _ _ _ hI.1 (by omega)];exact hpl) m 255
   refine J.q λ_=>?_;refine J.nx (m+1) (⟨by omega,by omega⟩) (by omega) (λ_ s=>s)
  simp only[c8]at h7;obtain rfl:m=32:=by omega
  refine J.pq (.of [0,4,8,12,17,21,24,30,34,36,40,47]) [9,10,11] [1,2,3,4,5,6,7,8] λ_ _=>?_;rw[b6i _ _ hI.1 hpl];refine J.append hX tk 9 10 0 rfl rfl rfl rfl rfl rfl rfl rfl rfl rfl rfl rfl rfl rfl rfl rfl ?_ ?_ (λ_=>rfl) λa' cap'=>⟨_,b7d ⟨Nand.fillP K pg,false,true⟩ rfl rfl,⟨rfl,rfl,rfl,rfl,rfl,rfl,rfl,rfl,trivial⟩,?_⟩
  ·simp only[maxLen];omega
  ·omega
  refine J.q λ_=>?_;rw[b0L _ ⟨Nand.fillP K pg,false,true⟩];refine J.q λ_=>?_;refine J.closeN p N (N.cutN.push i j ⟨Nand.fillP K pg,false,true⟩) Y i j hj ({N.blk i j with cells:=(N.blk i j).cells++[⟨Nand.fillP K pg,false,true⟩]}) (a',cap') [1,4,5,6,7,8,9] rfl rfl rfl rfl (rfl) rfl ?_;refine J.qr [1] λ_=>?_;subst h5;exact⟨(b5u h rfl h6).symm▸rfl,by rw[b5t h rfl h6,hK];rfl⟩
 ·refine J.p (.of [0,4,8,13,17,22,24,28,32,36,40]) [10] [1,2,3,4,6,7,8,9] λ_=>?_;refine J.qp (c1e Y.q N.plan i j k) [5] λ_=>?_;refine J.p (.of [0,4,8,13,17,22]) [] [1,2,3,4,6,7,8,9] λ_=>?_;refine J.qp (b7h Y.q N.plan i j k) [5] λ_=>?_;refine J.pq (.of [0,4,8,12,17,21,24,28,34,38,40,44,51]) [10,11,12] [1,2,3,4,5,6,7,8] λ_ _=>?_;refine J.append hX tk 9 10 0 rfl rfl rfl rfl rfl rfl rfl rfl rfl rfl rfl rfl rfl rfl rfl rfl ?_ ?_ (λ_=>rfl) λa' cap'=>⟨_,b7d ⟨pg,decide (((i:Int),(j:Int),(k:Int))∈N.plan)||(N.blk i j).met,false⟩ rfl rfl,⟨rfl,rfl,rfl,rfl,rfl,rfl,rfl,rfl,trivial⟩,?_⟩
  ·simp only[maxLen];omega
  ·omega
  refine J.q λ_=>?_;rw[b0L _ ⟨pg,N.fails i j k,false⟩];refine J.q λ_=>?_;refine J.closeN p N (Nand.push {N.cutN with plan:=N.plan.erase ((i:Int),(j:Int),(k:Int))} i j ⟨pg,N.fails i j k,false⟩) Y i j hj ({N.blk i j with cells:=(N.blk i j).cells++[⟨pg,N.fails i j k,false⟩]}) (a',cap') [1,4,5,6,7,8,9] rfl rfl rfl rfl (rfl) rfl ?_;refine J.qd (λ_ h9=>?_) λ_ h9=>?_
  ·refine J.qr [1] λ_=>?_;subst h5;exact⟨by rw[a5w h rfl h6];exact congrArg (Value.int IntKind.i64) (d7 h9).symm,by rw[a5v h rfl h6];rfl⟩
  ·refine J.qr [1] λ_=>?_;subst h5;exact⟨by rw[a5w h rfl h6];exact congrArg (Value.int IntKind.i64) (d4 (by rw[show N.fails i j (N.blk i j).cells.length=false from h9];simp)).symm,by rw[a5v h rfl h6];rfl⟩
theorem a2l:∀(l:List NCell) (k i:Nat) (v:Value) (f:NCell->NCell) (c:NCell),l[k]? =some c->i<34->c.vals.set i v=(f c).vals->(P5 l).set (k*34+i) v=P5 (l.modify k f)
 | [],k,i,v,f,c,h,_,_=>by simp at h
 | x::l,0,i,v,f,c,h,hi,hv=>by
  simp at h;subst h;simp only[P5,z7,List.modify_cons,Q3,J6,a0d];rw[Q1 _ _ (by simpa[NCell.vals]using hi),hv]
 | x::l,k+1,i,v,f,c,h,hi,hv=>by
  have:=a2l l k i v f c (by simpa using h) hi hv;simp only[P5,z7,List.modify_cons]at this ⊢;rw[O9 _ _ (by simp[NCell.vals];omega),show(k+1)*34+i-x.vals.length=k*34+i from by simp[NCell.vals];omega,this];simp
theorem c0I {N:Nand} {x y z n xx:Int} (h:X4 N.dies N.blocks N.pages x y z=true):N.fault 1 x y z n xx=(true,{N with plan:=b6w N.plan (x,y,z)}):=by
 unfold Nand.fault;rw[d4 (by simp[h]),d7 rfl];rfl
theorem c0H {N:Nand} {x y z n xx:Int} (h:X4 N.dies N.blocks N.pages x y z=true):N.fault 2 x y z n xx=(true,N.setBlk x.toNat y.toNat {N.blk x.toNat y.toNat with fails:=true}):=by
 unfold Nand.fault;rw[d4 (by simp[h]),d4 (by decide),d7 rfl]
theorem b4O {N:Nand} {x y z n xx:Int} (h:X4 N.dies N.blocks N.pages x y z=true):N.fault 3 x y z n xx=(true,N.setCell x y z λc=>{c with lost:=true}):=by
 unfold Nand.fault;rw[d4 (by simp[h]),d4 (by decide),d4 (by decide),d7 rfl]
theorem c0G {N:Nand} {x y z n xx:Int} (h:X4 N.dies N.blocks N.pages x y z=true):N.fault 4 x y z n xx=(true,{N with dead:=N.dead.set x.toNat true}):=by
 unfold Nand.fault;rw[d4 (by simp[h]),d4 (by decide),d4 (by decide),d4 (by decide),d7 rfl]
theorem b8L {N:Nand} {k x y z n xx:Int} (h1:k≠1) (h2:k≠2) (h3:k≠3) (h4:k≠4) (h5:k≠5):N.fault k x y z n xx=(false,N):=by
 unfold Nand.fault;split<;>simp_all
theorem b2l {l:List NCell} {k:Nat} {f:NCell->NCell} (h:l.length<=k):l.modify k f=l:=by
 apply z8;intro j;rw[a1C]
 by_cases e:k=j
 ·subst e;rw[j6 h];rfl
 ·simp[e]
theorem a7C {N:Nand} {x y z n xx:Int} (h:X4 N.dies N.blocks N.pages x y z=true):N.fault 5 x y z n xx=if n<0\/32<=n then(false,N)else
  match N.pageAt x y z with
  | none=>(true,N)
  | some c=>if c.turned then(false,N)else if c.lost then(true,N)else
   (true,N.setCell x y z λc=>{c with p:=Nand.xorAt c.p n.toNat (UInt8.ofNat (xx % 256).toNat),turned:=true}):=by
 unfold Nand.fault;rw[d4 (by simp[h]),d4 (by decide),d4 (by decide),d4 (by decide),d4 (by decide),d7 rfl]
 try rfl
theorem a6V {N:Nand} {x y z n xx:Int} (h:X4 N.dies N.blocks N.pages x y z=true) (h2:N.pageAt x y z=none) {b:Bool} (hb:(decide (n<0)||decide (n>=32))=b):N.fault 5 x y z n xx=(!b,N):=by
 subst hb;rw[a7C h,h2]
 by_cases h3:n<0\/32<=n
 ·rw[d7 h3];simp;omega
 ·rw[d4 h3];simp;omega
theorem a9s {N:Nand} {x y z n xx:Int} {c:NCell} (h:X4 N.dies N.blocks N.pages x y z=true) (h2:N.pageAt x y z=some c) (hb:(decide (n<0)||decide (n>=32)||(true&&c.turned))=true):N.fault 5 x y z n xx=(false,N):=by
 rw[a7C h,h2]
 by_cases h3:n<0\/32<=n
 ·rw[d7 h3]
 ·rw[d4 h3];simp only[j7,d6,q9]at hb;rcases hb with hb | hb
  ·omega
  ·simp only;rw[d7 hb]
theorem b0F {c:NCell} (h:c.p.length=32):c.vals=c.p.map bv++[.bool c.lost, .bool c.turned]:=by
 rw[<- X2 c.p h];rfl
theorem b6J {c:NCell} (h:c.p.length=32) {e:Nat} (he:e<32):c.vals[e]? =some (bv (c.p.getD e 0)):=by
 rw[b0F h,E6 (by simpa[h]using he)];simp[h,he]
theorem b6z (b:UInt8) (xx:Int):IntKind.u8.wrap ((BitVec.ofInt IntKind.u8.bits (b.toNat:Int) ^^^ BitVec.ofInt IntKind.u8.bits (IntKind.u8.wrap xx)).toNat:Int)=((b ^^^ UInt8.ofNat (xx % 256).toNat).toNat:Int):=by
 have h0:IntKind.u8.wrap xx=xx % 256:=by simp[IntKind.wrap,IntKind.bits,IntKind.signed]
 obtain⟨m,hm⟩:∃m:Nat,xx % 256=m:=⟨(xx % 256).toNat,by omega⟩;have hm2:m<256:=by omega
 rw[h0,hm];simp only[i9];have e1:(BitVec.ofInt IntKind.u8.bits (b.toNat:Int) ^^^ BitVec.ofInt IntKind.u8.bits (m:Int)).toNat=b.toNat ^^^ m:=by
  rw[BitVec.toNat_xor];have:=b.toNat_lt;show(BitVec.ofInt 8 (b.toNat:Int)).toNat ^^^ (BitVec.ofInt 8 (m:Int)).toNat=_;rw[a4H,a4H,a5Z,a5Z,K4 this,K4 hm2]
 have e2:(b ^^^ UInt8.ofNat m).toNat=b.toNat ^^^ m:=by
  rw[UInt8.toNat_xor,a5T,K4 hm2]
 rw[e1,e2];have hx:b.toNat ^^^ m<256:=Z9 (n:=8) b.toNat_lt hm2;have:IntKind.u8.wrap ((b.toNat ^^^ m:Nat):Int)=((b.toNat ^^^ m:Nat):Int) % 256:=by simp[IntKind.wrap,IntKind.bits,IntKind.signed]
 rw[this];omega
theorem a4x (p:Nat) (N:Nand) (hN:N.Ok) (at_ kind x y z n xx:Int):FP 13 [pp p, .agg #[iI at_,iI kind,iI x,iI y,iI z,iI n,iI xx]] [C3 p N]
  (λv As=>v= .bool (N.fault kind x y z n xx).1/\As=[C3 p (N.fault kind x y z n xx).2]):=by
 have hbd:=hN.bd;refine FE [2,0] Tryz.func13 λX F hX=>?_;refine J.o (α:=NLoc) 1 λY=>?_;refine J.pq (.of [0,4,8,12,16,20,25,28,33,38,40,44]) [] [1,2,3,4,5,6] λ_ _=>?_;refine J.ca hX (by kernel_rfl) (b2J _ _ _ x y z (by omega) (by omega) (by omega)) [] 0 rfl rfl rfl rfl rfl rfl (λ_=>rfl) ?_;refine cpq ⟨_,rfl,⟨rfl,rfl,rfl,rfl,rfl,rfl,trivial⟩,?_⟩;refine J.qd (λ_ h=>?_) λ_ h=>?_
 ·simp only[D6,i4]at h;refine J.q λ_=>?_;refine J.cl (a0O p N) (Y) [1,2,3,4,5] ?_;refine J.qr [1] λ_=>?_;exact⟨by simp[Nand.fault,h],by simp[Nand.fault,h];rfl⟩
 simp only[D6,B5]at h;have hr:0<=x/\x<N.dies/\0<=y/\y<N.blocks/\0<=z/\z<N.pages:=by simp[X4]at h;omega
 obtain⟨i,rfl⟩:=f9 hr.1;obtain⟨j,rfl⟩:=f9 hr.2.2.1;obtain⟨k,rfl⟩:=f9 hr.2.2.2.2.1;have hi:i<N.dies:=by omega
 have hj:j<N.blocks:=by omega
 have hlen:=(hN.cells i j hi hj).1;refine J.openAt 5 (i*N.blocks+j) rfl rfl (a1q _ _ _ _ _ (a8u hi hj)) rfl ?_;rw[(a0w hj).1,(a0w hj).2];refine J.o (α:=(Option Nat×Nat)) 7 λc=>?_;refine J.p (.of [0,4,8,13,16,20,25,28,32,37,42,45,48]) [12] [1,2,3,4,5,6,7,8] λ_=>?_;refine J.qp (a2U i j) [] λ_=>?_;refine J.valT hX (pp (Y.bp (i*N.blocks+j))) 8 rfl rfl (λ_ a w he hC=>?_) rfl ?_
 ·refine(I5 (key:=((i:Int),(j:Int),0)) a1f a3I (z:= .pointer none) (λw=>by kernel_rfl) rfl rfl rfl rfl he rfl rfl (hC rfl _ (C0 (i:=2) rfl))).trans ?_;simp only[a1B hi hj];rfl
 refine J.p (.of [0,4,9,12,16,20,25,28,32,36]) [9] [1,2,3,4,5,6,7,8] λ_=>?_;refine J.qd (λ_ h1=>?_) λ_ h1=>?_
 ·simp only[B4]at h1;subst h1;refine J.p (.of [0,4,8,13,16,21,26]) [] [1,2,4,5,6,7,8] λ_=>?_;refine J.qp (c2K Y.q N.plan i j k) [3] λ_=>?_;refine J.q λ_=>?_;refine J.closeN p N ({N with plan:=b6w N.plan ((i:Int),(j:Int),(k:Int))}) Y i j hj (N.blk i j) _ [1,2,3,4,5,7,8] rfl rfl rfl rfl (X5 _ _ _) rfl ?_;refine J.qr [1] λ_=>?_;rw[c0I h];exact⟨rfl,rfl⟩
 simp only[m6,I1]at h1;refine J.qd (λ_ h2=>?_) λ_ h2=>?_
 ·simp only[B4]at h2;subst h2;refine J.q λ_=>?_;refine J.closeN p N (N.setBlk i j {N.blk i j with fails:=true}) Y i j hj ({N.blk i j with fails:=true}) _ [1,2,3,4,5,7,8] rfl rfl rfl rfl (rfl) rfl ?_;refine J.qr [1] λ_=>?_;rw[c0H h];exact⟨rfl,rfl⟩
 simp only[m6,I1]at h2;refine J.qd (λ_ h3=>?_) λ_ h3=>?_
 ·simp only[B4]at h3;subst h3;refine J.qd (λ_ h5=>?_) λ_ h5=>?_
  ·simp only[d6,i6]at h5;refine J.know (λh' s=>D7 (by omega) (s.get (i:=8) rfl)) λhg=>?_;obtain⟨g,hg⟩:=hg;obtain⟨c1,c2⟩:=c;simp only at hg;subst hg;refine J.openOwn 8 rfl rfl (λ_=>rfl) λr q1 q2 q3 q4=>?_;obtain⟨cl,hcl⟩:∃cl,(N.blk i j).cells[k]? =some cl:=⟨_,c9 h5⟩;refine J.pq (.of [0,4,8,13,16,20,25,28,32,39]) [7,8,9] [1,2,3,4,5,6,7] λ_ _=>?_;refine J.s1 8 (P5 ((N.blk i j).cells.modify k λc=>{c with lost:=true})++r) ?_ ?_ ?_
   ·rw[d8,I6];show 0+(k:Int).toNat*34+32<_;simp only[i9];omega
   ·rw[show 0+(k:Int).toNat*34+32=k*34+32 from by simp,Q1 _ _ (by rw[I6];omega)];rw[a2l _ k 32 _ (λc=>{c with lost:=true}) cl hcl (by omega) rfl]
   refine J.closeOwn (e:=112) (size:=34) (n:=(N.blk i j).cells.length) (cap:=c2) (xs:=P5 ((N.blk i j).cells.modify k λc=>{c with lost:=true})) 8 rfl rfl (by rw[I6,O3]) q2 q3 (by rw[d8,I6,O3];rw[I6]at q4;exact q4) (by rw[D9 (by rw[I6,O3])]) rfl ?_;rw[show(N.blk i j).cells.length=((N.blk i j).cells.modify k λc=>{c with lost:=true}).length from by rw[O3]];refine J.q λ_=>?_;refine J.closeN p N (N.setCell i j k λc=>{c with lost:=true}) Y i j hj ({N.blk i j with cells:=(N.blk i j).cells.modify k λc=>{c with lost:=true}}) (some g,c2) [1,2,3,4,5,7,8] rfl rfl rfl rfl (rfl) rfl ?_;refine J.qr [1] λ_=>?_;rw[b4O h];exact⟨rfl,rfl⟩
  ·simp only[c8,i6,Nat.not_lt]at h5;refine J.q λ_=>?_;refine J.closeN p N (N.setCell i j k λc=>{c with lost:=true}) Y i j hj (N.blk i j) _ [1,2,3,4,5,7,8] rfl rfl rfl rfl ((by simp only[Nand.setCell,Nand.setBlk,i9];rw[b2l h5])) rfl ?_;refine J.qr [1] λ_=>?_;rw[b4O h];exact⟨rfl,rfl⟩
 simp only[m6,I1]at h3;refine J.qd (λ_ h4=>?_) λ_ h4=>?_
 ·simp only[B4]at h4;subst h4;refine J.pq (.of [0,4,8,13,16,20,25,28,35]) [7,8] [1,2,3,5,6,7,8] λ_ _=>?_;refine J.s1 4 ((N.dead.set i true).map Value.bool) ?_ ?_ ?_
  ·rw[j5,hN.dead];show 0+(i:Int).toNat*1<_;omega
  ·rw[show 0+(i:Int).toNat*1=i from by omega,A6]
  refine J.q λ_=>?_;refine J.closeN p N ({N with dead:=N.dead.set i true}) Y i j hj (N.blk i j) _ [1,2,3,4,5,7,8] rfl rfl rfl rfl (X5 _ _ _) rfl ?_;refine J.qr [1] λ_=>?_;rw[c0G h];exact⟨rfl,rfl⟩
 simp only[m6,I1]at h4;refine J.qd (λ_ h6=>?_) λ_ h6=>?_
 ·simp only[B4]at h6;subst h6
  by_cases h5:k<(N.blk i j).cells.length
  ·rw[show decide ((k:Int)<((N.blk i j).cells.length:Int))=true from i7 (by omega)];refine J.know (λh' s=>D7 (by omega) (s.get (i:=8) rfl)) λhg=>?_;obtain⟨g,hg⟩:=hg;obtain⟨c1,c2⟩:=c;simp only at hg;subst hg;refine J.openOwn 8 rfl rfl (λ_=>rfl) λr q1 q2 q3 q4=>?_;obtain⟨cl,hcl⟩:∃cl,(N.blk i j).cells[k]? =some cl:=⟨_,c9 h5⟩;refine J.pq (.of [0,5,8,12,16,21,24,28,32,36,40,44,48,52,57,60,64,69,72,76,81,84,88]) [] [1,2,3,4,5,6,7,8] λ_ _=>?_;have hpa:N.pageAt i j k=some cl:=by simp only[Nand.pageAt,i9];exact hcl
   have hoff:∀e,e<34->(P5 (N.blk i j).cells++r)[k*34+e]? =cl.vals[e]?:=λe he=>by
    rw[E6 (by rw[I6];omega)];exact a6Y hcl he
   refine J.vT (.bool cl.turned) rfl rfl (λhg a w he hC=>?_) ?_
   ·exact B6 tk rfl rfl he hg rfl rfl (hC rfl _ (C0 (i:=8) rfl)) (by rw[show 0+((k:Int)).toNat*34+33=k*34+33 from by simp];exact hoff 33 (by omega))
   refine J.qd (λ_ h7=>?_) λ_ h7=>?_
   ·refine J.closeOwn (e:=112) (size:=34) (n:=(N.blk i j).cells.length) (cap:=c2) (xs:=P5 (N.blk i j).cells) 8 rfl rfl q1 q2 q3 (by rw[d8];exact q4) (by rw[D9 q1]) rfl ?_;refine J.q λ_=>?_;refine J.closeN p N (N) Y i j hj (N.blk i j) (some g,c2) [1,2,3,4,5,7,8] rfl rfl rfl rfl (X5 _ _ _) rfl ?_;refine J.qr [1] λ_=>?_;rw[a9s h hpa h7];exact⟨rfl,rfl⟩
   refine J.pq (.of [0,4,8,12,16,21,24,28,33,36,40,45,48,52]) [] [1,2,3,4,5,6,7,8] λ_ _=>?_;refine J.vT (.bool cl.lost) rfl rfl (λhg a w he hC=>?_) ?_
   ·exact B6 tk rfl rfl he hg rfl rfl (hC rfl _ (C0 (i:=8) rfl)) (by rw[show 0+((k:Int)).toNat*34+32=k*34+32 from by simp];exact hoff 32 (by omega))
   refine J.qd (λ_ h8=>?_) λ_ h8=>?_
   ·have hn:0<=n/\n<32:=by
     simp only[D5,c8]at h7;omega
    obtain⟨e,rfl⟩:=f9 hn.1;have he32:e<32:=by omega
    have hp32:cl.p.length=32:=(hN.cells i j hi hj).2 cl (j9 hcl);refine J.pn 14 (.of [0,4,8,13,16,20,25,28,33,36,40,44,52,57,60,68,72,50,64,76,82]) [] [1,2,3,4,5,6,7] λ_ _=>?_;refine J.vT (.int .u8 (IntKind.u8.wrap xx)) rfl rfl (λhg a w he hC=>?_) ?_
    ·exact a2F tk rfl rfl he rfl rfl rfl
    refine J.q λ_=>?_;refine J.val hX (bv (cl.p.getD e 0)) 0 rfl rfl (λhg a w he hs=>?_) rfl ⟨rfl,rfl,rfl,rfl,rfl,rfl,rfl,trivial⟩ ?_
    ·exact B6 tk rfl rfl he hg rfl rfl (hs.get (i:=8) rfl) (by rw[show 0+((k:Int)).toNat*34+0+((e:Int)).toNat*1=k*34+e from by simp,hoff e (by omega)];exact b6J hp32 he32)
    refine J.q λ_=>?_;have hlen':(P5 (N.blk i j).cells++r).length=c2*34:=by rw[d8];exact q4
    have hnl:k*34+34<=(N.blk i j).cells.length*34:=by omega
    refine J.s1 8 (P5 ((N.blk i j).cells.modify k λc=>{c with p:=Nand.xorAt c.p e (UInt8.ofNat (xx % 256).toNat)})++r) ?_ ?_ ?_
    ·rw[d8,I6];show 0+(k:Int).toNat*34+0+(e:Int).toNat*1<_;simp only[i9];omega
    ·rw[show 0+(k:Int).toNat*34+0+(e:Int).toNat*1=k*34+e from by simp,Q1 _ _ (by rw[I6];omega)];rw[a2l _ k e _ (λc=>{c with p:=Nand.xorAt c.p e (UInt8.ofNat (xx % 256).toNat)}) cl hcl (by omega) ?_];rw[b6z,b0F hp32,b0F (by simp[Nand.xorAt,hp32]),Q1 _ _ (by simpa[hp32]using he32)];congr 1;exact(A6 (f:=bv)).symm
    refine J.pq (.of [0,4,8,13,16,20,25,28,32,39]) [7,8,9] [1,2,3,4,5,6,7] λ_ _=>?_;refine J.s1 8 (P5 ((N.blk i j).cells.modify k λc=>{c with p:=Nand.xorAt c.p e (UInt8.ofNat (xx % 256).toNat),turned:=true})++r) ?_ ?_ ?_
    ·rw[d8,I6,O3];show 0+(k:Int).toNat*34+33<_;simp only[i9];omega
    ·rw[show 0+(k:Int).toNat*34+33=k*34+33 from by simp,Q1 _ _ (by rw[I6,O3];omega)];rw[a2l _ k 33 _ (λc=>{c with turned:=true}) _ (by rw[List.getElem?_modify_eq,hcl];rfl) (by omega) rfl,List.modify_modify_eq];rfl
    refine J.closeOwn (e:=112) (size:=34) (n:=(N.blk i j).cells.length) (cap:=c2) (xs:=P5 ((N.blk i j).cells.modify k λc=>{c with p:=Nand.xorAt c.p e (UInt8.ofNat (xx % 256).toNat),turned:=true})) 8 rfl rfl (by rw[I6,O3]) q2 q3 (by rw[d8,I6,O3];rw[I6]at q4;exact q4) (by rw[D9 (by rw[I6,O3])]) rfl ?_;rw[show(N.blk i j).cells.length=((N.blk i j).cells.modify k λc=>{c with p:=Nand.xorAt c.p e (UInt8.ofNat (xx % 256).toNat),turned:=true}).length from by rw[O3]];refine J.q λ_=>?_;refine J.closeN p N (N.setCell i j k λc=>{c with p:=Nand.xorAt c.p e (UInt8.ofNat (xx % 256).toNat),turned:=true}) Y i j hj ({N.blk i j with cells:=(N.blk i j).cells.modify k λc=>{c with p:=Nand.xorAt c.p e (UInt8.ofNat (xx % 256).toNat),turned:=true}}) (some g,c2) [1,2,3,4,5,7,8] rfl rfl rfl rfl (rfl) rfl ?_;refine J.qr [1] λ_=>?_;rw[a7C h,hpa];simp only[D5,q9]at h7;simp only[q9,i4]at h8;rw[d4 (by omega)];simp only[h7.2,h8,H6,X6];exact⟨trivial,rfl⟩
   ·refine J.closeOwn (e:=112) (size:=34) (n:=(N.blk i j).cells.length) (cap:=c2) (xs:=P5 (N.blk i j).cells) 8 rfl rfl q1 q2 q3 (by rw[d8];exact q4) (by rw[D9 q1]) rfl ?_;refine J.q λ_=>?_;refine J.closeN p N (N) Y i j hj (N.blk i j) (some g,c2) [1,2,3,4,5,7,8] rfl rfl rfl rfl (X5 _ _ _) rfl ?_;refine J.qr [1] λ_=>?_;rw[a7C h,hpa];simp only[D5,q9,c8]at h7;simp only[q9,B5]at h8;rw[d4 (by omega)];simp only[h7.2,h8,H6,X6,a0d];exact⟨trivial,rfl⟩
  ·rw[show decide ((k:Int)<((N.blk i j).cells.length:Int))=false from n7 (by omega)];refine J.pn 18 (.of [0,5,8,12,16,21,24,28,32,36,40,44,48,52,57,60,64,69,72,76,81,84,88]) [] [1,2,3,4,5,6,7,8] λ_ _=>?_;have hpa:N.pageAt i j k=none:=by simp only[Nand.pageAt,i9];exact j6 (by omega)
   refine J.vT (pp 0) rfl rfl (λhg a w he hC=>by simp[G.on]at hg) ?_;refine J.q λ_=>?_;refine J.vT (.bool false) rfl rfl (λhg a w he hC=>by simp[G.on]at hg) ?_;refine J.qd (λ_ h7=>?_) λ_ h7=>?_
   ·refine J.q λ_=>?_;refine J.closeN p N (N) Y i j hj (N.blk i j) _ [1,2,3,4,5,7,8] rfl rfl rfl rfl (X5 _ _ _) rfl ?_;refine J.qr [1] λ_=>?_;rw[a6V h hpa (b:=true) (by simpa using h7)];exact⟨rfl,rfl⟩
   refine J.pn 9 (.of [0,4,8,12,16,21,24,28,33,36,40,45,48,52]) [] [1,2,3,4,5,6,7,8] λ_ _=>?_;refine J.vT (pp 0) rfl rfl (λhg a w he hC=>by simp[G.on]at hg) ?_;refine J.q λ_=>?_;refine J.vT (.bool false) rfl rfl (λhg a w he hC=>by simp[G.on]at hg) ?_;refine J.qF λ_=>?_;refine J.q λ_=>?_;refine J.closeN p N (N) Y i j hj (N.blk i j) _ [1,2,3,4,5,7,8] rfl rfl rfl rfl (X5 _ _ _) rfl ?_;refine J.qr [1] λ_=>?_;rw[a6V h hpa (b:=false) (by simpa using h7)];exact⟨rfl,rfl⟩
 simp only[m6,I1]at h6;refine J.q λ_=>?_;refine J.closeN p N (N) Y i j hj (N.blk i j) _ [1,2,3,4,5,7,8] rfl rfl rfl rfl (X5 _ _ _) rfl ?_;refine J.qr [1] λ_=>?_;rw[b8L h1 h2 h3 h4 h6];exact⟨rfl,rfl⟩
def B0:NBlock:=⟨[],0,false,false⟩
def c2z (d b p:Nat) (x:Nat×Nat×Nat×Nat):List Value:=
 [iI d,iI b,iI p, .map (some x.2.1),pp x.2.2.1, .slice (some ⟨x.2.2.2,0,none⟩) d d, .bool false,iI 0,iI 0, .bool false,iI 0,iI 0]
theorem b0A {k:A3} {v:Value}:∀{l:List (A3×Value)},(∀x∈l,x.1≠k)->a1F l k v=l++[(k,v)]
 | [],_=>rfl
 | x::l,h=>by
  have h1:=h x (by simp);simp only[a1F,d4 (Ne.symm h1),b0A (l:=l) (λy hy=>h y (by simp[hy])),V6]
def upd (bp:Nat->Nat) (n v:Nat):Nat->Nat:=λk=>if k=n then v else bp k
theorem b6r (nb n:Nat) (bp:Nat->Nat) (v:Nat):a4p nb (n+1) (upd bp n v)=a4p nb n bp++[((((n/nb:Nat):Int),((n % nb:Nat):Int),0),pp v)]:=by
 unfold a4p;rw[t6,s8];congr 1
 ·apply a0D;intro k hk;have:k≠n:=by have:=List.mem_range.1 hk;omega
  simp[upd,this]
 ·simp[upd]
theorem a8Y (nb n:Nat) (bp:Nat->Nat) (v:Nat):a0T nb (n+1) (upd bp n v) (λ_ _=>B0)=a0T nb n bp (λ_ _=>B0)++[a9v v B0]:=by
 unfold a0T;rw[t6,s8];congr 1
 ·apply a0D;intro k hk;have:k≠n:=by have:=List.mem_range.1 hk;omega
  simp[upd,this]
 ·simp[upd]
theorem b0z {nb j:Nat} (i:Nat) (hj:j<nb) (bp:Nat->Nat) (v:Nat):a1F (a4p nb (i*nb+j) bp) ((i:Int),(j:Int),0) (pp v)=a4p nb (i*nb+j+1) (upd bp (i*nb+j) v):=by
 rw[b6r,(a0w hj).1,(a0w hj).2,b0A];intro x hx;simp only[a4p,Q5,J4]at hx;obtain⟨k,hk,rfl⟩:=hx;intro e;simp only[C7,a4P,and_true]at e;have h1:=a4O k nb;rw[e.1,e.2,V9]at h1;omega
theorem b2Y {BL:List Atom} {v:Nat} {h:Hl} (s:Sep [.hp (HP.of BL), .pt v 107 [.slice none 0 0,iI 0, .bool false, .bool false]] h):Sep [.hp (HP.of (BL++[a9v v B0]))] h:=by
 have s1:Sep [.hp (HP.of BL),a9v v B0] h:=s.turn1 [1] rfl (As:=[a9v v B0]) (λh' s'=>Sep.one ⟨(none,0),by
  refine⟨λ_=>0,λi A hA=>?_⟩
  match i,hA with
  | 0,hA=>simp at hA;subst hA;exact Atom.up (A:= .pt v 107 [.slice none 0 0,iI 0, .bool false, .bool false]) (λb o hb=>res_some.2 ⟨rfl,hb⟩) (s'.get (i:=0) rfl)
  | 1,hA=>simp at hA;subst hA;exact⟨rfl,rfl,rfl⟩
  | k+2,hA=>simp at hA⟩)
 exact Sep.hpOf.2 s1.flat
theorem a9U (d b p:Nat) (hg:L4 d b p=true):FP 35 [.agg #[iI d,iI b,iI p]] [] (λv As=>∃q,v=pp q/\As=[C3 q (Nand.new d b p)]):=by
 have hbd:(3<=d/\d<=6)/\(8<=b/\b<=16)/\(2<=p/\p<=8):=by simp[L4]at hg;omega
 refine FE [0] Tryz.func35 λX F hX=>?_;refine J.q λg1=>?_;refine J.cb (a6W d b p) [] ?_;refine cpq ⟨_,rfl,trivial,?_⟩;rw[hg];refine J.qF λ_=>?_;refine J.p (.take false 0 (.take true 3 (.take false 4 (.alt false 1 ((.alt false 2 ((.of [22,24,30,32])) (.alt false 5 ((.of [10,24,30,32])) .non))) (.alt false 2 ((.alt false 1 ((.of [22,24,30,32])) (.alt false 5 ((.of [6,24,30,32])) .non))) (.alt false 5 ((.alt false 1 ((.of [10,24,30,32])) (.alt false 2 ((.of [6,24,30,32])) .non))) .non)))))) [8] [1] λ_=>?_;refine J.join (α:=Nat×Nat×Nat×Nat) (λx=>[⟨3,pp x.1,3, .tt⟩,⟨1,pp (g1 0),2, .tt⟩]) (λx=>[.hp F, .pt (g1 0) 23 [iI d,iI b,iI p], .pt x.1 92 (c2z d b p x), .ob x.2.1 (.map #[] 0),a1K x.2.2.1 [], .pt x.2.2.2 4 (List.replicate d (.bool false))]) (λhj=>?_) (λx=>?_)
 ·refine J.qn 3 λ_=>?_;refine J.alts ?_ (J.alts ?_ ?_)
  ·skip
   refine J.qn 1 λmm=>?_;refine J.alts ?_ ?_
   ·skip
    refine J.qc (b1T) [] λ_=>?_;rintro v As ⟨q,rfl,rfl⟩;refine⟨_,rfl,⟨rfl,trivial⟩,?_⟩;refine J.makeSlice hX tk 5 rfl rfl rfl rfl rfl rfl rfl rfl rfl rfl ?_ ?_ (λ_=>rfl) (λ_=>rfl) λdd=>⟨⟨rfl,trivial⟩,?_⟩
    ·simp only[maxLen];omega
    ·omega
    refine J.qn 4 λnn=>?_;exact J.goto [0,1,5,2,3,4] (hj (nn 0,mm 0,q,dd)) ⟨rfl,rfl,trivial⟩ rfl rfl
   ·skip
    refine J.makeSlice hX tk 4 rfl rfl rfl rfl rfl rfl rfl rfl rfl rfl ?_ ?_ (λ_=>rfl) (λ_=>rfl) λdd=>⟨⟨rfl,trivial⟩,?_⟩
    ·simp only[maxLen];omega
    ·omega
    refine J.qc (b1T) [] λ_=>?_;rintro v As ⟨q,rfl,rfl⟩;refine⟨_,rfl,⟨rfl,trivial⟩,?_⟩;refine J.qn 4 λnn=>?_;exact J.goto [0,1,5,2,4,3] (hj (nn 0,mm 0,q,dd)) ⟨rfl,rfl,trivial⟩ rfl rfl
  ·skip
   refine J.qc (b1T) [] λ_=>?_;rintro v As ⟨q,rfl,rfl⟩;refine⟨_,rfl,⟨rfl,trivial⟩,?_⟩;refine J.alts ?_ ?_
   ·skip
    refine J.qn 1 λmm=>?_;refine J.makeSlice hX tk 5 rfl rfl rfl rfl rfl rfl rfl rfl rfl rfl ?_ ?_ (λ_=>rfl) (λ_=>rfl) λdd=>⟨⟨rfl,trivial⟩,?_⟩
    ·simp only[maxLen];omega
    ·omega
    refine J.qn 4 λnn=>?_;exact J.goto [0,1,5,3,2,4] (hj (nn 0,mm 0,q,dd)) ⟨rfl,rfl,trivial⟩ rfl rfl
   ·skip
    refine J.makeSlice hX tk 4 rfl rfl rfl rfl rfl rfl rfl rfl rfl rfl ?_ ?_ (λ_=>rfl) (λ_=>rfl) λdd=>⟨⟨rfl,trivial⟩,?_⟩
    ·simp only[maxLen];omega
    ·omega
    refine J.qn 1 λmm=>?_;refine J.qn 4 λnn=>?_;exact J.goto [0,1,5,4,2,3] (hj (nn 0,mm 0,q,dd)) ⟨rfl,rfl,trivial⟩ rfl rfl
  ·skip
   refine J.makeSlice hX tk 3 rfl rfl rfl rfl rfl rfl rfl rfl rfl rfl ?_ ?_ (λ_=>rfl) (λ_=>rfl) λdd=>⟨⟨rfl,trivial⟩,?_⟩
   ·simp only[maxLen];omega
   ·omega
   refine J.alts ?_ ?_
   ·skip
    refine J.qn 1 λmm=>?_;refine J.qc (b1T) [] λ_=>?_;rintro v As ⟨q,rfl,rfl⟩;refine⟨_,rfl,⟨rfl,trivial⟩,?_⟩;refine J.qn 4 λnn=>?_;exact J.goto [0,1,5,3,4,2] (hj (nn 0,mm 0,q,dd)) ⟨rfl,rfl,trivial⟩ rfl rfl
   ·skip
    refine J.qc (b1T) [] λ_=>?_;rintro v As ⟨q,rfl,rfl⟩;refine⟨_,rfl,⟨rfl,trivial⟩,?_⟩;refine J.qn 1 λmm=>?_;refine J.qn 4 λnn=>?_;exact J.goto [0,1,5,4,3,2] (hj (nn 0,mm 0,q,dd)) ⟨rfl,rfl,trivial⟩ rfl rfl
 obtain⟨q0,r,q,dd⟩:=x;refine J.turn1 [3] rfl (As:=[W4 r a3v (a4p b (0*b) λ_=>0), .hp (HP.of (a0T b (0*b) (λ_=>0) λ_ _=>B0))]) (λh s=>?_) rfl ?_
 ·rw[Q3];refine⟨λ_=>0,λi A hA=>?_⟩
  match i,hA with
  | 0,hA=>simp at hA;subst hA;exact⟨#[],0,res_some.2 ⟨rfl,s.get (i:=0) rfl⟩,rfl,by simp,by simp⟩
  | 1,hA=>simp at hA;subst hA;exact Sep.nil _
  | k+2,hA=>simp at hA
 refine J.q λ_=>?_;refine J.l (α:=(Nat×(Nat->Nat))) (λx=>x.1<=d) (λx=>[si 19 x.1,si 18 d,⟨3,pp q0,3, .tt⟩,⟨1,pp (g1 0),2, .tt⟩]) [3,6] (λx=>[W4 r a3v (a4p b (x.1*b) x.2), .hp (HP.of (a0T b (x.1*b) x.2 λ_ _=>B0))]) (λx=>d-x.1) ((0,λ_=>0)) (j8 _) λx hI=>?_;obtain⟨i,bp⟩:=x;dsimp only at hI ⊢;refine J.qd (λ_ h1=>?_) λ_ h1=>?_
 ·simp only[d6,i6]at h1;refine J.q λ_=>?_;refine J.l (α:=(Nat×(Nat->Nat))) (λy=>y.1<=b) (λy=>[si 24 y.1,si 23 b,si 4 i,si 19 i,si 18 d,⟨3,pp q0,3, .tt⟩,⟨1,pp (g1 0),2, .tt⟩]) [3,6] (λy=>[W4 r a3v (a4p b (i*b+y.1) y.2), .hp (HP.of (a0T b (i*b+y.1) y.2 λ_ _=>B0))]) (λy=>b-y.1) ((0,bp)) (j8 _) λy hI=>?_;obtain⟨j,bp'⟩:=y;dsimp only at hI ⊢;refine J.qd (λ_ h2=>?_) λ_ h2=>?_
  ·simp only[d6,i6]at h2;refine J.pq (.take true 0 (.take true 1 (.take true 2 (.take false 3 (.take true 4 (.take true 5 (.take true 7 (.alt false 6 ((.of [34,39])) (.alt false 8 ((.of [26,39])) .non))))))))) [9] [1,2] λ_ _=>?_;refine J.alts ?_ ?_
   ·refine J.qp (a2U i j) [] λ_=>?_;refine J.q λbb=>?_;refine J.mapUpdate hX a1f a3I ((i:Int),(j:Int),0) 3 rfl rfl rfl rfl rfl rfl rfl rfl rfl rfl rfl rfl (λ_=>rfl) (by rw[b0z i h2];rfl) ⟨trivial,?_⟩;refine J.turn1 [6,7] rfl (As:=[.hp (HP.of (a0T b (i*b+j+1) (upd bp' (i*b+j) (bb 0)) λ_ _=>B0))]) (λh s=>by rw[a8Y];exact b2Y s) rfl ?_;refine J.q λ_=>?_;refine J.n ((j+1,upd bp' (i*b+j) (bb 0))) (by dsimp only;omega) (by dsimp only;omega) [0,1,2,3,4,5,6]
   ·refine J.q λbb=>?_;refine J.cb (a2U i j) [] ?_;refine cpq ⟨_,rfl,⟨rfl,rfl,trivial⟩,?_⟩;refine J.mapUpdate hX a1f a3I ((i:Int),(j:Int),0) 3 rfl rfl rfl rfl rfl rfl rfl rfl rfl rfl rfl rfl (λ_=>rfl) (by rw[b0z i h2];rfl) ⟨trivial,?_⟩;refine J.turn1 [6,7] rfl (As:=[.hp (HP.of (a0T b (i*b+j+1) (upd bp' (i*b+j) (bb 0)) λ_ _=>B0))]) (λh s=>by rw[a8Y];exact b2Y s) rfl ?_;refine J.q λ_=>?_;refine J.n ((j+1,upd bp' (i*b+j) (bb 0))) (by dsimp only;omega) (by dsimp only;omega) [0,1,2,3,4,5,6]
  ·simp only[c8,i6]at h2;obtain rfl:j=b:=by omega
   rw[show i*j+j=(i+1)*j from(P6 i j).symm];refine J.q λ_=>?_;refine J.n ((i+1,bp')) (by dsimp only;omega) (by dsimp only;omega) [0,1,2,3,4,5,6]
 ·simp only[c8,i6]at h1;obtain rfl:i=d:=by omega
  refine J.close (f:=a0O q0 (Nand.new i b p)) ⟨r,q,dd,bp⟩ [2,3,4,5,6] rfl (by simp only[a0O,Nand.new,Q2];rfl) rfl ?_;refine J.qr [2] λ_=>?_;exact⟨q0,rfl,rfl⟩
def R7 (x y:Int):Int:=if x<y then-1 else if x>y then 1 else 0
theorem b1u (x:Int):FP 194 [iI x] [] (λv As=>v= .bool false/\As=[]):=by
 refine FE [] Tryz.func194 λX F hX=>?_;refine J.qr [] λ_=>?_;exact⟨by simp,rfl⟩
theorem a1p (x y:Int):FP 135 [iI x,iI y] [] (λv As=>v=iI (R7 x y)/\As=[]):=by
 refine FE [] Tryz.func135 λX F hX=>?_;refine J.qp (b1u x) [] λ_=>?_;refine J.qp (b1u y) [] λ_=>?_;refine J.qF λ_=>?_;refine J.qF λ_=>?_;refine J.qd (λ_ h1=>?_) λ_ h1=>?_
 ·refine J.qr [] λ_=>?_;simp only[d6]at h1;exact⟨by simp[R7,h1],rfl⟩
 simp only[c8]at h1;refine J.qd (λ_ h2=>?_) λ_ h2=>?_
 ·refine J.qr [] λ_=>?_;simp only[d6]at h2;exact⟨by rw[R7,d4 h1,d7 h2],rfl⟩
 refine J.qr [] λ_=>?_;simp only[c8]at h2;exact⟨by rw[R7,d4 h1,d4 h2],rfl⟩
def orI (l:List Int):Int:=match l with
 | []=>0
 | x::r=>if x≠0 then x else orI r
theorem c3p (b:Nat) (x y z:Int):FP 185 [.slice (some ⟨b,0,none⟩) 3 3] [.pt b 3 [iI x,iI y,iI z]] (λv As=>v=iI (orI [x,y,z])/\As=[.pt b 3 [iI x,iI y,iI z]]):=by
 refine FE [2] Tryz.func185 λX F hX=>?_;refine J.q λ_=>?_;refine J.l (α:=Nat) (λk=>k<=3/\orI ([x,y,z].drop k)=orI [x,y,z]) (λk=>[si 8 k,si 7 3,⟨6, .slice (some ⟨b,0,none⟩) 3 3,2, .tt⟩,si 3 0]) [] (λk=>[]) (λk=>3-k) (0) (⟨by omega,rfl⟩) λk hI=>?_;refine J.qd (λ_ h1=>?_) λ_ h1=>?_
 ·simp only[d6]at h1;obtain⟨v,hv⟩:∃v,([x,y,z]:List Int)[k]? =some v:=⟨_,c9 (by simp;omega)⟩;have hd:([x,y,z]:List Int).drop k=v::([x,y,z]:List Int).drop (k+1):=by
   obtain⟨h2,h3⟩:=List.getElem?_eq_some_iff.1 hv;rw[y8 h2,h3]
  refine J.q λ_=>?_;refine J.v (iI v) rfl rfl (λhg a w he hs=>?_) ?_
  ·exact B6 tk rfl rfl he rfl rfl rfl (hs.get (i:=1) rfl) (by
    rw[show 0+(k:Int).toNat*1=k from by omega,show([iI x,iI y,iI z]:List Value)=([x,y,z]:List Int).map (.int .i64)from rfl,i5,hv];rfl)
  refine J.qd (λ_ h2=>?_) λ_ h2=>?_
  ·simp only[G9,I1]at h2;refine J.qr [1] λ_=>?_;refine⟨?_,rfl⟩;rw[<- hI.2,hd];simp[orI,h2]
  ·simp only[A8]at h2;refine J.q λ_=>?_;refine J.nx (k+1) (⟨by omega,by rw[<- hI.2,hd,orI,d4 (by simp[h2])]⟩) (by omega) (λ_ s=>s)
 ·simp only[c8]at h1;refine J.qr [1] λ_=>?_;refine⟨?_,rfl⟩;rw[<- hI.2,H0 (by simp;omega)];rfl
abbrev a1G (x:A3):Value:= .agg #[iI x.1,iI x.2.1,iI x.2.2]
def a7h (x y:A3):Int:=orI [R7 x.1 y.1,R7 x.2.1 y.2.1,R7 x.2.2 y.2.2]
theorem b4j (x y:A3):FP 266 [a1G x,a1G y] [] (λv As=>v=iI (a7h x y)/\As=[]):=by
 refine FE [0,0] Tryz.func266 λX F hX=>?_;refine J.p (.of [0,5,8,13,20,25,28,33,40,45,48,53,18,38,58,62,66,68]) [17] [1,2] λ_=>?_;refine J.qp (a1p x.1 y.1) [] λ_=>?_;refine J.qp (a1p x.2.1 y.2.1) [] λ_=>?_;refine J.qp (a1p x.2.2 y.2.2) [] λ_=>?_;refine J.q λbb=>?_;refine J.cb (c3p (bb 0) (R7 x.1 y.1) (R7 x.2.1 y.2.1) (R7 x.2.2 y.2.2)) [3] ?_;refine cpq ⟨_,rfl,⟨rfl,rfl,trivial⟩,?_⟩;exact J.qx []
def d3:A3:=(0,0,0)
def E5 (l:List A3):List Value:=l.flatMap λx=>[iI x.1,iI x.2.1,iI x.2.2]
theorem N9 (l:List A3):(E5 l).length=l.length*3:=by
 induction l with
 | nil=>rfl
 | cons x l ih=>simp only[E5,z7,d8,l6]at ih ⊢;rw[ih];simp;omega
theorem Z8:∀(l:List A3) (r:List Value) (k:Nat) (x:A3),l[k]? =some x->((E5 l++r).drop (k*3)).take 3=[iI x.1,iI x.2.1,iI x.2.2]
 | [],_,_,_,h=>by simp at h
 | y::l,r,0,x,h=>by simp at h;subst h;simp[E5]
 | y::l,r,k+1,x,h=>by
  have:=Z8 l r k x (by simpa using h);rw[show(k+1)*3=3+k*3 from by omega,<- C2];simpa[E5]using this
theorem a1o:∀(l:List A3) (r:List Value) (k:Nat) (x:A3),k<l.length->(E5 l++r).take (k*3)++[iI x.1,iI x.2.1,iI x.2.2]++(E5 l++r).drop (k*3+3)=E5 (l.set k x)++r
 | [],_,_,_,h=>by simp at h
 | y::l,r,0,x,h=>by simp[E5]
 | y::l,r,k+1,x,h=>by
  have:=a1o l r k x (by simpa using h);rw[show(k+1)*3=3+k*3 from by omega];simp only[E5,z7,S9,m9,V6,R9]at this ⊢;rw[show 3+k*3=k*3+1+1+1 from by omega,show k*3+1+1+1+3=(k*3+3)+1+1+1 from by omega];simp only[a0C,X8,V6,this]
def swp (l:List A3) (j:Nat):List A3:=(l.set j (l.getD (j-1) d3)).set (j-1) (l.getD j d3)
def b3m (f:A3->A3->Int):Nat->List A3->List A3
 | 0,l=>l
 | j+1,l=>if f (l.getD (j+1) d3) (l.getD j d3)<0 then b3m f j (swp l (j+1))else l
def a1m (f:A3->A3->Int) (l:List A3):Nat->List A3
 | 0=>l
 | k+1=>b3m f (k+1) (a1m f l k)
def a4g (f:A3->A3->Int) (l:List A3):List A3:=a1m f l (l.length-1)
theorem a7o (l:List A3) (j:Nat):(swp l j).length=l.length:=by simp[swp]
theorem b7a (l:List A3) (j:Nat) (h:j+1<l.length):(swp l (j+1)).Perm l:=by
 induction l generalizing j with
 | nil=>simp at h
 | cons x l ih=>
  cases j with
  | zero=>
   cases l with
   | nil=>simp at h
   | cons y l=>simp only[swp,S9,a0a,Q0,J6,List.getD_cons_zero,a5g];exact List.Perm.swap _ _ _
  | succ j=>
   have:=ih j (by simpa using h);simp only[swp,Q0,S9,a5g]at this ⊢;exact this.cons x
theorem a6f (f:A3->A3->Int):∀(j:Nat) (l:List A3),j<l.length->(b3m f j l).Perm l
 | 0,l,_=>a0F _
 | j+1,l,h=>by
  unfold b3m;split
  ·exact(a6f f j _ (by rw[a7o];omega)).trans (b7a l j h)
  ·exact a0F _
theorem a6O (f:A3->A3->Int) (l:List A3):∀k,k<l.length->(a1m f l k).Perm l/\(a1m f l k).length=l.length
 | 0,_=>⟨a0F _,rfl⟩
 | k+1,h=>by
  obtain⟨h1,h2⟩:=a6O f l k (by omega);exact⟨(a6f f (k+1) _ (by omega)).trans h1,by rw[a1m,(a6f f (k+1) _ (by omega)).length_eq,h2]⟩
theorem a1l (f:A3->A3->Int) (l:List A3):(a4g f l).Perm l:=by
 cases l with
 | nil=>exact a0F _
 | cons x l=>exact(a6O f (x::l) _ (by simp)).1
theorem b1R (f:A3->A3->Int):∀(j:Nat) (l:List A3),(b3m f j l).length=l.length
  | 0,l=>rfl
  | j + 1, l => by unfold b3m; split
                   · rw[b1R f j,a7o]
                   · rfl
theorem a8E (f:A3->A3->Int) (l:List A3):∀k,(a1m f l k).length=l.length
 | 0=>rfl
 | k+1=>by rw[a1m,b1R,a8E f l k]
def fnV (c:Nat):Value:= .func (.func c) #[] #[]
theorem c1W (c:Nat) (f:A3->A3->Int) (hcal:K0 Tryz.prog c=true) (hf:∀x y,Fn Tryz.prog c [a1G x,a1G y] [] (Ps (iI (f x y)) []))
  (g n cap:Nat) (l:List A3) (hl:l.length=n) (hn:n<=4611686018427387904) (r:List Value):FP 274 [.slice (some ⟨g,0,none⟩) n cap,iI 0,iI n,fnV c] [.pt g 39 (E5 l++r)]
  (Ps (.tuple #[]) [.pt g 39 (E5 (a4g f l)++r)]):=by
 refine FE [2,0,0,0] Tryz.func274 λX F hX=>?_;refine J.q λ_=>?_;refine J.l (α:=Nat) (λi=>1<=i/\i<=max 1 n) (λi=>[si 8 i,⟨0, .slice (some ⟨g,0,none⟩) n cap,2, .tt⟩,si 1 0,si 2 n,⟨3,fnV c,0, .tt⟩]) [1] (λi=>[.pt g 39 (E5 (a1m f l (i-1))++r)]) (λi=>n-i) (1) (⟨by omega,by omega⟩) λi hI=>?_;refine J.qd (λ_ h1=>?_) λ_ h1=>?_
 ·simp only[d6,i6]at h1;refine J.q λ_=>?_;refine J.l (α:=(Nat×List A3)) (λy=>y.1<=i/\y.2.length=n/\b3m f y.1 y.2=a1m f l i) (λy=>[si 9 y.1,si 8 i,⟨0, .slice (some ⟨g,0,none⟩) n cap,2, .tt⟩,si 1 0,si 2 n,⟨3,fnV c,0, .tt⟩]) [1] (λy=>[.pt g 39 (E5 y.2++r)]) (λy=>y.1) ((i,a1m f l (i-1))) (⟨j3 _,by rw[a8E,hl],by obtain⟨k,rfl⟩:∃k,i=k+1:=⟨i-1,by omega⟩;rfl⟩) λy hI=>?_;obtain⟨j,m⟩:=y;dsimp only at hI ⊢;have hget:∀e,e<n->m[e]? =some (m.getD e d3):=λe he=>by rw[d5,c9 (by omega),j4]
  rcases P9 j with h2 | h2
  ·subst h2;refine J.pn 4 (.of [0,4,8,12,16,20,24,28,33,36,40,44,48,53,58,60,64]) [] [1] λ_ _=>?_;rw[show decide (((0:Nat):Int)>0)=false from rfl];refine J.q λ_=>?_;refine J.vT (a1G d3) rfl rfl (λhg a w he hC=>by simp[G.on]at hg) ?_;refine J.q λ_=>?_;refine J.vT (a1G d3) rfl rfl (λhg a w he hC=>by simp[G.on]at hg) ?_;refine J.q λ_=>?_;refine J.gcase hX rfl rfl rfl ⟨rfl,trivial⟩ (λh=>by cases h) (λ_=>?_);refine J.vT (.bool false) rfl rfl (λhg a w he hC=>by simp[G.on]at hg) ?_;refine J.qF λ_=>?_;have hm:m=a1m f l (i+1-1):=hI.2.2;rw[hm];refine J.q λ_=>?_;refine J.n (i+1) (⟨by omega,by omega⟩) (by omega) [0,1]
  ·obtain⟨j,rfl⟩:∃k,j=k+1:=⟨j-1,by omega⟩;refine J.pn 4 (.of [0,4,8,12,16,20,24,28,33,36,40,44,48,53,58,60,64]) [] [1] λ_ _=>?_;rw[show decide (((j+1:Nat):Int)>0)=true from i7 (by omega)];refine J.q λ_=>?_;refine J.vT (a1G (m.getD (j+1) d3)) rfl rfl (λhg a w he hC=>?_) ?_
   ·exact H7 tk rfl rfl he hg rfl rfl (hC rfl _ (C0 (i:=1) rfl)) (by rw[show 0+((j+1:Nat):Int).toNat*3=(j+1)*3 from by omega];exact Z8 m r _ _ (hget _ (by omega))) rfl
   refine J.q λ_=>?_;refine J.vT (a1G (m.getD j d3)) rfl rfl (λhg a w he hC=>?_) ?_
   ·exact H7 tk rfl rfl he hg rfl rfl (hC rfl _ (C0 (i:=1) rfl)) (by rw[show 0+(((j+1:Nat):Int)-1).toNat*3=j*3 from by omega];exact Z8 m r _ _ (hget _ (by omega))) rfl
   refine J.q λ_=>?_;refine J.call hX hcal (hf (m.getD (j+1) d3) (m.getD j d3)) [] 0 rfl rfl rfl rfl (by(repeat' (first | exact Conj.nil | refine Conj.cons ?_ ?_ | omega | exact hq0 | (simpa using hq0) | (exactλh=>h) | exact rfl | (intro hq;have hq0:=hq;try simp only[f8,j7,d6,i4,c8]at hq) | (simp;done) | (simp;omega) | decide))) rfl rfl (λ_=>rfl) ?_;refine cpq ⟨_,rfl,⟨rfl,trivial⟩,?_⟩;refine J.qd (λ_ h3=>?_) λ_ h3=>?_
   ·simp only[q9,d6]at h3;refine J.pq (.take true 0 (.take true 1 (.take true 2 (.take true 3 (.take true 4 (.take true 5 (.take true 6 (.take true 7 (.take true 8 (.take true 10 (.take true 11 (.take true 12 (.alt false 9 ((.of [54,56,62,64,71])) (.alt false 13 ((.of [38,56,62,64,71])) .non)))))))))))))) [16,17] [] λ_ _=>?_;refine J.alts ?_ ?_
    ·refine J.v (a1G (m.getD j d3)) rfl rfl (λhg a w he hs=>?_) ?_
     ·exact H7 tk rfl rfl he hg rfl rfl (hs.get (i:=1) rfl) (by rw[show 0+(((j+1:Nat):Int)-1).toNat*3=j*3 from by omega];exact Z8 m r _ _ (hget _ (by omega))) rfl
     refine J.q λ_=>?_;refine J.v (a1G (m.getD (j+1) d3)) rfl rfl (λhg a w he hs=>?_) ?_
     ·exact H7 tk rfl rfl he hg rfl rfl (hs.get (i:=1) rfl) (by rw[show 0+((j+1:Nat):Int).toNat*3=(j+1)*3 from by omega];exact Z8 m r _ _ (hget _ (by omega))) rfl
     refine J.q λ_=>?_;refine J.storeN hX tk 1 rfl rfl rfl rfl rfl rfl rfl rfl rfl rfl rfl rfl rfl ?_ (E5 (m.set (j+1) (m.getD j d3))++r) ?_ rfl (λ_=>rfl) ⟨trivial,?_⟩
     ·rw[d8,N9];show 0+((j+1:Nat):Int).toNat*3+3<=_;omega
     ·rw[show 0+((j+1:Nat):Int).toNat*3=(j+1)*3 from by omega];exact a1o m r (j+1) _ (by omega)
     refine J.q λ_=>?_;refine J.storeN hX tk 1 rfl rfl rfl rfl rfl rfl rfl rfl rfl rfl rfl rfl rfl ?_ (E5 (swp m (j+1))++r) ?_ rfl (λ_=>rfl) ⟨trivial,?_⟩
     ·rw[d8,N9,A5];show 0+(((j+1:Nat):Int)-1).toNat*3+3<=_;omega
     ·rw[show 0+(((j+1:Nat):Int)-1).toNat*3=j*3 from by omega];exact a1o _ r j _ (by rw[A5];omega)
     refine J.q λ_=>?_;rw[show((j+1:Nat):Int)-1=(j:Int)from by omega];refine J.q λ_=>?_;refine J.n ((j,swp m (j+1))) (⟨by dsimp only;omega,by rw[a7o];exact hI.2.1,by rw[<- hI.2.2];exact(d7 h3).symm⟩) (by dsimp only;omega) [0,1]
    ·refine J.v (a1G (m.getD (j+1) d3)) rfl rfl (λhg a w he hs=>?_) ?_
     ·exact H7 tk rfl rfl he hg rfl rfl (hs.get (i:=1) rfl) (by rw[show 0+((j+1:Nat):Int).toNat*3=(j+1)*3 from by omega];exact Z8 m r _ _ (hget _ (by omega))) rfl
     refine J.q λ_=>?_;refine J.v (a1G (m.getD j d3)) rfl rfl (λhg a w he hs=>?_) ?_
     ·exact H7 tk rfl rfl he hg rfl rfl (hs.get (i:=1) rfl) (by rw[show 0+(((j+1:Nat):Int)-1).toNat*3=j*3 from by omega];exact Z8 m r _ _ (hget _ (by omega))) rfl
     refine J.q λ_=>?_;refine J.storeN hX tk 1 rfl rfl rfl rfl rfl rfl rfl rfl rfl rfl rfl rfl rfl ?_ (E5 (m.set (j+1) (m.getD j d3))++r) ?_ rfl (λ_=>rfl) ⟨trivial,?_⟩
     ·rw[d8,N9];show 0+((j+1:Nat):Int).toNat*3+3<=_;omega
     ·rw[show 0+((j+1:Nat):Int).toNat*3=(j+1)*3 from by omega];exact a1o m r (j+1) _ (by omega)
     refine J.q λ_=>?_;refine J.storeN hX tk 1 rfl rfl rfl rfl rfl rfl rfl rfl rfl rfl rfl rfl rfl ?_ (E5 (swp m (j+1))++r) ?_ rfl (λ_=>rfl) ⟨trivial,?_⟩
     ·rw[d8,N9,A5];show 0+(((j+1:Nat):Int)-1).toNat*3+3<=_;omega
     ·rw[show 0+(((j+1:Nat):Int)-1).toNat*3=j*3 from by omega];exact a1o _ r j _ (by rw[A5];omega)
     refine J.q λ_=>?_;rw[show((j+1:Nat):Int)-1=(j:Int)from by omega];refine J.q λ_=>?_;refine J.n ((j,swp m (j+1))) (⟨by dsimp only;omega,by rw[a7o];exact hI.2.1,by rw[<- hI.2.2];exact(d7 h3).symm⟩) (by dsimp only;omega) [0,1]
   ·simp only[q9,c8]at h3;have hm:m=a1m f l (i+1-1):=by rw[show i+1-1=i from rfl,<- hI.2.2];exact(d4 h3).symm
    rw[hm];refine J.q λ_=>?_;refine J.n (i+1) (⟨by omega,by omega⟩) (by omega) [0,1]
 ·simp only[c8,i6]at h1;have hi:a1m f l (i-1)=a4g f l:=by
   rw[a4g,hl,show i-1=n-1 from by omega]
  rw[hi];refine J.q λ_=>?_;refine J.f [1] ?_;exact⟨rfl,rfl⟩
def b7V (x:Nat):Nat:=([0,1,2,2,3,3,3,3,4,4,4,4,4]:List Nat).getD x 0
theorem c3h:Tryz.prog.underlying 9=some .string:=by kernel_rfl
theorem b1f {P:Program} {E:Env} {w:World} {n0:Nat} {a:Act} {o:Oper} {ty:TypeId} {s:ByteArray} {y:Operand} {k tg:Nat} {g:G} {ik:IntKind} {i:Int} {b:UInt8} (hop:o.op= .index ty (.const (.string s)) y) (hy:ev E y=some ⟨k, .int ik i,tg,g⟩) (he:EnvOK n0 E a) (hg:g.on=true) (hd:P.underlying ty=some .string)
  (h0:0<=i) (hb:s.data.toList[i.toNat]? =some b):(execOp a.eval o).run P w= .ok (.value (.int .u8 b.toNat)) w:=by
 have ey:=C8 he hy;simp only[Slot.val,hg]at ey;have h1:=run_index_string (P:=P) (w:=w) ty s ik i hd;have hlt:i.toNat<s.size:=(List.getElem?_eq_some_iff.1 hb).1;have hv:s[i.toNat]'hlt=b:=by
  have:=(List.getElem?_eq_some_iff.1 hb).2;rw[<- this];rfl
 rw[dif_pos ⟨h0,by omega⟩,hv]at h1;simp only[execOp,hop,ey,Sem.run_bind];have e1:a.eval (.const (.string s))= .string s:=rfl;rw[e1,h1];rfl
theorem c0q {x:Nat} (hx:x<=12):b7V x<=4:=by
 obtain rfl | rfl | rfl | rfl | rfl | rfl | rfl | rfl | rfl | rfl | rfl | rfl | rfl:x=0\/x=1\/x=2\/x=3\/x=4\/x=5\/x=6\/x=7\/x=8\/x=9\/x=10\/x=11\/x=12:=by omega
 all_goals decide
theorem c0W (x:Nat) (hx:x<=12):FP 217 [.int .u64 x] [] (λv As=>(∃k:Nat,k<=8/\v=iI k)/\As=[]):=by
 have h4:=c0q hx;refine FE [0] Tryz.func217 λX F hX=>?_;refine J.qd (λ_ h1=>?_) λ_ h1=>?_
 ·simp only[d6]at h1;omega
 refine J.qd (λ_ h2=>?_) λ_ h2=>?_
 ·simp only[d6]at h2;omega
 refine J.qd (λ_ h3=>?_) λ_ h3=>?_
 ·simp only[d6]at h3;omega
 refine J.q λ_=>?_;refine J.v (.int .u8 (UInt8.ofNat (b7V x)).toNat) rfl rfl (λhg a w he hs=>?_) ?_
 ·refine b1f rfl rfl he rfl c3h (by omega) ?_;obtain rfl | rfl | rfl | rfl | rfl | rfl | rfl | rfl | rfl | rfl | rfl | rfl | rfl:x=0\/x=1\/x=2\/x=3\/x=4\/x=5\/x=6\/x=7\/x=8\/x=9\/x=10\/x=11\/x=12:=by omega
  all_goals rfl
 have h5:(UInt8.ofNat (b7V x)).toNat=b7V x:=by rw[a5T];omega
 rw[h5];refine J.qr [] λ_=>?_;exact⟨⟨b7V x,by omega,by simp⟩,rfl⟩
theorem c1n (x:Nat) (hx:x<=12):FP 171 [.int .u64 x] [] (λv As=>(∃k:Nat,k<=8/\v=iI k)/\As=[]):=by
 refine FE [0] Tryz.func171 λX F hX=>?_;refine J.qF λ_=>?_;refine J.qc (c0W x hx) [] λ_=>?_;rintro v As ⟨⟨k,hk,rfl⟩,rfl⟩;refine⟨_,rfl,trivial,?_⟩;refine J.qr [] λ_=>?_;exact⟨⟨k,hk,rfl⟩,rfl⟩
theorem c1H (c:Nat) (f:A3->A3->Int) (hcal:K0 Tryz.prog c=true) (hf:∀x y,Fn Tryz.prog c [a1G x,a1G y] [] (Ps (iI (f x y)) []))
  (g n cap:Nat) (l:List A3) (hl:l.length=n) (hn:n<=12) (r:List Value) (k:Nat):FP 271 [.slice (some ⟨g,0,none⟩) n cap,iI 0,iI n,iI k,fnV c] [.pt g 39 (E5 l++r)]
  (Ps (.tuple #[]) [.pt g 39 (E5 (a4g f l)++r)]):=by
 refine FE [2,0,0,0,0] Tryz.func271 λX F hX=>?_;refine J.q λ_=>?_;refine J.l (α:=Nat) (λy=>True) (λy=>[⟨0, .slice (some ⟨g,0,none⟩) n cap,2, .tt⟩,si 1 0,si 2 n,si 3 k,⟨4,fnV c,0, .tt⟩]) [1] (λy=>[.pt g 39 (E5 l++r)]) (λy=>0) (0) (trivial) λy hI=>?_;refine J.qd (λ_ h1=>?_) λ_ h1=>?_
 ·refine J.q λ_=>?_;rw[show(n:Int)-0=n from by omega]at*;refine J.qp (c1W c f hcal hf g n cap l hl (by omega) r) [1] λ_=>?_;exact J.qx [1]
 ·simp only[c8]at h1;omega
theorem b9Z (c:Nat) (d:Value) (k:Nat):FP 271 [d,iI 0,iI 0,iI k,fnV c] [] (Ps (.tuple #[]) []):=by
 have h0:FP 274 [d,iI 0,iI 0,fnV c] [] (Ps (.tuple #[]) []):=by
  refine FE [0,0,0,0] Tryz.func274 λX F hX=>?_;refine J.q λ_=>?_;refine J.l (α:=Nat) (λy=>True) (λy=>[si 8 (0+1),sv 0 d,si 1 0,si 2 0,⟨3,fnV c,0, .tt⟩]) [] (λy=>[]) (λy=>0) (0) (trivial) λy hI=>?_;refine J.qd (λ_ h1=>?_) λ_ h1=>?_
  ·simp at h1
  ·refine J.q λ_=>?_;refine J.f [] ?_;exact⟨rfl,rfl⟩
 refine FE [0,0,0,0,0] Tryz.func271 λX F hX=>?_;refine J.q λ_=>?_;refine J.l (α:=Nat) (λy=>True) (λy=>[sv 0 d,si 1 0,si 2 0,si 3 k,⟨4,fnV c,0, .tt⟩]) [] (λy=>[]) (λy=>0) (0) (trivial) λy hI=>?_;refine J.qd (λ_ h1=>?_) λ_ h1=>?_
 ·refine J.qp (h0) [] λ_=>?_;exact J.qx []
 ·simp at h1
theorem a7Y (c:Nat) (f:A3->A3->Int) (hcal:K0 Tryz.prog c=true) (hf:∀x y,Fn Tryz.prog c [a1G x,a1G y] [] (Ps (iI (f x y)) []))
  (a:Option Nat) (n cap:Nat) (l:List A3) (hl:l.length=n) (hn:n<=12):FP 265 [slv a n cap,fnV c] [l9 39 3 a n cap (E5 l)]
  (Ps (.tuple #[]) [l9 39 3 a n cap (E5 (a4g f l))]):=by
 refine FE [0,0] Tryz.func265 λX F hX=>?_;refine J.qc (c1n n hn) [] λ_=>?_;rintro v As ⟨⟨k,hk,rfl⟩,rfl⟩;refine⟨_,rfl,trivial,?_⟩;refine J.q λ_=>?_;cases a with
 | none=>
  refine J.know (λh' s=>(s.get (i:=1) rfl).2.1) λhn0=>?_;subst hn0;have:l=[]:=m7 hl;subst this;refine J.qp (b9Z c (slv none 0 cap) k) [] λ_=>?_;refine J.q λ_=>?_;refine J.f [1] ?_;exact⟨rfl,rfl⟩
 | some g=>
  refine J.openOwn 1 rfl rfl (λ_=>rfl) λr q1 q2 q3 q4=>?_;refine J.qp (c1H c f hcal hf g n cap l hl hn r k) [1] λ_=>?_;refine J.closeOwn (e:=39) (size:=3) (n:=n) (cap:=cap) (xs:=E5 (a4g f l)) 1 rfl rfl (by rw[N9,(a1l f l).length_eq,hl]) q2 q3 (by rw[d8,N9,(a1l f l).length_eq];rw[N9]at q4;exact q4) (by rw[D9 (by rw[N9,(a1l f l).length_eq,hl])]) rfl ?_;refine J.q λ_=>?_;refine J.f [1] ?_;exact⟨rfl,rfl⟩
def a9t (x:A3):List Value:=[.int .i64 x.1, .int .i64 x.2.1, .int .i64 x.2.2]
instance:Inhabited A3:=⟨d3⟩
theorem a8H (d:Array A3):(Go.Sort.flatK a9t 3 d).toList=E5 d.toList:=by
 apply z8;intro t;have hs:(Go.Sort.flatK a9t 3 d).toList.length=d.size*3:=by simp
 by_cases ht:t<d.size*3
 ·have hx:d.toList[t/3]? =some d[t/3]!:=by
   rw[D8,O1 (by omega),a5i d _ (by omega)]
  have h1:=Z8 d.toList [] (t/3) _ hx;rw[l8]at h1;have h2:(E5 d.toList)[t]? =([.int .i64 d[t/3]!.1, .int .i64 d[t/3]!.2.1, .int .i64 d[t/3]!.2.2]:List Value)[t % 3]?:=by
   rw[<- h1,C6,d7 (a3Q _ (by decide)),J5,show t/3*3+t % 3=t from by omega]
  rw[h2];have h3:=Go.Sort.get_flatK a9t 3 d t ht;rw[D8,O1 (by simpa using ht),<- a5i (Go.Sort.flatK a9t 3 d) t (by simpa using ht),h3];have:t % 3<3:=a3Q _ (by decide);rcases(by omega:t % 3=0\/t % 3=1\/t % 3=2)with e | e | e<;>rw[e]<;>rfl
 ·rw[j6 (by omega),j6 (by rw[N9,R5];omega)]
theorem a9p (F cur:Array Value) (h:F.size<=cur.size):(Go.Sort.putCells id 0 F cur).size=cur.size/\(Go.Sort.putCells id 0 F cur).toList.take F.size=F.toList:=by
 unfold Go.Sort.putCells;refine⟨by simp,?_⟩;apply z8;intro t;rw[C6]
 by_cases ht:t<F.size
 ·rw[d7 ht,D8,D8,O1 (by simp;omega),Array.getElem_mapIdx,d7 (by omega),a3k,O1 ht,a5i F t ht];rfl
 ·rw[d4 ht,j6 (by simpa using ht)]
theorem a6F (w:World) (g m e:Nat) (cur:Array Value) (F:Array Value) (os:Array Obj) (h:hl w g=some (.cells cur e (0,0))):
  hl (Go.Sort.grow (Go.Sort.putRow id (Go.Sort.ahead w m) g 0 F) os) g=some (.cells (Go.Sort.putCells id 0 F cur) e (0,0))/\
  (∀b o,b≠g->hl w b=some o->hl (Go.Sort.grow (Go.Sort.putRow id (Go.Sort.ahead w m) g 0 F) os) b=some o)/\Ext w (Go.Sort.grow (Go.Sort.putRow id (Go.Sort.ahead w m) g 0 F) os):=by
 have hsz:(Go.Sort.putRow id (Go.Sort.ahead w m) g 0 F).heap.size=w.heap.size:=Go.Sort.size_putRow id _ _ _ _;have key:∀b o,w.heap[b]? =some o->(Go.Sort.grow (Go.Sort.putRow id (Go.Sort.ahead w m) g 0 F) os).heap[b]? =(w.heap.modify g (Go.Sort.onCells (Go.Sort.putCells id 0 F)))[b]?:=λb o hb=>by
  have hlt:b<w.heap.size:=(Array.getElem?_eq_some_iff.1 hb).1;show((Go.Sort.putRow id (Go.Sort.ahead w m) g 0 F).heap++os)[b]? =_;rw[Array.getElem?_append_left (by omega)];rfl
 refine⟨?_,λb o hb ho=>?_,rfl,rfl,rfl,?_⟩
 ·show(Go.Sort.grow _ os).heap[g]? =_;rw[key g _ h,a0e,d7 rfl,show w.heap[g]? =_ from h];rfl
 ·show(Go.Sort.grow _ os).heap[b]? =_;rw[key b _ ho,a0e,d4 (λe=>hb e.symm)];exact ho
 ·show w.heap.size<=((Go.Sort.putRow id (Go.Sort.ahead w m) g 0 F).heap++os).size;rw[Array.size_append];omega
theorem c1Y {w:World} {g e n cap:Nat} {l:List A3} (hl':l.length=n) (h:a1j e 3 (some g) n cap (E5 l) (hl w)):Go.Sort.HoldsK a9t 3 w g 0 l.toArray:=by
 obtain⟨h0,cur,h2,h3,h4,h5,h6⟩:=h;intro j hj;have hF:=a8H l.toArray;simp only[Go.Sort.size_flatK,List.size_toArray]at hj;have hb:Blk w g e cur:=h2;rw[J6];refine⟨?_,hb.frozen j⟩;rw[hb.cell,<- D8];have h7:(E5 l)[j]? =cur.toList[j]?:=by
  rw[<- h6,C6,d7 (by omega)]
 rw[<- h7,<- hF,D8,O1 (by simpa using hj),a5i _ _ (by simpa using hj)];rfl
set_option maxHeartbeats 400000 in
theorem a6a (a b:Int) (w:World):Calls Tryz.prog 135 #[.int .i64 a, .int .i64 b] w λe w'=>e= .returned (.int .i64 (R7 a b))/\w=w':=by
 rcases Int.lt_trichotomy a b with h | h | h
 ·have h2:R7 a b= -1:=by simp[R7,h]
  go_enter Tryz.func135,Tryz.ntmps135
  go_wp2
  go_ret
  exact⟨b0R h2.symm,rfl⟩
 ·have h2:R7 a b=0:=by simp[R7,h]
  go_enter Tryz.func135,Tryz.ntmps135
  go_wp2
  go_ret
  exact⟨b0R h2.symm,rfl⟩
 ·have h2:R7 a b=1:=by simp[R7];omega
  go_enter Tryz.func135,Tryz.ntmps135
  go_wp2
  go_ret
  exact⟨b0R h2.symm,rfl⟩
set_option maxHeartbeats 800000 in
theorem c3g (g:Nat) (a b c:Int) (w:World) (h0:w.cell? ⟨g,0,none⟩=some (.int .i64 a)) (h1:w.cell? ⟨g,1,none⟩=some (.int .i64 b)) (h2:w.cell? ⟨g,2,none⟩=some (.int .i64 c)):Calls Tryz.prog 185 #[.slice (some ⟨g,0,none⟩) 3 3] w λe w'=>e= .returned (.int .i64 (orI [a,b,c]))/\w=w':=by
 have ho:orI [a,b,c]=if a≠0 then a else if b≠0 then b else if c≠0 then c else 0:=rfl
 go_enter Tryz.func185,Tryz.ntmps185
 go_wp2
 go_loop [8] (λx=>∃k:Nat,k<=3/\x= .int .i64 k/\(0<k->a=0)/\(1<k->b=0)/\(2<k->c=0)) (λx=>3-(intOf x).toNat)
 case atStart=>exact⟨0,by omega,rfl,by omega,by omega,by omega⟩
 case round=>
  obtain⟨k,hk,rfl,z1,z2,z3⟩:=hrel;rcases(by omega:k=0\/k=1\/k=2\/k=3)with rfl | rfl | rfl | rfl
  ·by_cases hz:a=0
   ·subst hz
    go_wp2
    go_round
    case rel=>exact⟨1,by omega,rfl,by simp,by omega,by omega⟩
    case measure=>simp[intOf]
   ·have ho2:=Lib.hid (show orI [a,b,c]=a by rw[ho,d7 hz]);clear ho
    go_wp2
    go_ret
    exact⟨b0R ho2.out.symm,rfl⟩
  ·have ha:=z1 (by omega);subst ha
   by_cases hz:b=0
   ·subst hz
    go_wp2
    go_round
    case rel=>exact⟨2,by omega,rfl,by simp,by simp,by omega⟩
    case measure=>simp[intOf]
   ·have ho2:=Lib.hid (show orI [0,b,c]=b by rw[ho,d4 (by simp),d7 hz]);clear ho
    go_wp2
    go_ret
    exact⟨b0R ho2.out.symm,rfl⟩
  ·have ha:=z1 (by omega);have hb:=z2 (by omega);subst ha hb
   by_cases hz:c=0
   ·subst hz
    go_wp2
    go_round
    case rel=>exact⟨3,by omega,rfl,by simp,by simp,by simp⟩
    case measure=>simp[intOf]
   ·have ho2:=Lib.hid (show orI [0,0,c]=c by rw[ho,d4 (by simp),d4 (by simp),d7 hz]);clear ho
    go_wp2
    go_ret
    exact⟨b0R ho2.out.symm,rfl⟩
  ·have ho2:=Lib.hid (show orI [a,b,c]=0 by rw[z1 (by omega),z2 (by omega),z3 (by omega)];rfl);clear ho z1 z2 z3
   go_wp2
   go_ret
   exact⟨b0R ho2.out.symm,rfl⟩
set_option maxRecDepth 100000 in
set_option maxHeartbeats 800000 in
theorem b9p (x y:A3) (w:World):Calls Tryz.prog 266 #[.agg #[.int .i64 x.1, .int .i64 x.2.1, .int .i64 x.2.2], .agg #[.int .i64 y.1, .int .i64 y.2.1, .int .i64 y.2.2]] w λe w'=>e= .returned (.int .i64 (a7h x y))/\∃q os',w'=Go.Sort.grow (w.drewN q) os':=by
 obtain⟨x0,x1,x2⟩:=x;obtain⟨y0,y1,y2⟩:=y
 go_enter Tryz.func266,Tryz.ntmps266
 go_upto_region 1 with fail
 obtain⟨w0,hw0⟩:∃w0,(w.alloc (.cells #[.int .i64 x0, .int .i64 x1, .int .i64 x2] 39)).alloc (.cells #[.int .i64 y0, .int .i64 y1, .int .i64 y2] 39)=w0:=⟨_,rfl⟩;rw[hw0];have hg:w0=Go.Sort.grow w #[.cells #[.int .i64 x0, .int .i64 x1, .int .i64 x2] 39 (0,0), .cells #[.int .i64 y0, .int .i64 y1, .int .i64 y2] 39 (0,0)]:=by
  rw[<- hw0,Go.Sort.alloc_eq_grow,Go.Sort.alloc_eq_grow,Go.Sort.grow_grow];rfl
 have b0:Blk w0 w.heap.size 39 #[.int .i64 x0, .int .i64 x1, .int .i64 x2]:=by rw[<- hw0];exact(Blk.new w _ _).alloc _
 have b1:Blk w0 (w.heap.size+1) 39 #[.int .i64 y0, .int .i64 y1, .int .i64 y2]:=by rw[<- hw0];simpa using Blk.new (w.alloc (.cells #[.int .i64 x0, .int .i64 x1, .int .i64 x2] 39)) 39 #[.int .i64 y0, .int .i64 y1, .int .i64 y2]
 have c0:=(b0.cell 0).trans rfl;have c1:w0.cell? ⟨w.heap.size,1,none⟩=some (.int .i64 x1):=(b0.cell 1).trans rfl;have c2:w0.cell? ⟨w.heap.size,2,none⟩=some (.int .i64 x2):=(b0.cell 2).trans rfl;have d0:w0.cell? ⟨w.heap.size+1,0,none⟩=some (.int .i64 y0):=(b1.cell 0).trans rfl;have d1:w0.cell? ⟨w.heap.size+1,1,none⟩=some (.int .i64 y1):=(b1.cell 1).trans rfl;have d2:w0.cell? ⟨w.heap.size+1,2,none⟩=some (.int .i64 y2):=(b1.cell 2).trans rfl;have c0:w0.cell? ⟨w.heap.size,0,none⟩=some (.int .i64 x0):=(b0.cell 0).trans rfl;have Hg:=Lib.hid hg;clear hw0 b0 b1 hg;generalize w.heap.size=n at*
 go_still_tail 15,(by kernel_rfl)
 still_call ((a6a _ _ _).mono λ_ _ h=>⟨h.1,h.2.symm⟩)
 repeat still_step
 still_call ((a6a _ _ _).mono λ_ _ h=>⟨h.1,h.2.symm⟩)
 repeat still_step
 still_call ((a6a _ _ _).mono λ_ _ h=>⟨h.1,h.2.symm⟩)
 refine wpStill_nil ?_;have hb:=(Blk.new w0 3 #[.int .i64 (R7 x0 y0), .int .i64 (R7 x1 y1), .int .i64 (R7 x2 y2)]).drew;have e0:=λW h0 h1 h2=>c3g w0.heap.size (R7 x0 y0) (R7 x1 y1) (R7 x2 y2) W h0 h1 h2
 go_wp2_with (go_at_call 185;refine(e0 _ ((hb.cell 0).trans rfl) ((hb.cell 1).trans rfl) ((hb.cell 2).trans rfl)).mono ?_;rintro e w' ⟨rfl,rfl⟩)
 go_ret
 exact⟨rfl,1,_,by rw[Hg.out,Go.Sort.alloc_eq_grow,Go.Sort.grow_grow];rfl⟩
theorem a2H {P : Program} {f : FuncId} {B fn : Func} (h : P.funcs[f]? = some fn) (hn : (fn.name == "runtime.NumGoroutine") = false) (e : fn = { B with name := fn.name }) : Bears P f B := ⟨fn.name, hn, by rw [h, ← e]⟩
def c3i:Go.Shelf.Ren:=⟨λx=>match x with | 6=>265 | 14=>271 | 15=>171 | 28=>216 | 29=>217 | 20=>274 | 21=>275 | 22=>276 | 23=>277 | 24=>278 | 25=>279 | 26=>280 | 27=>281 | 46=>287 | 47=>244 | 48=>245 | 49=>288 | 50=>289 | 57=>294 | n=>n,
 λx=>match x with | 22=>278 | 24=>39 | 25=>325 | 3=>3 | 39=>146 | 53=>274 | 55=>276 | 4=>4 | 46=>267 | 45=>266 | 50=>271 | 5=>5 | 9=>9 | 66=>307 | 70=>305 | 76=>320 | 77=>321 | n=>n,λn=>n⟩
set_option maxRecDepth 100000 in
theorem c3l:SlLaysF0.n6 Tryz.prog c3i:=by
 constructor
 case f6=>exact a2H Tryz.func265 (by kernel_rfl) (by kernel_rfl)
 case f14=>exact a2H Tryz.func271 (by kernel_rfl) (by kernel_rfl)
 case f15=>exact Tryz.func171.trans (congrArg some (by kernel_rfl))
 case f20=>exact a2H Tryz.func274 (by kernel_rfl) (by kernel_rfl)
 case f21=>exact a2H Tryz.func275 (by kernel_rfl) (by kernel_rfl)
 case f22=>exact a2H Tryz.func276 (by kernel_rfl) (by kernel_rfl)
 case f23=>exact a2H Tryz.func277 (by kernel_rfl) (by kernel_rfl)
 case f24=>exact a2H Tryz.func278 (by kernel_rfl) (by kernel_rfl)
 case f25=>exact a2H Tryz.func279 (by kernel_rfl) (by kernel_rfl)
 case f26=>exact a2H Tryz.func280 (by kernel_rfl) (by kernel_rfl)
 case f27=>exact a2H Tryz.func281 (by kernel_rfl) (by kernel_rfl)
 case f28=>exact Tryz.func216.trans (congrArg some (by kernel_rfl))
 case f29=>exact Tryz.func217.trans (congrArg some (by kernel_rfl))
 case f46=>exact a2H Tryz.func287 (by kernel_rfl) (by kernel_rfl)
 case f47=>exact Tryz.func244.trans (congrArg some (by kernel_rfl))
 case f48=>exact Tryz.func245.trans (congrArg some (by kernel_rfl))
 case f49=>exact a2H Tryz.func288 (by kernel_rfl) (by kernel_rfl)
 case f50=>exact a2H Tryz.func289 (by kernel_rfl) (by kernel_rfl)
 case f57=>exact a2H Tryz.func294 (by kernel_rfl) (by kernel_rfl)
 all_goals first | kernel_rfl | (intro w;rfl)
theorem b3u (x y:A3):a7h x y<0↔x.1<y.1\/x.1=y.1/\(x.2.1<y.2.1\/x.2.1=y.2.1/\x.2.2<y.2.2):=by
 simp only[a7h,orI,R7]
 (repeat' split)<;>omega
theorem c0f:Go.Sort.SWO (λx y:A3=>decide (a7h x y<0))where
 irrefl x:=by rw[c8,b3u];omega
 trans x y z h1 h2:=by
  rw[d6,b3u]at*;omega
 ntrans x y z h1 h2:=by
  rw[c8,b3u]at*;omega
theorem b3n (a:Option Nat) (n cap:Nat) (l:List A3) (hq:l.length=n) (hn:n<=100000):Fn Tryz.prog 265 [slv a n cap,fnV 266] [l9 39 3 a n cap (E5 l)]
  (λv As=>v= .tuple #[]/\∃l',l'.Perm l/\As=[l9 39 3 a n cap (E5 l')]):=by
 cases a with
 | none=>
  intro F w hs;have h0:n=0:=(hs.get (i:=1) rfl).2.1;refine(a7Y 266 a7h (by kernel_rfl) b4j none n cap l hq (by omega) F w hs).mono λe w' ⟨v,As,h1,⟨h2,h3⟩,h4⟩=>⟨v,As,h1,⟨h2,_,a1l _ _,h3⟩,h4⟩
 | some g=>
  intro F w hs;have hown:a1j 39 3 (some g) n cap (E5 l) (hl w):=hs.get (i:=1) rfl;obtain⟨h0,cur,h2,h3,h4,h5,h6⟩:=hown;have hH:=c1Y hq ⟨h0,cur,h2,h3,h4,h5,h6⟩;have hlt:g<w.heap.size:=(Array.getElem?_eq_some_iff.1 h2).1;have hcon:=AnyQ.slices_SortFunc c3l 3 (λw=>by kernel_rfl) (λw=>by kernel_rfl) a9t (λ_=>rfl) (λx v hv=>by
   simp only[a9t,I3,V5,a5S]at hv;rcases hv with rfl | rfl | rfl<;>rfl) a7h c0f 266 #[] g 0 cap l.toArray w (enters_of Tryz.func266 (by kernel_rfl) rfl) (λ_ _ _ _ x y=>b9p x y _) hH hlt (by rw[List.size_toArray];omega)
  rw[List.size_toArray,hq]at hcon;refine Calls.mono hcon λe w' ⟨he,d',m,os,hp,_,hw⟩=>⟨.tuple #[],[l9 39 3 (some g) n cap (E5 d'.toList)],he,⟨rfl,d'.toList,?_,rfl⟩,?_,?_⟩
  all_goals have hs':d'.size=n:=by rw[hp.1,List.size_toArray,hq]
  ·have h7:=hp.2.2;have e1:(d'.extract 0 n).toList=d'.toList:=by rw[<- hs'];simp
   have e2:(l.toArray.extract 0 n).toList=l:=by rw[<- hq];simp
   rw[e1,e2]at h7;exact h7
  ·subst hw;obtain⟨k1,k2,_⟩:=a6F w g m 39 cur (Go.Sort.flatK a9t 3 d') os h2;have hF:(Go.Sort.flatK a9t 3 d').size<=cur.size:=by rw[Go.Sort.size_flatK,hs',h5];omega
   obtain⟨p1,p2⟩:=a9p _ cur hF;rw[Go.Sort.size_flatK,hs',a8H]at p2;obtain⟨own,ho⟩:=hs;obtain⟨_,cur',c1,_⟩:=ho 1 _ rfl;have hg1:=(res_some.1 c1).1;refine⟨own,λi A hA=>?_⟩
   match i,hA with
   | 0,hA=>
    simp at hA;subst hA;exact Atom.up (λb o hb=>res_some.2 ⟨(res_some.1 hb).1,k2 b o (λe=>by subst e;have:=(res_some.1 hb).1;omega) (res_some.1 hb).2⟩) (ho 0 _ rfl)
   | 1,hA=>
    simp at hA;subst hA;exact⟨by rw[N9,R5,hs'],_,res_some.2 ⟨hg1,k1⟩,h3,h4,p1.trans h5,p2⟩
   | k+2,hA=>simp at hA
  ·subst hw;exact(a6F w g m 39 cur (Go.Sort.flatK a9t 3 d') os h2).2.2
theorem a4b:∀(n:Nat) (is:List Nat),is.Nodup->(∀i∈is,i<n)->is.length<=n
 | 0,is,_,h=>by
  cases is with
  | nil=>simp
  | cons x r=>have:=h x (by simp);omega
 | n+1,is,hn,h=>by
  have h1:=a4b n (is.erase n) (hn.erase n) (λi hi=>by
   rw[hn.mem_erase_iff]at hi;have:=h i hi.2;omega)
  rw[List.length_erase]at h1;split at h1<;>omega
def a0N (l:List A3) (is:List Nat):List A3:=is.map λi=>l.getD i d3
theorem a8h {l:List A3} {is:List Nat} (h:is.Perm (List.range l.length)):(a0N l is).Perm l:=by
 have h1:=h.map λi=>l.getD i d3;have h2:(List.range l.length).map (λi=>l.getD i d3)=l:=by
  apply z8;intro k;rw[i5]
  by_cases hk:k<l.length
  ·rw[M2 hk];simp[hk]
  ·rw[j6 (by simpa using hk),j6 (by simpa using hk)];rfl
 rwa [h2]at h1
theorem b3r {l:List A3} {is:List Nat} {j:Nat} {y:A3×Value} (hy:(a0f l)[j]? =some y):E5 (a0N l is)++[iI y.1.1,iI y.1.2.1,iI y.1.2.2]=E5 (a0N l (is++[j])):=by
 rw[a0f,i5]at hy;cases h:l[j]? with
 | none=>rw[h]at hy;cases hy
 | some x=>
  rw[h]at hy;simp at hy;subst hy;simp[E5,a0N,h]
theorem c2L (q:Nat) (l:List A3) (hl:l.length<=1000):FP 249 [pp q] [a1K q l]
  (λv As=>∃a cap l',l'.Perm l/\v=slv a l'.length cap/\As=[a1K q l,l9 39 3 a l'.length cap (E5 l')]):=by
 refine FE [2] Tryz.func249 λX F hX=>?_;refine J.o (α:=Nat) 1 λmr=>?_;refine J.qF λ_=>?_;refine J.q λ_=>?_;refine J.rangeMap hX 2 b9y rfl rfl rfl rfl rfl rfl rfl (λ_=>rfl) (λ_=>rfl) λr=>⟨trivial,?_⟩;refine J.turn1 [] rfl (As:=[l9 39 3 none 0 0 (E5 (a0N l []))]) (λh s=>Sep.one ⟨rfl,rfl,rfl⟩) rfl ?_;refine J.q λ_=>?_;refine J.l (α:=(List Nat×Option Nat×Nat)) (λx=>True) (λx=>[sp 11 r,sv 3 (slv x.2.1 x.1.length x.2.2)]) [2,3] (λx=>[itA mr r a3v (a0f l) x.1,l9 39 3 x.2.1 x.1.length x.2.2 (E5 (a0N l x.1))]) (λx=>l.length-x.1.length) (([],none,0)) (trivial) λx hI=>?_;obtain⟨is,a,cap⟩:=x;dsimp only;refine J.q λ_=>?_;refine J.know (p:=is.Nodup/\∀i∈is,i<l.length) (λh s=>?_) λhk=>?_
 ·obtain⟨_,_,_,_,_,_,_,_,h1,h2,_⟩:=s.get (i:=2) rfl;exact⟨h1,λi hi=>by have:=h2 i hi;simpa[a0f]using this⟩
 have hle:=a4b _ _ hk.1 hk.2;refine J.rangeNext hX 2 rfl rfl rfl rfl rfl rfl rfl (λ_=>rfl) (λ_=>rfl) (λhp=>⟨trivial,?_⟩) (λj y hj hy=>⟨trivial,?_⟩)
 ·rw[show(a0f l).length=l.length from by simp[a0f]]at hp;refine J.qF λ_=>?_;refine J.qc (b3n a is.length cap (a0N l is) (by simp[a0N]) (by omega)) [3] λ_=>?_;rintro v As ⟨rfl,l',hp',rfl⟩;refine⟨_,rfl,trivial,?_⟩;refine J.turn1 [2] rfl (As:=[W4 mr a3v (a0f l)]) (λh s=>b8k s) rfl ?_;refine J.cl (λmr:Nat=>[.pt q 169 [.map (some mr)],W4 mr a3v (a0f l)]) mr [1,2] ?_;refine J.qr [1,3] λ_=>?_;have hlen:is.length=l'.length:=by rw[hp'.length_eq];simp[a0N]
  refine⟨a,cap,l',hp'.trans (a8h hp),?_,?_⟩
  ·rw[<- hlen]
  ·rw[<- hlen];rfl
 ·have hjl:j<l.length:=by have:=(List.getElem?_eq_some_iff.1 hy).1;simpa[a0f]using this
  refine J.qT λ_=>?_;refine J.q λ_=>?_;have hlt:(is++[j]).length<=l.length:=a4b _ _ (by
   rw[M7];exact⟨hk.1,by simp,λa ha b hb=>by simp at hb;subst hb;rintro rfl;exact hj ha⟩) (λi hi=>by
   rw[M4]at hi;rcases hi with hi | hi
   ·exact hk.2 i hi
   ·simp at hi;subst hi;exact hjl)
  rw[d8,L6]at hlt;refine J.rangeEntry hX 2 rfl rfl rfl rfl rfl rfl rfl hy rfl ⟨trivial,?_⟩;refine J.q λ_=>?_;refine J.append hX tk 3 5 0 rfl rfl rfl rfl rfl rfl rfl rfl rfl rfl rfl rfl rfl rfl rfl rfl ?_ ?_ (λ_=>rfl) λa' cap'=>⟨_,(congrArg (λz=>V2 _ 3 (l9 _ _ _ _ _ z)) (b3r hy)).trans rfl,trivial,?_⟩
  ·simp only[maxLen];omega
  ·omega
  refine J.q λ_=>?_;rw[show is.length+1=(is++[j]).length from by simp];refine J.q λ_=>?_;refine J.n ((is++[j],a',cap')) (trivial) (by dsimp only;rw[d8,L6];omega) [0,1,2,3]
theorem Sep.pack {A:Atom} {Pre:List Atom} {h:Hl} (s:Sep (A::Pre) h):Sep [A, .hp (HP.of Pre)] h:=by
 obtain⟨own,hw⟩:=s;refine⟨λb=>min (own b) 1,λi B hB=>?_⟩
 match i,hB with
 | 0,hB=>
  simp at hB;subst hB;refine Atom.up (λb o hb=>?_) (hw 0 A rfl);rw[res_some]at hb ⊢;exact⟨by rw[hb.1];rfl,hb.2⟩
 | 1,hB=>
  simp at hB;subst hB;refine⟨λb=>own b-1,λj B hB=>?_⟩;refine Atom.up (λb o hb=>?_) (hw (j+1) B (by simpa using hB));rw[res_some]at hb ⊢;refine⟨by rw[hb.1];rfl,?_⟩;rw[res_some];exact⟨by rw[hb.1];omega,hb.2⟩
 | k+2,hB=>simp at hB
theorem Sep.unpack {A:Atom} {Pre:List Atom} {h:Hl} (s:Sep [A, .hp (HP.of Pre)] h):Sep (A::Pre) h:=by
 obtain⟨own,hw⟩:=s;obtain⟨own2,hw2⟩:Sep Pre (res h own 1):=hw 1 _ rfl;refine⟨λb=>if own b=1 then own2 b+1 else 0,λi B hB=>?_⟩;cases i with
 | zero=>
  simp at hB;subst hB;refine Atom.up (λb o hb=>?_) (hw 0 A rfl);rw[res_some]at hb ⊢;exact⟨by rw[d4 (by omega)],hb.2⟩
 | succ j=>
  refine Atom.up (λb o hb=>?_) (hw2 j B (by simpa using hB));rw[res_some]at hb ⊢;have h1:=res_some.1 hb.2;exact⟨by rw[d7 h1.1,hb.1],h1.2⟩
theorem Fn.pack {P:Program} {f:FuncId} {args:List Value} {Pre:List Atom} {q:Value->Prop} (c:Fn P f args Pre (λv As=>q v/\As=Pre)):Fn P f args [.hp (HP.of Pre)] (λv As=>q v/\As=[.hp (HP.of Pre)]):=by
 intro F w s;refine Calls.mono (c F w (Sep.unpack s)) λe w' ⟨v,As,h1,h2,h3,h4⟩=>?_;obtain⟨h5,rfl⟩:=h2;exact⟨v,_,h1,⟨h5,rfl⟩,Sep.pack h3,h4⟩
section
variable {X : Cx} {P : Program} {T : Tab} {K : List KI} {E : Env} {L : List Atom} {N : Nat} {F : HP} {Post : Value → List Atom → Prop} {rs : List ResultVar}
theorem J.clear (hX:IsCx X P rs N F Post) (hT:TabOK P T) {ops:Array Oper} {C:Cl} {lt:Bool} {i:Nat} {t:PT} {o:Oper} {g:G} {x:Operand} {k1 t1 b off n c st e ty size s1 b1 by_:Nat} {g1:G} {z z1:List Value} {td:TD} {cs:List Value} {E':Value->Env} {L2:List Value->List Atom} (is:Nat)
  (ho:J2 ops.toList i=some o) (hg:gd ops.toList E o=some g) (hgo:g.on=true) (hop:o.op= .call ⟨.builtin .clear,#[x],#[st]⟩) (hx:ev E x=some ⟨k1, .slice (some ⟨b,off,none⟩) n c,t1,g1⟩) (v1:g1.on=true)
  (hst:T.get st=some ⟨.slice e size,s1,z1,b1⟩) (he:T.get e=some ⟨td,size,z,by_⟩) (hz:Nat.beq z.length size=true) (hz1:z.all (·.oneCell')=true) (hL:J2 L is=some (.pt b ty cs)) (hlt:off+n*size<=cs.length)
  (hL2:∀cs',V2 L is (.pt b ty cs')=some (L2 cs')) (hd:∀v,Y5 N o.dst v 0 .tt E=some (E' v))
  (hJ:∀cs',cs'.length=cs.length->cs'.take off=cs.take off->Conj (M6 lt C (L2 cs'))/\J X (.reg ops C t::K) (E' (.tuple #[])) (L2 cs')):J X (.reg ops C (.alt lt i t .non)::K) E L:=by
 refine J.op hX (S:=λv' L'=>∃cs',cs'.length=cs.length/\cs'.take off=cs.take off/\v'= .tuple #[]/\L'=L.set is (.pt b ty cs')) 0 ho hg hgo (λa0 w hen hs=>?_) hd (λv L' ⟨cs',q1,q2,e1,e2⟩=>by subst e1;subst e2;rw[<- V0 (hL2 cs')];exact hJ cs' q1 q2);rw[J1]at hL;have ex:=C8 hen hx;simp only[Slot.val,v1]at ex;obtain⟨d,f,zv,ok⟩:=C1 (hT.get hst);obtain⟨fe,rfl,g1',g2'⟩:=ok.slice rfl;obtain⟨d',f',zv',ok'⟩:=C1 (hT.get he);have hzl:zv'.cells.toList=z:=ok'.hzero.symm;have hzn:zv'.cells.size=size:=by rw[<- R5,hzl];exact D1 hz
 have hblk:Blk w b ty cs.toArray:=hs.pt hL;cases n with
 | zero=>
  refine⟨_,L.set is (.pt b ty cs), .value (.tuple #[]),w,⟨cs,rfl,rfl,rfl,rfl⟩,?_, .inl rfl,?_,Ext.refl _⟩
  ·simp[execOp,hop,ex,resolve,invoke,builtin,Builtin.clear_,s9 ok.hd]
  ·have e:L.set is (.pt b ty cs)=L:=by
    apply z8;intro j;rw[A9];split
    ·rename_i e;subst e;rw[d7 (List.getElem?_eq_some_iff.1 hL).1,hL]
    ·rfl
   rw[e];exact hs
 | succ n=>
  have hlen:(Builtin.zeroCells zv'.cells (n+1)).toList.length=(n+1)*size:=by rw[R5,size_zeroCells,hzn]
  have hall:(Builtin.zeroCells zv'.cells (n+1)).toList.all (·.oneCell')=true:=by
   rw[E8];intro u hu;simp only[Builtin.zeroCells,Q6,Q5]at hu;obtain⟨k,hk,rfl⟩:=hu;have hk':k<(n+1)*zv'.cells.size:=by simpa using hk
   have hpos:0<zv'.cells.size:=by
    rcases P9 zv'.cells.size with h0 | h0
    ·rw[h0]at hk';omega
    ·exact h0
   have hm:=a3Q k hpos;rw[a5i zv'.cells (k % zv'.cells.size) hm];rw[E8]at hz1;apply hz1;rw[<- hzl];simp
  obtain⟨w',r1,r2,r3⟩:=a0g (P:=P) (o:=off) (Builtin.zeroCells zv'.cells (n+1)).toList 0 w cs _ hblk (by rw[Q4];exact a8w cs off _ (by rw[hlen];exact hlt)) hall;have hr:(execOp a0.eval o).run P w= .ok (.value (.tuple #[])) w':=by
   simp[execOp,hop,ex,resolve,invoke,builtin,Builtin.clear_,s9 ok.hd,a3U ok'.hf ok'.hz,r1]
  clear r1;generalize Builtin.zeroCells zv'.cells (n+1)=Z at hlen r2;have k1:(cs.take off++Z.toList++cs.drop (off+Z.toList.length)).length=cs.length:=by
   simp only[d8,l5,C5,hlen];omega
  have k2:(cs.take off++Z.toList++cs.drop (off+Z.toList.length)).take off=cs.take off:=by
   rw[m9,List.take_append_of_le_length (by simp;omega),a5V,Nat.min_self]
  refine⟨_,L.set is (.pt b ty (cs.take off++Z.toList++cs.drop (off+Z.toList.length))), .value (.tuple #[]),w',⟨_,k1,k2,rfl,rfl⟩,?_, .inl rfl,?_,r3⟩
  ·exact hr
  ·rw[r2];exact hs.setPt _ hL
end
def fnC (c:Nat) (cs:List Value):Value:= .func (.func c) #[] cs.toArray
def c0y (p:A3->Bool) (l:List A3):Int:=match l.findIdx? p with
 | some k=>k
 | none=> -1
theorem a8X {l:List A3} {k:Nat} {x:A3} (h:l[k]? =some x):((E5 l).drop (k*3)).take 3=[iI x.1,iI x.2.1,iI x.2.2]:=by
 have:=Z8 l [] k x h
 rwa [l8]at this
theorem b8n {p:A3->Bool} {l:List A3} {k:Nat} {x:A3} (h:l[k]? =some x) (h0:∀i<k,p (l.getD i d3)=false) (hp:p x=true):l.findIdx? p=some k:=by
 rw[o0];obtain⟨h1,h2⟩:=List.getElem?_eq_some_iff.1 h;refine⟨h1,by rw[h2];exact hp,λj hj=>?_⟩;have:=h0 j hj;rw[d5,c9 (by omega),j4]at this;simp[this]
theorem b8o {p:A3->Bool} {l:List A3} (h0:∀i<l.length,p (l.getD i d3)=false):l.findIdx? p=none:=by
 rw[D4];intro x hx;obtain⟨i,hi,rfl⟩:=List.mem_iff_getElem.1 hx;have:=h0 i hi
 rwa [d5,c9 hi,j4]at this
theorem b9n (c:Nat) (cs:List Value) (p:A3->Bool) (A:Atom) (hcal:K0 Tryz.prog c=true) (hf:∀x,Fn Tryz.prog c (a1G x::cs) [A] (λv As=>v= .bool (p x)/\As=[A]))
  (a:Option Nat) (n cap:Nat) (l:List A3) (hl:l.length=n) (hn:n<=4611686018427387904):FP 264 [slv a n cap,fnC c cs] [l9 39 3 a n cap (E5 l),A]
  (λv As=>v=iI (c0y p l)/\As=[l9 39 3 a n cap (E5 l),A]):=by
 refine FE [0,0] Tryz.func264 λX F hX=>?_;refine J.q λ_=>?_;refine J.l (α:=Nat) (λk=>k<=n/\∀i<k,p (l.getD i d3)=false) (λk=>[si 8 k,si 7 n,sv 0 (slv a n cap),⟨1,fnC c cs,0, .tt⟩]) [] (λk=>[]) (λk=>n-k) (0) (⟨by omega,by omega⟩) λk hI=>?_;refine J.qd (λ_ h1=>?_) λ_ h1=>?_
 ·simp only[d6,i6]at h1;cases a with
  | none=>
   refine J.know (λh' s=>(s.get (i:=1) rfl).2.1) λhn0=>?_;omega
  | some g=>
   have hk:l[k]? =some (l.getD k d3):=by rw[d5,c9 (by omega),j4]
   refine J.q λ_=>?_;refine J.v (a1G (l.getD k d3)) rfl rfl (λhg a w he hs=>?_) ?_
   ·exact M3 tk rfl rfl he rfl rfl rfl (hs.get (i:=1) rfl) (by rw[show 0+(k:Int).toNat*3=k*3 from by omega];exact a8X hk) rfl
   refine J.q λ_=>?_;refine J.call hX hcal (hf (l.getD k d3)) [2] 0 rfl rfl rfl rfl (by(repeat' (first | exact Conj.nil | refine Conj.cons ?_ ?_ | omega | exact hq0 | (simpa using hq0) | (exactλh=>h) | exact rfl | (intro hq;have hq0:=hq;try simp only[f8,j7,d6,i4,c8]at hq) | (simp;done) | (simp;omega) | decide))) rfl rfl (λ_=>rfl) ?_;refine cpq ⟨_,rfl,trivial,?_⟩;refine J.qd (λ_ h2=>?_) λ_ h2=>?_
   ·refine J.qr [1,2] λ_=>?_;exact⟨by rw[c0y,b8n hk hI.2 h2],rfl⟩
   ·refine J.q λ_=>?_;refine J.nx (k+1) (⟨by omega,λi hi=>by
     rcases Nat.lt_succ_iff_lt_or_eq.1 hi with h3 | h3
     ·exact hI.2 i h3
     ·rw[h3];exact h2⟩) (by omega) (λ_ s=>s)
 ·simp only[c8,i6]at h1;refine J.qr [1,2] λ_=>?_;exact⟨by rw[c0y,b8o (λi hi=>hI.2 i (by omega))],rfl⟩
def DelI (p:A3->Bool) (l m:List A3) (i j:Nat):Prop:=m.length=l.length/\i<j/\j<=l.length/\m.drop j=l.drop j/\m.take i++(l.drop j).filter (λx=>!p x)=l.filter (λx=>!p x)
theorem DelI.start {p:A3->Bool} {l:List A3} {k:Nat} (h:l.findIdx? p=some k):DelI p l l k (k+1):=by
 rw[o0]at h;obtain⟨h1,h2,h3⟩:=h;refine⟨rfl,by omega,by omega,rfl,?_⟩;have e:l=l.take k++l[k]::l.drop (k+1):=by rw[<- y8 h1,C4]
 have e2:(l.take k).filter (λx=>!p x)=l.take k:=by
  rw[X7];intro x hx;obtain⟨i,hi,rfl⟩:=List.mem_iff_getElem.1 hx;rw[a0o];have:=h3 i (by simp at hi;omega);simpa using this
 conv=>rhs;rw[e]
 rw[T3,e2,T8 (by simp[h2])]
theorem DelI.skip {p:A3->Bool} {l m:List A3} {i j:Nat} (h:DelI p l m i j) (hj:j<l.length) (hp:p (m.getD j d3)=true):DelI p l m i (j+1):=by
 obtain⟨h1,h2,h3,h4,h5⟩:=h;have e1:m[j]? =l[j]?:=by have:=congrArg (λz=>z[0]?) h4;simpa using this
 have hx:l[j]=m.getD j d3:=by rw[d5,e1,c9 hj,j4]
 refine⟨h1,by omega,by omega,?_,?_⟩
 ·have:=congrArg (List.drop 1) h4;simpa[C2]using this
 ·rw[<- h5,y8 hj,T8 (by rw[hx,hp];simp)]
theorem DelI.keep {p:A3->Bool} {l m:List A3} {i j:Nat} (h:DelI p l m i j) (hj:j<l.length) (hp:p (m.getD j d3)=false):DelI p l (m.set i (m.getD j d3)) (i+1) (j+1):=by
 obtain⟨h1,h2,h3,h4,h5⟩:=h;have e1:m[j]? =l[j]?:=by have:=congrArg (λz=>z[0]?) h4;simpa using this
 have hx:l[j]=m.getD j d3:=by rw[d5,e1,c9 hj,j4]
 refine⟨by simp[h1],by omega,by omega,?_,?_⟩
 ·rw[List.drop_set_of_lt (by omega)];have:=congrArg (List.drop 1) h4;simpa[C2]using this
 ·rw[<- h5,y8 hj,a2Q (by rw[hx,hp];simp),hx,a4q,D2,c9 (by omega)];rw[O9 _ _ (by simp;omega)];simp[l5,K5 (show i<=m.length by omega)]
theorem b1D (c:Nat) (cs:List Value) (p:A3->Bool) (A:Atom) (hcal:K0 Tryz.prog c=true) (hf:∀x,Fn Tryz.prog c (a1G x::cs) [A] (λv As=>v= .bool (p x)/\As=[A]))
  (a:Option Nat) (n cap:Nat) (l:List A3) (hl:l.length=n) (hn:n<=4611686018427387904):FP 248 [slv a n cap,fnC c cs] [l9 39 3 a n cap (E5 l),A]
  (λv As=>∃l',l'=l.filter (λx=>!p x)/\v=slv a l'.length cap/\As=[l9 39 3 a l'.length cap (E5 l'),A]):=by
 refine FE [0,0] Tryz.func248 λX F hX=>?_;refine J.qp (b9n c cs p A hcal hf a n cap l hl hn) [1,2] λ_=>?_;rw[c0y];cases hx:l.findIdx? p with
 | none=>
  dsimp only;refine J.qT λ_=>?_;refine J.qr [1,2] λ_=>?_;have:l.filter (λx=>!p x)=l:=by
   rw[X7];intro x hm;rw[D4]at hx;simp[hx x hm]
  exact⟨l,this.symm,by rw[hl],by rw[hl];rfl⟩
 | some k=>
  dsimp only;refine J.qd (λ_ h0=>?_) λ_ h0=>?_
  ·simp only[B4]at h0;omega
  have hk:k<n:=by rw[o0]at hx;obtain⟨h1,_⟩:=hx;omega
  cases a with
  | none=>
   refine J.know (λh' s=>(s.get (i:=1) rfl).2.1) λhn0=>?_;omega
  | some g=>
   refine J.openOwn 1 rfl rfl (λ_=>rfl) λr q1 q2 q3 q4=>?_;refine J.q λ_=>?_;rw[show(k:Int)+1=((k+1:Nat):Int)from by omega];refine J.q λ_=>?_;refine J.l (α:=(Nat×Nat×List A3)) (λx=>DelI p l x.2.2 x.1 x.2.1) (λx=>[si 6 x.2.1,si 5 x.1,sv 0 (slv (some g) n cap),⟨1,fnC c cs,0, .tt⟩]) [1] (λx=>[.pt g 39 (E5 x.2.2++r)]) (λx=>n-x.2.1) ((k,k+1,l)) (DelI.start hx) λx hI=>?_;obtain⟨i,j,m⟩:=x;dsimp only at hI ⊢;have hml:m.length=n:=hI.1.trans hl;have hij:i<j:=hI.2.1;have hjn:j<=n:=by have:=hI.2.2.1;omega
   refine J.qd (λ_ h1=>?_) λ_ h1=>?_
   ·simp only[d6,i6]at h1;have hget:m[j]? =some (m.getD j d3):=by rw[d5,c9 (by omega),j4]
    refine J.q λ_=>?_;refine J.v (a1G (m.getD j d3)) rfl rfl (λhg a w he hs=>?_) ?_
    ·exact H7 tk rfl rfl he rfl rfl rfl (hs.get (i:=1) rfl) (by rw[show 0+(j:Int).toNat*3=j*3 from by omega];exact Z8 m r _ _ hget) rfl
    refine J.q λ_=>?_;refine J.call hX hcal (hf (m.getD j d3)) [2] 0 rfl rfl rfl rfl (by(repeat' (first | exact Conj.nil | refine Conj.cons ?_ ?_ | omega | exact hq0 | (simpa using hq0) | (exactλh=>h) | exact rfl | (intro hq;have hq0:=hq;try simp only[f8,j7,d6,i4,c8]at hq) | (simp;done) | (simp;omega) | decide))) rfl rfl (λ_=>rfl) ?_;refine cpq ⟨_,rfl,trivial,?_⟩;refine J.qd (λ_ h2=>?_) λ_ h2=>?_
    ·simp only[i4]at h2;refine J.q λ_=>?_;refine J.storeN hX tk 1 rfl rfl rfl rfl rfl rfl rfl rfl rfl rfl rfl rfl rfl ?_ (E5 (m.set i (m.getD j d3))++r) ?_ rfl (λ_=>rfl) ⟨trivial,?_⟩
     ·rw[d8,N9];show 0+(i:Int).toNat*3+3<=_;omega
     ·rw[show 0+(i:Int).toNat*3=i*3 from by omega];exact a1o m r i _ (by omega)
     refine J.q λ_=>?_;refine J.n ((i+1,j+1,m.set i (m.getD j d3))) (hI.keep (by omega) h2) (by dsimp only;omega) [0,1,2]
    ·simp only[B5]at h2;refine J.q λ_=>?_;refine J.n ((i,j+1,m)) (hI.skip (by omega) h2) (by dsimp only;omega) [0,1,2]
   ·simp only[c8,i6]at h1;obtain rfl:j=n:=by omega
    have hfil:m.take i=l.filter (λx=>!p x):=by
     have h5:=hI.2.2.2.2;rw[H0 (by omega)]at h5;simpa using h5
    refine J.q λ_=>?_;refine J.clear hX tk 1 rfl rfl rfl rfl rfl rfl rfl rfl rfl rfl rfl ?_ (λ_=>rfl) (λ_=>rfl) λcs' z1 z2=>⟨trivial,?_⟩
    ·rw[d8,N9];rw[N9]at q4;show 0+(i:Int).toNat*3+(j-(i:Int).toNat)*3<=_;have:(i:Int).toNat=i:=by omega
     rw[this];omega
    have hilen:(l.filter (λx=>!p x)).length=i:=by rw[<- hfil,l5];omega
    refine J.closeOwn (e:=39) (size:=3) (n:=i) (cap:=cap) (xs:=E5 (l.filter (λx=>!p x))) 1 rfl rfl (by rw[N9,hilen]) (by omega) q3 (by rw[z1,d8,N9,hml];rw[N9,hl]at q4;exact q4) ?_ rfl ?_
    ·have z3:(0+(i:Int).toNat*3)=i*3:=by omega
     rw[z3]at z2;rw[z2,<- hfil];have e:E5 m=E5 (m.take i)++E5 (m.drop i):=by
      conv=>lhs;rw[<- C4 i m]
      simp only[E5,K1]
     rw[e,m9,D9 (by rw[N9,l5,K5 (by omega)])]
    refine J.qr [1,2] λ_=>?_;exact⟨_,rfl,by rw[hilen];rfl,by rw[hilen];rfl⟩
end Go.Proofs.YtmafiplddapokaaGreat
