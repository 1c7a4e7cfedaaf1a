/- Helpers. No condition. -/
import Derived.Test.YtnffkcabeecopaaGreatA04
import Derived.Test.YtnffkcabeecopaaGreatA05
import Derived.Test.YtnffkcabeecopaaGreatA06
import Derived.Test.YtnffkcabeecopaaGreatA07
import Derived.Test.YtnffkcabeecopaaGreatA10
import Derived.Test.YtnffkcabeecopaaGreatA11
import Derived.Test.YtnffkcabeecopaaGreatA12
import Derived.Test.YtnffkcabeecopaaGreatA13
set_option maxRecDepth 20000
set_option linter.all false
namespace Go.Proofs.YtnffkcabeecopaaGreat
open Go Go.RowKit
theorem a1g:FP 67 [.pointer none] [] (Ps (iI 12) []):=by
 refine FE [0] Tryz.func67 λX F hX=>?_;refine J.qT λ_=>?_;exact J.qx []
theorem a5H (i:Int):FP 46 [.pointer none,iI i] [] (Ps (.tuple #[a2K zd,iI 12]) []):=by
 refine FE [0,0] Tryz.func46 λX F hX=>?_;refine J.qp (a1g) [] λ_=>?_;refine J.qT λ_=>?_;exact J.qx []
theorem a3y (e:En):FP 92 [.pointer none,enV e] [] (Ps (iI 12) []):=by
 refine FE [0,0] Tryz.func92 λX F hX=>?_;refine J.qp (a1g) [] λ_=>?_;refine J.qT λ_=>?_;exact J.qx []
theorem a8F (i:Int) (x:List UInt8):FP 44 [.pointer none,iI i,a2K x] [] (Ps (iI 12) []):=by
 refine FE [0,0,0] Tryz.func44 λX F hX=>?_;refine J.qp (a3y ⟨i,0,1,x⟩) [] λ_=>?_;exact J.qx []
theorem b1c (i:Int):FP 45 [.pointer none,iI i] [] (Ps (iI 12) []):=by
 refine FE [0,0] Tryz.func45 λX F hX=>?_;refine J.qp (a3y ⟨i,0,2,zeros16⟩) [] λ_=>?_;exact J.qx []
theorem a8G:FP 25 [.pointer none] [] (Ps (iI 12) []):=by
 refine FE [0] Tryz.func25 λX F hX=>?_;refine J.qp (a1g) [] λ_=>?_;refine J.qT λ_=>?_;exact J.qx []
theorem b1d:FP 30 [.pointer none] [] (Ps (iI 12) []):=by
 refine FE [0] Tryz.func30 λX F hX=>?_;refine J.qp (a1g) [] λ_=>?_;refine J.qT λ_=>?_;exact J.qx []
theorem a6l (q n:Nat) (A:Pad) (P:Pv) (hZ:P.Z=none) (r2 r3:Value) (k m:Nat) (hG:P.M.Gd (Dv.costK+k) m) (hm:m<=1000):FP 107 [pp q] (PlQ q n P.Z A.f r2 r3::w7 n A P) (λv As=>∃A':Pad,v=iI P.mounts.2/\(A'.fp=A.fp/\A'.a=A.a/\A'.c=A.c/\A'.a2=A.a2/\A'.c2=A.c2)/\((∃Y,P.mounts.1={P with Z:=some Y}/\As=PlQ q n (some Y) A'.f r2 r3::FvP A'.f A'.p n A'.t A'.l A'.d Y)\/∃M,P.mounts.1={P with Z:=none,M:=M}/\As=[PlQ q n none A'.f r2 r3,d8 n M])):=by
 have hnd:P.nd=P.M:=by unfold Pv.nd;rw[hZ]
 have hms:P.mounts=if(m9 ((if P.M.off then P.M else P.M.setCut (-1) 0).onN)).2=0 then({P with Z:=some (Fv.of (m9 ((if P.M.off then P.M else P.M.setCut (-1) 0).onN)).1)},0)else({P with Z:=none,M:=(m9 ((if P.M.off then P.M else P.M.setCut (-1) 0).onN)).1.N},(m9 ((if P.M.off then P.M else P.M.setCut (-1) 0).onN)).2):=by unfold Pv.mounts;rw[hnd]
 rw[show w7 n A P=[d8 n P.M]from by unfold w7;rw[hZ],hZ];refine FE [2] Tryz.func107 λX F hX=>?_;refine J.qp (U9 n P.M) [2] λ_=>?_;refine J.qd (λ_ h1=>?_) λ_ h1=>?_
 ·have hoff:P.M.off=false:=by simpa using h1
  have e:(if P.M.off=true then P.M else P.M.setCut (-1) 0)=P.M.setCut (-1) 0:=if_neg (by rw[hoff];decide);rw[e]at hms;have hG2:(P.M.setCut (-1) 0).onN.Gd (Dv.costK+k) m:=(hG.cut (-1) 0 (by decide) (by decide)).on;refine J.qp (a3j n P.M (-1) 0) [2] λ_=>?_;refine J.qp (a8h n (P.M.setCut (-1) 0)) [2] λ_=>?_;refine J.qc (J3 n ((P.M.setCut (-1) 0)).onN k m hG2 hm rfl) [2] λ_=>?_;rintro v As (⟨he,f,p,t,ll,d,rfl,rfl⟩ | ⟨he,rfl,rfl⟩)
  ·refine⟨_,rfl,trivial,?_⟩;rw[if_pos he]at hms;refine J.qr [1,2,3,4,5,6,7] λ_=>?_;exact⟨⟨f,p,t,ll,d,A.fp,A.a,A.c,A.a2,A.c2⟩,by rw[hms],⟨rfl,rfl,rfl,rfl,rfl⟩, .inl ⟨_,by rw[hms],rfl⟩⟩
  ·refine⟨_,rfl,trivial,?_⟩;rw[if_neg he]at hms;refine J.qr [1,2] λ_=>?_;exact⟨A,by rw[hms],⟨rfl,rfl,rfl,rfl,rfl⟩, .inr ⟨_,by rw[hms],rfl⟩⟩
 ·have hoff:P.M.off=true:=by simpa using h1
  have e:(if P.M.off=true then P.M else P.M.setCut (-1) 0)=P.M:=if_pos hoff;rw[e]at hms;have hG2:P.M.onN.Gd (Dv.costK+k) m:=hG.on;refine J.qp (a8h n P.M) [2] λ_=>?_;refine J.qc (J3 n (P.M).onN k m hG2 hm rfl) [2] λ_=>?_;rintro v As (⟨he,f,p,t,ll,d,rfl,rfl⟩ | ⟨he,rfl,rfl⟩)
  ·refine⟨_,rfl,trivial,?_⟩;rw[if_pos he]at hms;refine J.qr [1,2,3,4,5,6,7] λ_=>?_;exact⟨⟨f,p,t,ll,d,A.fp,A.a,A.c,A.a2,A.c2⟩,by rw[hms],⟨rfl,rfl,rfl,rfl,rfl⟩, .inl ⟨_,by rw[hms],rfl⟩⟩
  ·refine⟨_,rfl,trivial,?_⟩;rw[if_neg he]at hms;refine J.qr [1,2] λ_=>?_;exact⟨A,by rw[hms],⟨rfl,rfl,rfl,rfl,rfl⟩, .inr ⟨_,by rw[hms],rfl⟩⟩
theorem a9L (q n:Nat) (A:Pad) (P:Pv) (hZ:P.Z=none) (r2 r3:Value) (k m:Nat) (hG:P.M.Gd (Dv.costK+k) m) (hm:m<=1000) (s:Stp) (hs:s.data.length=16):FP 64 [pp q,stV s] (PlQ q n P.Z A.f r2 r3::w7 n A P) (λv As=>∃A':Pad,v=tdV (P.does s).2/\(A'.fp=A.fp/\A'.a=A.a/\A'.c=A.c/\A'.a2=A.a2/\A'.c2=A.c2)/\((∃Y,(P.does s).1={P with Z:=some Y}/\As=PlQ q n (some Y) A'.f r2 r3::FvP A'.f A'.p n A'.t A'.l A'.d Y)\/∃M,(P.does s).1={P with Z:=none,M:=M}/\As=[PlQ q n none A'.f r2 r3,d8 n M])):=by
 have hnd:P.nd=P.M:=by unfold Pv.nd;rw[hZ]
 have hP:{P with Z:=none,M:=P.M}=P:=by rw[<- hZ]
 have hsN:∀N,P.setN N={P with Z:=none,M:=N}:=λN=>by unfold Pv.setN;rw[hZ]
 rw[show w7 n A P=[d8 n P.M]from by unfold w7;rw[hZ],hZ];refine FE [2,0] Tryz.func64 λX F hX=>?_;refine J.qd (λ_ h1=>?_) λ_ h1=>?_
 ·have e1:s.fn=1:=by simpa using h1
  have hd:P.does s=(P,⟨12,zd⟩):=by unfold Pv.does;rw[if_pos e1,hZ]
  refine J.pn 7 (.take true 0 (.take true 1 (.take true 2 (.take false 3 (.take true 4 (.take false 5 (.alt false 6 ((.of [28,32,36,42,46,48])) (.alt false 10 ((.of [26,28,32,36,46,48])) .non)))))))) [12] [1,3] λ_ _=>?_;refine J.alts ?_ ?_
  ·skip
   refine J.qp (a5H s.lpn) [] λ_=>?_;refine J.qr [1,2] λ_=>?_;refine⟨A,?_,⟨rfl,rfl,rfl,rfl,rfl⟩, .inr ⟨P.M,by rw[hd,hP],rfl⟩⟩;rw[hd];rfl
  ·skip
   refine J.qn 1 λ_=>?_;refine J.qp (a5H s.lpn) [] λ_=>?_;refine J.qr [1,2] λ_=>?_;refine⟨A,?_,⟨rfl,rfl,rfl,rfl,rfl⟩, .inr ⟨P.M,by rw[hd,hP],rfl⟩⟩;rw[hd];rfl
 have e1:s.fn≠1:=by simpa using h1
 refine J.qd (λ_ h2=>?_) λ_ h2=>?_
 ·have e2:s.fn=2:=by simpa using h2
  have hd:P.does s=(P,⟨12,zd⟩):=by unfold Pv.does;rw[if_neg e1,if_pos e2,hZ]
  refine J.p (.of [0,4,8,13,16,21,24,29,34,36,43]) [10] [1,3] λ_=>?_;refine J.qp (a8F s.lpn s.data) [] λ_=>?_;refine J.qr [1,2] λ_=>?_;refine⟨A,?_,⟨rfl,rfl,rfl,rfl,rfl⟩, .inr ⟨P.M,by rw[hd,hP],rfl⟩⟩;rw[hd];rfl
 have e2:s.fn≠2:=by simpa using h2
 refine J.qd (λ_ h3=>?_) λ_ h3=>?_
 ·have e3:s.fn=3:=by simpa using h3
  have hd:P.does s=(P,⟨12,zd⟩):=by unfold Pv.does;rw[if_neg e1,if_neg e2,if_pos e3,hZ]
  refine J.p (.of [0,4,8,13,16,21,26,28,35]) [8] [1,3] λ_=>?_;refine J.qp (b1c s.lpn) [] λ_=>?_;refine J.qr [1,2] λ_=>?_;refine⟨A,?_,⟨rfl,rfl,rfl,rfl,rfl⟩, .inr ⟨P.M,by rw[hd,hP],rfl⟩⟩;rw[hd];rfl
 have e3:s.fn≠3:=by simpa using h3
 refine J.qd (λ_ h4=>?_) λ_ h4=>?_
 ·have e4:s.fn=4:=by simpa using h4
  have hd:P.does s=(P,⟨12,zd⟩):=by unfold Pv.does;rw[if_neg e1,if_neg e2,if_neg e3,if_pos e4,hZ]
  refine J.qp (a8G) [] λ_=>?_;refine J.qr [1,2] λ_=>?_;refine⟨A,?_,⟨rfl,rfl,rfl,rfl,rfl⟩, .inr ⟨P.M,by rw[hd,hP],rfl⟩⟩;rw[hd];rfl
 have e4:s.fn≠4:=by simpa using h4
 refine J.qd (λ_ h5=>?_) λ_ h5=>?_
 ·have e5:s.fn=5:=by simpa using h5
  have hd:P.does s=(P,⟨12,zd⟩):=by unfold Pv.does;rw[if_neg e1,if_neg e2,if_neg e3,if_neg e4,if_pos e5,hZ]
  refine J.qp (b1d) [] λ_=>?_;refine J.qr [1,2] λ_=>?_;refine⟨A,?_,⟨rfl,rfl,rfl,rfl,rfl⟩, .inr ⟨P.M,by rw[hd,hP],rfl⟩⟩;rw[hd];rfl
 have e5:s.fn≠5:=by simpa using h5
 refine J.qd (λ_ h6=>?_) λ_ h6=>?_
 ·have e6:s.fn=6:=by simpa using h6
  have hd:P.does s=(P.setN (P.M.setCut s.n s.keep),⟨0,zd⟩):=by unfold Pv.does;rw[if_neg e1,if_neg e2,if_neg e3,if_neg e4,if_neg e5,if_pos e6,hnd]
  rw[hsN]at hd;refine J.p (.of [0,4,8,13,16,21,24,29,34]) [] [1,3] λ_=>?_;refine J.qp (a3j n P.M s.n s.keep) [2] λ_=>?_;refine J.qr [1,2] λ_=>?_;refine⟨A,?_,⟨rfl,rfl,rfl,rfl,rfl⟩, .inr ⟨_,by rw[hd],rfl⟩⟩;rw[hd];rfl
 have e6:s.fn≠6:=by simpa using h6
 refine J.qd (λ_ h7=>?_) λ_ h7=>?_
 ·have e7:s.fn=7:=by simpa using h7
  have hd:P.does s=(P.mounts.1,⟨P.mounts.2,zd⟩):=by unfold Pv.does;rw[if_neg e1,if_neg e2,if_neg e3,if_neg e4,if_neg e5,if_neg e6,if_pos e7]
  have hmm:=a6l q n A P hZ r2 r3 k m hG hm;rw[show w7 n A P=[d8 n P.M]from by unfold w7;rw[hZ],hZ]at hmm;refine J.qc (hmm) [1,2] λ_=>?_;rintro v As ⟨A',rfl,hA',(⟨Y,hY,rfl⟩ | ⟨M,hY,rfl⟩)⟩
  ·refine⟨_,rfl,trivial,?_⟩;refine J.qr [1,2,5,6,7,8,9] λ_=>?_;refine⟨A',?_,hA', .inl ⟨Y,by rw[hd,hY],rfl⟩⟩;rw[hd];rfl
  ·refine⟨_,rfl,trivial,?_⟩;refine J.qr [1,2] λ_=>?_;refine⟨A',?_,hA', .inr ⟨M,by rw[hd,hY],rfl⟩⟩;rw[hd];rfl
 have e7:s.fn≠7:=by simpa using h7
 refine J.qd (λ_ h8=>?_) λ_ h8=>?_
 ·have e8:s.fn=8:=by simpa using h8
  obtain⟨Q,hQ⟩:∃Q,Q=P.M.fault s.f.kind s.f.x s.f.y s.f.z s.f.n s.f.xx:=⟨_,rfl⟩;have hd:P.does s=(P.setN Q.2,if Q.1 then⟨0,zd⟩else⟨1,zd⟩):=by unfold Pv.does;rw[if_neg e1,if_neg e2,if_neg e3,if_neg e4,if_neg e5,if_neg e6,if_neg e7,if_pos e8,hnd,<- hQ]
  rw[hsN]at hd;refine J.p (.of [0,4,8,13,16,21,26]) [] [1,3] λ_=>?_;refine J.qp (O8 n P.M hG.ok s.f.at_ s.f.kind s.f.x s.f.y s.f.z s.f.n s.f.xx) [2] λ_=>?_;rw[<- hQ];refine J.qd (λ_ h9=>?_) λ_ h9=>?_
  ·rw[if_pos h9]at hd;refine J.qr [1,2] λ_=>?_;refine⟨A,?_,⟨rfl,rfl,rfl,rfl,rfl⟩, .inr ⟨_,by rw[hd],rfl⟩⟩;rw[hd];rfl
  ·rw[if_neg (by rw[h9];decide)]at hd;refine J.qr [1,2] λ_=>?_;refine⟨A,?_,⟨rfl,rfl,rfl,rfl,rfl⟩, .inr ⟨_,by rw[hd],rfl⟩⟩;rw[hd];rfl
 have e8:s.fn≠8:=by simpa using h8
 have hd:P.does s=(P,⟨1,zd⟩):=by unfold Pv.does;rw[if_neg e1,if_neg e2,if_neg e3,if_neg e4,if_neg e5,if_neg e6,if_neg e7,if_neg e8]
 refine J.qr [1,2] λ_=>?_;refine⟨A,?_,⟨rfl,rfl,rfl,rfl,rfl⟩, .inr ⟨P.M,by rw[hd,hP],rfl⟩⟩;rw[hd];rfl
theorem a9M (q n:Nat) (A:Pad) (P:Pv) (hA:A.Ok P) (hZ:P.Z=none) (k m:Nat) (hG:P.M.Gd (Dv.costK+k) m) (hm:m+(q9 P.M.ops P.L).length<=1000) (hL:P.L.length<=1000) (hlg:P.log.length<=1000) (s:Stp) (hs:s.data.length=16):FP 19 [pp q,stV s] (D0 q n A P) (λv As=>∃A':Pad,v=tdV (P.step s).2/\A'.Ok (P.step s).1/\As=D0 q n A' (P.step s).1):=by
 have hnd:P.nd=P.M:=by unfold Pv.nd;rw[hZ]
 obtain⟨D,hD⟩:∃D,q9 P.M.ops P.L=D:=⟨_,rfl⟩;obtain⟨R,hR⟩:∃R,K8 P.M.ops P.L=R:=⟨_,rfl⟩;rw[hD]at hm;have hrun:P.run=⟨R,P.log,none,D5 P.M D⟩:=by unfold Pv.run;rw[hnd,hD,hR];unfold Pv.setN;rw[hZ]
 have hst:P.step s=({(P.run.does s).1 with log:=(P.run.does s).1.log++[(P.run.does s).2]},(P.run.does s).2):=rfl;unfold D0;rw[show w7 n A P=[d8 n P.M]from by unfold w7;rw[hZ],hZ];refine FE [2,0] Tryz.func19 λX F hX=>?_;refine J.qF λ_=>?_;refine J.p (.of [0,4,8,13,16,20,24,29,34]) [] [1] λ_=>?_;refine J.qc (b3l A.fp n A.a A.c P.L hA.z hA.c hL P.M _ m hG) [2,3,5] λ_=>?_;rintro v As ⟨a',c',hz',hc',rfl,rfl⟩;refine⟨_,rfl,stq,?_⟩;rw[hR]at hc' ⊢;rw[hD];have hdo:=a9L q n A ⟨R,P.log,none,D5 P.M D⟩ rfl (pp A.fp) (slv A.a2 P.log.length A.c2) k (m+D.length) (V3 hG D) hm s hs;obtain⟨W,hW⟩:∃W,(⟨R,P.log,none,D5 P.M D⟩:Pv).does s=W:=⟨_,rfl⟩;rw[hrun,hW]at hst;rw[hW]at hdo;obtain⟨Wp,wt⟩:=W;dsimp only at hdo hst;refine J.qc (hdo) [1,5] λ_=>?_;rintro v As ⟨A',rfl,⟨q1,q2,q3,q4,q5⟩,(⟨Y,hY,rfl⟩ | ⟨M,hY,rfl⟩)⟩
 ·refine⟨_,rfl,trivial,?_⟩;refine J.pq (.of [0,4,8,12,17,21,26,30,32,36,43]) [8,9,10] [1,13] λ_ _=>?_;refine J.ap 4 14 0 (I1 P.log wt) λa3 c3=>?_;refine J.qr [1,2,3,4,5,8,9,10,11,12] λ_=>?_;refine⟨⟨A'.f,A'.p,A'.t,A'.l,A'.d,A.fp,a',c',a3,c3⟩,?_,?_,?_⟩
  ·rw[hst];rfl
  ·rw[hst,hY];exact⟨hz',hc'⟩
  ·rw[hst,hY];dsimp only;rw[List.length_append];rfl
 ·refine⟨_,rfl,trivial,?_⟩;refine J.pq (.of [0,4,8,12,17,21,26,30,32,36,43]) [8,9,10] [1,8] λ_ _=>?_;refine J.ap 4 9 0 (I1 P.log wt) λa3 c3=>?_;refine J.qr [1,2,3,4,5] λ_=>?_;refine⟨⟨A'.f,A'.p,A'.t,A'.l,A'.d,A.fp,a',c',a3,c3⟩,?_,?_,?_⟩
  ·rw[hst];rfl
  ·rw[hst,hY];exact⟨hz',hc'⟩
  ·rw[hst,hY];dsimp only;rw[List.length_append];rfl
namespace Xo
end Xo
namespace Nand
variable {N : Nand} {n : Nat}
end Nand
end Go.Proofs.YtnffkcabeecopaaGreat
namespace Go.Proofs.YtnffkcabeecopaaGreat
open Go
variable {N : Nand} {b m : Int} {l : List En} {j : Nat}
end Go.Proofs.YtnffkcabeecopaaGreat
namespace Go.Proofs.YtnffkcabeecopaaGreat
open Go
def b4E (s:Sh) (c:NCell):Prop:=c.lost=true\/c.p=H9 s\/c.turned=true/\((∃n y,n<32/\y≠0/\c.p=Nand.xorAt (H9 s) n y)\/∃K,K<=32/\c.p=Nand.fillP K (H9 s))
structure RowIs (N:Nand) (b r m:Int) (l:List En):Prop where
 six:N.dies<=6
 blk:0<=b/\b<N.blocks
 row:0<=r/\r<N.pages
 mask:0<=m/\m<2^N.dies
 data:∀s∈l,s.data.length=16
 par:W.parB b r m l=true
namespace RowIs
variable {N : Nand} {b r m : Int} {l : List En}
end RowIs
namespace PartR
variable {N : Nand} {b r m : Int} {l : List En} {g : Nat → Bool}
end PartR
def b5n (N:Nand) (b r m:Int) (l:List En):Prop:=∀x∈R.job b r m l,∀c,N.pageAt x.1 b r=some c->b4E x.2 c
namespace Nand
variable {N : Nand}
end Nand
end Go.Proofs.YtnffkcabeecopaaGreat
namespace Go.Proofs.YtnffkcabeecopaaGreat
namespace L
theorem without_dec:∀f,f<256->∀d,d<8->set (without (f:Nat) (d:Nat))=true/\∀e,e<8->has (without (f:Nat) (d:Nat)) (e:Nat)=(has (f:Nat) (e:Nat)&& !decide (e=d)):=by decide+kernel
theorem all_dec:∀n,n<=8->set (all (n:Nat))=true/\∀e,e<8->has (all (n:Nat)) (e:Nat)=decide (e<n):=by decide+kernel
theorem set_has {m:Int} (h:set m=true):∃k:Nat,m=k/\k<256:=by
 rw[set_iff]at h;exact⟨m.toNat,by omega,by omega⟩
theorem has_out {m d:Int} (h:¬(0<=d/\d<8)):has m d=false:=by
 cases hh:has m d with
 | false=>rfl
 | true=>have:=has_lt m d hh;omega
theorem set_with {f d:Int} (hf:set f=true) (hd:0<=d/\d<8):set (with_ f d)=true:=by
 obtain⟨F,rfl,hF⟩:=set_has hf;obtain⟨D,rfl⟩:=Int.eq_ofNat_of_zero_le hd.1;exact(a1n F hF D (by omega)).1
theorem with_has {f d:Int} (hf:set f=true) (hd:0<=d/\d<8) (e:Int):has (with_ f d) e=(has f e||decide (e=d)):=by
 obtain⟨F,rfl,hF⟩:=set_has hf;obtain⟨D,rfl⟩:=Int.eq_ofNat_of_zero_le hd.1
 by_cases he:0<=e/\e<8
 ·obtain⟨E,rfl⟩:=Int.eq_ofNat_of_zero_le he.1;rw[(a1n F hF D (by omega)).2 E (by omega)];have e2:decide (E=D)=decide ((E:Int)=(D:Int)):=by rw[decide_eq_decide];omega
  rw[e2]
 ·rw[has_out he,has_out he,decide_eq_false (by omega)];rfl
theorem set_without {f d:Int} (hf:set f=true) (hd:0<=d/\d<8):set (without f d)=true:=by
 obtain⟨F,rfl,hF⟩:=set_has hf;obtain⟨D,rfl⟩:=Int.eq_ofNat_of_zero_le hd.1;exact(without_dec F hF D (by omega)).1
theorem without_has {f d:Int} (hf:set f=true) (hd:0<=d/\d<8) (e:Int):has (without f d) e=(has f e&& !decide (e=d)):=by
 obtain⟨F,rfl,hF⟩:=set_has hf;obtain⟨D,rfl⟩:=Int.eq_ofNat_of_zero_le hd.1
 by_cases he:0<=e/\e<8
 ·obtain⟨E,rfl⟩:=Int.eq_ofNat_of_zero_le he.1;rw[(without_dec F hF D (by omega)).2 E (by omega)];have e2:decide (E=D)=decide ((E:Int)=(D:Int)):=by rw[decide_eq_decide];omega
  rw[e2]
 ·rw[has_out he,has_out he];rfl
theorem set_all (n:Nat) (h:n<=8):set (all n)=true:=(all_dec n h).1
theorem all_has (n:Nat) (h:n<=8) (e:Int):has (all n) e=(decide (0<=e)&&decide (e<n)):=by
 by_cases he:0<=e/\e<8
 ·obtain⟨E,rfl⟩:=Int.eq_ofNat_of_zero_le he.1;rw[(all_dec n h).2 E (by omega),decide_eq_true he.1,Bool.true_and,decide_eq_decide];omega
 ·rw[has_out he]
  by_cases h0:0<=e
  ·rw[decide_eq_false (p:=e<n) (by omega)];simp
  ·rw[decide_eq_false h0];rfl
theorem ext {m k:Int} (hm:set m=true) (hk:set k=true) (h:∀d:Nat,d<8->has m (d:Nat)=has k (d:Nat)):m=k:=by
 obtain⟨M,rfl,hM⟩:=set_has hm;obtain⟨K,rfl,hK⟩:=set_has hk;refine congrArg (Nat.cast:Nat->Int) (Nat.eq_of_testBit_eq λi=>?_)
 by_cases hi:i<8
 ·have:=h i hi;simp only[has,hm,hk,Bool.true_and,Int.toNat_natCast]at this;have e1:decide ((0:Int)<=(i:Int))=true:=decide_eq_true (by omega);have e2:decide ((i:Int)<8)=true:=decide_eq_true (by omega)
  rwa [e1,e2,Bool.true_and,Bool.true_and,Bool.true_and]at this
 ·have h8:∀M,M<256->M.testBit i=false:=λM hM=>Nat.testBit_lt_two_pow (Nat.lt_of_lt_of_le hM (by
   have:(2:Nat)^8<=2^i:=Nat.pow_le_pow_right (by omega) (by omega);omega))
  rw[h8 M hM,h8 K hK]
theorem has_zero (d:Int):has 0 d=false:=by
 unfold has;simp
end L
theorem a6b (x:Nat) (h:x<1000000):Go.IntKind.i64.wrap (x:Int)=x:=by
 show(if((true&&decide ((x:Int) % 18446744073709551616>=9223372036854775808))=true)then(x:Int) % 18446744073709551616-18446744073709551616 else(x:Int) % 18446744073709551616)=x;rw[if_neg (by rw[Bool.true_and,decide_eq_true_eq];omega)];omega
theorem a5X {a b:Int} (ha:L.set a=true) (hb:L.set b=true):L.set (Tl.andN a b)=true/\∀e:Int,L.has (Tl.andN a b) e=(L.has a e&& !L.has b e):=by
 obtain⟨A,rfl,hA⟩:=L.set_has ha;obtain⟨B,rfl,hB⟩:=L.set_has hb;have e1:((BitVec.ofInt 64 (A:Int)&&& ~~~BitVec.ofInt 64 (B:Int)).toNat)<256:=by
  rw[BitVec.toNat_and];refine Nat.lt_of_le_of_lt Nat.and_le_left ?_;rw[BitVec.toNat_ofInt];simp;omega
 have e2:∀i,i<8->(BitVec.ofInt 64 (A:Int)&&& ~~~BitVec.ofInt 64 (B:Int)).toNat.testBit i=(A.testBit i&& !B.testBit i):=λi hi=>by
  rw[BitVec.testBit_toNat,BitVec.getLsbD_and,BitVec.getLsbD_not];have h1:∀C:Nat,C<256->(BitVec.ofInt 64 (C:Int)).getLsbD i=C.testBit i:=λC hC=>by
   rw[<- BitVec.testBit_toNat,BitVec.toNat_ofInt];have:((C:Int) % (((2^64:Nat)):Int)).toNat=C:=by omega
   rw[this]
  rw[h1 A hA,h1 B hB,decide_eq_true (by omega),Bool.true_and]
 have e3:Tl.andN (A:Int) (B:Int)=((BitVec.ofInt 64 (A:Int)&&& ~~~BitVec.ofInt 64 (B:Int)).toNat:Int):=by
  unfold Tl.andN;show IntKind.i64.wrap (((BitVec.ofInt 64 (A:Int)&&& ~~~BitVec.ofInt 64 (B:Int)).toNat:Nat):Int)=_;generalize(BitVec.ofInt 64 (A:Int)&&& ~~~BitVec.ofInt 64 (B:Int)).toNat=x at e1;exact a6b x (by omega)
 generalize hx:(BitVec.ofInt 64 (A:Int)&&& ~~~BitVec.ofInt 64 (B:Int)).toNat=x at e1 e2 e3;rw[e3];have hs:L.set (x:Int)=true:=by rw[L.set_iff];omega
 refine⟨hs,λe=>?_⟩
 by_cases he:0<=e/\e<8
 ·obtain⟨E,rfl⟩:=Int.eq_ofNat_of_zero_le he.1;simp only[L.has,hs,ha,hb,Bool.true_and,Int.toNat_natCast];rw[decide_eq_true (p:=(0:Int)<=(E:Int)) (by omega),decide_eq_true (p:=(E:Int)<8) (by omega),e2 E (by omega)];rfl
 ·rw[L.has_out he,L.has_out he];rfl
namespace Tl
theorem has_iff {t:Tl} {k:Int}:t.has k=true↔0<=k/\k<t.b:=by simp[has]
end Tl
end Go.Proofs.YtnffkcabeecopaaGreat
namespace Go.Proofs.YtnffkcabeecopaaGreat
open Go Go.RowKit
structure Msk (D:Nat) (fd m:Int):Prop where
 set:L.set m=true
 lt:∀d:Int,L.has m d=true->d<D
 all:∀d:Nat,d<D->(d:Int)≠fd->L.has m (d:Nat)=true
theorem a7R:∀D,D<7->3<=D->G.slots (L.all (D:Nat))=(D:Int)-1/\L.count (L.all (D:Nat))=D/\L.all (D:Nat)<2^D:=by decide+kernel
theorem a9y:∀D,D<7->3<=D->∀d,d<D->G.slots (L.without (L.all (D:Nat)) (d:Nat))=(D:Int)-2/\L.count (L.without (L.all (D:Nat)) (d:Nat))=D-1/\L.without (L.all (D:Nat)) (d:Nat)<2^D:=by decide+kernel
namespace Msk
variable {D : Nat} {fd m : Int}
theorem eq (h:Msk D fd m) (hD:3<=D/\D<=6):(m=L.all (D:Nat)/\(0<=fd/\fd<D->L.has m fd=true))\/(0<=fd/\fd<D/\L.has m fd=false/\m=L.without (L.all (D:Nat)) fd):=by
 have hs:=L.set_all D (by omega)
 by_cases hf:(0<=fd/\fd<D)/\L.has m fd=false
 ·right;refine⟨hf.1.1,hf.1.2,hf.2,L.ext h.set (L.set_without hs (by omega)) λd hd=>?_⟩;rw[L.without_has hs (by omega),L.all_has D (by omega),decide_eq_true (p:=(0:Int)<=(d:Int)) (by omega),Bool.true_and]
  by_cases hlt:d<D
  ·rw[decide_eq_true (p:=(d:Int)<D) (by omega),Bool.true_and]
   by_cases e:(d:Int)=fd
   ·rw[e,hf.2];simp
   ·rw[h.all d hlt e,decide_eq_false e];rfl
  ·rw[decide_eq_false (p:=(d:Int)<D) (by omega),Bool.false_and];cases hh:L.has m (d:Nat)with
   | false=>rfl
   | true=>have:=h.lt _ hh;omega
 ·left;have hff:0<=fd/\fd<D->L.has m fd=true:=λhr=>by
   cases hh:L.has m fd with
   | true=>rfl
   | false=>exact absurd ⟨hr,hh⟩ hf
  refine⟨L.ext h.set hs λd hd=>?_,hff⟩;rw[L.all_has D (by omega),decide_eq_true (p:=(0:Int)<=(d:Int)) (by omega),Bool.true_and]
  by_cases hlt:d<D
  ·rw[decide_eq_true (p:=(d:Int)<D) (by omega)]
   by_cases e:(d:Int)=fd
   ·rw[e];exact hff (by omega)
   ·exact h.all d hlt e
  ·rw[decide_eq_false (p:=(d:Int)<D) (by omega)];cases hh:L.has m (d:Nat)with
   | false=>rfl
   | true=>have:=h.lt _ hh;omega
def full (D:Nat) (fd m:Int):Bool:=!(decide (0<=fd)&&decide (fd<D))||L.has m fd
theorem slots (h:Msk D fd m) (hD:3<=D/\D<=6):G.slots m=(if full D fd m then(D:Int)-1 else(D:Int)-2)/\2<=L.count m/\0<=m/\m<2^D:=by
 have hm0:0<=m:=by have:=(L.set_iff m).1 h.set;omega
 rcases h.eq hD with⟨e,hf⟩ | ⟨h1,h2,h3,e⟩
 ·have hfull:full D fd m=true:=by
   unfold full
   by_cases hr:0<=fd/\fd<D
   ·rw[hf hr];simp
   ·by_cases h0:0<=fd
    ·rw[decide_eq_false (p:=fd<D) (by omega)];simp
    ·rw[decide_eq_false h0];simp
  obtain⟨a1,a2,a3⟩:=a7R D (by omega) hD.1;rw[hfull,if_pos rfl];rw[e]at hm0 ⊢;exact⟨a1,by omega,hm0,a3⟩
 ·have hfull:full D fd m=false:=by
   unfold full;rw[decide_eq_true h1,decide_eq_true h2,h3];rfl
  obtain⟨d,hd⟩:=Int.eq_ofNat_of_zero_le h1;obtain⟨a1,a2,a3⟩:=a9y D (by omega) hD.1 d (by omega);rw[hfull,if_neg Bool.false_ne_true];rw[e,hd]at hm0 ⊢;exact⟨a1,by omega,hm0,a3⟩
theorem pos (h:Msk D fd m) (hD:3<=D/\D<=6):1<=G.slots m/\(D:Int)-2<=G.slots m/\G.slots m<=(D:Int)-1:=by
 have:=(h.slots hD).1;split at this<;>omega
end Msk
structure Full (fd:Int) (N:Nand) (b r m:Int) (l:List En):Prop where
 is:RowIs N b r m l
 good:∀x∈R.job b r m l,x.1≠fd->∃t,N.pageAt x.1 b r=some ⟨H9 x.2,false,t⟩
 inn:b5n N b r m l
namespace Full
variable {fd : Int} {N : Nand} {b r m : Int} {l : List En}
end Full
structure Std (fd:Int) (S:Dv) (i:Int) (a:AtV):Prop where
 row:∃l,Full fd S.N a.block a.row a.mask l/\0<=a.slot/\a.slot.toNat<l.length/\(l.getD a.slot.toNat En.zero).lpn=i/\(l.getD a.slot.toNat En.zero).seq=a.seq/\(l.getD a.slot.toNat En.zero).role=a.role
 used:(S.t.at_ a.block).used=true
 below:a.block=S.op->a.row<S.row
 seq:1<=a.seq/\a.seq<S.next
structure Opn (fd:Int) (S:Dv):Prop where
 blk:0<=S.op/\S.op<S.N.blocks
 used:(S.t.at_ S.op).used=true
 row:0<=S.row/\S.row<=S.N.pages
 mask:Msk S.N.dies fd S.mask
 cells:∀d:Nat,L.has S.mask (d:Nat)=true->((S.N.blk d S.op.toNat).cells.length:Int)<=S.row/\(S.N.dead.getD d false=false->((S.N.blk d S.op.toNat).cells.length:Int)=S.row)
structure Inv (fd:Int) (S:Dv):Prop where
 lit:S.N.Lit
 dead:∀i:Nat,(i:Int)≠fd->S.N.dead.getD i false=false
 plan:∀a∈S.N.plan,a.1=fd
 flags:∀i j:Nat,(i:Int)≠fd->(S.N.blk i j).met=false/\(S.N.blk i j).fails=false
 tdead:L.set S.t.dead=true/\∀d:Int,L.has S.t.dead d=true->d=fd
 tbad:∀b,S.t.has b=true->L.set (S.t.at_ b).bad=true/\∀d:Int,L.has (S.t.at_ b).bad d=true->d=fd
 op:S.op= -1\/Opn fd S
 blank:∀b,S.t.has b=true->(S.t.at_ b).used=false->∀d:Nat,L.has (S.t.mask b) (d:Nat)=true->(S.N.blk d b.toNat).cells=[]
 st:∀i a,Tb.look S.T.at_ i=some a->Std fd S i a
theorem b0n {t:Tl} {b:Int} (hd:t.d<=8) (hb:t.has b=true) (h1:L.set t.dead=true) (h2:L.set (t.at_ b).bad=true):L.set (t.mask b)=true/\∀e:Int,L.has (t.mask b) e=((decide (0<=e)&&decide (e<t.d))&& !L.has t.dead e&& !L.has (t.at_ b).bad e):=by
 have ha:=L.set_all t.d hd;have x1:=a5X ha h1;have x2:=a5X x1.1 h2;unfold Tl.mask;rw[if_pos hb];exact⟨x2.1,λe=>by rw[Tl.alive,x2.2,x1.2,L.all_has _ hd]⟩
namespace Inv
variable {fd : Int} {S : Dv} {k m : Nat}
theorem msk (h:Inv fd S) (hO:S.Ok k m) {b:Int} (hb:S.t.has b=true):Msk S.N.dies fd (S.t.mask b):=by
 have hg:=hO.gd.ok.bd16;have hd:=hO.t.d;obtain⟨m1,m2⟩:=b0n (by omega) hb h.tdead.1 (h.tbad b hb).1;refine⟨m1,λd hh=>?_,λd hlt hne=>?_⟩
 ·rw[m2]at hh;simp only[Bool.and_eq_true,decide_eq_true_eq]at hh;omega
 ·rw[m2,decide_eq_true (p:=(0:Int)<=(d:Int)) (by omega),decide_eq_true (p:=(d:Int)<S.t.d) (by omega)];have e1:L.has S.t.dead (d:Nat)=false:=by
   cases hh:L.has S.t.dead (d:Nat)with
   | false=>rfl
   | true=>exact absurd (h.tdead.2 _ hh) hne
  have e2:L.has (S.t.at_ b).bad (d:Nat)=false:=by
   cases hh:L.has (S.t.at_ b).bad (d:Nat)with
   | false=>rfl
   | true=>exact absurd ((h.tbad b hb).2 _ hh) hne
  rw[e1,e2];rfl
theorem usable (h:Inv fd S) (hO:S.Ok k m) {b:Int} (hb:S.t.has b=true):S.t.usable b=true:=by
 have hg:=hO.gd.ok.bd16;have:=((h.msk hO hb).pos hg.1).1;unfold Tl.usable;exact decide_eq_true (by omega)
end Inv
namespace Nand
variable {N N' N'' : Nand} {b : Nat}
end Nand
theorem a6A {N:Nand} {d b r:Int} (h:(N.blk d.toNat b.toNat).cells.length<=r.toNat):(M.look N d b r).2=2\/(M.look N d b r).2=4:=by
 have hp:N.pageAt d b r=none:=List.getElem?_eq_none h;have hr:N.refuses d b r=0\/N.refuses d b r=9\/N.refuses d b r=3\/N.refuses d b r=8:=by
  unfold Nand.refuses;split
  ·simp
  ·split
   ·simp
   ·split<;>simp
 have he:N.readE d b r=5\/N.readE d b r=9\/N.readE d b r=3\/N.readE d b r=8:=by
  unfold Nand.readE;rw[hp];rcases hr with e | e | e | e<;>rw[e]<;>simp
 unfold M.look;simp only;rcases he with e | e | e | e<;>rw[e]<;>simp
theorem a8Q {N:Nand} {b r:Int} (h:∀d:Nat,(M.look N (d:Nat) b r).2≠1):R.all N b r=[]:=by
 have:(M.rowN N b r N.dies).filterMap M.maskOf=[]:=by
  refine List.filterMap_eq_nil_iff.2 λx hx=>?_;unfold M.rowN at hx;obtain⟨d,_,rfl⟩:=List.mem_map.1 hx;unfold M.maskOf;rw[if_neg (h d)]
 unfold R.all M.masks;rw[this];rfl
namespace V
end V
def u8 (x:Int):UInt8:=UInt8.ofNat (x % 256).toNat
namespace V
end V
namespace Inv
variable {fd : Int} {S : Dv} {k m : Nat} {l : List En}
end Inv
structure NoF (S:Dv):Prop where
 dead:∀i:Nat,S.N.dead.getD i false=false
 plan:S.N.plan=[]
 met:∀i j:Nat,(S.N.blk i j).met=false
namespace Dv
end Dv
namespace Inv
variable {fd : Int} {S : Dv} {k m : Nat} {l : List En}
end Inv
namespace Brn
variable {fd : Int} {S : Dv} {β k m : Nat} {l : List En}
end Brn
namespace Inv
variable {fd : Int} {S : Dv} {k m : Nat} {l : List En}
end Inv
theorem b2F {T:Tb} (h:T.Ok) {x:Int×AtV} (hx:x∈T.at_):Tb.look T.at_ x.1=some x.2:=by
 cases hh:Tb.look T.at_ x.1 with
 | none=>rw[Tb.look_none]at hh;exact absurd (List.mem_map.2 ⟨x,hx,rfl⟩) hh
 | some a=>
  have hm:=Tb.look_mem hh;obtain⟨i1,g1,e1⟩:=List.mem_iff_getElem.1 hm;obtain⟨i2,g2,e2⟩:=List.mem_iff_getElem.1 hx;have:i1=i2:=(List.getElem?_inj (by rw[List.length_map];exact g1) h.keys).1 (by rw[List.getElem?_map,List.getElem?_map,List.getElem?_eq_getElem g1,List.getElem?_eq_getElem g2,e1,e2];rfl);subst this;rw[e1]at e2;rw[<- e2]
namespace Last
variable {fd : Int} {Q : Dv} {l : List En} {k m : Nat}
end Last
theorem NoF.new (d b p:Nat) (lg:Int):NoF (Dv.mk (Nand.new d b p) (Tl.new d b p) (Tb.new lg) (-1) 0 0 1):=
 ⟨λi=>by
  show(List.replicate d false).getD i false=false;rw[List.getD_eq_getElem?_getD,List.getElem?_replicate];split<;>rfl,rfl,λ_ _=>rfl⟩
theorem Inv.new (fd:Int) (d b p:Nat) (lg:Int):Inv fd (Dv.mk (Nand.new d b p) (Tl.new d b p) (Tb.new lg) (-1) 0 0 1):=by
 refine⟨Nand.Lit.new d b p,λi _=>(NoF.new d b p lg).dead i,λa ha=>(by cases ha),λ_ _ _=>⟨rfl,rfl⟩,⟨by show L.set 0=true;decide,λd hd=>(by have:L.has 0 d=true:=hd;rw[L.has_zero]at this;cases this)⟩,λbb hb=>?_, .inl rfl,λbb hb hu e he=>rfl,λi a ha=>(by cases ha)⟩;have:(Tl.new d b p).at_ bb=Sb.zero:=by
  unfold Tl.new Tl.at_;dsimp only;rw[List.getD_eq_getElem?_getD,List.getElem?_replicate];split<;>rfl
 show L.set ((Tl.new d b p).at_ bb).bad=true/\_;rw[this];refine⟨by decide,λe he=>?_⟩;have he:L.has 0 e=true:=he;rw[L.has_zero]at he;cases he
namespace V
end V
theorem a6c (x:Int):Value.int .u8 (IntKind.u8.wrap x)=bv (u8 x):=by
 have h:IntKind.u8.wrap x=x % 256:=by simp[IntKind.wrap,IntKind.bits,IntKind.signed]
 rw[h,bv,u8];congr 1;have h1:0<=x % 256/\x % 256<256:=⟨Int.emod_nonneg _ (by decide),Int.emod_lt_of_pos _ (by decide)⟩;have h2:(UInt8.ofNat (x % 256).toNat).toNat=(x % 256).toNat:=by
  rw[UInt8.toNat_ofNat'];omega
 rw[h2];omega
def e18 (k s:Int):En:=⟨k,s,1,[u8 k,u8 s,u8 (s/256),7,0,0,0,0,0,0,0,0,0,0,0,0]⟩
theorem O1 (k s:Int):FP 148 [iI k,iI s] [] (Ps (enV (e18 k s)) []):=by
 refine FE [0,0] Tryz.func148 λX F hX=>?_;refine J.qn 9 λ_=>?_;refine J.v (bv (u8 k)) rfl rfl (λhg a w he hs=>by rw[<- a6c k];exact L4 tk rfl rfl he rfl rfl rfl) ?_;refine J.qn 1 λ_=>?_;refine J.v (bv (u8 s)) rfl rfl (λhg a w he hs=>by rw[<- a6c s];exact L4 tk rfl rfl he rfl rfl rfl) ?_;refine J.qn 2 λ_=>?_;rw[show s.fdiv (2^min (Int.toNat 8) IntKind.i64.bits)=s/256 from Int.fdiv_eq_ediv_of_nonneg s (by decide:(0:Int)<=256)];refine J.v (bv (u8 (s/256))) rfl rfl (λhg a w he hs=>by rw[<- a6c (s/256)];exact L4 tk rfl rfl he rfl rfl rfl) ?_;exact J.qx []
def Dv.new (d b p:Nat) (lg:Int):Dv:=⟨Nand.new d b p,Tl.new d b p,Tb.new lg,-1,0,0,1⟩
theorem b4l (d b p:Nat) (h:m6 d b p=true) (k:Nat) (hk:k<=1000000000000000):(Nand.new d b p).Gd k 0:=by
 have h0:=Nand.Gd.new d b p h 0 (by omega);refine⟨h0.ok,?_,?_,h0.nodup,h0.few⟩
 ·show(0:Int)+(k:Int)<_;omega
 ·show(0:Int)+(k:Int)<_;omega
theorem Dv.Ok.new (d b p:Nat) (lg:Int) (h:m6 d b p=true) (k:Nat) (hk:k<=1000000000000000):(Dv.new d b p lg).Ok k 0:=
 ⟨b4l d b p h k hk,⟨rfl,rfl,rfl,by show(List.replicate b Sb.zero).length=b;simp⟩,Tb.Ok.new lg,λx hx=>by simp[Dv.new,Tb.new]at hx,by show(0:Int)<=0/\(0:Int)<=8;omega,by show(1:Int)<=1/\(1:Int)<=1099511627776;omega⟩
theorem a8k (d b p:Nat) (h:m6 d b p=true) (lg:Int):FP 147 [.agg #[iI d,iI b,iI p],iI lg] []
  (λv As=>∃n t l q,v= .tuple #[pp n,pp t,pp l,pp q]/\As=DvP q n t l (Dv.new d b p lg)):=by
 refine FE [0,0] Tryz.func147 λX F hX=>?_;refine J.qc (a3i d b p h) [] λ_=>?_;rintro v As ⟨n,rfl,rfl⟩;refine⟨_,rfl,trivial,?_⟩;refine J.qc (a6d d b p h) [] λ_=>?_;rintro v As ⟨t,rfl,rfl⟩;refine⟨_,rfl,trivial,?_⟩;refine J.qc (a6f lg) [] λ_=>?_;rintro v As ⟨l,rfl,rfl⟩;refine⟨_,rfl,trivial,?_⟩;refine J.qc (a9Q n t l 1 (by decide) (Nand.new d b p) (Tl.new d b p) (Tb.new lg)) [] λ_=>?_;rintro v As ⟨q,rfl,rfl⟩;refine⟨_,rfl,trivial,?_⟩;refine J.qr [5,2,3,4] λ_=>?_;exact⟨n,t,l,q,rfl,rfl⟩
namespace Inv
variable {fd : Int} {S : Dv} {k m : Nat}
theorem free_iff (h:Inv fd S) (hO:S.Ok k m) {b:Int} (hb:S.t.has b=true):s5 S.t S.T b=S.t.blank b/\(S.t.blank b=true->(b !=S.op)=true):=by
 have hu:=h.usable hO hb;unfold s5;rw[hu,Bool.true_and];have hop:S.t.blank b=true->(b !=S.op)=true:=λhbl=>by
  simp only[Tl.blank,Bool.and_eq_true,Bool.not_eq_true']at hbl;rw[bne_iff_ne];intro e;rcases h.op with e2 | e2
  ·have:=(Tl.has_iff.1 hb).1;omega
  ·have:=e2.used;rw[<- e,hbl.2]at this;cases this
 refine⟨?_,hop⟩;cases hbl:S.t.blank b with
 | false=>rfl
 | true=>
  rw[Bool.true_and,beq_iff_eq];simp only[Tl.blank,Bool.and_eq_true,Bool.not_eq_true']at hbl;rw[hO.T.cnt];unfold Tb.cntB;have:(S.T.at_.countP λx=>x.2.block==b)=0:=by
   rw[List.countP_eq_zero];intro x hx hxb;simp only[beq_iff_eq]at hxb;have hlk:Tb.look S.T.at_ x.1=some x.2:=b2F hO.T hx;have:=(h.st _ _ hlk).used;rw[hxb,hbl.2]at this;cases this
  rw[this];rfl
end Inv
namespace SeqI
variable {D B P rows : Nat} {S : Dv} {k m : Nat} {l : List En}
end SeqI
namespace Dv
end Dv
namespace TornR
variable {N N' : Nand} {b r kp : Int} {q : List (Int × Sh)} {c : Nat}
end TornR
namespace DscA
variable {C : En → Prop} {N N' : Nand} {Q : Dv} {l : List En} {k m : Nat}
end DscA
namespace Inv
variable {fd : Int} {S : Dv} {k m : Nat} {l : List En}
end Inv
namespace Tb
end Tb
namespace Hd
variable {fd : Int} {S Q : Dv} {W : List (Int × En)} {k m : Nat} {l : List En}
end Hd
namespace Dv
end Dv
namespace Inv
variable {fd : Int} {S : Dv} {k m : Nat} {l : List En}
end Inv
namespace Hd
variable {S : Dv} {W : List (Int × En)}
end Hd
namespace Inv
variable {fd : Int} {m : Nat}
end Inv
namespace Inv
variable {fd : Int} {S : Dv} {k m : Nat}
end Inv
namespace Inv
variable {fd : Int} {S : Dv} {k m : Nat}
end Inv
namespace Inv
variable {fd : Int} {S : Dv} {k m : Nat}
end Inv
namespace Inv
variable {fd : Int} {S : Dv} {k m : Nat}
theorem countP_range_get {α:Type} (p:α->Bool) (z:α) (l:List α):l.countP p=(List.range l.length).countP λi=>p (l.getD i z):=by
 induction l with
 | nil=>rfl
 | cons x l ih=>
  rw[List.countP_cons,List.length_cons,List.range_succ_eq_map,List.countP_cons,List.countP_map,ih];rfl
theorem free_len (h:Inv fd S) (hO:S.Ok k m):S.free=S.t.blanks:=by
 unfold Dv.free g5;rw[List.length_map,<- List.countP_eq_length_filter];have hlen:=hO.t.len;unfold Tl.blanks;rw[countP_range_get _ Sb.zero,hlen];refine List.countP_congr λi hi=>?_;have hi:=List.mem_range.1 hi;have hhas:S.t.has (i:Nat)=true:=Tl.has_iff.2 (by omega);obtain⟨a1,a2⟩:=h.free_iff hO hhas;rw[a1];have e:S.t.blank (i:Nat)= !(S.t.l.getD i Sb.zero).used:=by unfold Tl.blank Tl.at_;rw[hhas,Int.toNat_natCast];rfl
 cases hb:S.t.blank (i:Nat)with
 | false=>rw[e]at hb;rw[hb];simp
 | true=>rw[a2 hb];rw[e]at hb;rw[hb];simp
end Inv
theorem a1J {kind:Int->Bool} {o:Int}:∀n:Nat,(∀x:Nat,x<n->(((x:Int) !=o)&&kind x)=false)->g5 kind o n=[]
 | 0,_=>rfl
 | n+1,h=>by rw[K4,if_neg (by rw[h n (by omega)];decide),a1J n λx hx=>h x (by omega)]
theorem a6i {N:Nand} {t:Tl} (h:∀i:Nat,N.dead.getD i false=false):Dv.seeDead N t=t:=by
 unfold Dv.seeDead;have:∀(q:List Nat),q.foldl (λt (d:Nat)=>if N.deadAt d then t.die d else t) t=t:=by
  intro q
  induction q with
  | nil=>rfl
  | cons d q ih=>
   rw[List.foldl_cons];have:N.deadAt d=false:=by unfold Nand.deadAt;rw[Int.toNat_natCast,h];simp
   rw[this,if_neg Bool.false_ne_true];exact ih
 exact this _
namespace Inv
variable {fd : Int} {S : Dv} {k m : Nat} {W : List (Int × En)}
end Inv
namespace Rmy
variable {fd : Int} {S : Dv} {k m β : Nat} {W : List (Int × En)}
end Rmy
namespace Rmy
variable {fd : Int} {S : Dv} {k m β : Nat} {W : List (Int × En)}
end Rmy
namespace Rmy
variable {fd : Int} {S : Dv} {k m β : Nat} {W : List (Int × En)}
end Rmy
theorem Dv.Ok.fault0 {S:Dv} {k m:Nat} (h:S.Ok k m) (kd x y z n xx:Int) (hk:kd≠1):({S with N:=(S.N.fault kd x y z n xx).2}:Dv).Ok k m:=
 ⟨h.gd.fault0 kd x y z n xx hk,h.t.like (Nand.like_fault _ _ _ _ _ _ _),h.T,h.sl,h.row,h.next⟩
namespace B18
def S0:Dv:=Dv.new 3 8 2 20
def S1:Dv:=(S0.pen [e18 1 1,e18 2 2,e18 3 3]).1
def S2:Dv:=(S1.pen [e18 3 3]).1
def S3:Dv:=(S2.carry 0 2).1
def S4:Dv:={S3 with N:=(S3.N.fault 4 2 0 0 0 0).2}
def S5:Dv:=(S4.step 2).1
def S6:Dv:=S5.room.1
def S7:Dv:=(S6.torn [e18 9 9]).1
theorem h1:(S0.pen [e18 1 1,e18 2 2,e18 3 3]).2=(2,0):=by kernel_rfl
theorem h2:(S1.pen [e18 3 3]).2=(1,0):=by kernel_rfl
theorem h3:(S2.carry 0 2).2=(2,0):=by kernel_rfl
theorem h4:Tb.look S3.T.at_ 1=some ⟨1,0,0,7,4,1⟩:=by kernel_rfl
theorem h5:S3.op=1:=by kernel_rfl
theorem h6:(S4.step 2).2=(1,0):=by kernel_rfl
theorem h7:S5.leftN=2:=by kernel_rfl
theorem h8:S5.N.broken=0:=by kernel_rfl
theorem h9:S5.room.2=0:=by kernel_rfl
theorem h10:(S6.torn [e18 9 9]).2=0:=by kernel_rfl
theorem h11:S7.clear.2=0:=by kernel_rfl
def U:Nat:=10000000000
theorem G0:S0.Ok (10*U) 0:=Dv.Ok.new 3 8 2 20 rfl _ (by decide)
theorem d3:∀s∈[e18 1 1,e18 2 2,e18 3 3],s.data.length=16:=by decide
theorem d1:∀s∈[e18 3 3],s.data.length=16:=by decide
theorem d9:∀s∈[e18 9 9],s.data.length=16:=by decide
theorem G1:S1.Ok (9*U) 0:=(Dv.pen_keep (G0.less (by decide:8*Dv.fuel+9*U<=_)) d3).1
theorem G2:S2.Ok (8*U) 0:=(Dv.pen_keep (G1.less (by decide:8*Dv.fuel+8*U<=_)) d1).1
theorem G3:S3.Ok (7*U) 0:=(Dv.carry_keep (G2.less (by decide:Dv.costC+7*U<=_)) 0 2).1
theorem G4:S4.Ok (7*U) 0:=Dv.Ok.fault0 G3 4 2 0 0 0 0 (by decide)
theorem G5:S5.Ok (6*U) 0:=(Dv.step_keep (G4.less (by decide:Dv.costS+6*U<=_)) 2).1
theorem G6:S6.Ok (5*U) 0:=(Dv.room_keep (G5.less (by decide:Dv.costM+5*U<=_))).1
theorem G7:S7.Ok (4*U) 0:=(Dv.tornGo_keep 1 S6 [e18 9 9] _ (G6.less (by decide:Dv.costT*1+4*U<=_)) d9).1
end B18
end Go.Proofs.YtnffkcabeecopaaGreat
namespace Go.Proofs.YtnffkcabeecopaaGreat
open Go Go.RowKit
open B18
theorem a8o:FP 149 [] [] (Ps (.bool true) []):=by
 refine FE [] Tryz.func149 λX F hX=>?_;refine J.qp (a8n) [] λ_=>?_;exact J.qx []
theorem a8l:FP 97 [] [] (Ps (.bool true) []):=by
 refine FE [] Tryz.func97 λX F hX=>?_;refine J.qc (a8k 3 8 2 rfl 20) [] λ_=>?_;rintro v As ⟨n,t,l,q,rfl,rfl⟩;refine⟨_,rfl,trivial,?_⟩;rw[show Dv.new 3 8 2 20=S0 from rfl];refine J.qF λ_=>?_;refine J.qp (O1 1 1) [] λ_=>?_;refine J.qp (O1 2 2) [] λ_=>?_;refine J.qp (O1 3 3) [] λ_=>?_;refine J.q λbx=>?_;refine J.ca hX (by kernel_rfl) (R9 q n t l S0 (9*U) 0 (G0.less (by decide)) (.pt (bx 0) 155 (c9 [e18 1 1,e18 2 2,e18 3 3])) (some ⟨bx 0,0,none⟩) 3 3 [e18 1 1,e18 2 2,e18 3 3] (Q6 _ _ _ _ _ rfl) rfl (by decide) B18.d3) [1,2,3,4,5] 0 rfl rfl rfl rfl rfl rfl (λ_=>rfl) ?_;refine cpq ⟨_,rfl,trivial,?_⟩;rw[show(S0.pen [e18 1 1,e18 2 2,e18 3 3]).1=S1 from rfl,h1];refine J.qp (O1 3 3) [] λ_=>?_;refine J.q λby_=>?_;refine J.ca hX (by kernel_rfl) (R9 q n t l S1 (8*U) 0 (G1.less (by decide)) (.pt (by_ 0) 155 (c9 [e18 3 3])) (some ⟨by_ 0,0,none⟩) 1 1 [e18 3 3] (Q6 _ _ _ _ _ rfl) rfl (by decide) B18.d1) [1,2,3,4,6] 0 rfl rfl rfl rfl rfl rfl (λ_=>rfl) ?_;refine cpq ⟨_,rfl,trivial,?_⟩;rw[show(S1.pen [e18 3 3]).1=S2 from rfl,h2];refine J.qp (a1v n t l q S2 (7*U) 0 (G2.less (by decide)) 0 2) [1,2,3,4] λ_=>?_;rw[show(S2.carry 0 2).1=S3 from rfl,h3];refine J.qp (a0d l S3.T 1) [4] λ_=>?_;rw[h4,Option.getD_some,Option.isSome_some];refine J.qp (O6 q n t l S3) [1] λ_=>?_;rw[h5];refine J.qp (O8 n S3.N G3.gd.ok 0 4 2 0 0 0 0) [2] λ_=>?_;rw[show(S3.N.fault 4 2 0 0 0 0).2=S4.N from rfl,show J9 q n t l S3=J9 q n t l S4 from rfl,show S3.t=S4.t from rfl,show S3.T=S4.T from rfl];refine J.qp (a7k n t l q S4 (6*U) 0 (G4.less (by decide)) (by decide) 2) [1,2,3,4] λ_=>?_;rw[show(S4.step 2).1=S5 from rfl,h6];refine J.qp (a8o) [] λ_=>?_;refine J.qp (a7l t l S5 (6*U) 0 G5) [3,4] λ_=>?_;rw[h7];refine J.qp (a5m n S5.N) [2] λ_=>?_;rw[h8];refine J.qp (X4 n t l q S5 (5*U) 0 (G5.less (by decide)) (by decide)) [1,2,3,4] λ_=>?_;rw[show S5.room.1=S6 from rfl,h9];refine J.qp (O1 9 9) [] λ_=>?_;refine J.q λ_=>?_;refine J.effG hX tk rfl rfl rfl (λ_=>rfl) (by(repeat' (first | exact Conj.nil | refine Conj.cons ?_ ?_ | omega | exact hq0 | (simpa using hq0) | (exactλh=>h) | exact rfl | (intro hq;have hq0:=hq;try simp only[Bool.and_eq_true,Bool.or_eq_true,decide_eq_true_eq,Bool.not_eq_true',decide_eq_false_iff_not]at hq) | (simp;done) | (simp;omega) | decide))) (λ_=>rfl) λbt=>⟨trivial,?_⟩;refine J.q λ_=>?_;refine J.ca hX (by kernel_rfl) (a4g n t l q S6 (4*U) 0 (.pt bt 155 (c9 [e18 9 9])) (some (bt,0)) 1 1 [e18 9 9] (Q6 _ _ _ _ _ rfl) rfl (by decide) (by decide) (λh=>by cases h) B18.d9 (G6.less (by decide)) (by decide)) [1,2,3,4,8] 0 rfl rfl rfl rfl rfl rfl (λ_=>rfl) ?_;refine cpq ⟨_,rfl,trivial,?_⟩;rw[show(S6.torn [e18 9 9]).1=S7 from rfl,h10];refine J.qp (O6 q n t l S7) [1] λ_=>?_;refine J.q λ_=>?_;refine J.ca hX (by kernel_rfl) (X5 n t l S7.N S7.t S7.T (3*U) 0 (G7.gd.less (by decide) (Nat.le_refl _)) (by decide) G7.t S7.op) [2,3,4] 0 rfl rfl rfl rfl rfl rfl (λ_=>rfl) ?_;refine cpq ⟨_,rfl,trivial,?_⟩;rw[show(Dv.clearX S7.N S7.t S7.T S7.op).2.2=0 from h11];exact J.qx []
end Go.Proofs.YtnffkcabeecopaaGreat
namespace Go.Proofs.YtnffkcabeecopaaGreat
open Go Go.RowKit
namespace SqC
variable {D B P count i r k m : Nat} {S : Dv}
end SqC
namespace CutI
variable {C : En → Prop} {W : List (Int × En)} {S : Dv} {k m : Nat} {l : List En}
end CutI
namespace Hd
end Hd
namespace DscG
variable {fd : Int} {C C' E E' : En → Prop} {N N' : Nand} {b r : Int}
end DscG
namespace GI
variable {fd : Int} {W : List (Int × En)} {S Q : Dv} {k m : Nat} {l : List En}
end GI
namespace Rmy
variable {fd : Int} {S : Dv} {k m β : Nat} {W : List (Int × En)}
end Rmy
namespace Tl
variable {N : Nand} {t : Tl}
end Tl
namespace GI
variable {fd : Int} {W : List (Int × En)} {S : Dv} {k m : Nat}
end GI
namespace Any
variable {fd : Int} {W W' : List (Int × En)} {S U V : Dv} {c c' : Nat}
end Any
namespace Inv
variable {fd : Int} {m : Nat}
end Inv
namespace Inv
variable {fd : Int} {S : Dv} {k m : Nat} {W : List (Int × En)}
end Inv
namespace FI
variable {fd : Int} {W : List (Int × En)} {lg k m : Nat} {F : Fv}
end FI
namespace FI
variable {fd : Int} {W : List (Int × En)} {lg k m : Nat} {F : Fv}
end FI
theorem b3j (D B P:Nat):V.all (Nand.new D B P)=[]:=by
 unfold V.all;rw[List.flatMap_eq_nil_iff];intro b _;rw[List.flatMap_eq_nil_iff];intro r _;refine a8Q λd=>?_;have:=a6A (N:=Nand.new D B P) (d:=(d:Nat)) (b:=(b:Nat)) (r:=(r:Nat)) (Nat.zero_le _);omega
theorem a7p (N:Nand) (n:Int):∀k,V.goS N [] n k=⟨Tb.new n,[],[],[]⟩
 | 0=>rfl
 | k+1=>by
  rw[V.goS_succ,a7p N n k];unfold V.step;rw[if_neg];show¬(V.standOf (V.of [] k)).2=true;rw[show V.of [] (k:Int)=[]from rfl,V.standOf_nil];exact Bool.false_ne_true
theorem a9A (D B P:Nat) (n:Int):V.scan (Nand.new D B P) n=⟨Tb.new n,[],0,[],1,0⟩:=by
 unfold V.scan V.scanOf;rw[b3j,a7p];have h1:j9 (C6 [])=[]:=a3f;dsimp only;rw[h1];rfl
theorem a9z {t:Tl} (hl:t.l.length=t.b) (k:Int):t.set k (t.at_ k)=t:=by
 unfold Tl.set;split
 ·rename_i h;have hk:=Tl.get_at hl h;have:t.l.set k.toNat (t.at_ k)=t.l:=by
   apply List.ext_getElem?;intro i;rw[List.getElem?_set];split
   ·rename_i e;subst e;rw[hk];split
    ·rfl
    ·rename_i h2;rw[List.getElem?_eq_none (by omega)]at hk;cases hk
   ·rfl
  rw[this]
 ·rfl
theorem b1y (D B P:Nat) (b:Int):(Tl.new D B P).at_ b=Sb.zero:=by
 unfold Tl.new Tl.at_;dsimp only;rw[List.getD_eq_getElem?_getD,List.getElem?_replicate];split<;>rfl
theorem b2y (D B P:Nat) (b d:Nat):Tl.ofD (Nand.new D B P) b (Tl.new D B P) d=Tl.new D B P:=by
 have hw:(Nand.new D B P).wornAt d b=0:=by unfold Nand.wornAt;split<;>rfl
 have hn:(Nand.new D B P).next d b=0:=by unfold Nand.next;split<;>rfl
 have h1:(Tl.new D B P).wore b 0=Tl.new D B P:=by
  have h2:=a9z (t:=Tl.new D B P) (by show(List.replicate B Sb.zero).length=B;rw[List.length_replicate]) (b:Int);unfold Tl.wore;rw[b1y]at h2 ⊢;exact h2
 unfold Tl.ofD;dsimp only;rw[hw,hn,h1,if_neg];simp
theorem b3X (D B P:Nat):Tl.of (Nand.new D B P)=Tl.new D B P:=by
 have hd:Dv.seeDead (Nand.new D B P) (Tl.new D B P)=Tl.new D B P:=a6i λi=>by
  show(List.replicate D false).getD i false=false;rw[List.getD_eq_getElem?_getD,List.getElem?_replicate];split<;>rfl
 have h1:∀(b:Nat) (q:List Nat),q.foldl (Tl.ofD (Nand.new D B P) b) (Tl.new D B P)=Tl.new D B P:=by
  intro b q
  induction q with
  | nil=>rfl
  | cons d q ih=>rw[List.foldl_cons,b2y,ih]
 have h2:∀q:List Nat,q.foldl (Tl.ofB (Nand.new D B P)) (Tl.new D B P)=Tl.new D B P:=by
  intro q
  induction q with
  | nil=>rfl
  | cons b q ih=>
   rw[List.foldl_cons];have:Tl.ofB (Nand.new D B P) (Tl.new D B P) b=Tl.new D B P:=h1 b _;rw[this,ih]
 unfold Tl.of;rw[show(Nand.new D B P).dies=D from rfl,show(Nand.new D B P).blocks=B from rfl,show(Nand.new D B P).pages=P from rfl,hd,h2]
theorem a9E {D B P k m:Nat} {lg:Int} (hO:(Dv.new D B P lg).Ok k m):(Dv.new D B P lg).clear=(Dv.new D B P lg,0)/\(Dv.new D B P lg).room=(Dv.new D B P lg,0):=by
 have hg:=hO.gd.ok.bd16;have hg:(3<=D/\D<=6)/\(8<=B/\B<=16)/\(2<=P/\P<=8):=hg;have hsp:g5 (s9 (Dv.new D B P lg).t (Dv.new D B P lg).T) (Dv.new D B P lg).op (Dv.new D B P lg).t.b=[]:=a1J _ λx hx=>by
  have hx:x<B:=hx;unfold s9 Tl.blank;rw[show(Dv.new D B P lg).t=Tl.new D B P from rfl,b1y,Tl.has_iff.2 (show 0<=(x:Int)/\(x:Int)<(Tl.new D B P).b by show 0<=(x:Int)/\(x:Int)<(B:Int);omega)];simp[Sb.zero]
 have hc:(Dv.new D B P lg).clear=(Dv.new D B P lg,0):=by
  unfold Dv.clear Dv.clearX;rw[hsp];rfl
 have hfr:((Dv.new D B P lg).free:Int)>4:=by
  have h1:=(Inv.new (-1) D B P lg).free_len (k:=k) (m:=m) hO;have h2:(Dv.new D B P lg).t.blanks=B:=by
   show(List.replicate B Sb.zero).countP _=B;rw[List.countP_replicate];rfl
  have h1:(Dv.new D B P lg).free=(Dv.new D B P lg).t.blanks:=h1;omega
 refine⟨hc,?_⟩;unfold Dv.room;rw[hc,if_neg (by simp)];obtain⟨c,hc2⟩:∃c,(Dv.new D B P lg).t.b=c+1:=⟨(Dv.new D B P lg).t.b-1,by show B=B-1+1;omega⟩;rw[hc2];show Dv.roomGo (c+1) (Dv.new D B P lg)=_;unfold Dv.roomGo;rw[if_pos hfr]
theorem a8i {D B P k m:Nat} (hO:(Dv.new D B P (lgN D B P)).Ok k m):m9 (Nand.new D B P)=(Dv.new D B P (lgN D B P),0):=by
 obtain⟨c1,c2⟩:=a9E hO;unfold m9;rw[show(Nand.new D B P).dies=D from rfl,show(Nand.new D B P).blocks=B from rfl,show(Nand.new D B P).pages=P from rfl,a9A,b3X];have e:(⟨Nand.new D B P,Tl.new D B P,Tb.new (lgN D B P),-1,0,0,max 1 1⟩:Dv)=Dv.new D B P (lgN D B P):=rfl;dsimp only;rw[e];have h1:(Dv.new D B P (lgN D B P)).holds [] true=Dv.new D B P (lgN D B P):=rfl;have h2:(Dv.new D B P (lgN D B P)).holds [] false=Dv.new D B P (lgN D B P):=rfl;have h3:(Dv.new D B P (lgN D B P)).torn []=(Dv.new D B P (lgN D B P),0):=rfl;rw[h1,List.take_nil,List.drop_nil,h3];dsimp only;rw[if_neg (by simp),h2,c1];dsimp only;rw[if_neg (by simp),h3];dsimp only;rw[if_neg (by simp)];exact c2
namespace Rmy
variable {fd : Int} {S : Dv} {k m β : Nat} {W : List (Int × En)}
end Rmy
namespace FC
variable {W : List (Int × En)} {lg k m : Nat} {F : Fv}
end FC
namespace GI
variable {fd : Int} {W : List (Int × En)} {S : Dv} {k m : Nat}
end GI
namespace FC
variable {W : List (Int × En)} {lg k m : Nat} {F : Fv}
end FC
theorem a5S (l:List Td):∀u∈p6 l,u.oneCell'=true:=by
 intro u hu;simp only[p6,List.mem_flatMap]at hu;obtain⟨s,_,hu⟩:=hu;simp only[tdC,List.mem_cons,List.not_mem_nil,or_false]at hu;rcases hu with rfl | rfl | rfl | rfl | rfl | rfl | rfl | rfl | rfl | rfl | rfl | rfl | rfl | rfl | rfl | rfl | rfl<;>rfl
theorem a7J (a:Option Nat) (n cap:Nat) (l:List Td) (hl:l.length=n) (hn:n<=1000000):FP 65 [slv a n cap] [c8 50 17 a n cap (p6 l)]
  (λv As=>∃a' c',v=slv a' n c'/\As=[c8 50 17 a n cap (p6 l),c8 50 17 a' n c' (p6 l)]):=by
 refine FE [0] Tryz.func65 λX F hX=>?_;cases a with
 | none=>
  refine J.know (λh' s=>(s.get (i:=1) rfl).2) λhn0=>?_;obtain⟨rfl,rfl⟩:=hn0;have:l=[]:=List.eq_nil_of_length_eq_zero hl;subst this;refine J.qT λ_=>?_;refine J.turn1 [] rfl (As:=[c8 50 17 none 0 0 (p6 [])]) (λh s=>Sep.one ⟨rfl,rfl,rfl⟩) rfl ?_;refine J.qr [1,2] λ_=>?_;exact⟨none,0,rfl,rfl⟩
 | some g=>
  refine J.qF λ_=>?_;refine J.qn 5 λbb=>?_;refine J.closeOwn (e:=50) (size:=17) (n:=0) (cap:=0) (xs:=[]) 2 rfl rfl rfl (Nat.le_refl _) (Nat.zero_le _) rfl rfl rfl ?_;refine J.q λ_=>?_;refine J.appendR hX tk (a:=some (bb 0)) (n:=0) (cap:=0) (xs:=[]) (oo:=0) (Ay:=c8 50 17 (some g) n cap (p6 l)) 2 1 0 rfl rfl rfl rfl rfl rfl rfl rfl rfl rfl (x6 _ _ (some g) _ _ _) rfl rfl rfl rfl (a5S l) ?_ ?_ (λ_=>rfl) λa' c'=>⟨_,rfl,trivial,?_⟩
  ·simp only[maxLen];omega
  ·omega
  rw[Nat.zero_add n,List.nil_append];refine J.qr [1,2] λ_=>?_;exact⟨a',c',rfl,rfl⟩
theorem a6m (q n:Nat) (A:Pad) (P:Pv) (hl:P.log.length<=1000):FP 20 [pp q] [PlQ q n P.Z A.f (pp A.fp) (slv A.a2 P.log.length A.c2),c8 50 17 A.a2 P.log.length A.c2 (p6 P.log)]
  (λv As=>∃a' c',v=slv a' P.log.length c'/\As=[PlQ q n P.Z A.f (pp A.fp) (slv A.a2 P.log.length A.c2),c8 50 17 A.a2 P.log.length A.c2 (p6 P.log),c8 50 17 a' P.log.length c' (p6 P.log)]):=by
 refine FE [2] Tryz.func20 λX F hX=>?_;refine J.qF λ_=>?_;refine J.qc (a7J A.a2 P.log.length A.c2 P.log rfl (by omega)) [2] λ_=>?_;rintro v As ⟨a',c',rfl,rfl⟩;refine⟨_,rfl,trivial,?_⟩;refine J.qr [1,2,3] λ_=>?_;exact⟨a',c',rfl,rfl⟩
def a7z (d b p:Int):Int:=if m6 d b p then 12*d*b*p+40 else 0
theorem b4w (d b p:Int):FP 42 [.agg #[iI d,iI b,iI p]] [] (Ps (iI (a7z d b p)) []):=by
 refine FE [0] Tryz.func42 λX F hX=>?_;refine J.qp (a0J d b p) [] λ_=>?_;refine J.qd (λ_ h1=>?_) λ_ h1=>?_
 ·have hg:m6 d b p=false:=by simpa using h1
  refine J.qr [] λ_=>?_;exact⟨by unfold a7z;rw[hg];rfl,rfl⟩
 ·have hg:m6 d b p=true:=by simpa using h1
  have hbd:(3<=d/\d<=6)/\(8<=b/\b<=16)/\(2<=p/\p<=8):=by simp[m6]at hg;omega
  have m1:0<=12*d*b/\12*d*b<=1152:=by
   have h1:=Int.mul_nonneg (show 0<=12*d by omega) (show 0<=b by omega);have h2:=Int.mul_le_mul (show 12*d<=72 by omega) (show b<=16 by omega) (by omega) (by omega);omega
  have m2:0<=12*d*b*p/\12*d*b*p<=9216:=by
   have h1:=Int.mul_nonneg m1.1 (show 0<=p by omega);have h2:=Int.mul_le_mul m1.2 (show p<=8 by omega) (by omega) (by omega);omega
  refine J.qr [] λ_=>?_;exact⟨by unfold a7z;rw[hg];rfl,rfl⟩
def Fv.allG:Nat->Int->Fv->Fv×List (List UInt8)×Int
 | 0,_,Z=>(Z,[],0)
 | n+1,i,Z=>if(Z.read i).2.2≠0 then((Z.read i).1,[],(Z.read i).2.2)else((Fv.allG n (i+1) (Z.read i).1).1,(Z.read i).2.1::(Fv.allG n (i+1) (Z.read i).1).2.1,(Fv.allG n (i+1) (Z.read i).1).2.2)
theorem Fv.allG_succ (n:Nat) (i:Int) (Z:Fv):Fv.allG (n+1) i Z=if(Z.read i).2.2≠0 then((Z.read i).1,[],(Z.read i).2.2)else((Fv.allG n (i+1) (Z.read i).1).1,(Z.read i).2.1::(Fv.allG n (i+1) (Z.read i).1).2.1,(Fv.allG n (i+1) (Z.read i).1).2.2):=rfl
def Fv.all (Z:Fv):Fv×List (List UInt8)×Int:=if(Fv.allG Z.lg.toNat 0 Z).2.2≠0 then((Fv.allG Z.lg.toNat 0 Z).1,[],(Fv.allG Z.lg.toNat 0 Z).2.2)else Fv.allG Z.lg.toNat 0 Z
theorem a4B (l:List (List UInt8)) (d:List UInt8):n8 l++j8 d=n8 (l++[d]):=by unfold n8;rw[List.flatMap_append];simp
theorem b4u (f p n t l d:Nat) (Z:Fv) (k m:Nat) (hO:Z.Ok k m):FP 50 [pp f] (FvP f p n t l d Z)
  (λv As=>∃a c,v= .tuple #[slv a Z.all.2.1.length c,iI Z.all.2.2]/\As=FvP f p n t l d Z.all.1++[c8 30 16 a Z.all.2.1.length c (n8 Z.all.2.1)]):=by
 refine FE [2] Tryz.func50 λX F hX=>?_;refine J.q λb9=>?_;refine J.cF ?_;refine J.qp (P7 f n t l p d Z hO.dv.gd.ok) [1,3] λ_=>?_;have hlb:=Fv.lg_bd (F:=Z) hO.dv.gd.ok;obtain⟨N,hN⟩:=Int.eq_ofNat_of_zero_le (show 0<=Z.lg by omega);rw[hN];have hall:Z.all=if(Fv.allG N 0 Z).2.2≠0 then((Fv.allG N 0 Z).1,[],(Fv.allG N 0 Z).2.2)else Fv.allG N 0 Z:=by unfold Fv.all;rw[hN];rfl
 refine J.q λ_=>?_;refine J.turn1 [] rfl (As:=[c8 30 16 none 0 0 (n8 [])]) (λh s=>Sep.one ⟨rfl,rfl,rfl⟩) rfl ?_;refine J.q λ_=>?_;refine J.l (α:=(Nat×Fv×List (List UInt8)×Option Nat×Nat)) (λz=>z.1<=N/\z.2.1.Ok k m/\z.2.2.1.length=z.1/\Fv.allG N 0 Z=((Fv.allG (N-z.1) z.1 z.2.1).1,z.2.2.1++(Fv.allG (N-z.1) z.1 z.2.1).2.1,(Fv.allG (N-z.1) z.1 z.2.1).2.2)) (λz=>[si 12 z.1,si 11 N,⟨0,pp f,2, .tt⟩,sv 4 (slv z.2.2.2.1 z.2.2.1.length z.2.2.2.2)]) [1,2,3,4,5,6,7] (λz=>(FvP f p n t l d z.2.1++[c8 30 16 z.2.2.2.1 z.2.2.1.length z.2.2.2.2 (n8 z.2.2.1)])) (λz=>N-z.1) ((0,Z,[],none,0)) (⟨Nat.zero_le _,hO,rfl,rfl⟩) λz hI=>?_;obtain⟨j,Y,acc,ga,ca⟩:=z;dsimp only at hI ⊢;obtain⟨hj,hY,hacc,hgo⟩:=hI;refine J.qd (λ_ h1=>?_) λ_ h1=>?_
 ·simp only[decide_eq_true_eq,Int.ofNat_lt]at h1;have hk:=Fv.read_keep hY j;rw[show N-j=(N-(j+1))+1 from by omega]at hgo;rw[Fv.allG_succ]at hgo;refine J.qp (V2 f p n t l d Y k m hY j) [1,2,3,4,5,6] λ_=>?_;generalize Y.read j=R at hgo hk ⊢;obtain⟨Y2,dd,er⟩:=R;dsimp only at hgo hk ⊢;refine J.qd (λ_ h2=>?_) λ_ h2=>?_
  ·have he:er≠0:=by simpa using h2
   rw[if_pos he]at hgo;rw[hgo,if_pos he]at hall;refine J.turn1 [] rfl (As:=[c8 30 16 none 0 0 (n8 [])]) (λh s=>Sep.one ⟨rfl,rfl,rfl⟩) rfl ?_;refine J.qr [1,2,3,4,5,6,9] λ_=>?_;rw[hall];exact⟨none,0,rfl,rfl⟩
  ·have he:er=0:=by simpa using h2
   rw[if_neg (λh=>h he)]at hgo;refine J.qn 5 λb9=>?_;refine J.ap 7 9 0 (a4B acc dd) λa3 c3=>?_;refine J.q λ_=>?_;rw[show acc.length+1=(acc++[dd]).length from by simp];refine J.q λ_=>?_;refine J.n ((j+1,Y2,acc++[dd],a3,c3)) (⟨by dsimp only;omega,hk.1,by dsimp only;rw[List.length_append];exact congrArg (· +1) hacc,by dsimp only;rw[hgo,List.append_assoc];rfl⟩) (by dsimp only;omega) [0,1,2,3,4,5,6,7]
 simp only[decide_eq_false_iff_not,Int.ofNat_lt]at h1;obtain rfl:j=N:=by omega
 rw[Nat.sub_self,show Fv.allG 0 (j:Int) Y=(Y,[],0)from rfl,List.append_nil]at hgo;rw[hgo,if_neg (by simp)]at hall;refine J.qr [1,2,3,4,5,6,7] λ_=>?_;rw[hall];exact⟨ga,ca,rfl,rfl⟩
def UN:Nat:=Fv.cW+1
theorem b1E:UN=Dv.costM+8*Dv.fuel+1:=rfl
theorem b1B:96<=UN:=by
 have:96<=8*Dv.fuel:=by decide
 rw[b1E];omega
theorem b1D:Fv.cW*200<=UN*200:=Nat.mul_le_mul_right _ (Nat.le_succ _)
theorem b1C:Dv.costK<=UN*402:=by
 have h:Dv.costT*200<=UN*200:=Nat.mul_le_mul_right _ (Nat.le_succ _);have:=b1B;have h2:Dv.costM<=UN:=by rw[b1E];omega
 unfold Dv.costK;omega
namespace Dev
variable {D B P n : Nat} {F : Fv} {c : Nat → List UInt8}
end Dev
namespace FC
variable {W : List (Int × En)} {lg k m : Nat} {F : Fv}
end FC
namespace Dev
variable {D B P n : Nat} {F : Fv} {c : Nat → List UInt8}
end Dev
namespace FdCh
variable {fd : Nat} {N N' : Nand}
end FdCh
namespace DevF
variable {fd : Int} {D B P n m : Nat} {F : Fv} {c : Nat → List UInt8}
end DevF
namespace Mono
end Mono
def Fv.ticksG:Nat->Int->Fv->Fv×Int
 | 0,i,Z=>(Z.whole.1,if Z.whole.2 then i else-1)
 | f+1,i,Z=>if Z.whole.2 then(Z.whole.1,i)else if Z.whole.1.tick.2≠0 then(Z.whole.1.tick.1,-1)else Fv.ticksG f (i+1) Z.whole.1.tick.1
theorem Fv.ticksG_succ (f:Nat) (i:Int) (Z:Fv):Fv.ticksG (f+1) i Z=if Z.whole.2 then(Z.whole.1,i)else if Z.whole.1.tick.2≠0 then(Z.whole.1.tick.1,-1)else Fv.ticksG f (i+1) Z.whole.1.tick.1:=rfl
def a3k (most:Int):Nat:=(min (max most 0) 10000).toNat
def Fv.ticks (Z:Fv) (most:Int):Fv×Int:=Fv.ticksG (a3k most) 0 Z
theorem b1r (f p n t l d:Nat) (Z:Fv) (k m:Nat) (most:Int) (hO:Z.Ok (Dv.costS*a3k most+k) m) (hm:m<=1000):FP 99 [pp f,iI most] (FvP f p n t l d Z)
  (Ps (iI (Z.ticks most).2) (FvP f p n t l d (Z.ticks most).1)):=by
 obtain⟨M,hM⟩:∃M,a3k most=M:=⟨_,rfl⟩;have hMM:min (max most 0) 10000=(M:Int):=by rw[<- hM];unfold a3k;omega
 have hM1:M<=10000:=by omega
 rw[show Z.ticks most=Fv.ticksG M 0 Z from by unfold Fv.ticks;rw[hM]];rw[hM]at hO;refine FE [2,0] Tryz.func99 λX F hX=>?_;refine J.qn 9 λ_=>?_;have e:(if(10000:Int)<if(0:Int)>most then 0 else most then 10000 else if(0:Int)>most then 0 else most)=(M:Int):=by
  rw[<- hMM];split<;>split<;>omega
 rw[e];refine J.q λ_=>?_;refine J.l (α:=(Nat×Fv)) (λz=>(z.1<=M/\z.2.Ok (Dv.costS*(M-z.1)+k) m/\Fv.ticksG M 0 Z=Fv.ticksG (M-z.1) z.1 z.2)\/(z.1=M+1/\Fv.ticksG M 0 Z=(z.2,-1))) (λz=>[si 11 z.1,⟨10,iI ((M:Int)+1),0, .tt⟩,⟨0,pp f,2, .tt⟩,si 1 M]) [1,2,3,4,5,6] (λz=>FvP f p n t l d z.2) (λz=>M+1-z.1) ((0,Z)) (.inl ⟨Nat.zero_le _,hO,rfl⟩) λz hI=>?_;obtain⟨j,Y⟩:=z;dsimp only at hI ⊢;refine J.qd (λ_ h1=>?_) λ_ h1=>?_
 ·simp only[decide_eq_true_eq]at h1;obtain⟨hj,hY,hgo⟩:j<=M/\Y.Ok (Dv.costS*(M-j)+k) m/\Fv.ticksG M 0 Z=Fv.ticksG (M-j) j Y:=by
   rcases hI with h | h
   ·exact h
   ·omega
  have hw:=Fv.whole_keep hY;refine J.qp (b1b f p n t l d Y _ m hY) [1,2,3,4,5,6] λ_=>?_;obtain⟨W,hW⟩:∃W,Y.whole=W:=⟨_,rfl⟩;rw[hW]at hw ⊢;obtain⟨Y1,wb⟩:=W;dsimp only at hw ⊢;refine J.qd (λ_ h2=>?_) λ_ h2=>?_
  ·have hr:Fv.ticksG (M-j) j Y=(Y1,(j:Int)):=by
    cases hc:M-j with
    | zero=>show(Y.whole.1,if Y.whole.2 then(j:Int)else-1)=_;rw[hW,if_pos h2]
    | succ c=>rw[Fv.ticksG_succ,hW,if_pos h2]
   refine J.qr [1,2,3,4,5,6] λ_=>?_;rw[hgo,hr];exact⟨rfl,rfl⟩
  refine J.qn 6 λ_=>?_;rcases Nat.lt_or_ge j M with hjM | hjM
  ·rw[show decide ((j:Int)<(M:Int))=true from decide_eq_true (by omega)];obtain⟨c,hc⟩:∃c,M-j=c+1:=⟨M-j-1,by omega⟩;have hO1:Y1.Ok (Dv.costS+(Dv.costS*c+k)) m:=hw.1.less (by rw[hc,Nat.mul_succ];omega);have htk:=Fv.tick_keep hO1;refine J.qp (a7s f p n t l d Y1 _ m hO1 hm) [1,2,3,4,5,6] λ_=>?_;have hr:Fv.ticksG (M-j) j Y=if Y1.tick.2≠0 then(Y1.tick.1,-1)else Fv.ticksG c (j+1) Y1.tick.1:=by
    rw[hc,Fv.ticksG_succ,hW,if_neg (by rw[h2];exact Bool.false_ne_true)]
   obtain⟨W,hW2⟩:∃W,Y1.tick=W:=⟨_,rfl⟩;rw[hW2]at htk hr ⊢;obtain⟨Y2,er⟩:=W;dsimp only at htk hr ⊢;refine J.qd (λ_ h3=>?_) λ_ h3=>?_
   ·have he:er≠0:=by simpa using h3
    rw[if_pos he]at hr;refine J.qr [1,2,3,4,5,6] λ_=>?_;rw[hgo,hr];exact⟨rfl,rfl⟩
   ·have he:er=0:=by simpa using h3
    rw[if_neg (λh=>h he)]at hr;refine J.q λ_=>?_;refine J.n ((j+1,Y2)) (.inl ⟨by dsimp only;omega,by dsimp only;rw[show M-(j+1)=c from by omega];exact htk.1,by dsimp only;rw[show M-(j+1)=c from by omega,hgo,hr];rfl⟩) (by dsimp only;omega) [0,1,2,3,4,5,6]
  ·obtain rfl:j=M:=by omega
   rw[show decide ((j:Int)<(j:Int))=false from decide_eq_false (by omega)];refine J.q λ_=>?_;refine J.v (iI 0) rfl rfl (λhg a w he hw=>by simp[G.on]at hg) ?_;refine J.qF λ_=>?_;refine J.q λ_=>?_;refine J.n ((j+1,Y1)) (.inr ⟨rfl,by rw[hgo,Nat.sub_self];show(Y.whole.1,if Y.whole.2 then(j:Int)else-1)=_;rw[hW,if_neg (by rw[h2];exact Bool.false_ne_true)]⟩) (by dsimp only;omega) [0,1,2,3,4,5,6]
 simp only[decide_eq_false_iff_not]at h1;obtain⟨rfl,hgo⟩:j=M+1/\Fv.ticksG M 0 Z=(Y,-1):=by
  rcases hI with h | h
  ·omega
  ·exact h
 refine J.qr [1,2,3,4,5,6] λ_=>?_;rw[hgo];exact⟨rfl,rfl⟩
def flS:Stp:=⟨4,0,zd,0,0,dF⟩
theorem Pv.step_flush (P:Pv) (Z:Fv) (hZ:P.Z=some Z) (s:Stp) (hs:s.fn=4):P.step s=(⟨K8 Z.S.N.ops P.L,P.log++[⟨(Z.setN (D5 Z.S.N (q9 Z.S.N.ops P.L))).flush.2,zd⟩],some (Z.setN (D5 Z.S.N (q9 Z.S.N.ops P.L))).flush.1,P.M⟩,⟨(Z.setN (D5 Z.S.N (q9 Z.S.N.ops P.L))).flush.2,zd⟩):=by
 have hnd:P.nd=Z.S.N:=by unfold Pv.nd;rw[hZ]
 have hrun:P.run=⟨K8 Z.S.N.ops P.L,P.log,some (Z.setN (D5 Z.S.N (q9 Z.S.N.ops P.L))),P.M⟩:=by unfold Pv.run;rw[hnd];unfold Pv.setN;rw[hZ]
 have hd:P.run.does s=({P.run with Z:=some (Z.setN (D5 Z.S.N (q9 Z.S.N.ops P.L))).flush.1},⟨(Z.setN (D5 Z.S.N (q9 Z.S.N.ops P.L))).flush.2,zd⟩):=by
  rw[hrun];unfold Pv.does;rw[if_neg (by rw[hs];decide),if_neg (by rw[hs];decide),if_neg (by rw[hs];decide),if_pos hs]
 unfold Pv.step;rw[hd,hrun]
theorem b3h (q n:Nat) (A:Pad) (P:Pv) (hA:A.Ok P) (Z:Fv) (hZ:P.Z=some Z) (most:Int) (k m:Nat) (hO:Z.Ok (Fv.cW*200+(Dv.costS+(Dv.costK+(1+(Dv.costS*a3k most+k))))) m) (hoff:Z.S.N.off=false) (hm:m+(q9 Z.S.N.ops P.L).length<=1000) (hL:P.L.length<=1000) (hlg:P.log.length<=1000) (Z1:Fv) (hZ1:(P.step flS).1.Z=some Z1):FP 54 [pp q,iI most] (D0 q n A P)
  (λv As=>∃A':Pad,v= .bool (decide ((Z1.ticks most).2>=0))/\A'.Ok {(P.step flS).1 with Z:=some (Z1.ticks most).1}/\As=D0 q n A' {(P.step flS).1 with Z:=some (Z1.ticks most).1}):=by
 have hsf:=Pv.step_flush P Z hZ flS rfl;obtain⟨D,hD⟩:∃D,q9 Z.S.N.ops P.L=D:=⟨_,rfl⟩;rw[hD]at hm hsf;have hO2:(Z.setN (D5 Z.S.N D)).Ok (Fv.cW*200+(Dv.costS+(Dv.costK+(1+(Dv.costS*a3k most+k))))) (m+D.length):=hO.setN (X9 _ _) (V3 hO.dv.gd D);have hkp:=Fv.flush_keep hO2;have hz1:Z1=(Z.setN (D5 Z.S.N D)).flush.1:=by rw[hsf]at hZ1;injection hZ1 with e;exact e.symm
 rw[<- hz1]at hkp;have hst:=a1c q n A P hA Z hZ _ m hO (by rw[hD];exact hm) hL hlg flS rfl;have hone:(P.step flS).1=⟨K8 Z.S.N.ops P.L,(P.step flS).1.log,some Z1,P.M⟩:=by rw[hsf,hz1]
 have hpl:D0 q n A P=[PlQ q n (some Z) A.f (pp A.fp) (slv A.a2 P.log.length A.c2), .pt A.fp 176 [.slice (n7 A.a) P.L.length A.c],rdA (n7 A.a) 7 P.L.length (d5 P.L),c8 50 17 A.a2 P.log.length A.c2 (p6 P.log)]++FvP A.f A.p n A.t A.l A.d Z:=by unfold D0 w7;rw[hZ];rfl
 rw[hpl]at hst ⊢;refine FE [2,0] Tryz.func54 λX F hX=>?_;refine J.qp (a4e q n (flP (some Z) A.f) (pp A.fp) (slv A.a2 P.log.length A.c2)) [1] λ_=>?_;refine J.qp (U9 n Z.S.N) [7] λ_=>?_;rw[hoff];refine J.qp (a9O q n (some Z) A.f (pp A.fp) (slv A.a2 P.log.length A.c2)) [1] λ_=>?_;refine J.qF λ_=>?_;refine J.qc (hst) [1,2,3,4,5,6,7,8,9,10] λ_=>?_;rintro v As ⟨A',rfl,hA',rfl⟩;rw[hone]at hA' ⊢;refine⟨_,rfl,trivial,?_⟩;refine J.qp (a9O q n (some Z1) A'.f (pp A'.fp) (slv A'.a2 (P.step flS).1.log.length A'.c2)) [1] λ_=>?_;refine J.qp (b1r A'.f A'.p n A'.t A'.l A'.d Z1 k (m+D.length) most (hkp.1.less (by omega)) hm) [5,6,7,8,9,10] λ_=>?_;refine J.qr [1,2,3,4,5,6,7,8,9,10] λ_=>?_;refine⟨A',rfl,?_,?_⟩
 ·rw[hone];exact⟨hA'.z,hA'.c⟩
 ·rw[hone];rfl
theorem a7E:Fv.cW*200+(Dv.costS+(Dv.costK+(1+0)))<=UN*605:=by
 have h1:=b1D;have h2:=b1C;have h3:Dv.costS<=UN*2:=by
  have:Dv.costC<=Dv.costM:=by unfold Dv.costM Dv.costR;omega
  have:=b1E;unfold Dv.costS;omega
 have h4:=b1B;omega
namespace Pq
variable {D B Pg u i : Nat} {v : Int} {P : Pv} {Z : Fv}
end Pq
def KS:Nat:=Fv.cW*200+(Dv.costS+(Dv.costK+1))
structure PvOk (P:Pv) (k m:Nat):Prop where
 z:∀Z,P.Z=some Z->Z.Ok k m
 g:P.Z=none->P.M.Gd k m
namespace PvOk
variable {P : Pv} {k m : Nat}
theorem nd (h:PvOk P k m):P.nd.Gd k m:=by
 unfold Pv.nd;cases hZ:P.Z with
 | some Z=>exact(h.z Z hZ).dv.gd
 | none=>exact h.g hZ
theorem setN (h:PvOk P k m) {N:Nand} {k' m':Nat} (hk:k'<=k) (hl:P.nd.Like N) (hG:N.Gd k' m') (hm:m<=m'):PvOk (P.setN N) k' m':=by
 unfold Pv.setN;unfold Pv.nd at hl;cases hZ:P.Z with
 | some Z=>
  rw[hZ]at hl;exact⟨λY hY=>by injection hY with hY;subst hY;exact((h.z Z hZ).less hk).setN hl hG,λh=>by cases h⟩
 | none=>exact⟨λY hY=>(by have hY:(none:Option Fv)=some Y:=hY;cases hY),λ_=>hG⟩
theorem less (h:PvOk P k m) {k' m':Nat} (hk:k'<=k) (hm:m<=m'):PvOk P k' m':=by
 have:=h.setN (N:=P.nd) hk ⟨rfl,rfl,rfl⟩ (h.nd.less hk hm) hm;unfold Pv.setN Pv.nd at this;cases hZ:P.Z with
 | some Z=>rw[hZ]at this;exact⟨λY hY=>by rw[hZ]at hY;injection hY with hY;subst hY;exact this.z _ rfl,λh=>by rw[hZ]at h;cases h⟩
 | none=>exact⟨λY hY=>(by rw[hZ]at hY;cases hY),λ_=>(h.g hZ).less hk hm⟩
theorem run (h:PvOk P k m):PvOk P.run k (m+(q9 P.nd.ops P.L).length):=by
 have:=h.setN (Nat.le_refl k) (X9 P.nd (q9 P.nd.ops P.L)) (V3 h.nd _) (Nat.le_add_right _ _);exact⟨this.z,this.g⟩
theorem does (h:PvOk P (KS+k) m) (s:Stp) (hs:s.data.length=16) (hn: -9223372036854775808<=s.n/\s.n<=9223372036854775807) (hk:k<=1000000000000000):PvOk (P.does s).1 k (m+1):=by
 have hK:KS=Fv.cW*200+(Dv.costS+(Dv.costK+1)):=rfl;have h1:PvOk P (KS+k) (m+1):=h.less (Nat.le_refl _) (Nat.le_succ m);have h0:PvOk P k (m+1):=h.less (by omega) (by omega);have hz:∀Y:Fv,Y.Ok k (m+1)->PvOk {P with Z:=some Y} k (m+1):=λY hY=>⟨λU hU=>by injection hU with hU;subst hU;exact hY,λh=>by cases h⟩;unfold Pv.does;split
 ·cases hZ:P.Z with
  | some Z=>exact hz _ (Fv.read_keep ((h0.z Z hZ)) _).1
  | none=>exact h0
 split
 ·cases hZ:P.Z with
  | some Z=>exact hz _ ((Fv.write_keep (k:=k) (m:=m+1) ((h1.z Z hZ).less (by omega)) _ hs).1)
  | none=>exact h0
 split
 ·cases hZ:P.Z with
  | some Z=>exact hz _ ((Fv.trim_keep (k:=k) (m:=m+1) ((h1.z Z hZ).less (by omega)) _).1)
  | none=>exact h0
 split
 ·cases hZ:P.Z with
  | some Z=>exact hz _ ((Fv.flush_keep (k:=k) (m:=m+1) ((h1.z Z hZ).less (by omega))).1)
  | none=>exact h0
 split
 ·cases hZ:P.Z with
  | some Z=>exact hz _ ((Fv.tick_keep (k:=k) (m:=m+1) ((h1.z Z hZ).less (by omega))).1)
  | none=>exact h0
 split
 ·exact h0.setN (Nat.le_refl _) (by unfold Nand.setCut;split<;>exact⟨rfl,rfl,rfl⟩) (h0.nd.cut _ _ hn.1 hn.2) (Nat.le_refl _)
 split
 ·have hG:(if P.nd.off=true then P.nd else P.nd.setCut (-1) 0).onN.Gd (Dv.costK+k) (m+1):=by
   have:=h.nd.less (k':=Dv.costK+k) (m':=m+1) (by omega) (by omega);split
   ·exact this.on
   ·exact(this.cut (-1) 0 (by decide) (by decide)).on
  have hm:=O9 hG;unfold Pv.mounts;dsimp only;generalize(if P.nd.off=true then P.nd else P.nd.setCut (-1) 0).onN=N1 at hm ⊢;split
  ·exact hz _ (Fv.of_ok hm.1 hk)
  ·exact⟨λY hY=>(by cases hY),λ_=>hm.1.gd⟩
 split
 ·exact(h.less (k':=k) (by omega) (Nat.le_refl m)).setN (Nat.le_refl _) (Nand.like_fault _ _ _ _ _ _ _) (Nand.Gd.fault (h.nd.less (by omega) (Nat.le_refl m)) _ _ _ _ _ _) (by omega)
 ·exact h0
theorem step (h:PvOk P (KS+k) m) (s:Stp) (hs:s.data.length=16) (hn: -9223372036854775808<=s.n/\s.n<=9223372036854775807) (hk:k<=1000000000000000):PvOk (P.step s).1 k (m+(q9 P.nd.ops P.L).length+1):=by
 have h2:=h.run.does s hs hn hk;exact⟨h2.z,h2.g⟩
theorem new {D B Pg:Nat} (hg:m6 D B Pg=true) (l:List Fl) {k:Nat} (hk:k<=1000000000000000):PvOk (Pv.new D B Pg l) k 0:=by
 have hG:(Nand.new D B Pg).Gd (Dv.costK+k) 0:=a1k D B Pg hg _ (by
  have h1:Dv.costK<=UN*605:=Nat.le_trans (by omega) a7E;have h2:UN*605<=100000000000000:=by decide
  omega)
 have hm:=O9 hG;refine⟨λZ hZ=>?_,λ_=>hm.1.gd⟩;have hZ:(if(m9 (Nand.new D B Pg)).2=0 then some (Fv.of (m9 (Nand.new D B Pg)).1)else none)=some Z:=hZ;split at hZ
 ·injection hZ with hZ;subst hZ;exact Fv.of_ok hm.1 hk
 ·cases hZ
end PvOk
theorem a5O (ops:Int) (L:List Fl):(q9 ops L).length+(K8 ops L).length=L.length:=by
 have:=congrArg List.length (List.takeWhile_append_dropWhile (p:=b1m ops) (l:=L));rw[List.length_append]at this;exact this
theorem Pv.does_L (P:Pv) (s:Stp):(P.does s).1.L=P.L/\(P.does s).1.log=P.log:=by
 have hs:∀N,(P.setN N).L=P.L/\(P.setN N).log=P.log:=λN=>by unfold Pv.setN;split<;>exact⟨rfl,rfl⟩
 unfold Pv.does Pv.mounts;dsimp only
 repeat' split
 all_goals first | exact⟨rfl,rfl⟩ | exact hs _
theorem Pv.step_L (P:Pv) (s:Stp):(P.step s).1.L=K8 P.nd.ops P.L/\(P.step s).1.log=P.log++[(P.step s).2]:=by
 have h:=P.run.does_L s;have h2:P.run.log=P.log:=by unfold Pv.run Pv.setN;split<;>rfl
 exact⟨h.1,congrArg (· ++[(P.step s).2]) (h.2.trans h2)⟩
structure Pk (P:Pv) (k m:Nat):Prop where
 ok:∃j,PvOk P (KS*k) j/\j+P.L.length<=m
theorem b3B:KS<=2000000000000:=Nat.le_trans a7E (by decide)
theorem Pk.new {D B Pg:Nat} (hg:m6 D B Pg=true) (l:List Fl) {k:Nat} (hk:k<=100):Pk (Pv.new D B Pg l) k l.length:=by
 have h1:=b3B;have h2:KS*k<=2000000000000*100:=Nat.mul_le_mul h1 hk;refine⟨0,PvOk.new hg l (by omega),?_⟩;rw[Nat.zero_add];show(s6 O4 (plF D B Pg l)).length<=_;rw[(T3 _ _).length_eq];exact List.length_filter_le _ _
theorem Pk.less {P:Pv} {k m m':Nat} (h:Pk P k m) (hm:m<=m'):Pk P k m':=let⟨j,h1,h2⟩:=h;⟨j,h1,Nat.le_trans h2 hm⟩
theorem Pk.step {P:Pv} {k m:Nat} (h:Pk P (k+1) m) (hk:k<=100) (s:Stp) (hs:s.data.length=16) (hn: -9223372036854775808<=s.n/\s.n<=9223372036854775807):Pk (P.step s).1 k (m+1):=by
 obtain⟨j,h1,h2⟩:=h;have h3:KS*k<=2000000000000*100:=Nat.mul_le_mul b3B hk;have h4:=a5O P.nd.ops P.L;rw[show KS*(k+1)=KS+KS*k from by rw[Nat.mul_succ,Nat.add_comm]]at h1;refine⟨_,h1.step s hs hn (by omega),?_⟩;rw[(P.step_L s).1];omega
theorem Fn.hp {P:Program} {f:FuncId} {args:List Value} {Pre:List Atom} {Q:Value->List Atom->Prop} (c:Fn P f args Pre Q):Fn P f args [.hp (HP.of Pre)] (λv As=>∃Bs,Q v Bs/\As=[.hp (HP.of Bs)]):=
 λF w s=>(c F w (Sep.unpack s)).mono λ_ _ ⟨v,As,h1,h2,h3,h4⟩=>⟨v,_,h1,⟨As,h2,rfl⟩,Sep.pack h3,h4⟩
theorem Sep.packTail {h:Hl} (L M:List Atom) (s:Sep (L++M) h):Sep (L++[.hp (HP.of M)]) h:=by
 obtain⟨own,hw⟩:=s;refine⟨λb=>min (own b) L.length,λi B hB=>?_⟩;rcases Nat.lt_or_ge i L.length with hi | hi
 ·rw[List.getElem?_append_left hi]at hB;refine Atom.up (λb o hb=>?_) (hw i B (by rw[List.getElem?_append_left hi];exact hB));rw[res_some]at hb ⊢;exact⟨by rw[hb.1];omega,hb.2⟩
 ·rw[List.getElem?_append_right hi]at hB;have he:i-L.length=0:=by
   rcases Nat.eq_zero_or_pos (i-L.length)with e | e
   ·exact e
   ·rw[List.getElem?_eq_none (by simp;omega)]at hB;cases hB
  rw[he]at hB;injection hB with hB;subst hB;refine⟨λb=>own b-L.length,λj B hB=>?_⟩;refine Atom.up (λb o hb=>?_) (hw (L.length+j) B (by rw[List.getElem?_append_right (by omega),Nat.add_sub_cancel_left];exact hB));rw[res_some]at hb ⊢;refine⟨by rw[hb.1];omega,?_⟩;rw[res_some];exact⟨by rw[hb.1];omega,hb.2⟩
def PlA (q n:Nat) (A:Pad) (P:Pv):Atom:= .hp (HP.of (D0 q n A P))
theorem a5Y {q n:Nat} {A:Pad} {P:Pv} {h:Hl} (s:Sep [PlA q n A P] h):Sep [PlQ q n P.Z A.f (.pointer (some ⟨A.fp,0,none⟩)) (slv A.a2 P.log.length A.c2), .pt A.fp 176 [.slice (n7 A.a) P.L.length A.c],rdA (n7 A.a) 7 P.L.length (d5 P.L),c8 50 17 A.a2 P.log.length A.c2 (p6 P.log), .hp (HP.of (w7 n A P))] h:=
 Sep.packTail [PlQ q n P.Z A.f (.pointer (some ⟨A.fp,0,none⟩)) (slv A.a2 P.log.length A.c2), .pt A.fp 176 [.slice (n7 A.a) P.L.length A.c],rdA (n7 A.a) 7 P.L.length (d5 P.L),c8 50 17 A.a2 P.log.length A.c2 (p6 P.log)] (w7 n A P) (Sep.hpOf.1 s)
theorem a5b (q n:Nat) (A:Pad) (P:Pv) (hA:A.Ok P) (k m:Nat) (hP:Pk P (k+1) m) (hm:m<=1000) (hlg:P.log.length<=1000) (s:Stp) (hs:s.data.length=16):Fn Tryz.prog 19 [.pointer (some ⟨q,0,none⟩),stV s] [PlA q n A P] (λv As=>∃A':Pad,v=tdV (P.step s).2/\A'.Ok (P.step s).1/\As=[PlA q n A' (P.step s).1]):=by
 obtain⟨j,h1,h2⟩:=hP.ok;have h4:=a5O P.nd.ops P.L;rw[show KS*(k+1)=KS+KS*k from by rw[Nat.mul_succ,Nat.add_comm]]at h1;have hgo:Fn Tryz.prog 19 [.pointer (some ⟨q,0,none⟩),stV s] (D0 q n A P) (λv As=>∃A':Pad,v=tdV (P.step s).2/\A'.Ok (P.step s).1/\As=D0 q n A' (P.step s).1):=by
  cases hZ:P.Z with
  | some Z=>
   have hnd:P.nd=Z.S.N:=by unfold Pv.nd;rw[hZ]
   rw[hnd]at h4;exact a1c q n A P hA Z hZ (KS*k) j ((h1.z Z hZ).less (by unfold KS;omega)) (by omega) (by omega) hlg s hs
  | none=>
   have hnd:P.nd=P.M:=by unfold Pv.nd;rw[hZ]
   rw[hnd]at h4;exact a9M q n A P hA hZ (KS*k) j ((h1.g hZ).less (by unfold KS;omega) (Nat.le_refl _)) (by omega) (by omega) hlg s hs
 exact(Fn.hp hgo).mono λv As ⟨Bs,⟨A',e1,e2,e3⟩,e4⟩=>⟨A',e1,e2,by rw[e4,e3];rfl⟩
def a6I (P:Pv):List Nat:=match P.Z with | some _=>[2] | none=>[0]
theorem a7v {n:Nat} {A:Pad} {P:Pv} {h:Hl} (s:Sep [.hp (HP.of (w7 n A P))] h):Sep [d8 n P.nd, .hp (HP.of (z6 (w7 n A P) (a6I P)))] h:=by
 have s:=Sep.hpOf.1 s;have hp:l5 (w7 n A P) (a6I P)=[d8 n P.nd]:=by
  unfold w7 a6I Pv.nd;cases P.Z<;>rfl
 have s2:=s.split (is:=a6I P) (by unfold a6I w7;cases P.Z<;>rfl);rw[hp]at s2;exact s2.place (λj=>1-j) (λj=>1-j) λj B hB=> .inr (by
  match j,hB with
  | 0,hB=>exact⟨hB,rfl⟩
  | 1,hB=>exact⟨hB,rfl⟩
  | k+2,hB=>simp at hB)
theorem a5x:s8 Tryz.prog 100 50=some (.int .i64::lvD):=by kernel_rfl
theorem a4t (t:Td):Fits (.int .i64::lvD) (tdC t):=⟨rfl,J4 t.data⟩
theorem b4Z (zs:List Value):mkV Tryz.prog 50 zs= .agg zs.toArray:=by simp[mkV,Tryz.underlying50]
theorem b5f:Tryz.prog.eqGuardType Tryz.prog.depth 50=false:=by kernel_rfl
theorem b5j (t:Td):g7 (tdC t) (tdC t)=true:=by simp[g7,U3,tdC,byC,bv]
end Go.Proofs.YtnffkcabeecopaaGreat
