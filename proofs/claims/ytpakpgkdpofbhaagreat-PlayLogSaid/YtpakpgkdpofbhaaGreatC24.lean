/- Helpers. No condition. -/
import Derived.Test.YtpakpgkdpofbhaaGreatC00
import Derived.Test.YtpakpgkdpofbhaaGreatC04
import Derived.Test.YtpakpgkdpofbhaaGreatC06
import Derived.Test.YtpakpgkdpofbhaaGreatC07
import Derived.Test.YtpakpgkdpofbhaaGreatC10
import Derived.Test.YtpakpgkdpofbhaaGreatC12
import Derived.Test.YtpakpgkdpofbhaaGreatC13
import Derived.Test.YtpakpgkdpofbhaaGreatC14
import Derived.Test.YtpakpgkdpofbhaaGreatC15
import Derived.Test.YtpakpgkdpofbhaaGreatC16
import Derived.Test.YtpakpgkdpofbhaaGreatC17
import Derived.Test.YtpakpgkdpofbhaaGreatC20
set_option maxRecDepth 20000
set_option linter.all false
namespace Go.Proofs.YtpakpgkdpofbhaaGreat
open Go Go.RowKit
theorem a6X:FP 95 [.pointer none] [] (Ps (iI 12) []):=by
 refine FE [0] Tryz.func95 λX F hX=>?_;refine J.qT λ_=>?_;exact J.qx []
theorem b2d (i:Int):FP 41 [.pointer none,iI i] [] (Ps (.tuple #[a1m zd,iI 12]) []):=by
 refine FE [0,0] Tryz.func41 λX F hX=>?_;refine J.qp (a6X) [] λ_=>?_;refine J.qT λ_=>?_;exact J.qx []
theorem a9E (e:En):FP 99 [.pointer none,enV e] [] (Ps (iI 12) []):=by
 refine FE [0,0] Tryz.func99 λX F hX=>?_;refine J.qp (a6X) [] λ_=>?_;refine J.qT λ_=>?_;exact J.qx []
theorem b5W (i:Int) (x:List UInt8):FP 42 [.pointer none,iI i,a1m x] [] (Ps (iI 12) []):=by
 refine FE [0,0,0] Tryz.func42 λX F hX=>?_;refine J.qp (a9E ⟨i,0,1,x⟩) [] λ_=>?_;exact J.qx []
theorem b8M (i:Int):FP 43 [.pointer none,iI i] [] (Ps (iI 12) []):=by
 refine FE [0,0] Tryz.func43 λX F hX=>?_;refine J.qp (a9E ⟨i,0,2,zeros16⟩) [] λ_=>?_;exact J.qx []
theorem b5X:FP 45 [.pointer none] [] (Ps (iI 12) []):=by
 refine FE [0] Tryz.func45 λX F hX=>?_;refine J.qp (a6X) [] λ_=>?_;refine J.qT λ_=>?_;exact J.qx []
theorem b8N:FP 46 [.pointer none] [] (Ps (iI 12) []):=by
 refine FE [0] Tryz.func46 λX F hX=>?_;refine J.qp (a6X) [] λ_=>?_;refine J.qT λ_=>?_;exact J.qx []
theorem b2S (q n:Nat) (A:Pad) (P:Pv) (hZ:P.Z=none) (r2 r3:Value) (k m:Nat) (hG:P.M.Gd (Dv.costK+k) m) (hm:m<=1000):FP 178 [pp q] (PlQ q n P.Z A.f r2 r3::a0z n A P) (λv As=>∃A':Pad,v=iI P.mounts.2/\(A'.fp=A.fp/\A'.a=A.a/\A'.c=A.c/\A'.a2=A.a2/\A'.c2=A.c2)/\((∃Y,P.mounts.1={P with Z:=some Y}/\As=PlQ q n (some Y) A'.f r2 r3::FvP A'.f A'.p n A'.t A'.l A'.d Y)\/∃M,P.mounts.1={P with Z:=none,M:=M}/\As=[PlQ q n none A'.f r2 r3,x6 n M])):=by
 have hnd:P.nd=P.M:=by unfold Pv.nd;rw[hZ]
 have hms:P.mounts=if(M4 ((if P.M.off then P.M else P.M.setCut (-1) 0).onN)).2=0 then({P with Z:=some (Fv.of (M4 ((if P.M.off then P.M else P.M.setCut (-1) 0).onN)).1)},0)else({P with Z:=none,M:=(M4 ((if P.M.off then P.M else P.M.setCut (-1) 0).onN)).1.N},(M4 ((if P.M.off then P.M else P.M.setCut (-1) 0).onN)).2):=by unfold Pv.mounts;rw[hnd]
 rw[show a0z n A P=[x6 n P.M]from by unfold a0z;rw[hZ],hZ];refine FE [2] Tryz.func178 λX F hX=>?_;refine J.qp (a4e n P.M) [2] λ_=>?_;refine J.qd (λ_ h1=>?_) λ_ h1=>?_
 ·have hoff:P.M.off=false:=by simpa using h1
  have e:(if P.M.off=true then P.M else P.M.setCut (-1) 0)=P.M.setCut (-1) 0:=d7 (by rw[hoff];decide);rw[e]at hms;have hG2:(P.M.setCut (-1) 0).onN.Gd (Dv.costK+k) m:=(hG.cut (-1) 0 (by decide) (by decide)).on;refine J.qp (a9o n P.M (-1) 0) [2] λ_=>?_;refine J.qp (b5w n (P.M.setCut (-1) 0)) [2] λ_=>?_;refine J.qc (a1R n ((P.M.setCut (-1) 0)).onN k m hG2 hm rfl) [2] λ_=>?_;rintro v As (⟨he,f,p,t,ll,d,rfl,rfl⟩ | ⟨he,rfl,rfl⟩)
  ·refine⟨_,rfl,trivial,?_⟩;rw[d8 he]at hms;refine J.qr [1,2,3,4,5,6,7] λ_=>?_;exact⟨⟨f,p,t,ll,d,A.fp,A.a,A.c,A.a2,A.c2⟩,by rw[hms],⟨rfl,rfl,rfl,rfl,rfl⟩, .inl ⟨_,by rw[hms],rfl⟩⟩
  ·refine⟨_,rfl,trivial,?_⟩;rw[d7 he]at hms;refine J.qr [1,2] λ_=>?_;exact⟨A,by rw[hms],⟨rfl,rfl,rfl,rfl,rfl⟩, .inr ⟨_,by rw[hms],rfl⟩⟩
 ·have hoff:P.M.off=true:=by simpa using h1
  have e:(if P.M.off=true then P.M else P.M.setCut (-1) 0)=P.M:=d8 hoff;rw[e]at hms;have hG2:P.M.onN.Gd (Dv.costK+k) m:=hG.on;refine J.qp (b5w n P.M) [2] λ_=>?_;refine J.qc (a1R n (P.M).onN k m hG2 hm rfl) [2] λ_=>?_;rintro v As (⟨he,f,p,t,ll,d,rfl,rfl⟩ | ⟨he,rfl,rfl⟩)
  ·refine⟨_,rfl,trivial,?_⟩;rw[d8 he]at hms;refine J.qr [1,2,3,4,5,6,7] λ_=>?_;exact⟨⟨f,p,t,ll,d,A.fp,A.a,A.c,A.a2,A.c2⟩,by rw[hms],⟨rfl,rfl,rfl,rfl,rfl⟩, .inl ⟨_,by rw[hms],rfl⟩⟩
  ·refine⟨_,rfl,trivial,?_⟩;rw[d7 he]at hms;refine J.qr [1,2] λ_=>?_;exact⟨A,by rw[hms],⟨rfl,rfl,rfl,rfl,rfl⟩, .inr ⟨_,by rw[hms],rfl⟩⟩
theorem b7n (q n:Nat) (A:Pad) (P:Pv) (hZ:P.Z=none) (r2 r3:Value) (k m:Nat) (hG:P.M.Gd (Dv.costK+k) m) (hm:m<=1000) (s:Stp) (hs:s.data.length=16):FP 108 [pp q,stV s] (PlQ q n P.Z A.f r2 r3::a0z n A P) (λv As=>∃A':Pad,v=tdV (P.does s).2/\(A'.fp=A.fp/\A'.a=A.a/\A'.c=A.c/\A'.a2=A.a2/\A'.c2=A.c2)/\((∃Y,(P.does s).1={P with Z:=some Y}/\As=PlQ q n (some Y) A'.f r2 r3::FvP A'.f A'.p n A'.t A'.l A'.d Y)\/∃M,(P.does s).1={P with Z:=none,M:=M}/\As=[PlQ q n none A'.f r2 r3,x6 n M])):=by
 have hnd:P.nd=P.M:=by unfold Pv.nd;rw[hZ]
 have hP:{P with Z:=none,M:=P.M}=P:=by rw[<- hZ]
 have hsN:∀N,P.setN N={P with Z:=none,M:=N}:=λN=>by unfold Pv.setN;rw[hZ]
 rw[show a0z n A P=[x6 n P.M]from by unfold a0z;rw[hZ],hZ];refine FE [2,0] Tryz.func108 λX F hX=>?_;refine J.qd (λ_ h1=>?_) λ_ h1=>?_
 ·have e1:s.fn=1:=by simpa using h1
  have hd:P.does s=(P,⟨12,zd⟩):=by unfold Pv.does;rw[d8 e1,hZ]
  refine J.pn 7 (.take true 0 (.take true 1 (.take true 2 (.take false 3 (.take true 4 (.take false 5 (.alt false 6 ((.of [28,32,36,42,46,48])) (.alt false 10 ((.of [26,28,32,36,46,48])) .non)))))))) [12] [1,3] λ_ _=>?_;refine J.alts ?_ ?_
  ·skip
   refine J.qp (b2d s.lpn) [] λ_=>?_;refine J.qr [1,2] λ_=>?_;refine⟨A,?_,⟨rfl,rfl,rfl,rfl,rfl⟩, .inr ⟨P.M,by rw[hd,hP],rfl⟩⟩;rw[hd];rfl
  ·skip
   refine J.qn 1 λ_=>?_;refine J.qp (b2d s.lpn) [] λ_=>?_;refine J.qr [1,2] λ_=>?_;refine⟨A,?_,⟨rfl,rfl,rfl,rfl,rfl⟩, .inr ⟨P.M,by rw[hd,hP],rfl⟩⟩;rw[hd];rfl
 have e1:s.fn≠1:=by simpa using h1
 refine J.qd (λ_ h2=>?_) λ_ h2=>?_
 ·have e2:s.fn=2:=by simpa using h2
  have hd:P.does s=(P,⟨12,zd⟩):=by unfold Pv.does;rw[d7 e1,d8 e2,hZ]
  refine J.p (.of [0,4,8,13,16,21,24,29,34,36,43]) [10] [1,3] λ_=>?_;refine J.qp (b5W s.lpn s.data) [] λ_=>?_;refine J.qr [1,2] λ_=>?_;refine⟨A,?_,⟨rfl,rfl,rfl,rfl,rfl⟩, .inr ⟨P.M,by rw[hd,hP],rfl⟩⟩;rw[hd];rfl
 have e2:s.fn≠2:=by simpa using h2
 refine J.qd (λ_ h3=>?_) λ_ h3=>?_
 ·have e3:s.fn=3:=by simpa using h3
  have hd:P.does s=(P,⟨12,zd⟩):=by unfold Pv.does;rw[d7 e1,d7 e2,d8 e3,hZ]
  refine J.p (.of [0,4,8,13,16,21,26,28,35]) [8] [1,3] λ_=>?_;refine J.qp (b8M s.lpn) [] λ_=>?_;refine J.qr [1,2] λ_=>?_;refine⟨A,?_,⟨rfl,rfl,rfl,rfl,rfl⟩, .inr ⟨P.M,by rw[hd,hP],rfl⟩⟩;rw[hd];rfl
 have e3:s.fn≠3:=by simpa using h3
 refine J.qd (λ_ h4=>?_) λ_ h4=>?_
 ·have e4:s.fn=4:=by simpa using h4
  have hd:P.does s=(P,⟨12,zd⟩):=by unfold Pv.does;rw[d7 e1,d7 e2,d7 e3,d8 e4,hZ]
  refine J.qp (b5X) [] λ_=>?_;refine J.qr [1,2] λ_=>?_;refine⟨A,?_,⟨rfl,rfl,rfl,rfl,rfl⟩, .inr ⟨P.M,by rw[hd,hP],rfl⟩⟩;rw[hd];rfl
 have e4:s.fn≠4:=by simpa using h4
 refine J.qd (λ_ h5=>?_) λ_ h5=>?_
 ·have e5:s.fn=5:=by simpa using h5
  have hd:P.does s=(P,⟨12,zd⟩):=by unfold Pv.does;rw[d7 e1,d7 e2,d7 e3,d7 e4,d8 e5,hZ]
  refine J.qp (b8N) [] λ_=>?_;refine J.qr [1,2] λ_=>?_;refine⟨A,?_,⟨rfl,rfl,rfl,rfl,rfl⟩, .inr ⟨P.M,by rw[hd,hP],rfl⟩⟩;rw[hd];rfl
 have e5:s.fn≠5:=by simpa using h5
 refine J.qd (λ_ h6=>?_) λ_ h6=>?_
 ·have e6:s.fn=6:=by simpa using h6
  have hd:P.does s=(P.setN (P.M.setCut s.n s.keep),⟨0,zd⟩):=by unfold Pv.does;rw[d7 e1,d7 e2,d7 e3,d7 e4,d7 e5,d8 e6,hnd]
  rw[hsN]at hd;refine J.p (.of [0,4,8,13,16,21,24,29,34]) [] [1,3] λ_=>?_;refine J.qp (a9o n P.M s.n s.keep) [2] λ_=>?_;refine J.qr [1,2] λ_=>?_;refine⟨A,?_,⟨rfl,rfl,rfl,rfl,rfl⟩, .inr ⟨_,by rw[hd],rfl⟩⟩;rw[hd];rfl
 have e6:s.fn≠6:=by simpa using h6
 refine J.qd (λ_ h7=>?_) λ_ h7=>?_
 ·have e7:s.fn=7:=by simpa using h7
  have hd:P.does s=(P.mounts.1,⟨P.mounts.2,zd⟩):=by unfold Pv.does;rw[d7 e1,d7 e2,d7 e3,d7 e4,d7 e5,d7 e6,d8 e7]
  have hmm:=b2S q n A P hZ r2 r3 k m hG hm;rw[show a0z n A P=[x6 n P.M]from by unfold a0z;rw[hZ],hZ]at hmm;refine J.qc (hmm) [1,2] λ_=>?_;rintro v As ⟨A',rfl,hA',(⟨Y,hY,rfl⟩ | ⟨M,hY,rfl⟩)⟩
  ·refine⟨_,rfl,trivial,?_⟩;refine J.qr [1,2,5,6,7,8,9] λ_=>?_;refine⟨A',?_,hA', .inl ⟨Y,by rw[hd,hY],rfl⟩⟩;rw[hd];rfl
  ·refine⟨_,rfl,trivial,?_⟩;refine J.qr [1,2] λ_=>?_;refine⟨A',?_,hA', .inr ⟨M,by rw[hd,hY],rfl⟩⟩;rw[hd];rfl
 have e7:s.fn≠7:=by simpa using h7
 refine J.qd (λ_ h8=>?_) λ_ h8=>?_
 ·have e8:s.fn=8:=by simpa using h8
  obtain⟨Q,hQ⟩:∃Q,Q=P.M.fault s.f.kind s.f.x s.f.y s.f.z s.f.n s.f.xx:=⟨_,rfl⟩;have hd:P.does s=(P.setN Q.2,if Q.1 then⟨0,zd⟩else⟨1,zd⟩):=by unfold Pv.does;rw[d7 e1,d7 e2,d7 e3,d7 e4,d7 e5,d7 e6,d7 e7,d8 e8,hnd,<- hQ]
  rw[hsN]at hd;refine J.p (.of [0,4,8,13,16,21,26]) [] [1,3] λ_=>?_;refine J.qp (a2i n P.M hG.ok s.f.at_ s.f.kind s.f.x s.f.y s.f.z s.f.n s.f.xx) [2] λ_=>?_;rw[<- hQ];refine J.qd (λ_ h9=>?_) λ_ h9=>?_
  ·rw[d8 h9]at hd;refine J.qr [1,2] λ_=>?_;refine⟨A,?_,⟨rfl,rfl,rfl,rfl,rfl⟩, .inr ⟨_,by rw[hd],rfl⟩⟩;rw[hd];rfl
  ·rw[d7 (by rw[h9];decide)]at hd;refine J.qr [1,2] λ_=>?_;refine⟨A,?_,⟨rfl,rfl,rfl,rfl,rfl⟩, .inr ⟨_,by rw[hd],rfl⟩⟩;rw[hd];rfl
 have e8:s.fn≠8:=by simpa using h8
 have hd:P.does s=(P,⟨1,zd⟩):=by unfold Pv.does;rw[d7 e1,d7 e2,d7 e3,d7 e4,d7 e5,d7 e6,d7 e7,d7 e8]
 refine J.qr [1,2] λ_=>?_;refine⟨A,?_,⟨rfl,rfl,rfl,rfl,rfl⟩, .inr ⟨P.M,by rw[hd,hP],rfl⟩⟩;rw[hd];rfl
theorem b7o (q n:Nat) (A:Pad) (P:Pv) (hA:A.Ok P) (hZ:P.Z=none) (k m:Nat) (hG:P.M.Gd (Dv.costK+k) m) (hm:m+(R3 P.M.ops P.L).length<=1000) (hL:P.L.length<=1000) (hlg:P.log.length<=1000) (s:Stp) (hs:s.data.length=16):FP 53 [pp q,stV s] (a0K q n A P) (λv As=>∃A':Pad,v=tdV (P.step s).2/\A'.Ok (P.step s).1/\As=a0K q n A' (P.step s).1):=by
 have hnd:P.nd=P.M:=by unfold Pv.nd;rw[hZ]
 obtain⟨D,hD⟩:∃D,R3 P.M.ops P.L=D:=⟨_,rfl⟩;obtain⟨R,hR⟩:∃R,a2m P.M.ops P.L=R:=⟨_,rfl⟩;rw[hD]at hm;have hrun:P.run=⟨R,P.log,none,a0Q P.M D⟩:=by unfold Pv.run;rw[hnd,hD,hR];unfold Pv.setN;rw[hZ]
 have hst:P.step s=({(P.run.does s).1 with log:=(P.run.does s).1.log++[(P.run.does s).2]},(P.run.does s).2):=rfl;unfold a0K;rw[show a0z n A P=[x6 n P.M]from by unfold a0z;rw[hZ],hZ];refine FE [2,0] Tryz.func53 λX F hX=>?_;refine J.qF λ_=>?_;refine J.p (.of [0,4,8,13,16,20,24,29,34]) [] [1] λ_=>?_;refine J.qc (c1q A.fp n A.a A.c P.L hA.z hA.c hL P.M _ m hG) [2,3,5] λ_=>?_;rintro v As ⟨a',c',hz',hc',rfl,rfl⟩;refine⟨_,rfl,stq,?_⟩;rw[hR]at hc' ⊢;rw[hD];have hdo:=b7n q n A ⟨R,P.log,none,a0Q P.M D⟩ rfl (pp A.fp) (slv A.a2 P.log.length A.c2) k (m+D.length) (a4n hG D) hm s hs;obtain⟨W,hW⟩:∃W,(⟨R,P.log,none,a0Q P.M D⟩:Pv).does s=W:=⟨_,rfl⟩;rw[hrun,hW]at hst;rw[hW]at hdo;obtain⟨Wp,wt⟩:=W;dsimp only at hdo hst;refine J.qc (hdo) [1,5] λ_=>?_;rintro v As ⟨A',rfl,⟨q1,q2,q3,q4,q5⟩,(⟨Y,hY,rfl⟩ | ⟨M,hY,rfl⟩)⟩
 ·refine⟨_,rfl,trivial,?_⟩;refine J.pq (.of [0,4,8,12,17,21,26,30,32,36,43]) [8,9,10] [1,13] λ_ _=>?_;refine J.ap 4 14 0 (a0B P.log wt) λa3 c3=>?_;refine J.qr [1,2,3,4,5,8,9,10,11,12] λ_=>?_;refine⟨⟨A'.f,A'.p,A'.t,A'.l,A'.d,A.fp,a',c',a3,c3⟩,?_,?_,?_⟩
  ·rw[hst];rfl
  ·rw[hst,hY];exact⟨hz',hc'⟩
  ·rw[hst,hY];dsimp only;rw[f9];rfl
 ·refine⟨_,rfl,trivial,?_⟩;refine J.pq (.of [0,4,8,12,17,21,26,30,32,36,43]) [8,9,10] [1,8] λ_ _=>?_;refine J.ap 4 9 0 (a0B P.log wt) λa3 c3=>?_;refine J.qr [1,2,3,4,5] λ_=>?_;refine⟨⟨A'.f,A'.p,A'.t,A'.l,A'.d,A.fp,a',c',a3,c3⟩,?_,?_,?_⟩
  ·rw[hst];rfl
  ·rw[hst,hY];exact⟨hz',hc'⟩
  ·rw[hst,hY];dsimp only;rw[f9];rfl
def c3a (s:Sh) (c:NCell):Prop:=c.lost=true\/c.p=a1v s\/c.turned=true/\((∃n y,n<32/\y≠0/\c.p=Nand.xorAt (a1v s) n y)\/∃K,K<=32/\c.p=Nand.fillP K (a1v s))
structure RowIs (N:Nand) (b r m:Int) (l:List En):Prop where
 six:N.dies<=6
 blk:0<=b/\b<N.blocks
 row:0<=r/\r<N.pages
 mask:0<=m/\m<2^N.dies
 data:∀s∈l,s.data.length=16
 par:W.parB b r m l=true
def c3S (N:Nand) (b r m:Int) (l:List En):Prop:=∀x∈R.job b r m l,∀c,N.pageAt x.1 b r=some c->c3a x.2 c
end Go.Proofs.YtpakpgkdpofbhaaGreat
namespace Go.Proofs.YtpakpgkdpofbhaaGreat
namespace L
theorem without_dec:∀f,f<256->∀d,d<8->set (without (f:Nat) (d:Nat))=true/\∀e,e<8->has (without (f:Nat) (d:Nat)) (e:Nat)=(has (f:Nat) (e:Nat)&& !decide (e=d)):=by decide+kernel
theorem all_dec:∀n,n<=8->set (all (n:Nat))=true/\∀e,e<8->has (all (n:Nat)) (e:Nat)=decide (e<n):=by decide+kernel
theorem set_has {m:Int} (h:set m=true):∃k:Nat,m=k/\k<256:=by
 rw[set_iff]at h;exact⟨m.toNat,by omega,by omega⟩
theorem has_out {m d:Int} (h:¬(0<=d/\d<8)):has m d=false:=by
 cases hh:has m d with
 | false=>rfl
 | true=>have:=has_lt m d hh;omega
theorem set_without {f d:Int} (hf:set f=true) (hd:0<=d/\d<8):set (without f d)=true:=by
 obtain⟨F,rfl,hF⟩:=set_has hf;obtain⟨D,rfl⟩:=g7 hd.1;exact(without_dec F hF D (by omega)).1
theorem without_has {f d:Int} (hf:set f=true) (hd:0<=d/\d<8) (e:Int):has (without f d) e=(has f e&& !decide (e=d)):=by
 obtain⟨F,rfl,hF⟩:=set_has hf;obtain⟨D,rfl⟩:=g7 hd.1
 by_cases he:0<=e/\e<8
 ·obtain⟨E,rfl⟩:=g7 he.1;rw[(without_dec F hF D (by omega)).2 E (by omega)];have e2:decide (E=D)=decide ((E:Int)=(D:Int)):=by rw[decide_eq_decide];omega
  rw[e2]
 ·rw[has_out he,has_out he];rfl
theorem set_all (n:Nat) (h:n<=8):set (all n)=true:=(all_dec n h).1
theorem all_has (n:Nat) (h:n<=8) (e:Int):has (all n) e=(decide (0<=e)&&decide (e<n)):=by
 by_cases he:0<=e/\e<8
 ·obtain⟨E,rfl⟩:=g7 he.1;rw[(all_dec n h).2 E (by omega),j3 he.1,o0,decide_eq_decide];omega
 ·rw[has_out he]
  by_cases h0:0<=e
  ·rw[u9 (p:=e<n) (by omega)];simp
  ·rw[u9 h0];rfl
theorem ext {m k:Int} (hm:set m=true) (hk:set k=true) (h:∀d:Nat,d<8->has m (d:Nat)=has k (d:Nat)):m=k:=by
 obtain⟨M,rfl,hM⟩:=set_has hm;obtain⟨K,rfl,hK⟩:=set_has hk;refine congrArg (Nat.cast:Nat->Int) (Nat.eq_of_testBit_eq λi=>?_)
 by_cases hi:i<8
 ·have:=h i hi;simp only[has,hm,hk,o0,l6]at this;have e1:decide ((0:Int)<=(i:Int))=true:=j3 (by omega);have e2:decide ((i:Int)<8)=true:=j3 (by omega)
  rwa [e1,e2,o0,o0,o0]at this
 ·have h8:∀M,M<256->M.testBit i=false:=λM hM=>Nat.testBit_lt_two_pow (a5D hM (by
   have:(2:Nat)^8<=2^i:=V0 (by omega) (by omega);omega))
  rw[h8 M hM,h8 K hK]
theorem has_zero (d:Int):has 0 d=false:=by
 unfold has;simp
end L
theorem b2F (x:Nat) (h:x<1000000):Go.IntKind.i64.wrap (x:Int)=x:=by
 show(if((true&&decide ((x:Int) % 18446744073709551616>=9223372036854775808))=true)then(x:Int) % 18446744073709551616-18446744073709551616 else(x:Int) % 18446744073709551616)=x;rw[d7 (by rw[o0,c9];omega)];omega
theorem b2z {a b:Int} (ha:L.set a=true) (hb:L.set b=true):L.set (Tl.andN a b)=true/\∀e:Int,L.has (Tl.andN a b) e=(L.has a e&& !L.has b e):=by
 obtain⟨A,rfl,hA⟩:=L.set_has ha;obtain⟨B,rfl,hB⟩:=L.set_has hb;have e1:((BitVec.ofInt 64 (A:Int)&&& ~~~BitVec.ofInt 64 (B:Int)).toNat)<256:=by
  rw[BitVec.toNat_and];refine Nat.lt_of_le_of_lt Nat.and_le_left ?_;rw[BitVec.toNat_ofInt];simp;omega
 have e2:∀i,i<8->(BitVec.ofInt 64 (A:Int)&&& ~~~BitVec.ofInt 64 (B:Int)).toNat.testBit i=(A.testBit i&& !B.testBit i):=λi hi=>by
  rw[BitVec.testBit_toNat,BitVec.getLsbD_and,BitVec.getLsbD_not];have h1:∀C:Nat,C<256->(BitVec.ofInt 64 (C:Int)).getLsbD i=C.testBit i:=λC hC=>by
   rw[<- BitVec.testBit_toNat,BitVec.toNat_ofInt];have:((C:Int) % (((2^64:Nat)):Int)).toNat=C:=by omega
   rw[this]
  rw[h1 A hA,h1 B hB,j3 (by omega),o0]
 have e3:Tl.andN (A:Int) (B:Int)=((BitVec.ofInt 64 (A:Int)&&& ~~~BitVec.ofInt 64 (B:Int)).toNat:Int):=by
  unfold Tl.andN;show IntKind.i64.wrap (((BitVec.ofInt 64 (A:Int)&&& ~~~BitVec.ofInt 64 (B:Int)).toNat:Nat):Int)=_;generalize(BitVec.ofInt 64 (A:Int)&&& ~~~BitVec.ofInt 64 (B:Int)).toNat=x at e1;exact b2F x (by omega)
 generalize hx:(BitVec.ofInt 64 (A:Int)&&& ~~~BitVec.ofInt 64 (B:Int)).toNat=x at e1 e2 e3;rw[e3];have hs:L.set (x:Int)=true:=by rw[L.set_iff];omega
 refine⟨hs,λe=>?_⟩
 by_cases he:0<=e/\e<8
 ·obtain⟨E,rfl⟩:=g7 he.1;simp only[L.has,hs,ha,hb,o0,l6];rw[j3 (p:=(0:Int)<=(E:Int)) (by omega),j3 (p:=(E:Int)<8) (by omega),e2 E (by omega)];rfl
 ·rw[L.has_out he,L.has_out he];rfl
namespace Tl
theorem has_iff {t:Tl} {k:Int}:t.has k=true↔0<=k/\k<t.b:=by simp[has]
end Tl
end Go.Proofs.YtpakpgkdpofbhaaGreat
namespace Go.Proofs.YtpakpgkdpofbhaaGreat
open Go Go.RowKit
structure Msk (D:Nat) (fd m:Int):Prop where
 set:L.set m=true
 lt:∀d:Int,L.has m d=true->d<D
 all:∀d:Nat,d<D->(d:Int)≠fd->L.has m (d:Nat)=true
theorem b4Z:∀D,D<7->3<=D->G.slots (L.all (D:Nat))=(D:Int)-1/\L.count (L.all (D:Nat))=D/\L.all (D:Nat)<2^D:=by decide+kernel
theorem b6Y:∀D,D<7->3<=D->∀d,d<D->G.slots (L.without (L.all (D:Nat)) (d:Nat))=(D:Int)-2/\L.count (L.without (L.all (D:Nat)) (d:Nat))=D-1/\L.without (L.all (D:Nat)) (d:Nat)<2^D:=by decide+kernel
namespace Msk
variable {D : Nat} {fd m : Int}
theorem eq (h:Msk D fd m) (hD:3<=D/\D<=6):(m=L.all (D:Nat)/\(0<=fd/\fd<D->L.has m fd=true))\/(0<=fd/\fd<D/\L.has m fd=false/\m=L.without (L.all (D:Nat)) fd):=by
 have hs:=L.set_all D (by omega)
 by_cases hf:(0<=fd/\fd<D)/\L.has m fd=false
 ·right;refine⟨hf.1.1,hf.1.2,hf.2,L.ext h.set (L.set_without hs (by omega)) λd hd=>?_⟩;rw[L.without_has hs (by omega),L.all_has D (by omega),j3 (p:=(0:Int)<=(d:Int)) (by omega),o0]
  by_cases hlt:d<D
  ·rw[j3 (p:=(d:Int)<D) (by omega),o0]
   by_cases e:(d:Int)=fd
   ·rw[e,hf.2];simp
   ·rw[h.all d hlt e,u9 e];rfl
  ·rw[u9 (p:=(d:Int)<D) (by omega),O0];cases hh:L.has m (d:Nat)with
   | false=>rfl
   | true=>have:=h.lt _ hh;omega
 ·left;have hff:0<=fd/\fd<D->L.has m fd=true:=λhr=>by
   cases hh:L.has m fd with
   | true=>rfl
   | false=>exact absurd ⟨hr,hh⟩ hf
  refine⟨L.ext h.set hs λd hd=>?_,hff⟩;rw[L.all_has D (by omega),j3 (p:=(0:Int)<=(d:Int)) (by omega),o0]
  by_cases hlt:d<D
  ·rw[j3 (p:=(d:Int)<D) (by omega)]
   by_cases e:(d:Int)=fd
   ·rw[e];exact hff (by omega)
   ·exact h.all d hlt e
  ·rw[u9 (p:=(d:Int)<D) (by omega)];cases hh:L.has m (d:Nat)with
   | false=>rfl
   | true=>have:=h.lt _ hh;omega
def full (D:Nat) (fd m:Int):Bool:=!(decide (0<=fd)&&decide (fd<D))||L.has m fd
theorem slots (h:Msk D fd m) (hD:3<=D/\D<=6):G.slots m=(if full D fd m then(D:Int)-1 else(D:Int)-2)/\2<=L.count m/\0<=m/\m<2^D:=by
 have hm0:0<=m:=by have:=(L.set_iff m).1 h.set;omega
 rcases h.eq hD with⟨e,hf⟩ | ⟨h1,h2,h3,e⟩
 ·have hfull:full D fd m=true:=by
   unfold full
   by_cases hr:0<=fd/\fd<D
   ·rw[hf hr];simp
   ·by_cases h0:0<=fd
    ·rw[u9 (p:=fd<D) (by omega)];simp
    ·rw[u9 h0];simp
  obtain⟨a1,a2,a3⟩:=b4Z D (by omega) hD.1;rw[hfull,d8 rfl];rw[e]at hm0 ⊢;exact⟨a1,by omega,hm0,a3⟩
 ·have hfull:full D fd m=false:=by
   unfold full;rw[j3 h1,j3 h2,h3];rfl
  obtain⟨d,hd⟩:=g7 h1;obtain⟨a1,a2,a3⟩:=b6Y D (by omega) hD.1 d (by omega);rw[hfull,d7 s9];rw[e,hd]at hm0 ⊢;exact⟨a1,by omega,hm0,a3⟩
theorem pos (h:Msk D fd m) (hD:3<=D/\D<=6):1<=G.slots m/\(D:Int)-2<=G.slots m/\G.slots m<=(D:Int)-1:=by
 have:=(h.slots hD).1;split at this<;>omega
end Msk
structure Full (fd:Int) (N:Nand) (b r m:Int) (l:List En):Prop where
 is:RowIs N b r m l
 good:∀x∈R.job b r m l,x.1≠fd->∃t,N.pageAt x.1 b r=some ⟨a1v x.2,false,t⟩
 inn:c3S N b r m l
structure Std (fd:Int) (S:Dv) (i:Int) (a:AtV):Prop where
 row:∃l,Full fd S.N a.block a.row a.mask l/\0<=a.slot/\a.slot.toNat<l.length/\(l.getD a.slot.toNat En.zero).lpn=i/\(l.getD a.slot.toNat En.zero).seq=a.seq/\(l.getD a.slot.toNat En.zero).role=a.role
 used:(S.t.at_ a.block).used=true
 below:a.block=S.op->a.row<S.row
 seq:1<=a.seq/\a.seq<S.next
structure Opn (fd:Int) (S:Dv):Prop where
 blk:0<=S.op/\S.op<S.N.blocks
 used:(S.t.at_ S.op).used=true
 row:0<=S.row/\S.row<=S.N.pages
 mask:Msk S.N.dies fd S.mask
 cells:∀d:Nat,L.has S.mask (d:Nat)=true->((S.N.blk d S.op.toNat).cells.length:Int)<=S.row/\(S.N.dead.getD d false=false->((S.N.blk d S.op.toNat).cells.length:Int)=S.row)
structure Inv (fd:Int) (S:Dv):Prop where
 lit:S.N.Lit
 dead:∀i:Nat,(i:Int)≠fd->S.N.dead.getD i false=false
 plan:∀a∈S.N.plan,a.1=fd
 flags:∀i j:Nat,(i:Int)≠fd->(S.N.blk i j).met=false/\(S.N.blk i j).fails=false
 tdead:L.set S.t.dead=true/\∀d:Int,L.has S.t.dead d=true->d=fd
 tbad:∀b,S.t.has b=true->L.set (S.t.at_ b).bad=true/\∀d:Int,L.has (S.t.at_ b).bad d=true->d=fd
 op:S.op= -1\/Opn fd S
 blank:∀b,S.t.has b=true->(S.t.at_ b).used=false->∀d:Nat,L.has (S.t.mask b) (d:Nat)=true->(S.N.blk d b.toNat).cells=[]
 st:∀i a,Tb.look S.T.at_ i=some a->Std fd S i a
theorem b7V {t:Tl} {b:Int} (hd:t.d<=8) (hb:t.has b=true) (h1:L.set t.dead=true) (h2:L.set (t.at_ b).bad=true):L.set (t.mask b)=true/\∀e:Int,L.has (t.mask b) e=((decide (0<=e)&&decide (e<t.d))&& !L.has t.dead e&& !L.has (t.at_ b).bad e):=by
 have ha:=L.set_all t.d hd;have x1:=b2z ha h1;have x2:=b2z x1.1 h2;unfold Tl.mask;rw[d8 hb];exact⟨x2.1,λe=>by rw[Tl.alive,x2.2,x1.2,L.all_has _ hd]⟩
namespace Inv
variable {fd : Int} {S : Dv} {k m : Nat}
theorem msk (h:Inv fd S) (hO:S.Ok k m) {b:Int} (hb:S.t.has b=true):Msk S.N.dies fd (S.t.mask b):=by
 have hg:=hO.gd.ok.bd16;have hd:=hO.t.d;obtain⟨m1,m2⟩:=b7V (by omega) hb h.tdead.1 (h.tbad b hb).1;refine⟨m1,λd hh=>?_,λd hlt hne=>?_⟩
 ·rw[m2]at hh;simp only[i9,c9]at hh;omega
 ·rw[m2,j3 (p:=(0:Int)<=(d:Int)) (by omega),j3 (p:=(d:Int)<S.t.d) (by omega)];have e1:L.has S.t.dead (d:Nat)=false:=by
   cases hh:L.has S.t.dead (d:Nat)with
   | false=>rfl
   | true=>exact absurd (h.tdead.2 _ hh) hne
  have e2:L.has (S.t.at_ b).bad (d:Nat)=false:=by
   cases hh:L.has (S.t.at_ b).bad (d:Nat)with
   | false=>rfl
   | true=>exact absurd ((h.tbad b hb).2 _ hh) hne
  rw[e1,e2];rfl
theorem usable (h:Inv fd S) (hO:S.Ok k m) {b:Int} (hb:S.t.has b=true):S.t.usable b=true:=by
 have hg:=hO.gd.ok.bd16;have:=((h.msk hO hb).pos hg.1).1;unfold Tl.usable;exact j3 (by omega)
end Inv
structure NoF (S:Dv):Prop where
 dead:∀i:Nat,S.N.dead.getD i false=false
 plan:S.N.plan=[]
 met:∀i j:Nat,(S.N.blk i j).met=false
theorem c0D {T:Tb} (h:T.Ok) {x:Int×AtV} (hx:x∈T.at_):Tb.look T.at_ x.1=some x.2:=by
 cases hh:Tb.look T.at_ x.1 with
 | none=>rw[Tb.look_none]at hh;exact absurd (List.mem_map.2 ⟨x,hx,rfl⟩) hh
 | some a=>
  have hm:=Tb.look_mem hh;obtain⟨i1,g1,e1⟩:=List.mem_iff_getElem.1 hm;obtain⟨i2,g2,e2⟩:=List.mem_iff_getElem.1 hx;have:i1=i2:=(List.getElem?_inj (by rw[m9];exact g1) h.keys).1 (by rw[j6,j6,d5 g1,d5 g2,e1,e2];rfl);subst this;rw[e1]at e2;rw[<- e2]
theorem NoF.new (d b p:Nat) (lg:Int):NoF (Dv.mk (Nand.new d b p) (Tl.new d b p) (Tb.new lg) (-1) 0 0 1):=
 ⟨λi=>by
  show(List.replicate d false).getD i false=false;rw[d6,D3];split<;>rfl,rfl,λ_ _=>rfl⟩
theorem Inv.new (fd:Int) (d b p:Nat) (lg:Int):Inv fd (Dv.mk (Nand.new d b p) (Tl.new d b p) (Tb.new lg) (-1) 0 0 1):=by
 refine⟨Nand.Lit.new d b p,λi _=>(NoF.new d b p lg).dead i,λa ha=>(by cases ha),λ_ _ _=>⟨rfl,rfl⟩,⟨by show L.set 0=true;decide,λd hd=>(by have:L.has 0 d=true:=hd;rw[L.has_zero]at this;cases this)⟩,λbb hb=>?_, .inl rfl,λbb hb hu e he=>rfl,λi a ha=>(by cases ha)⟩;have:(Tl.new d b p).at_ bb=Sb.zero:=by
  unfold Tl.new Tl.at_;dsimp only;rw[d6,D3];split<;>rfl
 show L.set ((Tl.new d b p).at_ bb).bad=true/\_;rw[this];refine⟨by decide,λe he=>?_⟩;have he:L.has 0 e=true:=he;rw[L.has_zero]at he;cases he
namespace Inv
variable {fd : Int} {S : Dv} {k m : Nat}
theorem free_iff (h:Inv fd S) (hO:S.Ok k m) {b:Int} (hb:S.t.has b=true):U4 S.t S.T b=S.t.blank b/\(S.t.blank b=true->(b !=S.op)=true):=by
 have hu:=h.usable hO hb;unfold U4;rw[hu,o0];have hop:S.t.blank b=true->(b !=S.op)=true:=λhbl=>by
  simp only[Tl.blank,i9,i7]at hbl;rw[C2];intro e;rcases h.op with e2 | e2
  ·have:=(Tl.has_iff.1 hb).1;omega
  ·have:=e2.used;rw[<- e,hbl.2]at this;cases this
 refine⟨?_,hop⟩;cases hbl:S.t.blank b with
 | false=>rfl
 | true=>
  rw[o0,m5];simp only[Tl.blank,i9,i7]at hbl;rw[hO.T.cnt];unfold Tb.cntB;have:(S.T.at_.countP λx=>x.2.block==b)=0:=by
   rw[List.countP_eq_zero];intro x hx hxb;simp only[m5]at hxb;have hlk:Tb.look S.T.at_ x.1=some x.2:=c0D hO.T hx;have:=(h.st _ _ hlk).used;rw[hxb,hbl.2]at this;cases this
  rw[this];rfl
end Inv
namespace Inv
variable {fd : Int} {S : Dv} {k m : Nat}
theorem countP_range_get {α:Type} (p:α->Bool) (z:α) (l:List α):l.countP p=(List.range l.length).countP λi=>p (l.getD i z):=by
 induction l with
 | nil=>rfl
 | cons x l ih=>
  rw[a0e,m6,List.range_succ_eq_map,a0e,List.countP_map,ih];rfl
theorem free_len (h:Inv fd S) (hO:S.Ok k m):S.free=S.t.blanks:=by
 unfold Dv.free C8;rw[m9,<- List.countP_eq_length_filter];have hlen:=hO.t.len;unfold Tl.blanks;rw[countP_range_get _ Sb.zero,hlen];refine List.countP_congr λi hi=>?_;have hi:=List.mem_range.1 hi;have hhas:S.t.has (i:Nat)=true:=Tl.has_iff.2 (by omega);obtain⟨a1,a2⟩:=h.free_iff hO hhas;rw[a1];have e:S.t.blank (i:Nat)= !(S.t.l.getD i Sb.zero).used:=by unfold Tl.blank Tl.at_;rw[hhas,l6];rfl
 cases hb:S.t.blank (i:Nat)with
 | false=>rw[e]at hb;rw[hb];simp
 | true=>rw[a2 hb];rw[e]at hb;rw[hb];simp
end Inv
theorem a7G {kind:Int->Bool} {o:Int}:∀n:Nat,(∀x:Nat,x<n->(((x:Int) !=o)&&kind x)=false)->C8 kind o n=[]
 | 0,_=>rfl
 | n+1,h=>by rw[a2h,d7 (by rw[h n (by omega)];decide),a7G n λx hx=>h x (by omega)]
theorem b2O {N:Nand} {t:Tl} (h:∀i:Nat,N.dead.getD i false=false):Dv.seeDead N t=t:=by
 unfold Dv.seeDead;have:∀(q:List Nat),q.foldl (λt (d:Nat)=>if N.deadAt d then t.die d else t) t=t:=by
  intro q
  induction q with
  | nil=>rfl
  | cons d q ih=>
   rw[C0];have:N.deadAt d=false:=by unfold Nand.deadAt;rw[l6,h];simp
   rw[this,d7 s9];exact ih
 exact this _
theorem c1o (D B P:Nat):V.all (Nand.new D B P)=[]:=by
 unfold V.all;rw[List.flatMap_eq_nil_iff];intro b _;rw[List.flatMap_eq_nil_iff];intro r _;refine b6o λd=>?_;have:=b3i (N:=Nand.new D B P) (d:=(d:Nat)) (b:=(b:Nat)) (r:=(r:Nat)) (j4 _);omega
theorem b4t (N:Nand) (n:Int):∀k,V.goS N [] n k=⟨Tb.new n,[],[],[]⟩
 | 0=>rfl
 | k+1=>by
  rw[V.goS_succ,b4t N n k];unfold V.step;rw[d7];show¬(V.standOf (V.of [] k)).2=true;rw[show V.of [] (k:Int)=[]from rfl,V.standOf_nil];exact s9
theorem b7c (D B P:Nat) (n:Int):V.scan (Nand.new D B P) n=⟨Tb.new n,[],0,[],1,0⟩:=by
 unfold V.scan V.scanOf;rw[c1o,b4t];have h1:I3 (a0u [])=[]:=a5M;dsimp only;rw[h1];rfl
theorem b7a {t:Tl} (hl:t.l.length=t.b) (k:Int):t.set k (t.at_ k)=t:=by
 unfold Tl.set;split
 ·rename_i h;have hk:=Tl.get_at hl h;have:t.l.set k.toNat (t.at_ k)=t.l:=by
   apply v6;intro i;rw[r9];split
   ·rename_i e;subst e;rw[hk];split
    ·rfl
    ·rename_i h2;rw[l4 (by omega)]at hk;cases hk
   ·rfl
  rw[this]
 ·rfl
theorem b9r (D B P:Nat) (b:Int):(Tl.new D B P).at_ b=Sb.zero:=by
 unfold Tl.new Tl.at_;dsimp only;rw[d6,D3];split<;>rfl
theorem c0u (D B P:Nat) (b d:Nat):Tl.ofD (Nand.new D B P) b (Tl.new D B P) d=Tl.new D B P:=by
 have hw:(Nand.new D B P).wornAt d b=0:=by unfold Nand.wornAt;split<;>rfl
 have hn:(Nand.new D B P).next d b=0:=by unfold Nand.next;split<;>rfl
 have h1:(Tl.new D B P).wore b 0=Tl.new D B P:=by
  have h2:=b7a (t:=Tl.new D B P) (by show(List.replicate B Sb.zero).length=B;rw[T7]) (b:Int);unfold Tl.wore;rw[b9r]at h2 ⊢;exact h2
 unfold Tl.ofD;dsimp only;rw[hw,hn,h1,d7];simp
theorem c2f (D B P:Nat):Tl.of (Nand.new D B P)=Tl.new D B P:=by
 have hd:Dv.seeDead (Nand.new D B P) (Tl.new D B P)=Tl.new D B P:=b2O λi=>by
  show(List.replicate D false).getD i false=false;rw[d6,D3];split<;>rfl
 have h1:∀(b:Nat) (q:List Nat),q.foldl (Tl.ofD (Nand.new D B P) b) (Tl.new D B P)=Tl.new D B P:=by
  intro b q
  induction q with
  | nil=>rfl
  | cons d q ih=>rw[C0,c0u,ih]
 have h2:∀q:List Nat,q.foldl (Tl.ofB (Nand.new D B P)) (Tl.new D B P)=Tl.new D B P:=by
  intro q
  induction q with
  | nil=>rfl
  | cons b q ih=>
   rw[C0];have:Tl.ofB (Nand.new D B P) (Tl.new D B P) b=Tl.new D B P:=h1 b _;rw[this,ih]
 unfold Tl.of;rw[show(Nand.new D B P).dies=D from rfl,show(Nand.new D B P).blocks=B from rfl,show(Nand.new D B P).pages=P from rfl,hd,h2]
theorem b7g {D B P k m:Nat} {lg:Int} (hO:(Dv.new D B P lg).Ok k m):(Dv.new D B P lg).clear=(Dv.new D B P lg,0)/\(Dv.new D B P lg).room=(Dv.new D B P lg,0):=by
 have hg:=hO.gd.ok.bd16;have hg:(3<=D/\D<=6)/\(8<=B/\B<=16)/\(2<=P/\P<=8):=hg;have hsp:C8 (V5 (Dv.new D B P lg).t (Dv.new D B P lg).T) (Dv.new D B P lg).op (Dv.new D B P lg).t.b=[]:=a7G _ λx hx=>by
  have hx:x<B:=hx;unfold V5 Tl.blank;rw[show(Dv.new D B P lg).t=Tl.new D B P from rfl,b9r,Tl.has_iff.2 (show 0<=(x:Int)/\(x:Int)<(Tl.new D B P).b by show 0<=(x:Int)/\(x:Int)<(B:Int);omega)];simp[Sb.zero]
 have hc:(Dv.new D B P lg).clear=(Dv.new D B P lg,0):=by
  unfold Dv.clear Dv.clearX;rw[hsp];rfl
 have hfr:((Dv.new D B P lg).free:Int)>4:=by
  have h1:=(Inv.new (-1) D B P lg).free_len (k:=k) (m:=m) hO;have h2:(Dv.new D B P lg).t.blanks=B:=by
   show(List.replicate B Sb.zero).countP _=B;rw[List.countP_replicate];rfl
  have h1:(Dv.new D B P lg).free=(Dv.new D B P lg).t.blanks:=h1;omega
 refine⟨hc,?_⟩;unfold Dv.room;rw[hc,d7 (by simp)];obtain⟨c,hc2⟩:∃c,(Dv.new D B P lg).t.b=c+1:=⟨(Dv.new D B P lg).t.b-1,by show B=B-1+1;omega⟩;rw[hc2];show Dv.roomGo (c+1) (Dv.new D B P lg)=_;unfold Dv.roomGo;rw[d8 hfr]
theorem b5x {D B P k m:Nat} (hO:(Dv.new D B P (lgN D B P)).Ok k m):M4 (Nand.new D B P)=(Dv.new D B P (lgN D B P),0):=by
 obtain⟨c1,c2⟩:=b7g hO;unfold M4;rw[show(Nand.new D B P).dies=D from rfl,show(Nand.new D B P).blocks=B from rfl,show(Nand.new D B P).pages=P from rfl,b7c,c2f];have e:(⟨Nand.new D B P,Tl.new D B P,Tb.new (lgN D B P),-1,0,0,max 1 1⟩:Dv)=Dv.new D B P (lgN D B P):=rfl;dsimp only;rw[e];have h1:(Dv.new D B P (lgN D B P)).holds [] true=Dv.new D B P (lgN D B P):=rfl;have h2:(Dv.new D B P (lgN D B P)).holds [] false=Dv.new D B P (lgN D B P):=rfl;have h3:(Dv.new D B P (lgN D B P)).torn []=(Dv.new D B P (lgN D B P),0):=rfl;rw[h1,List.take_nil,List.drop_nil,h3];dsimp only;rw[d7 (by simp),h2,c1];dsimp only;rw[d7 (by simp),h3];dsimp only;rw[d7 (by simp)];exact c2
def UN:Nat:=Fv.cW+1
theorem b9y:UN=Dv.costM+8*Dv.fuel+1:=rfl
theorem b9v:96<=UN:=by
 have:96<=8*Dv.fuel:=by decide
 rw[b9y];omega
theorem b9x:Fv.cW*200<=UN*200:=V1 _ (Nat.le_succ _)
theorem b9w:Dv.costK<=UN*402:=by
 have h:Dv.costT*200<=UN*200:=V1 _ (Nat.le_succ _);have:=b9v;have h2:Dv.costM<=UN:=by rw[b9y];omega
 unfold Dv.costK;omega
theorem b4I:Fv.cW*200+(Dv.costS+(Dv.costK+(1+0)))<=UN*605:=by
 have h1:=b9x;have h2:=b9w;have h3:Dv.costS<=UN*2:=by
  have:Dv.costC<=Dv.costM:=by unfold Dv.costM Dv.costR;omega
  have:=b9y;unfold Dv.costS;omega
 have h4:=b9v;omega
def KS:Nat:=Fv.cW*200+(Dv.costS+(Dv.costK+1))
structure PvOk (P:Pv) (k m:Nat):Prop where
 z:∀Z,P.Z=some Z->Z.Ok k m
 g:P.Z=none->P.M.Gd k m
namespace PvOk
variable {P : Pv} {k m : Nat}
theorem nd (h:PvOk P k m):P.nd.Gd k m:=by
 unfold Pv.nd;cases hZ:P.Z with
 | some Z=>exact(h.z Z hZ).dv.gd
 | none=>exact h.g hZ
theorem setN (h:PvOk P k m) {N:Nand} {k' m':Nat} (hk:k'<=k) (hl:P.nd.Like N) (hG:N.Gd k' m') (hm:m<=m'):PvOk (P.setN N) k' m':=by
 unfold Pv.setN;unfold Pv.nd at hl;cases hZ:P.Z with
 | some Z=>
  rw[hZ]at hl;exact⟨λY hY=>by injection hY with hY;subst hY;exact((h.z Z hZ).less hk).setN hl hG,λh=>by cases h⟩
 | none=>exact⟨λY hY=>(by have hY:(none:Option Fv)=some Y:=hY;cases hY),λ_=>hG⟩
theorem less (h:PvOk P k m) {k' m':Nat} (hk:k'<=k) (hm:m<=m'):PvOk P k' m':=by
 have:=h.setN (N:=P.nd) hk ⟨rfl,rfl,rfl⟩ (h.nd.less hk hm) hm;unfold Pv.setN Pv.nd at this;cases hZ:P.Z with
 | some Z=>rw[hZ]at this;exact⟨λY hY=>by rw[hZ]at hY;injection hY with hY;subst hY;exact this.z _ rfl,λh=>by rw[hZ]at h;cases h⟩
 | none=>exact⟨λY hY=>(by rw[hZ]at hY;cases hY),λ_=>(h.g hZ).less hk hm⟩
theorem run (h:PvOk P k m):PvOk P.run k (m+(R3 P.nd.ops P.L).length):=by
 have:=h.setN (j7 k) (a5f P.nd (R3 P.nd.ops P.L)) (a4n h.nd _) (Nat.le_add_right _ _);exact⟨this.z,this.g⟩
theorem does (h:PvOk P (KS+k) m) (s:Stp) (hs:s.data.length=16) (hn: -9223372036854775808<=s.n/\s.n<=9223372036854775807) (hk:k<=1000000000000000):PvOk (P.does s).1 k (m+1):=by
 have hK:KS=Fv.cW*200+(Dv.costS+(Dv.costK+1)):=rfl;have h1:PvOk P (KS+k) (m+1):=h.less (j7 _) (Nat.le_succ m);have h0:PvOk P k (m+1):=h.less (by omega) (by omega);have hz:∀Y:Fv,Y.Ok k (m+1)->PvOk {P with Z:=some Y} k (m+1):=λY hY=>⟨λU hU=>by injection hU with hU;subst hU;exact hY,λh=>by cases h⟩;unfold Pv.does;split
 ·cases hZ:P.Z with
  | some Z=>exact hz _ (Fv.read_keep ((h0.z Z hZ)) _).1
  | none=>exact h0
 split
 ·cases hZ:P.Z with
  | some Z=>exact hz _ ((Fv.write_keep (k:=k) (m:=m+1) ((h1.z Z hZ).less (by omega)) _ hs).1)
  | none=>exact h0
 split
 ·cases hZ:P.Z with
  | some Z=>exact hz _ ((Fv.trim_keep (k:=k) (m:=m+1) ((h1.z Z hZ).less (by omega)) _).1)
  | none=>exact h0
 split
 ·cases hZ:P.Z with
  | some Z=>exact hz _ ((Fv.flush_keep (k:=k) (m:=m+1) ((h1.z Z hZ).less (by omega))).1)
  | none=>exact h0
 split
 ·cases hZ:P.Z with
  | some Z=>exact hz _ ((Fv.tick_keep (k:=k) (m:=m+1) ((h1.z Z hZ).less (by omega))).1)
  | none=>exact h0
 split
 ·exact h0.setN (j7 _) (by unfold Nand.setCut;split<;>exact⟨rfl,rfl,rfl⟩) (h0.nd.cut _ _ hn.1 hn.2) (j7 _)
 split
 ·have hG:(if P.nd.off=true then P.nd else P.nd.setCut (-1) 0).onN.Gd (Dv.costK+k) (m+1):=by
   have:=h.nd.less (k':=Dv.costK+k) (m':=m+1) (by omega) (by omega);split
   ·exact this.on
   ·exact(this.cut (-1) 0 (by decide) (by decide)).on
  have hm:=a2Y hG;unfold Pv.mounts;dsimp only;generalize(if P.nd.off=true then P.nd else P.nd.setCut (-1) 0).onN=N1 at hm ⊢;split
  ·exact hz _ (Fv.of_ok hm.1 hk)
  ·exact⟨λY hY=>(by cases hY),λ_=>hm.1.gd⟩
 split
 ·exact(h.less (k':=k) (by omega) (j7 m)).setN (j7 _) (Nand.like_fault _ _ _ _ _ _ _) (Nand.Gd.fault (h.nd.less (by omega) (j7 m)) _ _ _ _ _ _) (by omega)
 ·exact h0
theorem step (h:PvOk P (KS+k) m) (s:Stp) (hs:s.data.length=16) (hn: -9223372036854775808<=s.n/\s.n<=9223372036854775807) (hk:k<=1000000000000000):PvOk (P.step s).1 k (m+(R3 P.nd.ops P.L).length+1):=by
 have h2:=h.run.does s hs hn hk;exact⟨h2.z,h2.g⟩
theorem new {D B Pg:Nat} (hg:D8 D B Pg=true) (l:List Fl) {k:Nat} (hk:k<=1000000000000000):PvOk (Pv.new D B Pg l) k 0:=by
 have hG:(Nand.new D B Pg).Gd (Dv.costK+k) 0:=a3k D B Pg hg _ (by
  have h1:Dv.costK<=UN*605:=E7 (by omega) b4I;have h2:UN*605<=100000000000000:=by decide
  omega)
 have hm:=a2Y hG;refine⟨λZ hZ=>?_,λ_=>hm.1.gd⟩;have hZ:(if(M4 (Nand.new D B Pg)).2=0 then some (Fv.of (M4 (Nand.new D B Pg)).1)else none)=some Z:=hZ;split at hZ
 ·injection hZ with hZ;subst hZ;exact Fv.of_ok hm.1 hk
 ·cases hZ
end PvOk
theorem b2k (ops:Int) (L:List Fl):(R3 ops L).length+(a2m ops L).length=L.length:=by
 have:=congrArg List.length (List.takeWhile_append_dropWhile (p:=b9f ops) (l:=L));rw[f9]at this;exact this
theorem Pv.does_L (P:Pv) (s:Stp):(P.does s).1.L=P.L/\(P.does s).1.log=P.log:=by
 have hs:∀N,(P.setN N).L=P.L/\(P.setN N).log=P.log:=λN=>by unfold Pv.setN;split<;>exact⟨rfl,rfl⟩
 unfold Pv.does Pv.mounts;dsimp only
 repeat' split
 all_goals first | exact⟨rfl,rfl⟩ | exact hs _
theorem Pv.step_L (P:Pv) (s:Stp):(P.step s).1.L=a2m P.nd.ops P.L/\(P.step s).1.log=P.log++[(P.step s).2]:=by
 have h:=P.run.does_L s;have h2:P.run.log=P.log:=by unfold Pv.run Pv.setN;split<;>rfl
 exact⟨h.1,congrArg (· ++[(P.step s).2]) (h.2.trans h2)⟩
structure Pk (P:Pv) (k m:Nat):Prop where
 ok:∃j,PvOk P (KS*k) j/\j+P.L.length<=m
theorem c1G:KS<=2000000000000:=E7 b4I (by decide)
theorem Pk.new {D B Pg:Nat} (hg:D8 D B Pg=true) (l:List Fl) {k:Nat} (hk:k<=100):Pk (Pv.new D B Pg l) k l.length:=by
 have h1:=c1G;have h2:KS*k<=2000000000000*100:=a1h h1 hk;refine⟨0,PvOk.new hg l (by omega),?_⟩;rw[I8];show(U5 a2P (plF D B Pg l)).length<=_;rw[(a3O _ _).length_eq];exact B4 _ _
theorem Pk.step {P:Pv} {k m:Nat} (h:Pk P (k+1) m) (hk:k<=100) (s:Stp) (hs:s.data.length=16) (hn: -9223372036854775808<=s.n/\s.n<=9223372036854775807):Pk (P.step s).1 k (m+1):=by
 obtain⟨j,h1,h2⟩:=h;have h3:KS*k<=2000000000000*100:=a1h c1G hk;have h4:=b2k P.nd.ops P.L;rw[show KS*(k+1)=KS+KS*k from by rw[W2,U7]]at h1;refine⟨_,h1.step s hs hn (by omega),?_⟩;rw[(P.step_L s).1];omega
theorem Fn.hp {P:Program} {f:FuncId} {args:List Value} {Pre:List Atom} {Q:Value->List Atom->Prop} (c:Fn P f args Pre Q):Fn P f args [.hp (HP.of Pre)] (λv As=>∃Bs,Q v Bs/\As=[.hp (HP.of Bs)]):=
 λF w s=>(c F w (Sep.unpack s)).mono λ_ _ ⟨v,As,h1,h2,h3,h4⟩=>⟨v,_,h1,⟨As,h2,rfl⟩,Sep.pack h3,h4⟩
theorem Sep.packTail {h:Hl} (L M:List Atom) (s:Sep (L++M) h):Sep (L++[.hp (HP.of M)]) h:=by
 obtain⟨own,hw⟩:=s;refine⟨λb=>min (own b) L.length,λi B hB=>?_⟩;rcases Q7 i L.length with hi | hi
 ·rw[t7 hi]at hB;refine Atom.up (λb o hb=>?_) (hw i B (by rw[t7 hi];exact hB));rw[res_some]at hb ⊢;exact⟨by rw[hb.1];omega,hb.2⟩
 ·rw[y6 hi]at hB;have he:i-L.length=0:=by
   rcases K7 (i-L.length)with e | e
   ·exact e
   ·rw[l4 (by simp;omega)]at hB;cases hB
  rw[he]at hB;injection hB with hB;subst hB;refine⟨λb=>own b-L.length,λj B hB=>?_⟩;refine Atom.up (λb o hb=>?_) (hw (L.length+j) B (by rw[y6 (by omega),Nat.add_sub_cancel_left];exact hB));rw[res_some]at hb ⊢;refine⟨by rw[hb.1];omega,?_⟩;rw[res_some];exact⟨by rw[hb.1];omega,hb.2⟩
def PlA (q n:Nat) (A:Pad) (P:Pv):Atom:= .hp (HP.of (a0K q n A P))
theorem b9z {q n:Nat} {A:Pad} {P:Pv} {h:Hl} (s:Sep [PlA q n A P] h):Sep [PlQ q n P.Z A.f (.pointer (some ⟨A.fp,0,none⟩)) (slv A.a2 P.log.length A.c2), .pt A.fp 247 [.slice (K4 A.a) P.L.length A.c],rdA (K4 A.a) 7 P.L.length (x8 P.L),l5 61 17 A.a2 P.log.length A.c2 (J3 P.log), .hp (HP.of (a0z n A P))] h:=
 Sep.packTail [PlQ q n P.Z A.f (.pointer (some ⟨A.fp,0,none⟩)) (slv A.a2 P.log.length A.c2), .pt A.fp 247 [.slice (K4 A.a) P.L.length A.c],rdA (K4 A.a) 7 P.L.length (x8 P.L),l5 61 17 A.a2 P.log.length A.c2 (J3 P.log)] (a0z n A P) (Sep.hpOf.1 s)
theorem b7p (q n:Nat) (A:Pad) (P:Pv) (hA:A.Ok P) (k m:Nat) (hP:Pk P (k+1) m) (hm:m<=1000) (hlg:P.log.length<=1000) (s:Stp) (hs:s.data.length=16):Fn Tryz.prog 53 [.pointer (some ⟨q,0,none⟩),stV s] [PlA q n A P] (λv As=>∃A':Pad,v=tdV (P.step s).2/\A'.Ok (P.step s).1/\As=[PlA q n A' (P.step s).1]):=by
 obtain⟨j,h1,h2⟩:=hP.ok;have h4:=b2k P.nd.ops P.L;rw[show KS*(k+1)=KS+KS*k from by rw[W2,U7]]at h1;have hgo:Fn Tryz.prog 53 [.pointer (some ⟨q,0,none⟩),stV s] (a0K q n A P) (λv As=>∃A':Pad,v=tdV (P.step s).2/\A'.Ok (P.step s).1/\As=a0K q n A' (P.step s).1):=by
  cases hZ:P.Z with
  | some Z=>
   have hnd:P.nd=Z.S.N:=by unfold Pv.nd;rw[hZ]
   rw[hnd]at h4;exact a6U q n A P hA Z hZ (KS*k) j ((h1.z Z hZ).less (by unfold KS;omega)) (by omega) (by omega) hlg s hs
  | none=>
   have hnd:P.nd=P.M:=by unfold Pv.nd;rw[hZ]
   rw[hnd]at h4;exact b7o q n A P hA hZ (KS*k) j ((h1.g hZ).less (by unfold KS;omega) (j7 _)) (by omega) (by omega) hlg s hs
 exact(Fn.hp hgo).mono λv As ⟨Bs,⟨A',e1,e2,e3⟩,e4⟩=>⟨A',e1,e2,by rw[e4,e3];rfl⟩
theorem b1T:T5 Tryz.prog 100 61=some (.int .i64::lvD):=by kernel_rfl
theorem b0E (t:Td):Fits (.int .i64::lvD) (tdC t):=⟨rfl,O5 t.data⟩
theorem c3x (zs:List Value):mkV Tryz.prog 61 zs= .agg zs.toArray:=by simp[mkV,Tryz.underlying61]
theorem c3E:Tryz.prog.eqGuardType Tryz.prog.depth 61=false:=by kernel_rfl
theorem c3K (t:Td):C9 (tdC t) (tdC t)=true:=by simp[C9,a1Y,tdC,byC,bv]
theorem Y3:∀l:List Td,(J3 l).length=l.length*17
 | []=>rfl
 | x::l=>by
  have ih:=Y3 l;unfold J3 at ih ⊢;rw[q9,f9,ih,m6];show 17+_=_;omega
theorem b5c (g0 g1 g2:Int) (A:Atom) (ad:Option Addr) (nl cl:Nat) (l:List Stp) (hA:Rd A ad 27 nl (l.flatMap stC)) (hl:l.length=nl) (hd:∀e∈l,e.data.length=16/\ -9223372036854775808<=e.n/\e.n<=9223372036854775807):
  FP 11 [.agg #[iI g0,iI g1,iI g2], .slice ad nl cl] [A] (Ps (.bool true) [A]):=by
 refine FE [0,0] Tryz.func11 λX F hX=>?_;refine J.qp (a2L) [] λ_=>?_;refine J.qF λ_=>?_;refine J.qc (b3n g0 g1 g2) [] λ_=>?_;rintro v As ⟨D,B,P,rfl,hD,hB,hP,rfl⟩;refine⟨_,rfl,trivial,?_⟩;have hgm:D8 D B P=true:=by simp[D8];omega
 refine J.turn1 [] rfl (As:=[l5 57 7 none 0 0 (x8 [])]) (λh s=>Sep.one ⟨rfl,rfl,rfl⟩) rfl ?_;refine J.q λ_=>?_;refine J.ca hX (by kernel_rfl) (b7q D B P hgm (l5 57 7 none 0 0 (x8 [])) (oad none) 0 0 [] (R8 _ _ none _ _ _) rfl (by decide)) [3] 0 rfl rfl rfl rfl rfl rfl (λ_=>rfl) ?_;rintro _ As ⟨q,nn,A0,rfl,hA0,rfl⟩;have hz:(Pv.new D B P []).Z=some (Fv.of (Dv.new D B P (lgN D B P))):=by
  show(if(M4 (Nand.new D B P)).2=0 then some (Fv.of (M4 (Nand.new D B P)).1)else none)=_;rw[b5x (Dv.Ok.new D B P (lgN D B P) hgm 0 (by decide))];rfl
 rw[a1f q nn A0 _ _ hz];refine⟨_,rfl,trivial,?_⟩;refine J.turn1 [4,5,6,7,8,9,10,11,12,13] rfl (As:=[PlA q nn A0 (Pv.new D B P [])]) (λh s=>Sep.hpOf.2 (by rw[a1f q nn A0 _ _ hz];exact s)) rfl ?_;have hK0:Pk (Pv.new D B P []) 51 0:=Pk.new hgm [] (by decide);have hG0:(Pv.new D B P []).log=[]:=rfl;generalize Pv.new D B P []=P0 at hA0 hK0 hG0 ⊢;clear hz;refine J.turn1 [] rfl (As:=[l5 61 17 none 0 0 (J3 [])]) (λh s=>Sep.one ⟨rfl,rfl,rfl⟩) rfl ?_;refine J.q λ_=>?_;refine J.lo (α:=(Nat×Pv×Pad×Option Nat×Nat)) (λz=>(z.1<=nl/\z.1<=50)/\z.2.2.1.Ok z.2.1/\Pk z.2.1 (51-z.1) z.1/\z.2.1.log.length=z.1) (λz=>[si 8 z.1,sv 7 (slv z.2.2.2.1 z.1 z.2.2.2.2),sp 6 q,sv 1 (.slice ad nl cl)]) [4,14] (λz=>[PlA q nn z.2.2.1 z.2.1,l5 61 17 z.2.2.2.1 z.1 z.2.2.2.2 (J3 z.2.1.log)]) (λz=>50-z.1) ((0,P0,A0,none,0)) (⟨⟨j4 _,j4 _⟩,hA0,hK0,by dsimp only;rw[hG0];rfl⟩) rfl ?_ (λ_=>rfl) λz hI=>?_
 ·show _=[_,l5 _ 17 none 0 0 (J3 P0.log)];rw[hG0];rfl
 clear hA0 hK0;obtain⟨i,P1,A1,ga,ca⟩:=z;dsimp only at hI ⊢;obtain⟨⟨hi1,hi2⟩,hA1,hK1,hg1⟩:=hI;refine J.qd (λ_ h1=>?_) λ_ h1=>?_
 ·simp only[i9,c9,g6]at h1;obtain⟨h1,h2⟩:=h1;have h2:i<50:=by omega
  obtain⟨x,hx⟩:∃x,l[i]? =some x:=⟨_,d5 (by omega)⟩;have hxd:=hd x (l7 hx);refine J.know (p:=∃g o,ad=some ⟨g,o,none⟩) (λh' s=>Rd.addr (hA _ (s.get (i:=1) rfl)) (by omega)) λhk=>?_;obtain⟨gs,os,rfl⟩:=hk;refine J.q λ_=>?_;refine J.v (stV x) rfl rfl (λhg a w he hw=>V4 tk rfl rfl he rfl rfl rfl (hA _ (hw.get (i:=1) rfl)) (by omega) (j:=i*27) (by omega) (O4 stC 27 (λ_=>rfl) l i x hx) rfl) ?_;rw[show 51-i=(50-i)+1 from by omega]at hK1;have hst:=b7p q nn A1 P1 hA1 (50-i) i hK1 (by omega) (by omega) x hxd.1;have hK2:=hK1.step (by omega) x hxd.1 hxd.2;have hg2:=(P1.step_L x).2;refine J.qc (hst) [4] λ_=>?_;rintro _ As ⟨A2,rfl,hA2,rfl⟩;generalize P1.step x=R at hA2 hK2 hg2 ⊢;obtain⟨P2,tq⟩:=R;dsimp only at hA2 hK2 hg2 ⊢;refine⟨_,rfl,trivial,?_⟩;refine J.q λ_=>?_;refine J.ap 14 15 0 ((a0B P1.log tq).trans (congrArg J3 hg2.symm)) λa3 c3=>?_;refine J.q λ_=>?_;refine J.n ((i+1,P2,A2,a3,c3)) (⟨⟨by dsimp only;omega,by dsimp only;omega⟩,hA2,by dsimp only;rw[show 51-(i+1)=50-i from by omega];exact hK2,by dsimp only;rw[hg2,f9,hg1];rfl⟩) (by dsimp only;omega) [0,1,2,3,4,5,6,7,8,9,10,11,12,13,14]
 clear h1;refine J.q λ_=>?_;refine J.turn1 [4] rfl (As:=[PlQ q nn P1.Z A1.f (pp A1.fp) (slv A1.a2 P1.log.length A1.c2), .pt A1.fp 247 [.slice (K4 A1.a) P1.L.length A1.c],rdA (K4 A1.a) 7 P1.L.length (x8 P1.L),l5 61 17 A1.a2 P1.log.length A1.c2 (J3 P1.log), .hp (HP.of (a0z nn A1 P1))]) (λh s=>b9z s) rfl ?_;refine J.qc (b2T q nn A1 P1 (by omega)) [4,17] λ_=>?_;rintro _ As ⟨a4,c4,rfl,rfl⟩;refine⟨_,rfl,trivial,?_⟩;refine J.q λ_=>?_;rw[hg1,show((i:Int) !=(i:Int))=false from by simp];refine J.qF λ_=>?_;refine J.q λ_=>?_;refine J.l (α:=(Nat×List Td)) (λz=>z.1<=i/\z.2.length=i/\∀t,z.1<=t->z.2[t]? =P1.log[t]?) (λz=>[si 51 z.1,si 50 i,sv 9 (slv a4 i c4),sv 7 (slv ga i ca),sp 6 q]) [19] (λz=>[l5 61 17 a4 i c4 (J3 z.2)]) (λz=>i-z.1) ((0,P1.log)) (⟨j4 _,hg1,λ_ _=>rfl⟩) λz hI=>?_;obtain⟨j,La⟩:=z;dsimp only at hI ⊢;obtain⟨hj1,hj2,hj3⟩:=hI;refine J.qd (λ_ h5=>?_) λ_ h5=>?_
 ·simp only[c9,g6]at h5;obtain⟨x,hx⟩:∃x,P1.log[j]? =some x:=⟨_,d5 (by omega)⟩;have hx2:La[j]? =some x:=by rw[hj3 j (j7 j)];exact hx
  refine J.know (λh' s=>u7 (c:=(ga,ca)) (by omega) (s.get (i:=14) rfl)) λhg=>?_;obtain⟨g1,rfl⟩:=hg;refine J.know (λh' s=>u7 (c:=(a4,c4)) (by omega) (s.get (i:=19) rfl)) λhg=>?_;obtain⟨g2,rfl⟩:=hg;refine J.pn 3 (.of [0,4,8,13,16,20,24,29,32]) [] [14,19] λ_ _=>?_;refine J.vT (tdV x) rfl rfl (λhg aa w he hC=>E6 tk rfl rfl he rfl rfl rfl (hC rfl _ (r8 (i:=19) rfl)) (by rw[show 0+(j:Int).toNat*17=j*17 from by omega];exact O4 tdC 17 (λ_=>rfl) La j x hx2) rfl) ?_;refine J.qn 3 λ_=>?_;refine J.vT (tdV x) rfl rfl (λhg aa w he hC=>E6 tk rfl rfl he rfl rfl rfl (hC rfl _ (r8 (i:=14) rfl)) (by rw[show 0+(j:Int).toNat*17=j*17 from by omega];exact O4 tdC 17 (λ_=>rfl) P1.log j x hx) rfl) ?_;refine J.vT (.bool false) rfl rfl (λhg aa w he hC=>(a2H (xs:=tdC x) (ys:=tdC x) rfl rfl rfl he rfl rfl b1T (b0E _) (b0E _) c3x c3E).trans (by rw[c3K];rfl)) ?_;refine J.qF λ_=>?_;refine J.openOwn 19 rfl rfl (λ_=>rfl) λr q1 q2 q3 q4=>?_;refine J.q λ_=>?_;refine J.s1 19 (J3 (La.set j ⟨99,x.data⟩)++r) ?_ ?_ ?_
  ·rw[f9,Y3];show 0+(j:Int).toNat*17+0<_;simp only[l6];omega
  ·rw[show 0+(j:Int).toNat*17+0=j*17+0 from by simp,H8 _ _ (by rw[Y3];omega)];exact congrArg (· ++r) (I2 tdC 17 (λ_=>rfl) 0 (iI 99) (y:=⟨99,x.data⟩) hx2 (by decide) rfl)
  refine J.closeOwn (e:=61) (size:=17) (n:=i) (cap:=c4) (xs:=J3 (La.set j ⟨99,x.data⟩)) 19 rfl rfl (by rw[Y3,n8,hj2]) q2 q3 ?_ ?_ rfl ?_
  ·rw[f9,Y3,n8];rw[Y3]at q4;exact q4
  ·rw[B6 (by rw[Y3,n8,hj2])]
  refine J.q λ_=>?_;refine J.n ((j+1,La.set j ⟨99,x.data⟩)) (⟨by dsimp only;omega,by dsimp only;rw[n8];exact hj2,λt ht=>by dsimp only at ht ⊢;rw[r9,d7 (by omega)];exact hj3 t (by omega)⟩) (by dsimp only;omega) [0,1,2,3,4,5,6,7,8,9,10,11,12,13,14,15,16,17,18,19]
 refine J.q λ_=>?_;have hlg:=b2T q nn A1 P1 (by omega);rw[hg1]at hlg;refine J.qc (hlg) [4,17] λ_=>?_;rintro _ As ⟨a5,c5,rfl,rfl⟩;refine⟨_,rfl,trivial,?_⟩;clear hj1 hj2 hj3 h5;refine J.pn 4 (.of [0,4,8,12,16,20,25,28,32,37,40,44,48]) [10,11,12] [14,20] λ_ _=>?_;rcases K7 i with h0 | h0
 ·rw[show((i:Int)==0)=true from by rw[h0];rfl];refine J.qn 1 λ_=>?_;refine J.vT (.bool true) rfl rfl (λhg aa w he hC=>by simp[G.on]at hg) ?_;refine J.vT (.bool true) rfl rfl (λhg aa w he hC=>by simp[G.on]at hg) ?_;refine J.qn 1 λ_=>?_;refine J.vT (.bool true) rfl rfl (λhg aa w he hC=>by simp[G.on]at hg) ?_;refine J.vT (.bool true) rfl rfl (λhg aa w he hC=>by simp[G.on]at hg) ?_;refine J.vT (.bool true) rfl rfl (λhg aa w he hC=>by simp[G.on]at hg) ?_;exact J.qx [1]
 rw[show((i:Int)==0)=false from by simp;omega];obtain⟨x,hx⟩:∃x,P1.log[0]? =some x:=⟨_,d5 (by omega)⟩;refine J.know (λh' s=>u7 (c:=(ga,ca)) (by omega) (s.get (i:=14) rfl)) λhg=>?_;obtain⟨g1,rfl⟩:=hg;refine J.know (λh' s=>u7 (c:=(a5,c5)) (by omega) (s.get (i:=20) rfl)) λhg=>?_;obtain⟨g2,rfl⟩:=hg;refine J.qn 2 λ_=>?_;refine J.vT (tdV x) rfl rfl (λhg aa w he hC=>E6 tk rfl rfl he rfl rfl rfl (hC rfl _ (r8 (i:=20) rfl)) (O4 tdC 17 (λ_=>rfl) P1.log 0 x hx) rfl) ?_;refine J.qn 2 λ_=>?_;refine J.vT (tdV x) rfl rfl (λhg aa w he hC=>E6 tk rfl rfl he rfl rfl rfl (hC rfl _ (r8 (i:=14) rfl)) (O4 tdC 17 (λ_=>rfl) P1.log 0 x hx) rfl) ?_;refine J.vT (.bool true) rfl rfl (λhg aa w he hC=>(I5 (xs:=tdC x) (ys:=tdC x) rfl rfl rfl he rfl rfl b1T (b0E _) (b0E _) c3x c3E).trans (by rw[c3K])) ?_;exact J.qx [1]
end Go.Proofs.YtpakpgkdpofbhaaGreat
namespace Go.Proofs.YtpakpgkdpofbhaaGreat
open Go Go.RowKit
open Go.ChangeShapes Go.WideShapes Go.ChangeAt
section
variable {H : Type} {enc : TypeId × Value → H} {w : World} {base : Nat} {spare : Nat → Bool} {held : Bool}
set_option maxRecDepth 100000 in
theorem c3G {fuel:Nat} {cs:List Value} {y:DataW H×List MemPlace} (h:DataW.trod enc Tryz.prog w base spare held fuel 57 cs=some y):∃x:Fl,cs=flC x:=by
 obtain⟨xs,n,_,_,hl,hlen,hf⟩:=DataW.trod_struct Tryz.underlying57 h;have hlen2:cs.length=7:=hl.trans (by kernel_rfl);have hx:xs.length=5:=hlen;have c1:Tryz.prog.cellsOf 3=1:=by kernel_rfl
 have c3:Tryz.prog.cellsOf 55=3:=by kernel_rfl
 match xs,hx with
 | [y0,y1,y2,y3,y4],_=>
  have h0:DataW.trod enc Tryz.prog w base spare held n 3 ((cs.drop 0).take (Tryz.prog.cellsOf 3))=some y0:=hf 0 _ rfl;have h1:DataW.trod enc Tryz.prog w base spare held n 3 ((cs.drop 1).take (Tryz.prog.cellsOf 3))=some y1:=hf 1 _ rfl;have h2:DataW.trod enc Tryz.prog w base spare held n 55 ((cs.drop 2).take (Tryz.prog.cellsOf 55))=some y2:=hf 2 _ rfl;have h3:DataW.trod enc Tryz.prog w base spare held n 3 ((cs.drop 5).take (Tryz.prog.cellsOf 3))=some y3:=hf 3 _ rfl;have h4:DataW.trod enc Tryz.prog w base spare held n 3 ((cs.drop 6).take (Tryz.prog.cellsOf 3))=some y4:=hf 4 _ rfl;rw[c1]at h0 h1 h3 h4;rw[c3]at h2;obtain⟨z0,z1,z2,m,_,_,g0,g1,g2⟩:=Deep.trod_struct3 Tryz.underlying55 h2;simp only[c1]at g0 g1 g2;obtain⟨n0,q0⟩:=J0 Tryz.underlying3 h0;obtain⟨n1,q1⟩:=J0 Tryz.underlying3 h1;obtain⟨n2,q2⟩:=J0 Tryz.underlying3 g0;obtain⟨n3,q3⟩:=J0 Tryz.underlying3 g1;obtain⟨n4,q4⟩:=J0 Tryz.underlying3 g2;obtain⟨n5,q5⟩:=J0 Tryz.underlying3 h3;obtain⟨n6,q6⟩:=J0 Tryz.underlying3 h4;refine⟨⟨n0,n1,n2,n3,n4,n5,n6⟩,?_⟩
  match cs,hlen2 with
  | [_,_,_,_,_,_,_],_=>
   simp at q0 q1 q2 q3 q4 q5 q6;subst q0 q1 q2 q3 q4 q5 q6;rfl
theorem c2u {n:Int} (h:(Lit.int .i64 n).wf=true): -9223372036854775808<=n/\n<=9223372036854775807:=by
 simp[Lit.wf,IntKind.min,IntKind.max,IntKind.bits,IntKind.signed]at h;omega
set_option maxRecDepth 100000 in
theorem b9W {fuel:Nat} {cs:List Value} {y:DataW H×List MemPlace} (h:DataW.trod enc Tryz.prog w base spare held fuel 64 cs=some y):∃x:Stp,(x.data.length=16/\ -9223372036854775808<=x.n/\x.n<=9223372036854775807)/\cs=stC x:=by
 obtain⟨xs,n,_,_,hl,hlen,hf⟩:=DataW.trod_struct Tryz.underlying64 h;have hlen2:cs.length=27:=hl.trans (by kernel_rfl);have hx:xs.length=6:=hlen;have c1:Tryz.prog.cellsOf 3=1:=by kernel_rfl
 have c16:Tryz.prog.cellsOf 30=16:=by kernel_rfl
 have c7:Tryz.prog.cellsOf 57=7:=by kernel_rfl
 match xs,hx with
 | [y0,y1,y2,y3,y4,y5],_=>
  have h0:DataW.trod enc Tryz.prog w base spare held n 3 ((cs.drop 0).take (Tryz.prog.cellsOf 3))=some y0:=hf 0 _ rfl;have h1:DataW.trod enc Tryz.prog w base spare held n 3 ((cs.drop 1).take (Tryz.prog.cellsOf 3))=some y1:=hf 1 _ rfl;have h2:DataW.trod enc Tryz.prog w base spare held n 30 ((cs.drop 2).take (Tryz.prog.cellsOf 30))=some y2:=hf 2 _ rfl;have h3:DataW.trod enc Tryz.prog w base spare held n 3 ((cs.drop 18).take (Tryz.prog.cellsOf 3))=some y3:=hf 3 _ rfl;have h4:DataW.trod enc Tryz.prog w base spare held n 3 ((cs.drop 19).take (Tryz.prog.cellsOf 3))=some y4:=hf 4 _ rfl;have h5:DataW.trod enc Tryz.prog w base spare held n 57 ((cs.drop 20).take (Tryz.prog.cellsOf 57))=some y5:=hf 5 _ rfl;rw[c1]at h0 h1 h3 h4;rw[c16]at h2;rw[c7]at h5;obtain⟨n0,q0⟩:=J0 Tryz.underlying3 h0;obtain⟨n1,q1⟩:=J0 Tryz.underlying3 h1;obtain⟨d,hd,q2⟩:=a4r h2;obtain⟨n3,q3,_,r3⟩:=DataW.trod_int Tryz.underlying3 h3;obtain⟨n4,q4⟩:=J0 Tryz.underlying3 h4;obtain⟨f,q5⟩:=c3G h5;refine⟨⟨n0,n1,d,n3,n4,f⟩,⟨hd,c2u r3⟩,?_⟩
  match cs,hlen2 with
  | [_,_,_,_,_,_,_,_,_,_,_,_,_,_,_,_,_,_,_,_,_,_,_,_,_,_,_],_=>
   simp at q0 q1 q3 q4;simp only[P4,Q0,S8,W9,B1]at q2;simp only[P4,Q0,S8,W9,flC]at q5;subst q0 q1 q3 q4;simp only[stC,O1]at q2 q5 ⊢;obtain⟨e0,e1,e2,e3,e4,e5,e6,e7,e8,e9,e10,e11,e12,e13,e14,e15,_⟩:=q2;obtain⟨u0,u1,u2,u3,u4,u5,u6,_⟩:=q5;exact⟨trivial,trivial,e0,e1,e2,e3,e4,e5,e6,e7,e8,e9,e10,e11,e12,e13,e14,e15,trivial,trivial,u0,u1,u2,u3,u4,u5,u6,trivial⟩
theorem b3a {held':Bool} {fuel:Nat} {a:Option Addr} {len cap:Nat} {x:DataW H×List MemPlace} (h:DataW.trod enc Tryz.prog w base spare held' fuel 70 [.slice a len cap]=some x):
  ∃l:List Stp,l.length=len/\(∀e∈l,e.data.length=16/\ -9223372036854775808<=e.n/\e.n<=9223372036854775807)/\rdP a 27 len (l.flatMap stC) (hl w):=
 a1A stC (λx=>x.data.length=16/\ -9223372036854775808<=x.n/\x.n<=9223372036854775807) Tryz.underlying70 (by kernel_rfl) (by decide) (λh=>b9W h) h
end
end Go.Proofs.YtpakpgkdpofbhaaGreat
