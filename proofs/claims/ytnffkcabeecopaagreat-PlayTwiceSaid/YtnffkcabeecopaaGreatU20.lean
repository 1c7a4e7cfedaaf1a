/- Helpers. No condition. -/
import Derived.Test.YtnffkcabeecopaaGreatU06
import Derived.Test.YtnffkcabeecopaaGreatU14
import Derived.Test.YtnffkcabeecopaaGreatU16
import Derived.Test.YtnffkcabeecopaaGreatU17
set_option maxRecDepth 20000
set_option linter.all false
namespace Go.Proofs.YtnffkcabeecopaaGreat
open Go Go.RowKit
theorem a2u:FP 67 [.pointer none] [] (Ps (iI 12) []):=by
 refine FE [0] Tryz.func67 λX F hX=>?_;refine J.qT λ_=>?_;exact J.qx []
theorem a7l (i:Int):FP 46 [.pointer none,iI i] [] (Ps (.tuple #[Z4 zd,iI 12]) []):=by
 refine FE [0,0] Tryz.func46 λX F hX=>?_;refine J.qp (a2u) [] λ_=>?_;refine J.qT λ_=>?_;exact J.qx []
theorem a4Z (e:En):FP 92 [.pointer none,enV e] [] (Ps (iI 12) []):=by
 refine FE [0,0] Tryz.func92 λX F hX=>?_;refine J.qp (a2u) [] λ_=>?_;refine J.qT λ_=>?_;exact J.qx []
theorem b0M (i:Int) (x:List UInt8):FP 44 [.pointer none,iI i,Z4 x] [] (Ps (iI 12) []):=by
 refine FE [0,0,0] Tryz.func44 λX F hX=>?_;refine J.qp (a4Z ⟨i,0,1,x⟩) [] λ_=>?_;exact J.qx []
theorem b3p (i:Int):FP 45 [.pointer none,iI i] [] (Ps (iI 12) []):=by
 refine FE [0,0] Tryz.func45 λX F hX=>?_;refine J.qp (a4Z ⟨i,0,2,zeros16⟩) [] λ_=>?_;exact J.qx []
theorem b0N:FP 25 [.pointer none] [] (Ps (iI 12) []):=by
 refine FE [0] Tryz.func25 λX F hX=>?_;refine J.qp (a2u) [] λ_=>?_;refine J.qT λ_=>?_;exact J.qx []
theorem b3q:FP 30 [.pointer none] [] (Ps (iI 12) []):=by
 refine FE [0] Tryz.func30 λX F hX=>?_;refine J.qp (a2u) [] λ_=>?_;refine J.qT λ_=>?_;exact J.qx []
theorem a7V (q n:Nat) (A:Pad) (P:Pv) (hZ:P.Z=none) (r2 r3:Value) (k m:Nat) (hG:P.M.Gd (Dv.costK+k) m) (hm:m<=1000):FP 107 [pp q] (PlQ q n P.Z A.f r2 r3::B8 n A P) (λv As=>∃A':Pad,v=iI P.mounts.2/\(A'.fp=A.fp/\A'.a=A.a/\A'.c=A.c/\A'.a2=A.a2/\A'.c2=A.c2)/\((∃Y,P.mounts.1={P with Z:=some Y}/\As=PlQ q n (some Y) A'.f r2 r3::FvP A'.f A'.p n A'.t A'.l A'.d Y)\/∃M,P.mounts.1={P with Z:=none,M:=M}/\As=[PlQ q n none A'.f r2 r3,f0 n M])):=by
 have hnd:P.nd=P.M:=by unfold Pv.nd;rw[hZ]
 have hms:P.mounts=if(p5 ((if P.M.off then P.M else P.M.setCut (-1) 0).onN)).2=0 then({P with Z:=some (Fv.of (p5 ((if P.M.off then P.M else P.M.setCut (-1) 0).onN)).1)},0)else({P with Z:=none,M:=(p5 ((if P.M.off then P.M else P.M.setCut (-1) 0).onN)).1.N},(p5 ((if P.M.off then P.M else P.M.setCut (-1) 0).onN)).2):=by unfold Pv.mounts;rw[hnd]
 rw[show B8 n A P=[f0 n P.M]from by unfold B8;rw[hZ],hZ];refine FE [2] Tryz.func107 λX F hX=>?_;refine J.qp (L5 n P.M) [2] λ_=>?_;refine J.qd (λ_ h1=>?_) λ_ h1=>?_
 ·have hoff:P.M.off=false:=by simpa using h1
  have e:(if P.M.off=true then P.M else P.M.setCut (-1) 0)=P.M.setCut (-1) 0:=if_neg (by rw[hoff];decide);rw[e]at hms;have hG2:(P.M.setCut (-1) 0).onN.Gd (Dv.costK+k) m:=(hG.cut (-1) 0 (by decide) (by decide)).on;refine J.qp (a4I n P.M (-1) 0) [2] λ_=>?_;refine J.qp (b0p n (P.M.setCut (-1) 0)) [2] λ_=>?_;refine J.qc (O5 n ((P.M.setCut (-1) 0)).onN k m hG2 hm rfl) [2] λ_=>?_;rintro v As (⟨he,f,p,t,ll,d,rfl,rfl⟩ | ⟨he,rfl,rfl⟩)
  ·refine⟨_,rfl,trivial,?_⟩;rw[if_pos he]at hms;refine J.qr [1,2,3,4,5,6,7] λ_=>?_;exact⟨⟨f,p,t,ll,d,A.fp,A.a,A.c,A.a2,A.c2⟩,by rw[hms],⟨rfl,rfl,rfl,rfl,rfl⟩, .inl ⟨_,by rw[hms],rfl⟩⟩
  ·refine⟨_,rfl,trivial,?_⟩;rw[if_neg he]at hms;refine J.qr [1,2] λ_=>?_;exact⟨A,by rw[hms],⟨rfl,rfl,rfl,rfl,rfl⟩, .inr ⟨_,by rw[hms],rfl⟩⟩
 ·have hoff:P.M.off=true:=by simpa using h1
  have e:(if P.M.off=true then P.M else P.M.setCut (-1) 0)=P.M:=if_pos hoff;rw[e]at hms;have hG2:P.M.onN.Gd (Dv.costK+k) m:=hG.on;refine J.qp (b0p n P.M) [2] λ_=>?_;refine J.qc (O5 n (P.M).onN k m hG2 hm rfl) [2] λ_=>?_;rintro v As (⟨he,f,p,t,ll,d,rfl,rfl⟩ | ⟨he,rfl,rfl⟩)
  ·refine⟨_,rfl,trivial,?_⟩;rw[if_pos he]at hms;refine J.qr [1,2,3,4,5,6,7] λ_=>?_;exact⟨⟨f,p,t,ll,d,A.fp,A.a,A.c,A.a2,A.c2⟩,by rw[hms],⟨rfl,rfl,rfl,rfl,rfl⟩, .inl ⟨_,by rw[hms],rfl⟩⟩
  ·refine⟨_,rfl,trivial,?_⟩;rw[if_neg he]at hms;refine J.qr [1,2] λ_=>?_;exact⟨A,by rw[hms],⟨rfl,rfl,rfl,rfl,rfl⟩, .inr ⟨_,by rw[hms],rfl⟩⟩
theorem b2b (q n:Nat) (A:Pad) (P:Pv) (hZ:P.Z=none) (r2 r3:Value) (k m:Nat) (hG:P.M.Gd (Dv.costK+k) m) (hm:m<=1000) (s:Stp) (hs:s.data.length=16):FP 64 [pp q,stV s] (PlQ q n P.Z A.f r2 r3::B8 n A P) (λv As=>∃A':Pad,v=tdV (P.does s).2/\(A'.fp=A.fp/\A'.a=A.a/\A'.c=A.c/\A'.a2=A.a2/\A'.c2=A.c2)/\((∃Y,(P.does s).1={P with Z:=some Y}/\As=PlQ q n (some Y) A'.f r2 r3::FvP A'.f A'.p n A'.t A'.l A'.d Y)\/∃M,(P.does s).1={P with Z:=none,M:=M}/\As=[PlQ q n none A'.f r2 r3,f0 n M])):=by
 have hnd:P.nd=P.M:=by unfold Pv.nd;rw[hZ]
 have hP:{P with Z:=none,M:=P.M}=P:=by rw[<- hZ]
 have hsN:∀N,P.setN N={P with Z:=none,M:=N}:=λN=>by unfold Pv.setN;rw[hZ]
 rw[show B8 n A P=[f0 n P.M]from by unfold B8;rw[hZ],hZ];refine FE [2,0] Tryz.func64 λX F hX=>?_;refine J.qd (λ_ h1=>?_) λ_ h1=>?_
 ·have e1:s.fn=1:=by simpa using h1
  have hd:P.does s=(P,⟨12,zd⟩):=by unfold Pv.does;rw[if_pos e1,hZ]
  refine J.pn 7 (.take true 0 (.take true 1 (.take true 2 (.take false 3 (.take true 4 (.take false 5 (.alt false 6 ((.of [28,32,36,42,46,48])) (.alt false 10 ((.of [26,28,32,36,46,48])) .non)))))))) [12] [1,3] λ_ _=>?_;refine J.alts ?_ ?_
  ·skip
   refine J.qp (a7l s.lpn) [] λ_=>?_;refine J.qr [1,2] λ_=>?_;refine⟨A,?_,⟨rfl,rfl,rfl,rfl,rfl⟩, .inr ⟨P.M,by rw[hd,hP],rfl⟩⟩;rw[hd];rfl
  ·skip
   refine J.qn 1 λ_=>?_;refine J.qp (a7l s.lpn) [] λ_=>?_;refine J.qr [1,2] λ_=>?_;refine⟨A,?_,⟨rfl,rfl,rfl,rfl,rfl⟩, .inr ⟨P.M,by rw[hd,hP],rfl⟩⟩;rw[hd];rfl
 have e1:s.fn≠1:=by simpa using h1
 refine J.qd (λ_ h2=>?_) λ_ h2=>?_
 ·have e2:s.fn=2:=by simpa using h2
  have hd:P.does s=(P,⟨12,zd⟩):=by unfold Pv.does;rw[if_neg e1,if_pos e2,hZ]
  refine J.p (.of [0,4,8,13,16,21,24,29,34,36,43]) [10] [1,3] λ_=>?_;refine J.qp (b0M s.lpn s.data) [] λ_=>?_;refine J.qr [1,2] λ_=>?_;refine⟨A,?_,⟨rfl,rfl,rfl,rfl,rfl⟩, .inr ⟨P.M,by rw[hd,hP],rfl⟩⟩;rw[hd];rfl
 have e2:s.fn≠2:=by simpa using h2
 refine J.qd (λ_ h3=>?_) λ_ h3=>?_
 ·have e3:s.fn=3:=by simpa using h3
  have hd:P.does s=(P,⟨12,zd⟩):=by unfold Pv.does;rw[if_neg e1,if_neg e2,if_pos e3,hZ]
  refine J.p (.of [0,4,8,13,16,21,26,28,35]) [8] [1,3] λ_=>?_;refine J.qp (b3p s.lpn) [] λ_=>?_;refine J.qr [1,2] λ_=>?_;refine⟨A,?_,⟨rfl,rfl,rfl,rfl,rfl⟩, .inr ⟨P.M,by rw[hd,hP],rfl⟩⟩;rw[hd];rfl
 have e3:s.fn≠3:=by simpa using h3
 refine J.qd (λ_ h4=>?_) λ_ h4=>?_
 ·have e4:s.fn=4:=by simpa using h4
  have hd:P.does s=(P,⟨12,zd⟩):=by unfold Pv.does;rw[if_neg e1,if_neg e2,if_neg e3,if_pos e4,hZ]
  refine J.qp (b0N) [] λ_=>?_;refine J.qr [1,2] λ_=>?_;refine⟨A,?_,⟨rfl,rfl,rfl,rfl,rfl⟩, .inr ⟨P.M,by rw[hd,hP],rfl⟩⟩;rw[hd];rfl
 have e4:s.fn≠4:=by simpa using h4
 refine J.qd (λ_ h5=>?_) λ_ h5=>?_
 ·have e5:s.fn=5:=by simpa using h5
  have hd:P.does s=(P,⟨12,zd⟩):=by unfold Pv.does;rw[if_neg e1,if_neg e2,if_neg e3,if_neg e4,if_pos e5,hZ]
  refine J.qp (b3q) [] λ_=>?_;refine J.qr [1,2] λ_=>?_;refine⟨A,?_,⟨rfl,rfl,rfl,rfl,rfl⟩, .inr ⟨P.M,by rw[hd,hP],rfl⟩⟩;rw[hd];rfl
 have e5:s.fn≠5:=by simpa using h5
 refine J.qd (λ_ h6=>?_) λ_ h6=>?_
 ·have e6:s.fn=6:=by simpa using h6
  have hd:P.does s=(P.setN (P.M.setCut s.n s.keep),⟨0,zd⟩):=by unfold Pv.does;rw[if_neg e1,if_neg e2,if_neg e3,if_neg e4,if_neg e5,if_pos e6,hnd]
  rw[hsN]at hd;refine J.p (.of [0,4,8,13,16,21,24,29,34]) [] [1,3] λ_=>?_;refine J.qp (a4I n P.M s.n s.keep) [2] λ_=>?_;refine J.qr [1,2] λ_=>?_;refine⟨A,?_,⟨rfl,rfl,rfl,rfl,rfl⟩, .inr ⟨_,by rw[hd],rfl⟩⟩;rw[hd];rfl
 have e6:s.fn≠6:=by simpa using h6
 refine J.qd (λ_ h7=>?_) λ_ h7=>?_
 ·have e7:s.fn=7:=by simpa using h7
  have hd:P.does s=(P.mounts.1,⟨P.mounts.2,zd⟩):=by unfold Pv.does;rw[if_neg e1,if_neg e2,if_neg e3,if_neg e4,if_neg e5,if_neg e6,if_pos e7]
  have hmm:=a7V q n A P hZ r2 r3 k m hG hm;rw[show B8 n A P=[f0 n P.M]from by unfold B8;rw[hZ],hZ]at hmm;refine J.qc (hmm) [1,2] λ_=>?_;rintro v As ⟨A',rfl,hA',(⟨Y,hY,rfl⟩ | ⟨M,hY,rfl⟩)⟩
  ·refine⟨_,rfl,trivial,?_⟩;refine J.qr [1,2,5,6,7,8,9] λ_=>?_;refine⟨A',?_,hA', .inl ⟨Y,by rw[hd,hY],rfl⟩⟩;rw[hd];rfl
  ·refine⟨_,rfl,trivial,?_⟩;refine J.qr [1,2] λ_=>?_;refine⟨A',?_,hA', .inr ⟨M,by rw[hd,hY],rfl⟩⟩;rw[hd];rfl
 have e7:s.fn≠7:=by simpa using h7
 refine J.qd (λ_ h8=>?_) λ_ h8=>?_
 ·have e8:s.fn=8:=by simpa using h8
  obtain⟨Q,hQ⟩:∃Q,Q=P.M.fault s.f.kind s.f.x s.f.y s.f.z s.f.n s.f.xx:=⟨_,rfl⟩;have hd:P.does s=(P.setN Q.2,if Q.1 then⟨0,zd⟩else⟨1,zd⟩):=by unfold Pv.does;rw[if_neg e1,if_neg e2,if_neg e3,if_neg e4,if_neg e5,if_neg e6,if_neg e7,if_pos e8,hnd,<- hQ]
  rw[hsN]at hd;refine J.p (.of [0,4,8,13,16,21,26]) [] [1,3] λ_=>?_;refine J.qp (U7 n P.M hG.ok s.f.at_ s.f.kind s.f.x s.f.y s.f.z s.f.n s.f.xx) [2] λ_=>?_;rw[<- hQ];refine J.qd (λ_ h9=>?_) λ_ h9=>?_
  ·rw[if_pos h9]at hd;refine J.qr [1,2] λ_=>?_;refine⟨A,?_,⟨rfl,rfl,rfl,rfl,rfl⟩, .inr ⟨_,by rw[hd],rfl⟩⟩;rw[hd];rfl
  ·rw[if_neg (by rw[h9];decide)]at hd;refine J.qr [1,2] λ_=>?_;refine⟨A,?_,⟨rfl,rfl,rfl,rfl,rfl⟩, .inr ⟨_,by rw[hd],rfl⟩⟩;rw[hd];rfl
 have e8:s.fn≠8:=by simpa using h8
 have hd:P.does s=(P,⟨1,zd⟩):=by unfold Pv.does;rw[if_neg e1,if_neg e2,if_neg e3,if_neg e4,if_neg e5,if_neg e6,if_neg e7,if_neg e8]
 refine J.qr [1,2] λ_=>?_;refine⟨A,?_,⟨rfl,rfl,rfl,rfl,rfl⟩, .inr ⟨P.M,by rw[hd,hP],rfl⟩⟩;rw[hd];rfl
theorem b2c (q n:Nat) (A:Pad) (P:Pv) (hA:A.Ok P) (hZ:P.Z=none) (k m:Nat) (hG:P.M.Gd (Dv.costK+k) m) (hm:m+(s6 P.M.ops P.L).length<=1000) (hL:P.L.length<=1000) (hlg:P.log.length<=1000) (s:Stp) (hs:s.data.length=16):FP 19 [pp q,stV s] (I5 q n A P) (λv As=>∃A':Pad,v=tdV (P.step s).2/\A'.Ok (P.step s).1/\As=I5 q n A' (P.step s).1):=by
 have hnd:P.nd=P.M:=by unfold Pv.nd;rw[hZ]
 obtain⟨D,hD⟩:∃D,s6 P.M.ops P.L=D:=⟨_,rfl⟩;obtain⟨R,hR⟩:∃R,C6 P.M.ops P.L=R:=⟨_,rfl⟩;rw[hD]at hm;have hrun:P.run=⟨R,P.log,none,D7 P.M D⟩:=by unfold Pv.run;rw[hnd,hD,hR];unfold Pv.setN;rw[hZ]
 have hst:P.step s=({(P.run.does s).1 with log:=(P.run.does s).1.log++[(P.run.does s).2]},(P.run.does s).2):=rfl;unfold I5;rw[show B8 n A P=[f0 n P.M]from by unfold B8;rw[hZ],hZ];refine FE [2,0] Tryz.func19 λX F hX=>?_;refine J.qF λ_=>?_;refine J.p (.of [0,4,8,13,16,20,24,29,34]) [] [1] λ_=>?_;refine J.qc (b5C A.fp n A.a A.c P.L hA.z hA.c hL P.M _ m hG) [2,3,5] λ_=>?_;rintro v As ⟨a',c',hz',hc',rfl,rfl⟩;refine⟨_,rfl,stq,?_⟩;rw[hR]at hc' ⊢;rw[hD];have hdo:=b2b q n A ⟨R,P.log,none,D7 P.M D⟩ rfl (pp A.fp) (slv A.a2 P.log.length A.c2) k (m+D.length) (V4 hG D) hm s hs;obtain⟨W,hW⟩:∃W,(⟨R,P.log,none,D7 P.M D⟩:Pv).does s=W:=⟨_,rfl⟩;rw[hrun,hW]at hst;rw[hW]at hdo;obtain⟨Wp,wt⟩:=W;dsimp only at hdo hst;refine J.qc (hdo) [1,5] λ_=>?_;rintro v As ⟨A',rfl,⟨q1,q2,q3,q4,q5⟩,(⟨Y,hY,rfl⟩ | ⟨M,hY,rfl⟩)⟩
 ·refine⟨_,rfl,trivial,?_⟩;refine J.pq (.of [0,4,8,12,17,21,26,30,32,36,43]) [8,9,10] [1,13] λ_ _=>?_;refine J.ap 4 14 0 (L7 P.log wt) λa3 c3=>?_;refine J.qr [1,2,3,4,5,8,9,10,11,12] λ_=>?_;refine⟨⟨A'.f,A'.p,A'.t,A'.l,A'.d,A.fp,a',c',a3,c3⟩,?_,?_,?_⟩
  ·rw[hst];rfl
  ·rw[hst,hY];exact⟨hz',hc'⟩
  ·rw[hst,hY];dsimp only;rw[List.length_append];rfl
 ·refine⟨_,rfl,trivial,?_⟩;refine J.pq (.of [0,4,8,12,17,21,26,30,32,36,43]) [8,9,10] [1,8] λ_ _=>?_;refine J.ap 4 9 0 (L7 P.log wt) λa3 c3=>?_;refine J.qr [1,2,3,4,5] λ_=>?_;refine⟨⟨A'.f,A'.p,A'.t,A'.l,A'.d,A.fp,a',c',a3,c3⟩,?_,?_,?_⟩
  ·rw[hst];rfl
  ·rw[hst,hY];exact⟨hz',hc'⟩
  ·rw[hst,hY];dsimp only;rw[List.length_append];rfl
def KS:Nat:=Fv.cW*200+(Dv.costS+(Dv.costK+1))
structure PvOk (P:Pv) (k m:Nat):Prop where
 z:∀Z,P.Z=some Z->Z.Ok k m
 g:P.Z=none->P.M.Gd k m
namespace PvOk
variable {P : Pv} {k m : Nat}
theorem nd (h:PvOk P k m):P.nd.Gd k m:=by
 unfold Pv.nd;cases hZ:P.Z with
 | some Z=>exact(h.z Z hZ).dv.gd
 | none=>exact h.g hZ
theorem setN (h:PvOk P k m) {N:Nand} {k' m':Nat} (hk:k'<=k) (hl:P.nd.Like N) (hG:N.Gd k' m') (hm:m<=m'):PvOk (P.setN N) k' m':=by
 unfold Pv.setN;unfold Pv.nd at hl;cases hZ:P.Z with
 | some Z=>
  rw[hZ]at hl;exact⟨λY hY=>by injection hY with hY;subst hY;exact((h.z Z hZ).less hk).setN hl hG,λh=>by cases h⟩
 | none=>exact⟨λY hY=>(by have hY:(none:Option Fv)=some Y:=hY;cases hY),λ_=>hG⟩
theorem less (h:PvOk P k m) {k' m':Nat} (hk:k'<=k) (hm:m<=m'):PvOk P k' m':=by
 have:=h.setN (N:=P.nd) hk ⟨rfl,rfl,rfl⟩ (h.nd.less hk hm) hm;unfold Pv.setN Pv.nd at this;cases hZ:P.Z with
 | some Z=>rw[hZ]at this;exact⟨λY hY=>by rw[hZ]at hY;injection hY with hY;subst hY;exact this.z _ rfl,λh=>by rw[hZ]at h;cases h⟩
 | none=>exact⟨λY hY=>(by rw[hZ]at hY;cases hY),λ_=>(h.g hZ).less hk hm⟩
theorem run (h:PvOk P k m):PvOk P.run k (m+(s6 P.nd.ops P.L).length):=by
 have:=h.setN (Nat.le_refl k) (a0N P.nd (s6 P.nd.ops P.L)) (V4 h.nd _) (Nat.le_add_right _ _);exact⟨this.z,this.g⟩
theorem does (h:PvOk P (KS+k) m) (s:Stp) (hs:s.data.length=16) (hn: -9223372036854775808<=s.n/\s.n<=9223372036854775807) (hk:k<=1000000000000000):PvOk (P.does s).1 k (m+1):=by
 have hK:KS=Fv.cW*200+(Dv.costS+(Dv.costK+1)):=rfl;have h1:PvOk P (KS+k) (m+1):=h.less (Nat.le_refl _) (Nat.le_succ m);have h0:PvOk P k (m+1):=h.less (by omega) (by omega);have hz:∀Y:Fv,Y.Ok k (m+1)->PvOk {P with Z:=some Y} k (m+1):=λY hY=>⟨λU hU=>by injection hU with hU;subst hU;exact hY,λh=>by cases h⟩;unfold Pv.does;split
 ·cases hZ:P.Z with
  | some Z=>exact hz _ (Fv.read_keep ((h0.z Z hZ)) _).1
  | none=>exact h0
 split
 ·cases hZ:P.Z with
  | some Z=>exact hz _ ((Fv.write_keep (k:=k) (m:=m+1) ((h1.z Z hZ).less (by omega)) _ hs).1)
  | none=>exact h0
 split
 ·cases hZ:P.Z with
  | some Z=>exact hz _ ((Fv.trim_keep (k:=k) (m:=m+1) ((h1.z Z hZ).less (by omega)) _).1)
  | none=>exact h0
 split
 ·cases hZ:P.Z with
  | some Z=>exact hz _ ((Fv.flush_keep (k:=k) (m:=m+1) ((h1.z Z hZ).less (by omega))).1)
  | none=>exact h0
 split
 ·cases hZ:P.Z with
  | some Z=>exact hz _ ((Fv.tick_keep (k:=k) (m:=m+1) ((h1.z Z hZ).less (by omega))).1)
  | none=>exact h0
 split
 ·exact h0.setN (Nat.le_refl _) (by unfold Nand.setCut;split<;>exact⟨rfl,rfl,rfl⟩) (h0.nd.cut _ _ hn.1 hn.2) (Nat.le_refl _)
 split
 ·have hG:(if P.nd.off=true then P.nd else P.nd.setCut (-1) 0).onN.Gd (Dv.costK+k) (m+1):=by
   have:=h.nd.less (k':=Dv.costK+k) (m':=m+1) (by omega) (by omega);split
   ·exact this.on
   ·exact(this.cut (-1) 0 (by decide) (by decide)).on
  have hm:=U8 hG;unfold Pv.mounts;dsimp only;generalize(if P.nd.off=true then P.nd else P.nd.setCut (-1) 0).onN=N1 at hm ⊢;split
  ·exact hz _ (Fv.of_ok hm.1 hk)
  ·exact⟨λY hY=>(by cases hY),λ_=>hm.1.gd⟩
 split
 ·exact(h.less (k':=k) (by omega) (Nat.le_refl m)).setN (Nat.le_refl _) (Nand.like_fault _ _ _ _ _ _ _) (Nand.Gd.fault (h.nd.less (by omega) (Nat.le_refl m)) _ _ _ _ _ _) (by omega)
 ·exact h0
theorem step (h:PvOk P (KS+k) m) (s:Stp) (hs:s.data.length=16) (hn: -9223372036854775808<=s.n/\s.n<=9223372036854775807) (hk:k<=1000000000000000):PvOk (P.step s).1 k (m+(s6 P.nd.ops P.L).length+1):=by
 have h2:=h.run.does s hs hn hk;exact⟨h2.z,h2.g⟩
theorem new {D B Pg:Nat} (hg:l9 D B Pg=true) (l:List Fl) {k:Nat} (hk:k<=1000000000000000):PvOk (Pv.new D B Pg l) k 0:=by
 have hG:(Nand.new D B Pg).Gd (Dv.costK+k) 0:=a2x D B Pg hg _ (by
  have h1:Dv.costK<=UN*605:=Nat.le_trans (by omega) a6i;have h2:UN*605<=100000000000000:=by decide
  omega)
 have hm:=U8 hG;refine⟨λZ hZ=>?_,λ_=>hm.1.gd⟩;have hZ:(if(p5 (Nand.new D B Pg)).2=0 then some (Fv.of (p5 (Nand.new D B Pg)).1)else none)=some Z:=hZ;split at hZ
 ·injection hZ with hZ;subst hZ;exact Fv.of_ok hm.1 hk
 ·cases hZ
end PvOk
theorem a7v (ops:Int) (L:List Fl):(s6 ops L).length+(C6 ops L).length=L.length:=by
 have:=congrArg List.length (List.takeWhile_append_dropWhile (p:=b3z ops) (l:=L));rw[List.length_append]at this;exact this
theorem Pv.does_L (P:Pv) (s:Stp):(P.does s).1.L=P.L/\(P.does s).1.log=P.log:=by
 have hs:∀N,(P.setN N).L=P.L/\(P.setN N).log=P.log:=λN=>by unfold Pv.setN;split<;>exact⟨rfl,rfl⟩
 unfold Pv.does Pv.mounts;dsimp only
 repeat' split
 all_goals first | exact⟨rfl,rfl⟩ | exact hs _
theorem Pv.step_L (P:Pv) (s:Stp):(P.step s).1.L=C6 P.nd.ops P.L/\(P.step s).1.log=P.log++[(P.step s).2]:=by
 have h:=P.run.does_L s;have h2:P.run.log=P.log:=by unfold Pv.run Pv.setN;split<;>rfl
 exact⟨h.1,congrArg (· ++[(P.step s).2]) (h.2.trans h2)⟩
structure Pk (P:Pv) (k m:Nat):Prop where
 ok:∃j,PvOk P (KS*k) j/\j+P.L.length<=m
theorem b5T:KS<=2000000000000:=Nat.le_trans a6i (by decide)
theorem Pk.new {D B Pg:Nat} (hg:l9 D B Pg=true) (l:List Fl) {k:Nat} (hk:k<=100):Pk (Pv.new D B Pg l) k l.length:=by
 have h1:=b5T;have h2:KS*k<=2000000000000*100:=Nat.mul_le_mul h1 hk;refine⟨0,PvOk.new hg l (by omega),?_⟩;rw[Nat.zero_add];show(x5 P5 (plF D B Pg l)).length<=_;rw[(Q3 _ _).length_eq];exact List.length_filter_le _ _
theorem Pk.less {P:Pv} {k m m':Nat} (h:Pk P k m) (hm:m<=m'):Pk P k m':=let⟨j,h1,h2⟩:=h;⟨j,h1,Nat.le_trans h2 hm⟩
theorem Pk.step {P:Pv} {k m:Nat} (h:Pk P (k+1) m) (hk:k<=100) (s:Stp) (hs:s.data.length=16) (hn: -9223372036854775808<=s.n/\s.n<=9223372036854775807):Pk (P.step s).1 k (m+1):=by
 obtain⟨j,h1,h2⟩:=h;have h3:KS*k<=2000000000000*100:=Nat.mul_le_mul b5T hk;have h4:=a7v P.nd.ops P.L;rw[show KS*(k+1)=KS+KS*k from by rw[Nat.mul_succ,Nat.add_comm]]at h1;refine⟨_,h1.step s hs hn (by omega),?_⟩;rw[(P.step_L s).1];omega
theorem Fn.hp {P:Program} {f:FuncId} {args:List Value} {Pre:List Atom} {Q:Value->List Atom->Prop} (c:Fn P f args Pre Q):Fn P f args [.hp (HP.of Pre)] (λv As=>∃Bs,Q v Bs/\As=[.hp (HP.of Bs)]):=
 λF w s=>(c F w (Sep.unpack s)).mono λ_ _ ⟨v,As,h1,h2,h3,h4⟩=>⟨v,_,h1,⟨As,h2,rfl⟩,Sep.pack h3,h4⟩
theorem Sep.packTail {h:Hl} (L M:List Atom) (s:Sep (L++M) h):Sep (L++[.hp (HP.of M)]) h:=by
 obtain⟨own,hw⟩:=s;refine⟨λb=>min (own b) L.length,λi B hB=>?_⟩;rcases Nat.lt_or_ge i L.length with hi | hi
 ·rw[List.getElem?_append_left hi]at hB;refine Atom.up (λb o hb=>?_) (hw i B (by rw[List.getElem?_append_left hi];exact hB));rw[res_some]at hb ⊢;exact⟨by rw[hb.1];omega,hb.2⟩
 ·rw[List.getElem?_append_right hi]at hB;have he:i-L.length=0:=by
   rcases Nat.eq_zero_or_pos (i-L.length)with e | e
   ·exact e
   ·rw[List.getElem?_eq_none (by simp;omega)]at hB;cases hB
  rw[he]at hB;injection hB with hB;subst hB;refine⟨λb=>own b-L.length,λj B hB=>?_⟩;refine Atom.up (λb o hb=>?_) (hw (L.length+j) B (by rw[List.getElem?_append_right (by omega),Nat.add_sub_cancel_left];exact hB));rw[res_some]at hb ⊢;refine⟨by rw[hb.1];omega,?_⟩;rw[res_some];exact⟨by rw[hb.1];omega,hb.2⟩
def PlA (q n:Nat) (A:Pad) (P:Pv):Atom:= .hp (HP.of (I5 q n A P))
theorem a7I {q n:Nat} {A:Pad} {P:Pv} {h:Hl} (s:Sep [PlA q n A P] h):Sep [PlQ q n P.Z A.f (.pointer (some ⟨A.fp,0,none⟩)) (slv A.a2 P.log.length A.c2), .pt A.fp 176 [.slice (p9 A.a) P.L.length A.c],rdA (p9 A.a) 7 P.L.length (d5 P.L),c8 50 17 A.a2 P.log.length A.c2 (s5 P.log), .hp (HP.of (B8 n A P))] h:=
 Sep.packTail [PlQ q n P.Z A.f (.pointer (some ⟨A.fp,0,none⟩)) (slv A.a2 P.log.length A.c2), .pt A.fp 176 [.slice (p9 A.a) P.L.length A.c],rdA (p9 A.a) 7 P.L.length (d5 P.L),c8 50 17 A.a2 P.log.length A.c2 (s5 P.log)] (B8 n A P) (Sep.hpOf.1 s)
theorem a6G (q n:Nat) (A:Pad) (P:Pv) (hA:A.Ok P) (k m:Nat) (hP:Pk P (k+1) m) (hm:m<=1000) (hlg:P.log.length<=1000) (s:Stp) (hs:s.data.length=16):Fn Tryz.prog 19 [.pointer (some ⟨q,0,none⟩),stV s] [PlA q n A P] (λv As=>∃A':Pad,v=tdV (P.step s).2/\A'.Ok (P.step s).1/\As=[PlA q n A' (P.step s).1]):=by
 obtain⟨j,h1,h2⟩:=hP.ok;have h4:=a7v P.nd.ops P.L;rw[show KS*(k+1)=KS+KS*k from by rw[Nat.mul_succ,Nat.add_comm]]at h1;have hgo:Fn Tryz.prog 19 [.pointer (some ⟨q,0,none⟩),stV s] (I5 q n A P) (λv As=>∃A':Pad,v=tdV (P.step s).2/\A'.Ok (P.step s).1/\As=I5 q n A' (P.step s).1):=by
  cases hZ:P.Z with
  | some Z=>
   have hnd:P.nd=Z.S.N:=by unfold Pv.nd;rw[hZ]
   rw[hnd]at h4;exact a0K q n A P hA Z hZ (KS*k) j ((h1.z Z hZ).less (by unfold KS;omega)) (by omega) (by omega) hlg s hs
  | none=>
   have hnd:P.nd=P.M:=by unfold Pv.nd;rw[hZ]
   rw[hnd]at h4;exact b2c q n A P hA hZ (KS*k) j ((h1.g hZ).less (by unfold KS;omega) (Nat.le_refl _)) (by omega) (by omega) hlg s hs
 exact(Fn.hp hgo).mono λv As ⟨Bs,⟨A',e1,e2,e3⟩,e4⟩=>⟨A',e1,e2,by rw[e4,e3];rfl⟩
def a8A (P:Pv):List Nat:=match P.Z with | some _=>[2] | none=>[0]
theorem a9A {n:Nat} {A:Pad} {P:Pv} {h:Hl} (s:Sep [.hp (HP.of (B8 n A P))] h):Sep [f0 n P.nd, .hp (HP.of (D5 (B8 n A P) (a8A P)))] h:=by
 have s:=Sep.hpOf.1 s;have hp:n8 (B8 n A P) (a8A P)=[f0 n P.nd]:=by
  unfold B8 a8A Pv.nd;cases P.Z<;>rfl
 have s2:=s.split (is:=a8A P) (by unfold a8A B8;cases P.Z<;>rfl);rw[hp]at s2;exact s2.place (λj=>1-j) (λj=>1-j) λj B hB=> .inr (by
  match j,hB with
  | 0,hB=>exact⟨hB,rfl⟩
  | 1,hB=>exact⟨hB,rfl⟩
  | k+2,hB=>simp at hB)
theorem a7c:y9 Tryz.prog 100 50=some (.int .i64::lvD):=by kernel_rfl
theorem a5U (t:Td):Fits (.int .i64::lvD) (tdC t):=⟨rfl,I4 t.data⟩
theorem b7w (zs:List Value):mkV Tryz.prog 50 zs= .agg zs.toArray:=by simp[mkV,Tryz.underlying50]
theorem b7C:Tryz.prog.eqGuardType Tryz.prog.depth 50=false:=by kernel_rfl
theorem b7G (t:Td):i5 (tdC t) (tdC t)=true:=by simp[i5,Z7,tdC,byC,bv]
theorem b3D {E:Env} {n:Nat} {ac:Act} {w:World} {o:Oper} {x y:Operand} {k1 k2 t1 t2:Nat} {g1 g2:G} {a:Option Addr} {m c h:Nat} {kk:IntKind} (hop:o.op= .slice 24 x none (some y) none) (hx:ev E x=some ⟨k1, .slice a m c,t1,g1⟩) (hy:ev E y=some ⟨k2, .int kk h,t2,g2⟩) (he:EnvOK n E ac) (v1:g1.on=true) (v2:g2.on=true) (hc:h<=c):
  (execOp ac.eval o).run Tryz.prog w= .ok (.value (.slice a h c)) w:=by
 have e1:=f9 he hx;have e2:=f9 he hy;simp only[Slot.val,v1,v2]at e1 e2;obtain⟨d,f,zv,ok⟩:=d8 (tk.get (t:=24) rfl);obtain⟨fe,rfl,g1,g2⟩:=ok.slice rfl;have h0:∀ad:Addr,ad.add 0=ad:=λad=>by unfold Addr.add;rw[if_pos rfl]
 cases a with
 | none=>
  simp only[execOp,hop,Option.map_some,Option.map_none,e1,e2,Instr.sliceAt,Instr.slice,Instr.sliceBounds,Instr.sliceBound,asIntOf,Sem.run_bind,Sem.run_pure,Result.andThen_ok,d4 ok.hd,j4 g1,g2];simp[hc,h0]
 | some ad=>
  simp only[execOp,hop,Option.map_some,Option.map_none,e1,e2,Instr.sliceAt,Instr.slice,Instr.sliceBounds,Instr.sliceBound,asIntOf,Sem.run_bind,Sem.run_pure,Result.andThen_ok,d4 ok.hd,j4 g1,g2];simp[hc,h0]
theorem a6y (g0 g1 g2:Int) (A:Atom) (ad0:Option Addr) (nf cf:Nat) (fs:List Fl) (hF:Rd A ad0 7 nf (d5 fs)) (hf:fs.length=nf) (hcf:nf<=cf) (ad:Option Addr) (nl cl:Nat) (l:List Stp) (hA:Rd A ad 27 nl (l.flatMap stC)) (hl:l.length=nl) (hd:∀e∈l,e.data.length=16/\ -9223372036854775808<=e.n/\e.n<=9223372036854775807):
  FP 4 [.agg #[iI g0,iI g1,iI g2], .slice ad0 nf cf, .slice ad nl cl] [A] (Ps (.bool true) [A]):=by
 refine FE [0,0,0] Tryz.func4 λX F hX=>?_;refine J.qp (a4Q) [] λ_=>?_;refine J.qF λ_=>?_;refine J.qc (b2M g0 g1 g2) [] λ_=>?_;rintro v As ⟨D,B,P,rfl,hD,hB,hP,rfl⟩;refine⟨_,rfl,trivial,?_⟩;have hgm:l9 D B P=true:=by simp[l9];omega
 refine J.qn 8 λ_=>?_;obtain⟨k,hk⟩:∃k:Nat,min nf 15=k:=⟨_,rfl⟩;rw[show(if(15:Int)<(nf:Int)then(15:Int)else(nf:Int))=((k:Nat):Int)from by split<;>omega];refine J.v (.slice ad0 k cf) rfl rfl (λ_ a w he hC=>b3D rfl rfl rfl he rfl rfl (by omega)) ?_;have hF2:Rd A ad0 7 k (d5 (fs.take k)):=by
  have:=hF.take k (by omega)
  rwa [show(d5 fs).take (k*7)=d5 (fs.take k)from a1a fs k]at this
 have hfk:(fs.take k).length=k:=by rw[List.length_take];omega
 obtain⟨fl,hfl⟩:∃fl,fs.take k=fl:=⟨_,rfl⟩;rw[hfl]at hF2 hfk;have hz:(Pv.new D B P fl).Z=some (Fv.of (Dv.new D B P (lgN D B P))):=by
  show(if(p5 (Nand.new D B P)).2=0 then some (Fv.of (p5 (Nand.new D B P)).1)else none)=_;rw[a1q (Dv.Ok.new D B P (lgN D B P) hgm 0 (by decide))];rfl
 have hK0:Pk (Pv.new D B P fl) 61 15:=(Pk.new hgm fl (by decide)).less (by omega);have hnew:=a7W D B P hgm A ad0 k cf fl hF2 hfk (by omega);refine J.p (.of [1,4,13,16,10,23,24,28]) [5,6,7] [2] λ_=>?_;refine J.qc (hnew) [1] λ_=>?_;rintro _ As ⟨q1,n1,A1,rfl,hA1,rfl⟩;rw[v6 q1 n1 A1 _ _ hz];refine⟨_,rfl,stq,?_⟩;refine J.qc (hnew) [1] λ_=>?_;rintro _ As ⟨q2,n2,A2,rfl,hA2,rfl⟩;rw[v6 q2 n2 A2 _ _ hz];refine⟨_,rfl,stq,?_⟩;refine J.q λ_=>?_;refine J.turn1 [3,4,5,6,7,8,9,10,11,12] rfl (As:=[PlA q1 n1 A1 (Pv.new D B P fl)]) (λh s=>Sep.hpOf.2 (by rw[v6 q1 n1 A1 _ _ hz];exact s)) rfl ?_;refine J.turn1 [13,14,15,16,17,18,19,20,21,22] rfl (As:=[PlA q2 n2 A2 (Pv.new D B P fl)]) (λh s=>Sep.hpOf.2 (by rw[v6 q2 n2 A2 _ _ hz];exact s)) rfl ?_;have hG0:(Pv.new D B P fl).log=[]:=rfl;generalize Pv.new D B P fl=P0 at hA1 hA2 hK0 hG0 ⊢;clear hz hnew;refine J.q λ_=>?_;refine J.l (α:=(Nat×Pv×Pad×Pad)) (λz=>(z.1<=nl/\z.1<=60)/\z.2.2.1.Ok z.2.1/\z.2.2.2.Ok z.2.1/\Pk z.2.1 (61-z.1) (15+z.1)/\z.2.1.log.length=z.1) (λz=>[si 10 z.1,sp 9 q2,sp 8 q1,sv 2 (.slice ad nl cl)]) [3,13] (λz=>[PlA q1 n1 z.2.2.1 z.2.1,PlA q2 n2 z.2.2.2 z.2.1]) (λz=>60-z.1) ((0,P0,A1,A2)) (⟨⟨Nat.zero_le _,Nat.zero_le _⟩,hA1,hA2,hK0,by dsimp only;rw[hG0];rfl⟩) λz hI=>?_;clear hA1 hA2 hK0;obtain⟨i,P1,B1,B2⟩:=z;dsimp only at hI ⊢;obtain⟨⟨hi1,hi2⟩,hB1,hB2,hK1,hg1⟩:=hI;refine J.qd (λ_ h1=>?_) λ_ h1=>?_
 ·simp only[Bool.and_eq_true,decide_eq_true_eq,Int.ofNat_lt]at h1;obtain⟨h1,h2⟩:=h1;have h2:i<60:=by omega
  obtain⟨x,hx⟩:∃x,l[i]? =some x:=⟨_,List.getElem?_eq_getElem (by omega)⟩;have hxd:=hd x (List.mem_of_getElem? hx);refine J.know (p:=∃g o,ad=some ⟨g,o,none⟩) (λh' s=>Rd.addr (hA _ (s.get (i:=1) rfl)) (by omega)) λhk=>?_;obtain⟨gs,os,rfl⟩:=hk;rw[show 61-i=(60-i)+1 from by omega]at hK1;have hst1:=a6G q1 n1 B1 P1 hB1 (60-i) (15+i) hK1 (by omega) (by omega) x hxd.1;have hst2:=a6G q2 n2 B2 P1 hB2 (60-i) (15+i) hK1 (by omega) (by omega) x hxd.1;have hK2:=hK1.step (by omega) x hxd.1 hxd.2;have hg2:=(P1.step_L x).2;refine J.pn 4 (.of [0,4,8,12,17,20,24,28,32,36,40,45,52,56,60,64,69,50,74,76,80]) [] [1] λ_ _=>?_;refine J.vT (iI x.n) rfl rfl (λhg a w he hC=>U4 tk rfl rfl he rfl rfl rfl (hA _ (hC rfl _ (d7 (i:=1) rfl))) (by omega) (j:=i*27+18) (by omega) (D3 stC 27 (λ_=>rfl) hx 18 (by omega))) ?_;refine J.qn 2 λ_=>?_
  by_cases hbig:x.n>1048576
  ·rw[decide_eq_true hbig];refine J.qn 3 λ_=>?_;refine J.vT (.bool true) rfl rfl (λhg aa w he hC=>by simp[G.on]at hg) ?_;refine J.vT (.bool true) rfl rfl (λhg aa w he hC=>by simp[G.on]at hg) ?_;refine J.qn 3 λ_=>?_;refine J.vT (.bool true) rfl rfl (λhg aa w he hC=>by simp[G.on]at hg) ?_;refine J.vT (.bool true) rfl rfl (λhg aa w he hC=>by simp[G.on]at hg) ?_;refine J.q λ_=>?_;refine J.gcase hX rfl rfl rfl stq (λh=>by cases h) λ_=>?_;refine J.q λ_=>?_;refine J.gcase hX rfl rfl rfl stq (λh=>by cases h) λ_=>?_;refine J.vT (.bool true) rfl rfl (λhg aa w he hC=>by simp[G.on]at hg) ?_;refine J.qT λ_=>?_;refine J.q λ_=>?_;refine J.v (iI x.n) rfl rfl (λhg a w he hw=>U4 tk rfl rfl he rfl rfl rfl (hA _ (hw.get (i:=1) rfl)) (by omega) (j:=i*27+18) (by omega) (D3 stC 27 (λ_=>rfl) hx 18 (by omega))) ?_;refine J.qr [1] λ_=>?_;exact⟨by rw[decide_eq_true hbig],rfl⟩
  rw[decide_eq_false hbig];refine J.qn 4 λ_=>?_;refine J.vT (stV x) rfl rfl (λhg a w he hC=>J4 tk rfl rfl he rfl rfl rfl (hA _ (hC rfl _ (d7 (i:=1) rfl))) (by omega) (j:=i*27) (by omega) (C7 stC 27 (λ_=>rfl) l i x hx) rfl) ?_;refine J.qn 4 λ_=>?_;refine J.vT (stV x) rfl rfl (λhg a w he hC=>J4 tk rfl rfl he rfl rfl rfl (hA _ (hC rfl _ (d7 (i:=1) rfl))) (by omega) (j:=i*27) (by omega) (C7 stC 27 (λ_=>rfl) l i x hx) rfl) ?_;refine J.qc (hst1) [3] λ_=>?_;rintro _ As ⟨C1,rfl,hC1,rfl⟩;refine⟨_,rfl,stq,?_⟩;refine J.qc (hst2) [13] λ_=>?_;rintro _ As ⟨C2,rfl,hC2,rfl⟩;generalize P1.step x=R at hC1 hC2 hK2 hg2 ⊢;obtain⟨P2,tq⟩:=R;dsimp only at hC1 hC2 hK2 hg2 ⊢;refine⟨_,rfl,stq,?_⟩;refine J.vT (.bool false) rfl rfl (λhg aa w he hC=>(a1o (xs:=tdC tq) (ys:=tdC tq) rfl rfl rfl he rfl rfl a7c (a5U _) (a5U _) b7w b7C).trans (by rw[b7G];rfl)) ?_;refine J.qF λ_=>?_;refine J.q λ_=>?_;refine J.n ((i+1,P2,C1,C2)) (⟨⟨by dsimp only;omega,by dsimp only;omega⟩,hC1,hC2,by dsimp only;rw[show 61-(i+1)=60-i from by omega];exact hK2,by dsimp only;rw[hg2,List.length_append,hg1];rfl⟩) (by dsimp only;omega) [0,1,2,3,4,5,6,7,8,9,10,11,12,13,14,15,16,17,18,19,20,21,22]
 refine J.turn1 [3] rfl (As:=[PlQ q1 n1 P1.Z B1.f (pp B1.fp) (slv B1.a2 P1.log.length B1.c2), .pt B1.fp 176 [.slice (p9 B1.a) P1.L.length B1.c],rdA (p9 B1.a) 7 P1.L.length (d5 P1.L),c8 50 17 B1.a2 P1.log.length B1.c2 (s5 P1.log), .hp (HP.of (B8 n1 B1 P1))]) (λh s=>a7I s) rfl ?_;refine J.turn1 [13] rfl (As:=[PlQ q2 n2 P1.Z B2.f (pp B2.fp) (slv B2.a2 P1.log.length B2.c2), .pt B2.fp 176 [.slice (p9 B2.a) P1.L.length B2.c],rdA (p9 B2.a) 7 P1.L.length (d5 P1.L),c8 50 17 B2.a2 P1.log.length B2.c2 (s5 P1.log), .hp (HP.of (B8 n2 B2 P1))]) (λh s=>a7I s) rfl ?_;refine J.turn1 [26] rfl (As:=[f0 n1 P1.nd, .hp (HP.of (D5 (B8 n1 B1 P1) (a8A P1)))]) (λh s=>a9A s) rfl ?_;refine J.turn1 [30] rfl (As:=[f0 n2 P1.nd, .hp (HP.of (D5 (B8 n2 B2 P1) (a8A P1)))]) (λh s=>a9A s) rfl ?_;have hlg1:=a7X q1 n1 B1 P1 (by omega);have hlg2:=a7X q2 n2 B2 P1 (by omega);have hmin:min nl 60=i:=by
  simp only[Bool.and_eq_false_iff,decide_eq_false_iff_not,Int.ofNat_lt]at h1;rcases h1 with h1 | h1<;>omega
 rw[hg1]at hlg1 hlg2 ⊢;refine J.qc (hlg1) [3,25] λ_=>?_;rintro _ As ⟨a4,c4,rfl,rfl⟩;refine⟨_,rfl,trivial,?_⟩;refine J.qc (hlg2) [13,29] λ_=>?_;rintro _ As ⟨a5,c5,rfl,rfl⟩;refine⟨_,rfl,trivial,?_⟩;refine J.q λ_=>?_;refine J.l (α:=Nat) (λj=>j<=i) (λj=>[si 13 j,sv 11 (slv a4 i c4),sv 12 (slv a5 i c5),sp 9 q2,sp 8 q1,sv 2 (.slice ad nl cl)]) [] (λj=>[]) (λj=>i-j) (0) (Nat.zero_le _) λj hI=>?_;refine J.qd (λ_ h5=>?_) λ_ h5=>?_
 ·simp only[Bool.and_eq_true,decide_eq_true_eq,Int.ofNat_lt]at h5;obtain⟨h5,_⟩:=h5;obtain⟨x,hx⟩:∃x,P1.log[j]? =some x:=⟨_,List.getElem?_eq_getElem (by omega)⟩;refine J.know (λh' s=>g7 (c:=(a4,c4)) (by omega) (s.get (i:=33) rfl)) λhg=>?_;obtain⟨g1,rfl⟩:=hg;refine J.know (λh' s=>g7 (c:=(a5,c5)) (by omega) (s.get (i:=34) rfl)) λhg=>?_;obtain⟨g2,rfl⟩:=hg;refine J.pn 3 (.of [0,4,8,13,16,20,24,29,32]) [] [33,34] λ_ _=>?_;refine J.vT (tdV x) rfl rfl (λhg aa w he hC=>m7 tk rfl rfl he rfl rfl rfl (hC rfl _ (d7 (i:=33) rfl)) (by rw[show 0+(j:Int).toNat*17=j*17 from by omega];exact C7 tdC 17 (λ_=>rfl) P1.log j x hx) rfl) ?_;refine J.qn 3 λ_=>?_;refine J.vT (tdV x) rfl rfl (λhg aa w he hC=>m7 tk rfl rfl he rfl rfl rfl (hC rfl _ (d7 (i:=34) rfl)) (by rw[show 0+(j:Int).toNat*17=j*17 from by omega];exact C7 tdC 17 (λ_=>rfl) P1.log j x hx) rfl) ?_;refine J.vT (.bool false) rfl rfl (λhg aa w he hC=>(a1o (xs:=tdC x) (ys:=tdC x) rfl rfl rfl he rfl rfl a7c (a5U _) (a5U _) b7w b7C).trans (by rw[b7G];rfl)) ?_;refine J.qF λ_=>?_;refine J.q λ_=>?_;refine J.n (j+1) (by omega) (by omega) [0,1,2,3,4,5,6,7,8,9,10,11,12,13,14,15,16,17,18,19,20,21,22,23,24,25,26,27,28,29,30,31,32,33,34]
 clear h5;refine J.qn 8 λ_=>?_;rw[show((i:Int)==(i:Int))=true from beq_self_eq_true _];refine J.qn 7 λ_=>?_;rw[show((i:Int)==(if(60:Int)<(nl:Int)then(60:Int)else(nl:Int)))=true from by rw[beq_iff_eq];split<;>omega];refine J.qc (P7 q1 n1 (flP P1.Z B1.f) (pp B1.fp) (slv B1.a2 i B1.c2)) [3] λ_=>?_;rintro _ As ⟨rfl,rfl⟩;refine⟨_,rfl,trivial,?_⟩;refine J.qc (a4G n1 P1.nd) [26] λ_=>?_;rintro _ As ⟨rfl,rfl⟩;refine⟨_,rfl,trivial,?_⟩;refine J.qc (P7 q2 n2 (flP P1.Z B2.f) (pp B2.fp) (slv B2.a2 i B2.c2)) [13] λ_=>?_;rintro _ As ⟨rfl,rfl⟩;refine⟨_,rfl,trivial,?_⟩;refine J.qc (a4G n2 P1.nd) [30] λ_=>?_;rintro _ As ⟨rfl,rfl⟩;refine⟨_,rfl,trivial,?_⟩;rw[show((if(60:Int)<(nl:Int)then(60:Int)else(nl:Int)))=i from by split<;>omega];refine J.qr [1] λ_=>?_;exact⟨by simp,rfl⟩
end Go.Proofs.YtnffkcabeecopaaGreat
