/- Helpers. No condition. -/
import Derived.Test.YtpakpgkdpofbhaaGreatE00
import Derived.Test.YtpakpgkdpofbhaaGreatE01
import Derived.Test.YtpakpgkdpofbhaaGreatE04
import Derived.Test.YtpakpgkdpofbhaaGreatE15
import Derived.Test.YtpakpgkdpofbhaaGreatE16
import Derived.Test.YtpakpgkdpofbhaaGreatE17
set_option maxRecDepth 20000
set_option linter.all false
namespace Go.Proofs.YtpakpgkdpofbhaaGreat
open Go Go.RowKit
theorem b8H (q n:Nat) (A:Pad) (P:Pv) (Z:Fv) (hZ:P.Z=some Z) (r2 r3:Value) (k m:Nat) (hO:Z.Ok (Fv.cW*200+(Dv.costS+(Dv.costK+(1+k)))) m) (hm:m<=1000) (s:Stp) (hs:s.data.length=16):FP 108 [pp q,stV s] (PlQ q n P.Z A.f r2 r3::a3L n A P) (λv As=>∃A':Pad,v=tdV (P.does s).2/\(A'.fp=A.fp/\A'.a=A.a/\A'.c=A.c/\A'.a2=A.a2/\A'.c2=A.c2)/\((∃Y,(P.does s).1={P with Z:=some Y}/\As=PlQ q n (some Y) A'.f r2 r3::FvP A'.f A'.p n A'.t A'.l A'.d Y)\/∃M,(P.does s).1={P with Z:=none,M:=M}/\As=[PlQ q n none A'.f r2 r3,B1 n M])):=by
 have hnd:P.nd=Z.S.N:=by unfold Pv.nd;rw[hZ]
 have hdv:∀Y,a3L n A {P with Z:=some Y}=FvP A.f A.p n A.t A.l A.d Y:=λY=>rfl;have hs1:∀b,s.fn=b->True:=λ_ _=>trivial;rw[show a3L n A P=FvP A.f A.p n A.t A.l A.d Z from by unfold a3L;rw[hZ],hZ];refine FE [2,0] Tryz.func108 λX F hX=>?_;refine J.qd (λ_ h1=>?_) λ_ h1=>?_
 ·have e1:s.fn=1:=by simpa using h1
  have hd:P.does s=({P with Z:=some (Z.read s.lpn).1},⟨(Z.read s.lpn).2.2,(Z.read s.lpn).2.1⟩):=by unfold Pv.does;rw[i3 e1,hZ]
  refine J.pn 7 (.take true 0 (.take true 1 (.take true 2 (.take false 3 (.take true 4 (.take false 5 (.alt false 6 ((.of [28,32,36,42,46,48])) (.alt false 10 ((.of [26,28,32,36,46,48])) .non)))))))) [12] [1,8] λ_ _=>?_;refine J.alts ?_ ?_
  ·skip
   refine J.qp (a3F A.f A.p n A.t A.l A.d Z _ m hO s.lpn) [2,3,4,5,6,7] λ_=>?_;refine J.qr [1,2,3,4,5,6,7] λ_=>?_;refine⟨A,?_,⟨rfl,rfl,rfl,rfl,rfl⟩, .inl ⟨_,by rw[hd],rfl⟩⟩;rw[hd];rfl
  ·skip
   refine J.qn 1 λ_=>?_;refine J.qp (a3F A.f A.p n A.t A.l A.d Z _ m hO s.lpn) [2,3,4,5,6,7] λ_=>?_;refine J.qr [1,2,3,4,5,6,7] λ_=>?_;refine⟨A,?_,⟨rfl,rfl,rfl,rfl,rfl⟩, .inl ⟨_,by rw[hd],rfl⟩⟩;rw[hd];rfl
 have e1:s.fn≠1:=by simpa using h1
 refine J.qd (λ_ h2=>?_) λ_ h2=>?_
 ·have e2:s.fn=2:=by simpa using h2
  have hd:P.does s=({P with Z:=some (Z.write s.lpn s.data).1},⟨(Z.write s.lpn s.data).2,zd⟩):=by unfold Pv.does;rw[g7 e1,i3 e2,hZ]
  refine J.pq (.of [0,4,8,13,16,21,24,29,34,36,43]) [10] [1,8] λ_ _=>?_;refine J.ca hX (by kernel_rfl) (a4I A.f A.p n A.t A.l A.d Z _ m (hO.less (k':=Fv.cW+(1+k)) (by omega)) hm s.lpn s.data hs) [2,3,4,5,6,7] 0 rfl rfl rfl rfl rfl rfl (λ_=>rfl) ?_;refine cpq ⟨_,rfl,stq,?_⟩;refine J.qr [1,2,3,4,5,6,7] λ_=>?_;refine⟨A,?_,⟨rfl,rfl,rfl,rfl,rfl⟩, .inl ⟨_,by rw[hd],rfl⟩⟩;rw[hd];rfl
 have e2:s.fn≠2:=by simpa using h2
 refine J.qd (λ_ h3=>?_) λ_ h3=>?_
 ·have e3:s.fn=3:=by simpa using h3
  have hd:P.does s=({P with Z:=some (Z.trim s.lpn).1},⟨(Z.trim s.lpn).2,zd⟩):=by unfold Pv.does;rw[g7 e1,g7 e2,i3 e3,hZ]
  refine J.pq (.of [0,4,8,13,16,21,26,28,35]) [8] [1,8] λ_ _=>?_;refine J.ca hX (by kernel_rfl) (b3u A.f A.p n A.t A.l A.d Z _ m (hO.less (k':=Fv.cW+(1+k)) (by omega)) hm s.lpn) [2,3,4,5,6,7] 0 rfl rfl rfl rfl rfl rfl (λ_=>rfl) ?_;refine cpq ⟨_,rfl,stq,?_⟩;refine J.qr [1,2,3,4,5,6,7] λ_=>?_;refine⟨A,?_,⟨rfl,rfl,rfl,rfl,rfl⟩, .inl ⟨_,by rw[hd],rfl⟩⟩;rw[hd];rfl
 have e3:s.fn≠3:=by simpa using h3
 refine J.qd (λ_ h4=>?_) λ_ h4=>?_
 ·have e4:s.fn=4:=by simpa using h4
  have hd:P.does s=({P with Z:=some Z.flush.1},⟨Z.flush.2,zd⟩):=by unfold Pv.does;rw[g7 e1,g7 e2,g7 e3,i3 e4,hZ]
  refine J.q λ_=>?_;refine J.ca hX (by kernel_rfl) (a7F A.f A.p n A.t A.l A.d Z _ m (hO.less (k':=Fv.cW*200+k) (by omega)) hm) [2,3,4,5,6,7] 0 rfl rfl rfl rfl rfl rfl (λ_=>rfl) ?_;refine cpq ⟨_,rfl,trivial,?_⟩;refine J.qr [1,2,3,4,5,6,7] λ_=>?_;refine⟨A,?_,⟨rfl,rfl,rfl,rfl,rfl⟩, .inl ⟨_,by rw[hd],rfl⟩⟩;rw[hd];rfl
 have e4:s.fn≠4:=by simpa using h4
 refine J.qd (λ_ h5=>?_) λ_ h5=>?_
 ·have e5:s.fn=5:=by simpa using h5
  have hd:P.does s=({P with Z:=some Z.tick.1},⟨Z.tick.2,zd⟩):=by unfold Pv.does;rw[g7 e1,g7 e2,g7 e3,g7 e4,i3 e5,hZ]
  refine J.q λ_=>?_;refine J.ca hX (by kernel_rfl) (b3v A.f A.p n A.t A.l A.d Z _ m (hO.less (k':=Dv.costS+k) (by omega)) hm) [2,3,4,5,6,7] 0 rfl rfl rfl rfl rfl rfl (λ_=>rfl) ?_;refine cpq ⟨_,rfl,trivial,?_⟩;refine J.qr [1,2,3,4,5,6,7] λ_=>?_;refine⟨A,?_,⟨rfl,rfl,rfl,rfl,rfl⟩, .inl ⟨_,by rw[hd],rfl⟩⟩;rw[hd];rfl
 have e5:s.fn≠5:=by simpa using h5
 refine J.qd (λ_ h6=>?_) λ_ h6=>?_
 ·have e6:s.fn=6:=by simpa using h6
  have hd:P.does s=(P.setN (Z.S.N.setCut s.n s.keep),⟨0,zd⟩):=by unfold Pv.does;rw[g7 e1,g7 e2,g7 e3,g7 e4,g7 e5,i3 e6,hnd]
  have hsn:P.setN (Z.S.N.setCut s.n s.keep)={P with Z:=some (Z.setN (Z.S.N.setCut s.n s.keep))}:=by unfold Pv.setN;rw[hZ]
  rw[hsn]at hd;refine J.p (.of [0,4,8,13,16,21,24,29,34]) [] [1,8] λ_=>?_;refine J.qp (b1g n Z.S.N s.n s.keep) [4] λ_=>?_;refine J.qr [1,2,3,4,5,6,7] λ_=>?_;refine⟨A,?_,⟨rfl,rfl,rfl,rfl,rfl⟩, .inl ⟨_,by rw[hd],rfl⟩⟩;rw[hd];rfl
 have e6:s.fn≠6:=by simpa using h6
 refine J.qd (λ_ h7=>?_) λ_ h7=>?_
 ·have e7:s.fn=7:=by simpa using h7
  have hd:P.does s=(P.mounts.1,⟨P.mounts.2,zd⟩):=by unfold Pv.does;rw[g7 e1,g7 e2,g7 e3,g7 e4,g7 e5,g7 e6,i3 e7]
  have hmm:=b3Z q n A P Z hZ r2 r3 _ m (hO.dv.gd.less (k':=Dv.costK+(1+k)) (by omega) (j7 m)) hm;rw[show a3L n A P=FvP A.f A.p n A.t A.l A.d Z from by unfold a3L;rw[hZ],hZ]at hmm;refine J.qc (hmm) [1,2,3,4,5,6,7] λ_=>?_;rintro v As ⟨A',rfl,hA',(⟨Y,hY,rfl⟩ | ⟨M,hY,rfl⟩)⟩
  ·refine⟨_,rfl,trivial,?_⟩;refine J.qr [1,2,3,4,5,6,7] λ_=>?_;refine⟨A',?_,hA', .inl ⟨Y,by rw[hd,hY],rfl⟩⟩;rw[hd];rfl
  ·refine⟨_,rfl,trivial,?_⟩;refine J.qr [1,2] λ_=>?_;refine⟨A',?_,hA', .inr ⟨M,by rw[hd,hY],rfl⟩⟩;rw[hd];rfl
 have e7:s.fn≠7:=by simpa using h7
 refine J.qd (λ_ h8=>?_) λ_ h8=>?_
 ·have e8:s.fn=8:=by simpa using h8
  obtain⟨Q,hQ⟩:∃Q,Q=Z.S.N.fault s.f.kind s.f.x s.f.y s.f.z s.f.n s.f.xx:=⟨_,rfl⟩;have hd:P.does s=({P with Z:=some (Z.setN Q.2)},if Q.1 then⟨0,zd⟩else⟨1,zd⟩):=by unfold Pv.does;rw[g7 e1,g7 e2,g7 e3,g7 e4,g7 e5,g7 e6,g7 e7,i3 e8,hnd,<- hQ];unfold Pv.setN;rw[hZ]
  refine J.p (.of [0,4,8,13,16,21,26]) [] [1,8] λ_=>?_;refine J.qp (a2y n Z.S.N hO.dv.gd.ok s.f.at_ s.f.kind s.f.x s.f.y s.f.z s.f.n s.f.xx) [4] λ_=>?_;rw[<- hQ];refine J.qd (λ_ h9=>?_) λ_ h9=>?_
  ·rw[i3 h9]at hd;refine J.qr [1,2,3,4,5,6,7] λ_=>?_;refine⟨A,?_,⟨rfl,rfl,rfl,rfl,rfl⟩, .inl ⟨_,by rw[hd],rfl⟩⟩;rw[hd];rfl
  ·rw[g7 (by rw[h9];decide)]at hd;refine J.qr [1,2,3,4,5,6,7] λ_=>?_;refine⟨A,?_,⟨rfl,rfl,rfl,rfl,rfl⟩, .inl ⟨_,by rw[hd],rfl⟩⟩;rw[hd];rfl
 have e8:s.fn≠8:=by simpa using h8
 have hd:P.does s=(P,⟨1,zd⟩):=by unfold Pv.does;rw[g7 e1,g7 e2,g7 e3,g7 e4,g7 e5,g7 e6,g7 e7,g7 e8]
 refine J.qr [1,2,3,4,5,6,7] λ_=>?_;refine⟨A,?_,⟨rfl,rfl,rfl,rfl,rfl⟩, .inl ⟨Z,?_,rfl⟩⟩
 ·rw[hd];rfl
 ·rw[hd];show P={P with Z:=some Z};rw[<- hZ]
theorem Dv.Ok.setN {S:Dv} {k m m':Nat} {N:Nand} (h:S.Ok k m) (hl:S.N.Like N) (hG:N.Gd k m'):({S with N:=N}:Dv).Ok k m':=⟨hG,h.t.like hl,h.T,h.sl,h.row,h.next⟩
theorem Fv.Ok.setN {Z:Fv} {k m m':Nat} {N:Nand} (h:Z.Ok k m) (hl:Z.S.N.Like N) (hG:N.Gd k m'):(Z.setN N).Ok k m':=⟨h.dv.setN hl hG,h.dat,λe he=>by have:=h.rng e he;unfold Fv.lg at this ⊢;rw[show(Z.setN N).S.N=N from rfl,b1r hl];exact this,h.nd,h.nx⟩
theorem a7z (N:Nand):∀(l:List Fl),N.Like (a1h N l)
 | []=>Nand.Like.refl N
 | f::l=>(Nand.like_fault N f.kind f.x f.y f.z f.n f.xx).trans (a7z (flN N f) l)
theorem a4R (l:List Td) (x:Td):R9 l++tdC x=R9 (l++[x]):=by unfold R9;rw[I9];simp
theorem a9T (q n:Nat) (A:Pad) (P:Pv) (hA:A.Ok P) (Z:Fv) (hZ:P.Z=some Z) (k m:Nat) (hO:Z.Ok (Fv.cW*200+(Dv.costS+(Dv.costK+(1+k)))) m) (hm:m+(T7 Z.S.N.ops P.L).length<=1000) (hL:P.L.length<=1000) (hlg:P.log.length<=1000) (s:Stp) (hs:s.data.length=16):FP 53 [pp q,stV s] (a2U q n A P) (λv As=>∃A':Pad,v=tdV (P.step s).2/\A'.Ok (P.step s).1/\As=a2U q n A' (P.step s).1):=by
 have hnd:P.nd=Z.S.N:=by unfold Pv.nd;rw[hZ]
 obtain⟨D,hD⟩:∃D,T7 Z.S.N.ops P.L=D:=⟨_,rfl⟩;obtain⟨R,hR⟩:∃R,a3k Z.S.N.ops P.L=R:=⟨_,rfl⟩;rw[hD]at hm;have hrun:P.run=⟨R,P.log,some (Z.setN (a1h Z.S.N D)),P.M⟩:=by unfold Pv.run;rw[hnd,hD,hR];unfold Pv.setN;rw[hZ]
 have hO2:(Z.setN (a1h Z.S.N D)).Ok (Fv.cW*200+(Dv.costS+(Dv.costK+(1+k)))) (m+D.length):=hO.setN (a7z _ _) (a4K hO.dv.gd D);have hst:P.step s=({(P.run.does s).1 with log:=(P.run.does s).1.log++[(P.run.does s).2]},(P.run.does s).2):=rfl;unfold a2U;rw[show a3L n A P=FvP A.f A.p n A.t A.l A.d Z from by unfold a3L;rw[hZ],hZ];refine FE [2,0] Tryz.func53 λX F hX=>?_;refine J.qF λ_=>?_;refine J.p (.of [0,4,8,13,16,20,24,29,34]) [] [1] λ_=>?_;refine J.qc (c1p A.fp n A.a A.c P.L hA.z hA.c hL Z.S.N _ m hO.dv.gd) [2,3,7] λ_=>?_;rintro v As ⟨a',c',hz',hc',rfl,rfl⟩;refine⟨_,rfl,stq,?_⟩;rw[hR]at hc' ⊢;rw[hD];have hdo:=b8H q n A ⟨R,P.log,some (Z.setN (a1h Z.S.N D)),P.M⟩ (Z.setN (a1h Z.S.N D)) rfl (pp A.fp) (slv A.a2 P.log.length A.c2) k (m+D.length) hO2 hm s hs;rw[<- hrun]at hdo;rw[hrun]at hdo;obtain⟨W,hW⟩:∃W,(⟨R,P.log,some (Z.setN (a1h Z.S.N D)),P.M⟩:Pv).does s=W:=⟨_,rfl⟩;rw[hrun,hW]at hst;rw[hW]at hdo;obtain⟨Wp,wt⟩:=W;dsimp only at hdo hst;refine J.qc (hdo) [1,5,6,7,8,9,10] λ_=>?_;rintro v As ⟨A',rfl,⟨q1,q2,q3,q4,q5⟩,(⟨Y,hY,rfl⟩ | ⟨M,hY,rfl⟩)⟩
 ·refine⟨_,rfl,trivial,?_⟩;refine J.pq (.of [0,4,8,12,17,21,26,30,32,36,43]) [8,9,10] [1,13] λ_ _=>?_;refine J.ap 4 14 0 (a4R P.log wt) λa3 c3=>?_;refine J.qr [1,2,3,4,5,6,7,8,9,10] λ_=>?_;refine⟨⟨A'.f,A'.p,A'.t,A'.l,A'.d,A.fp,a',c',a3,c3⟩,?_,?_,?_⟩
  ·rw[hst];rfl
  ·rw[hst,hY];exact⟨hz',hc'⟩
  ·rw[hst,hY];dsimp only;rw[i5];rfl
 ·refine⟨_,rfl,trivial,?_⟩;refine J.pq (.of [0,4,8,12,17,21,26,30,32,36,43]) [8,9,10] [1,13] λ_ _=>?_;refine J.ap 4 14 0 (a4R P.log wt) λa3 c3=>?_;refine J.qr [1,2,3,4,5] λ_=>?_;refine⟨⟨A'.f,A'.p,A'.t,A'.l,A'.d,A.fp,a',c',a3,c3⟩,?_,?_,?_⟩
  ·rw[hst];rfl
  ·rw[hst,hY];exact⟨hz',hc'⟩
  ·rw[hst,hY];dsimp only;rw[i5];rfl
theorem b1M (l:List Td):∀u∈R9 l,u.oneCell'=true:=by
 intro u hu;simp only[R9,J1]at hu;obtain⟨s,_,hu⟩:=hu;simp only[tdC,H0,T4,a4W]at hu;rcases hu with rfl | rfl | rfl | rfl | rfl | rfl | rfl | rfl | rfl | rfl | rfl | rfl | rfl | rfl | rfl | rfl | rfl<;>rfl
theorem b3K (a:Option Nat) (n cap:Nat) (l:List Td) (hl:l.length=n) (hn:n<=1000000):FP 115 [slv a n cap] [n9 61 17 a n cap (R9 l)]
  (λv As=>∃a' c',v=slv a' n c'/\As=[n9 61 17 a n cap (R9 l),n9 61 17 a' n c' (R9 l)]):=by
 refine FE [0] Tryz.func115 λX F hX=>?_;cases a with
 | none=>
  refine J.know (λh' s=>(s.get (i:=1) rfl).2) λhn0=>?_;obtain⟨rfl,rfl⟩:=hn0;have:l=[]:=l9 hl;subst this;refine J.qT λ_=>?_;refine J.turn1 [] rfl (As:=[n9 61 17 none 0 0 (R9 [])]) (λh s=>Sep.one ⟨rfl,rfl,rfl⟩) rfl ?_;refine J.qr [1,2] λ_=>?_;exact⟨none,0,rfl,rfl⟩
 | some g=>
  refine J.qF λ_=>?_;refine J.qn 5 λbb=>?_;refine J.closeOwn (e:=61) (size:=17) (n:=0) (cap:=0) (xs:=[]) 2 rfl rfl rfl (j7 _) (l8 _) rfl rfl rfl ?_;refine J.q λ_=>?_;refine J.appendR hX tk (a:=some (bb 0)) (n:=0) (cap:=0) (xs:=[]) (oo:=0) (Ay:=n9 61 17 (some g) n cap (R9 l)) 2 1 0 rfl rfl rfl rfl rfl rfl rfl rfl rfl rfl (X1 _ _ (some g) _ _ _) rfl rfl rfl rfl (b1M l) ?_ ?_ (λ_=>rfl) λa' c'=>⟨_,rfl,trivial,?_⟩
  ·simp only[maxLen];omega
  ·omega
  rw[H8 n,Q4];refine J.qr [1,2] λ_=>?_;exact⟨a',c',rfl,rfl⟩
theorem c0q (q n:Nat) (A:Pad) (P:Pv) (hl:P.log.length<=1000):FP 62 [pp q] [PlQ q n P.Z A.f (pp A.fp) (slv A.a2 P.log.length A.c2),n9 61 17 A.a2 P.log.length A.c2 (R9 P.log)]
  (λv As=>∃a' c',v=slv a' P.log.length c'/\As=[PlQ q n P.Z A.f (pp A.fp) (slv A.a2 P.log.length A.c2),n9 61 17 A.a2 P.log.length A.c2 (R9 P.log),n9 61 17 a' P.log.length c' (R9 P.log)]):=by
 refine FE [2] Tryz.func62 λX F hX=>?_;refine J.qF λ_=>?_;refine J.qc (b3K A.a2 P.log.length A.c2 P.log rfl (by omega)) [2] λ_=>?_;rintro v As ⟨a',c',rfl,rfl⟩;refine⟨_,rfl,trivial,?_⟩;refine J.qr [1,2,3] λ_=>?_;exact⟨a',c',rfl,rfl⟩
def b3B (d b p:Int):Int:=if M7 d b p then 12*d*b*p+40 else 0
theorem c0Y (d b p:Int):FP 26 [.agg #[iI d,iI b,iI p]] [] (Ps (iI (b3B d b p)) []):=by
 refine FE [0] Tryz.func26 λX F hX=>?_;refine J.qp (a6a d b p) [] λ_=>?_;refine J.qd (λ_ h1=>?_) λ_ h1=>?_
 ·have hg:M7 d b p=false:=by simpa using h1
  refine J.qr [] λ_=>?_;exact⟨by unfold b3B;rw[hg];rfl,rfl⟩
 ·have hg:M7 d b p=true:=by simpa using h1
  have hbd:(3<=d/\d<=6)/\(8<=b/\b<=16)/\(2<=p/\p<=8):=by simp[M7]at hg;omega
  have m1:0<=12*d*b/\12*d*b<=1152:=by
   have h1:=a5c (show 0<=12*d by omega) (show 0<=b by omega);have h2:=a5d (show 12*d<=72 by omega) (show b<=16 by omega) (by omega) (by omega);omega
  have m2:0<=12*d*b*p/\12*d*b*p<=9216:=by
   have h1:=a5c m1.1 (show 0<=p by omega);have h2:=a5d m1.2 (show p<=8 by omega) (by omega) (by omega);omega
  refine J.qr [] λ_=>?_;exact⟨by unfold b3B;rw[hg];rfl,rfl⟩
def Fv.allG:Nat->Int->Fv->Fv×List (List UInt8)×Int
 | 0,_,Z=>(Z,[],0)
 | n+1,i,Z=>if(Z.read i).2.2≠0 then((Z.read i).1,[],(Z.read i).2.2)else((Fv.allG n (i+1) (Z.read i).1).1,(Z.read i).2.1::(Fv.allG n (i+1) (Z.read i).1).2.1,(Fv.allG n (i+1) (Z.read i).1).2.2)
theorem Fv.allG_succ (n:Nat) (i:Int) (Z:Fv):Fv.allG (n+1) i Z=if(Z.read i).2.2≠0 then((Z.read i).1,[],(Z.read i).2.2)else((Fv.allG n (i+1) (Z.read i).1).1,(Z.read i).2.1::(Fv.allG n (i+1) (Z.read i).1).2.1,(Fv.allG n (i+1) (Z.read i).1).2.2):=rfl
def Fv.all (Z:Fv):Fv×List (List UInt8)×Int:=if(Fv.allG Z.lg.toNat 0 Z).2.2≠0 then((Fv.allG Z.lg.toNat 0 Z).1,[],(Fv.allG Z.lg.toNat 0 Z).2.2)else Fv.allG Z.lg.toNat 0 Z
theorem b0r (l:List (List UInt8)) (d:List UInt8):O7 l++J4 d=O7 (l++[d]):=by unfold O7;rw[I9];simp
theorem b7J (f p n t l d:Nat) (Z:Fv) (k m:Nat) (hO:Z.Ok k m):FP 61 [pp f] (FvP f p n t l d Z)
  (λv As=>∃a c,v= .tuple #[slv a Z.all.2.1.length c,iI Z.all.2.2]/\As=FvP f p n t l d Z.all.1++[n9 30 16 a Z.all.2.1.length c (O7 Z.all.2.1)]):=by
 refine FE [2] Tryz.func61 λX F hX=>?_;refine J.q λb9=>?_;refine J.cF ?_;refine J.qp (a0G f n t l p d Z hO.dv.gd.ok) [1,3] λ_=>?_;have hlb:=Fv.lg_bd (F:=Z) hO.dv.gd.ok;obtain⟨N,hN⟩:=i6 (show 0<=Z.lg by omega);rw[hN];have hall:Z.all=if(Fv.allG N 0 Z).2.2≠0 then((Fv.allG N 0 Z).1,[],(Fv.allG N 0 Z).2.2)else Fv.allG N 0 Z:=by unfold Fv.all;rw[hN];rfl
 refine J.q λ_=>?_;refine J.turn1 [] rfl (As:=[n9 30 16 none 0 0 (O7 [])]) (λh s=>Sep.one ⟨rfl,rfl,rfl⟩) rfl ?_;refine J.q λ_=>?_;refine J.l (α:=(Nat×Fv×List (List UInt8)×Option Nat×Nat)) (λz=>z.1<=N/\z.2.1.Ok k m/\z.2.2.1.length=z.1/\Fv.allG N 0 Z=((Fv.allG (N-z.1) z.1 z.2.1).1,z.2.2.1++(Fv.allG (N-z.1) z.1 z.2.1).2.1,(Fv.allG (N-z.1) z.1 z.2.1).2.2)) (λz=>[si 12 z.1,si 11 N,⟨0,pp f,2, .tt⟩,sv 4 (slv z.2.2.2.1 z.2.2.1.length z.2.2.2.2)]) [1,2,3,4,5,6,7] (λz=>(FvP f p n t l d z.2.1++[n9 30 16 z.2.2.2.1 z.2.2.1.length z.2.2.2.2 (O7 z.2.2.1)])) (λz=>N-z.1) ((0,Z,[],none,0)) (⟨l8 _,hO,rfl,rfl⟩) λz hI=>?_;obtain⟨j,Y,acc,ga,ca⟩:=z;dsimp only at hI ⊢;obtain⟨hj,hY,hacc,hgo⟩:=hI;refine J.qd (λ_ h1=>?_) λ_ h1=>?_
 ·simp only[d7,j3]at h1;have hk:=Fv.read_keep hY j;rw[show N-j=(N-(j+1))+1 from by omega]at hgo;rw[Fv.allG_succ]at hgo;refine J.qp (a3F f p n t l d Y k m hY j) [1,2,3,4,5,6] λ_=>?_;generalize Y.read j=R at hgo hk ⊢;obtain⟨Y2,dd,er⟩:=R;dsimp only at hgo hk ⊢;refine J.qd (λ_ h2=>?_) λ_ h2=>?_
  ·have he:er≠0:=by simpa using h2
   rw[i3 he]at hgo;rw[hgo,i3 he]at hall;refine J.turn1 [] rfl (As:=[n9 30 16 none 0 0 (O7 [])]) (λh s=>Sep.one ⟨rfl,rfl,rfl⟩) rfl ?_;refine J.qr [1,2,3,4,5,6,9] λ_=>?_;rw[hall];exact⟨none,0,rfl,rfl⟩
  ·have he:er=0:=by simpa using h2
   rw[g7 (λh=>h he)]at hgo;refine J.qn 5 λb9=>?_;refine J.ap 7 9 0 (b0r acc dd) λa3 c3=>?_;refine J.q λ_=>?_;rw[show acc.length+1=(acc++[dd]).length from by simp];refine J.q λ_=>?_;refine J.n ((j+1,Y2,acc++[dd],a3,c3)) (⟨by dsimp only;omega,hk.1,by dsimp only;rw[i5];exact congrArg (· +1) hacc,by dsimp only;rw[hgo,n8];rfl⟩) (by dsimp only;omega) [0,1,2,3,4,5,6,7]
 simp only[c9,j3]at h1;obtain rfl:j=N:=by omega
 rw[Y3,show Fv.allG 0 (j:Int) Y=(Y,[],0)from rfl,y9]at hgo;rw[hgo,g7 (by simp)]at hall;refine J.qr [1,2,3,4,5,6,7] λ_=>?_;rw[hall];exact⟨ga,ca,rfl,rfl⟩
def UN:Nat:=Fv.cW+1
theorem b7V:UN=Dv.costM+8*Dv.fuel+1:=rfl
theorem c1g:96<=UN:=by
 have:96<=8*Dv.fuel:=by decide
 rw[b7V];omega
theorem b1T:Fv.cW*200<=UN*200:=L4 _ (Nat.le_succ _)
theorem b5g:FI.costW*200<=UN*200:=L4 _ (Nat.le_succ _)
theorem b7T:Dv.costK<=UN*402:=by
 have h:Dv.costT*200<=UN*200:=L4 _ (Nat.le_succ _);have:=c1g;have h2:Dv.costM<=UN:=by rw[b7V];omega
 unfold Dv.costK;omega
theorem c1h:UN*200000<=1000000000000000:=by decide+kernel
theorem b7U {n:Nat} (h:n<=200000):UN*n<=1000000000000000:=G9 (x5 _ h) c1h
theorem Fv.all_of {F:Fv} {lg:Nat} {c:Nat->List UInt8} (hlg:F.lg=(lg:Int)) (hr:∀i:Nat,i<lg->F.read i=(F,c i,0)):F.all=(F,(List.range lg).map c,0):=by
 have:∀k i:Nat,i+k<=lg->Fv.allG k i F=(F,(List.range k).map (λj:Nat=>c (i+j)),0):=by
  intro k
  induction k with
  | zero=>intro i _;rfl
  | succ k ih=>
   intro i hi;rw[Fv.allG_succ,hr i (by omega)];dsimp only;rw[g7 (by decide),show(i:Int)+1=((i+1:Nat):Int)from by omega,ih (i+1) (by omega),List.range_succ_eq_map,o0,a9A];dsimp only;refine congrArg (λx=>(F,x,(0:Int))) ?_;rw[Q3];refine congrArg _ (a1k λj _=>?_);show c (i+1+j)=c (i+(j+1));rw[show i+1+j=i+(j+1)from by omega]
 unfold Fv.all;rw[hlg,j4];have h0:=this lg 0 (by omega);rw[show((0:Nat):Int)=0 from rfl]at h0;rw[h0,g7 (by simp)];refine congrArg (λx=>(F,x,(0:Int))) (a1k λj _=>?_);rw[H8]
def Fv.ticksG:Nat->Int->Fv->Fv×Int
 | 0,i,Z=>(Z.whole.1,if Z.whole.2 then i else-1)
 | f+1,i,Z=>if Z.whole.2 then(Z.whole.1,i)else if Z.whole.1.tick.2≠0 then(Z.whole.1.tick.1,-1)else Fv.ticksG f (i+1) Z.whole.1.tick.1
theorem Fv.ticksG_succ (f:Nat) (i:Int) (Z:Fv):Fv.ticksG (f+1) i Z=if Z.whole.2 then(Z.whole.1,i)else if Z.whole.1.tick.2≠0 then(Z.whole.1.tick.1,-1)else Fv.ticksG f (i+1) Z.whole.1.tick.1:=rfl
def a8T (most:Int):Nat:=(min (max most 0) 10000).toNat
def Fv.ticks (Z:Fv) (most:Int):Fv×Int:=Fv.ticksG (a8T most) 0 Z
theorem b7I (f p n t l d:Nat) (Z:Fv) (k m:Nat) (most:Int) (hO:Z.Ok (Dv.costS*a8T most+k) m) (hm:m<=1000):FP 65 [pp f,iI most] (FvP f p n t l d Z)
  (Ps (iI (Z.ticks most).2) (FvP f p n t l d (Z.ticks most).1)):=by
 obtain⟨M,hM⟩:∃M,a8T most=M:=⟨_,rfl⟩;have hMM:min (max most 0) 10000=(M:Int):=by rw[<- hM];unfold a8T;omega
 have hM1:M<=10000:=by omega
 rw[show Z.ticks most=Fv.ticksG M 0 Z from by unfold Fv.ticks;rw[hM]];rw[hM]at hO;refine FE [2,0] Tryz.func65 λX F hX=>?_;refine J.qn 9 λ_=>?_;have e:(if(10000:Int)<if(0:Int)>most then 0 else most then 10000 else if(0:Int)>most then 0 else most)=(M:Int):=by
  rw[<- hMM];split<;>split<;>omega
 rw[e];refine J.q λ_=>?_;refine J.l (α:=(Nat×Fv)) (λz=>(z.1<=M/\z.2.Ok (Dv.costS*(M-z.1)+k) m/\Fv.ticksG M 0 Z=Fv.ticksG (M-z.1) z.1 z.2)\/(z.1=M+1/\Fv.ticksG M 0 Z=(z.2,-1))) (λz=>[si 11 z.1,⟨10,iI ((M:Int)+1),0, .tt⟩,⟨0,pp f,2, .tt⟩,si 1 M]) [1,2,3,4,5,6] (λz=>FvP f p n t l d z.2) (λz=>M+1-z.1) ((0,Z)) (.inl ⟨l8 _,hO,rfl⟩) λz hI=>?_;obtain⟨j,Y⟩:=z;dsimp only at hI ⊢;refine J.qd (λ_ h1=>?_) λ_ h1=>?_
 ·simp only[d7]at h1;obtain⟨hj,hY,hgo⟩:j<=M/\Y.Ok (Dv.costS*(M-j)+k) m/\Fv.ticksG M 0 Z=Fv.ticksG (M-j) j Y:=by
   rcases hI with h | h
   ·exact h
   ·omega
  have hw:=Fv.whole_keep hY;refine J.qp (b7u f p n t l d Y _ m hY) [1,2,3,4,5,6] λ_=>?_;obtain⟨W,hW⟩:∃W,Y.whole=W:=⟨_,rfl⟩;rw[hW]at hw ⊢;obtain⟨Y1,wb⟩:=W;dsimp only at hw ⊢;refine J.qd (λ_ h2=>?_) λ_ h2=>?_
  ·have hr:Fv.ticksG (M-j) j Y=(Y1,(j:Int)):=by
    cases hc:M-j with
    | zero=>show(Y.whole.1,if Y.whole.2 then(j:Int)else-1)=_;rw[hW,i3 h2]
    | succ c=>rw[Fv.ticksG_succ,hW,i3 h2]
   refine J.qr [1,2,3,4,5,6] λ_=>?_;rw[hgo,hr];exact⟨rfl,rfl⟩
  refine J.qn 6 λ_=>?_;rcases Q1 j M with hjM | hjM
  ·rw[show decide ((j:Int)<(M:Int))=true from i9 (by omega)];obtain⟨c,hc⟩:∃c,M-j=c+1:=⟨M-j-1,by omega⟩;have hO1:Y1.Ok (Dv.costS+(Dv.costS*c+k)) m:=hw.1.less (by rw[hc,E9];omega);have htk:=Fv.tick_keep hO1;refine J.qp (b3v f p n t l d Y1 _ m hO1 hm) [1,2,3,4,5,6] λ_=>?_;have hr:Fv.ticksG (M-j) j Y=if Y1.tick.2≠0 then(Y1.tick.1,-1)else Fv.ticksG c (j+1) Y1.tick.1:=by
    rw[hc,Fv.ticksG_succ,hW,g7 (by rw[h2];exact m6)]
   obtain⟨W,hW2⟩:∃W,Y1.tick=W:=⟨_,rfl⟩;rw[hW2]at htk hr ⊢;obtain⟨Y2,er⟩:=W;dsimp only at htk hr ⊢;refine J.qd (λ_ h3=>?_) λ_ h3=>?_
   ·have he:er≠0:=by simpa using h3
    rw[i3 he]at hr;refine J.qr [1,2,3,4,5,6] λ_=>?_;rw[hgo,hr];exact⟨rfl,rfl⟩
   ·have he:er=0:=by simpa using h3
    rw[g7 (λh=>h he)]at hr;refine J.q λ_=>?_;refine J.n ((j+1,Y2)) (.inl ⟨by dsimp only;omega,by dsimp only;rw[show M-(j+1)=c from by omega];exact htk.1,by dsimp only;rw[show M-(j+1)=c from by omega,hgo,hr];rfl⟩) (by dsimp only;omega) [0,1,2,3,4,5,6]
  ·obtain rfl:j=M:=by omega
   rw[show decide ((j:Int)<(j:Int))=false from s8 (by omega)];refine J.q λ_=>?_;refine J.v (iI 0) rfl rfl (λhg a w he hw=>by simp[G.on]at hg) ?_;refine J.qF λ_=>?_;refine J.q λ_=>?_;refine J.n ((j+1,Y1)) (.inr ⟨rfl,by rw[hgo,Y3];show(Y.whole.1,if Y.whole.2 then(j:Int)else-1)=_;rw[hW,g7 (by rw[h2];exact m6)]⟩) (by dsimp only;omega) [0,1,2,3,4,5,6]
 simp only[c9]at h1;obtain⟨rfl,hgo⟩:j=M+1/\Fv.ticksG M 0 Z=(Y,-1):=by
  rcases hI with h | h
  ·omega
  ·exact h
 refine J.qr [1,2,3,4,5,6] λ_=>?_;rw[hgo];exact⟨rfl,rfl⟩
def flS:Stp:=⟨4,0,zd,0,0,dF⟩
theorem Pv.step_flush (P:Pv) (Z:Fv) (hZ:P.Z=some Z) (s:Stp) (hs:s.fn=4):P.step s=(⟨a3k Z.S.N.ops P.L,P.log++[⟨(Z.setN (a1h Z.S.N (T7 Z.S.N.ops P.L))).flush.2,zd⟩],some (Z.setN (a1h Z.S.N (T7 Z.S.N.ops P.L))).flush.1,P.M⟩,⟨(Z.setN (a1h Z.S.N (T7 Z.S.N.ops P.L))).flush.2,zd⟩):=by
 have hnd:P.nd=Z.S.N:=by unfold Pv.nd;rw[hZ]
 have hrun:P.run=⟨a3k Z.S.N.ops P.L,P.log,some (Z.setN (a1h Z.S.N (T7 Z.S.N.ops P.L))),P.M⟩:=by unfold Pv.run;rw[hnd];unfold Pv.setN;rw[hZ]
 have hd:P.run.does s=({P.run with Z:=some (Z.setN (a1h Z.S.N (T7 Z.S.N.ops P.L))).flush.1},⟨(Z.setN (a1h Z.S.N (T7 Z.S.N.ops P.L))).flush.2,zd⟩):=by
  rw[hrun];unfold Pv.does;rw[g7 (by rw[hs];decide),g7 (by rw[hs];decide),g7 (by rw[hs];decide),i3 hs]
 unfold Pv.step;rw[hd,hrun]
theorem b9H (q n:Nat) (A:Pad) (P:Pv) (hA:A.Ok P) (Z:Fv) (hZ:P.Z=some Z) (most:Int) (k m:Nat) (hO:Z.Ok (Fv.cW*200+(Dv.costS+(Dv.costK+(1+(Dv.costS*a8T most+k))))) m) (hoff:Z.S.N.off=false) (hm:m+(T7 Z.S.N.ops P.L).length<=1000) (hL:P.L.length<=1000) (hlg:P.log.length<=1000) (Z1:Fv) (hZ1:(P.step flS).1.Z=some Z1):FP 64 [pp q,iI most] (a2U q n A P)
  (λv As=>∃A':Pad,v= .bool (decide ((Z1.ticks most).2>=0))/\A'.Ok {(P.step flS).1 with Z:=some (Z1.ticks most).1}/\As=a2U q n A' {(P.step flS).1 with Z:=some (Z1.ticks most).1}):=by
 have hsf:=Pv.step_flush P Z hZ flS rfl;obtain⟨D,hD⟩:∃D,T7 Z.S.N.ops P.L=D:=⟨_,rfl⟩;rw[hD]at hm hsf;have hO2:(Z.setN (a1h Z.S.N D)).Ok (Fv.cW*200+(Dv.costS+(Dv.costK+(1+(Dv.costS*a8T most+k))))) (m+D.length):=hO.setN (a7z _ _) (a4K hO.dv.gd D);have hkp:=Fv.flush_keep hO2;have hz1:Z1=(Z.setN (a1h Z.S.N D)).flush.1:=by rw[hsf]at hZ1;injection hZ1 with e;exact e.symm
 rw[<- hz1]at hkp;have hst:=a9T q n A P hA Z hZ _ m hO (by rw[hD];exact hm) hL hlg flS rfl;have hone:(P.step flS).1=⟨a3k Z.S.N.ops P.L,(P.step flS).1.log,some Z1,P.M⟩:=by rw[hsf,hz1]
 have hpl:a2U q n A P=[PlQ q n (some Z) A.f (pp A.fp) (slv A.a2 P.log.length A.c2), .pt A.fp 247 [.slice (Q9 A.a) P.L.length A.c],rdA (Q9 A.a) 7 P.L.length (A4 P.L),n9 61 17 A.a2 P.log.length A.c2 (R9 P.log)]++FvP A.f A.p n A.t A.l A.d Z:=by unfold a2U a3L;rw[hZ];rfl
 rw[hpl]at hst ⊢;refine FE [2,0] Tryz.func64 λX F hX=>?_;refine J.qp (b8I q n (flP (some Z) A.f) (pp A.fp) (slv A.a2 P.log.length A.c2)) [1] λ_=>?_;refine J.qp (a4B n Z.S.N) [7] λ_=>?_;rw[hoff];refine J.qp (b6e q n (some Z) A.f (pp A.fp) (slv A.a2 P.log.length A.c2)) [1] λ_=>?_;refine J.qF λ_=>?_;refine J.qc (hst) [1,2,3,4,5,6,7,8,9,10] λ_=>?_;rintro v As ⟨A',rfl,hA',rfl⟩;rw[hone]at hA' ⊢;refine⟨_,rfl,trivial,?_⟩;refine J.qp (b6e q n (some Z1) A'.f (pp A'.fp) (slv A'.a2 (P.step flS).1.log.length A'.c2)) [1] λ_=>?_;refine J.qp (b7I A'.f A'.p n A'.t A'.l A'.d Z1 k (m+D.length) most (hkp.1.less (by omega)) hm) [5,6,7,8,9,10] λ_=>?_;refine J.qr [1,2,3,4,5,6,7,8,9,10] λ_=>?_;refine⟨A',rfl,?_,?_⟩
 ·rw[hone];exact⟨hA'.z,hA'.c⟩
 ·rw[hone];rfl
theorem b9C (x d:List UInt8):decide (d=x)=(x==d):=by
 by_cases h:x=d
 ·rw[h];simp
 ·rw[s8 (λe=>h e.symm),beq_eq_false_iff_ne.2 h]
theorem b5n (a:Option Nat) (n c:Nat) (l:List (List UInt8)) (hl:l.length=n) (hn:n<=1000000) (d:List UInt8) (hd:d.length=16) (hs:∀x∈l,x.length=16):FP 147 [slv a n c,a8r d] [n9 30 16 a n c (O7 l)] (λv As=>v=iI (match l.findIdx? (λx=>x==d)with | some k=>(k:Int) | none=> -1)/\As=[n9 30 16 a n c (O7 l)]):=by
 refine FE [0,0] Tryz.func147 λX F hX=>?_;refine J.q λbb=>?_;refine J.l (α:=Nat) (λk=>k<=n/\∀j,j<k->∀x,l[j]? =some x->(x==d)=false) (λk=>[si 8 k,si 7 n,sv 0 (slv a n c),⟨3,pp (bb 0),3, .tt⟩]) [] (λk=>[]) (λk=>n-k) (0) (⟨l8 _,λj hj=>absurd hj (Nat.not_lt_zero _)⟩) λk hI=>?_;obtain⟨hk,hno⟩:=hI;refine J.qd (λ_ h1=>?_) λ_ h1=>?_
 ·simp only[d7,j3]at h1;obtain⟨x,hx⟩:∃x,l[k]? =some x:=⟨_,d6 (by omega)⟩;refine J.know (λh' s=>C7 (c:=(a,c)) (by omega) (s.get (i:=1) rfl)) λhg=>?_;obtain⟨g,rfl⟩:=hg;refine J.pn 4 (.of [1,4,8,12,17,20]) [] [1,2] λ_ _=>?_;have hxl:=hs x (p6 hx);refine J.vT (a8r x) rfl rfl (λhg aa w he hC=>K1 tk rfl rfl he rfl rfl rfl (hC rfl _ (B5 (i:=1) rfl)) (by rw[show 0+(k:Int).toNat*16=k*16 from by omega];exact a3o J4 16 (λ_=>rfl) l k x hx) rfl) ?_;refine J.vT (.bool (x==d)) rfl rfl (λhg aa w he hC=>(W0 (xs:=J4 d) (ys:=J4 x) rfl rfl rfl he rfl rfl a2D (a1d _) (a1d _) mkD gdD).trans (by rw[eqD _ _ hd hxl,b9C])) ?_;refine J.qd (λ_ h2=>?_) λ_ h2=>?_
  ·have hf:l.findIdx? (λx=>x==d)=some k:=by
    rw[q9];obtain⟨g1,g2⟩:=List.getElem?_eq_some_iff.1 hx;refine⟨g1,by rw[g2];exact h2,λj hj=>?_⟩;have:=hno j hj _ (d6 (by omega));rw[this];exact m6
   refine J.qr [1] λ_=>?_;rw[hf];exact⟨rfl,rfl⟩
  ·refine J.q λ_=>?_;refine J.nS (k+1) (⟨by omega,λj hj y hy=>by
    rcases Q1 j k with h | h
    ·exact hno j h y hy
    ·obtain rfl:j=k:=by omega
     rw[hx]at hy;injection hy with hy;rw[<- hy];exact h2⟩) (by omega) [0,1,2] rfl rfl
 simp only[c9,j3]at h1;have hf:l.findIdx? (λx=>x==d)=none:=by
  rw[C2];intro x hx;obtain⟨j,hj⟩:=List.getElem?_of_mem hx;exact hno j (by have:=(List.getElem?_eq_some_iff.1 hj).1;omega) x hj
 refine J.qr [1] λ_=>?_;rw[hf];exact⟨rfl,rfl⟩
theorem b7c (l:List (List UInt8)) (d:List UInt8):decide ((match l.findIdx? (λx=>x==d)with | some k=>(k:Int) | none=> -1)>=0)=l.contains d:=by
 cases h:l.findIdx? (λx=>x==d)with
 | none=>
  rw[C2]at h;have:l.contains d=false:=by
   rw[List.contains_eq_any_beq,a0K];intro x hx e;have:=h x hx;rw[a6c e]at this;simp at this
  rw[this];rfl
 | some k=>
  rw[q9]at h;obtain⟨h1,h2,_⟩:=h;have:l.contains d=true:=by
   rw[List.contains_eq_any_beq,a0c];exact⟨_,E6 h1,by rw[a6c h2];simp⟩
  rw[this,i9 (by dsimp only;omega)]
theorem b8c (a:Option Nat) (n c:Nat) (l:List (List UInt8)) (hl:l.length=n) (hn:n<=1000000) (d:List UInt8) (hd:d.length=16) (hs:∀x∈l,x.length=16):FP 84 [slv a n c,a8r d] [n9 30 16 a n c (O7 l)] (Ps (.bool (l.contains d)) [n9 30 16 a n c (O7 l)]):=by
 refine FE [0,0] Tryz.func84 λX F hX=>?_;refine J.qp (b5n a n c l hl hn d hd hs) [1] λ_=>?_;have hc:=b7c l d;refine J.qr [1] λ_=>?_;exact⟨by rw[<- hc],rfl⟩
theorem a9n {α:Type} (f:α->List Value) (w:Nat) (hw:∀x,(f x).length=w) (vs:List Value):∀{l:List α} {k:Nat} {x y:α},l[k]? =some x->vs.length<=w->vs++(f x).drop vs.length=f y->(l.flatMap f).take (k*w)++vs++(l.flatMap f).drop (k*w+vs.length)=(l.set k y).flatMap f
 | [],k,x,y,h,hj,e=>by simp at h
 | z::l,0,x,y,h,hj,e=>by
  simp only[R0,m7]at h;subst h;rw[O2,H8,List.take_zero,Q4,u0,List.drop_append_of_le_length (by rw[hw];exact hj),<- n8,e];rfl
 | z::l,k+1,x,y,h,hj,e=>by
  have ih:=a9n f w hw vs (l:=l) (k:=k) (x:=x) (y:=y) (by simpa using h) hj e;rw[u0,show(k+1)*w=(f z).length+k*w from by rw[hw,O3];omega,R2,show(f z).length+k*w+vs.length=(f z).length+(k*w+vs.length)from by omega,List.drop_length_add_append,n8,n8,<- n8 (List.take _ _),ih];rfl
def MSl.Fine (z:MSl):Prop:=z.v.now.length=16/\(∀x∈z.v.may,x.length=16)/\(∀x∈z.v.ever,x.length=16)/\z.v.may.length<=1000/\z.v.ever.length<=1000
theorem a6U {α:Type} {l:List α} {k:Nat} {x:α} (h:l[k]? =some x):l.set k x=l:=by
 apply t6;intro i;rw[s9];split
 ·rename_i e;subst e;split
  ·exact h.symm
  ·rename_i e2;rw[j9 (by omega)]
 ·rfl
theorem b7E (x d:List UInt8):decide (x=d)=(x==d):=by
 by_cases h:x=d
 ·rw[h];simp
 ·rw[s8 h,beq_eq_false_iff_ne.2 h]
theorem MSl.now_at {Z:List MSl} {k:Nat} {z:MSl} (hz:Z[k]? =some z):((Z.flatMap MSl.cells).drop (k*19+0)).take 16=J4 z.v.now:=by
 have h:=a3o MSl.cells 19 (λ_=>rfl) Z k z hz;have h2:((Z.flatMap MSl.cells).drop (k*19)).take 16=(((Z.flatMap MSl.cells).drop (k*19)).take 19).take 16:=by rw[a4Z];rfl
 rw[Q3,h2,h];rfl
theorem b2r (q g:Nat) (Z:List MSl) (hn:Z.length<=65536) (hf:∀z∈Z,z.Fine) (i:Int) (d:List UInt8) (hd:d.length=16):FP 35 [pp q,iI i,a8r d] (b0z q g Z) (Ps (.bool (Mv.may (Z.map (·.v)) i d)) (b0z q g Z)):=by
 refine FE [2,0,0] Tryz.func35 λX F hX=>?_;refine J.qp (b9V q g Z.length hn i) [1] λ_=>?_
 by_cases hi:0<=i/\i<(Z.length:Int)
 ·have ha:Mv.adr Z.length g i=some ⟨g,i.toNat*19,none⟩:=by unfold Mv.adr;rw[i3 hi]
  obtain⟨k,rfl⟩:=i6 hi.1;obtain⟨z,hz⟩:∃z,Z[k]? =some z:=⟨_,d6 (by omega)⟩;obtain⟨f1,f2,f3,f4,f5⟩:=hf z (p6 hz);have hin:Mv.inR (Z.map (·.v)) (k:Int)=true:=by unfold Mv.inR;rw[n5,i9 hi.1,i9 hi.2];rfl
  have hpg:Mv.pg (Z.map (·.v)) (k:Int)=z.v:=by unfold Mv.pg;rw[j4,f9,j5,hz];rfl
  have hmy:Mv.may (Z.map (·.v)) (k:Int) d=if z.v.op then z.v.may.contains d else z.v.now==d:=by unfold Mv.may;rw[hin,hpg,s7]
  rw[ha,j4];refine J.qF λ_=>?_;have hcell:=λj hj=>a2k MSl.cells 19 MSl.cells_len hz j hj;refine J.qn 7 λ_=>?_;refine J.v (.bool z.v.op) rfl rfl (λhg aa w he hw=>C8 tk rfl rfl he rfl rfl rfl (hw.get (i:=2) rfl) (hcell 16 (by omega))) ?_;refine J.qd (λ_ h1=>?_) λ_ h1=>?_
  ·rw[i3 h1]at hmy;refine J.openAt 3 k rfl rfl (by rw[j5,hz];rfl) rfl ?_;refine J.pn 3 (.of [0,4,8,13,17,23,24]) [5,6] [1,2,3,4,5,6] λ_ _=>?_;refine J.vT (slv z.a1 z.v.may.length z.c1) rfl rfl (λhg aa w he hC=>C8 tk rfl rfl he rfl rfl rfl (hC rfl _ (B5 (i:=2) rfl)) (hcell 17 (by omega))) ?_;refine J.qp (b8c z.a1 z.v.may.length z.c1 z.v.may rfl (by omega) d hd f2) [6] λ_=>?_;refine J.q λ_=>?_;refine J.closeAt (A:=z.m1) 3 6 k rfl rfl rfl ?_;have hsame:(Z.map MSl.m1).set k z.m1=Z.map MSl.m1:=a6U (by rw[j5,hz];rfl);rw[hsame];refine J.qr [1,2,3,4] λ_=>?_;rw[hmy];exact⟨rfl,rfl⟩
  ·rw[g7 (by rw[h1];decide)]at hmy;refine J.pn 3 (.of [0,4,8,13,17,20,24]) [5,6] [1,2,3,4,5] λ_ _=>?_;refine J.vT (a8r z.v.now) rfl rfl (λhg aa w he hC=>H1 tk rfl rfl he rfl rfl rfl (hC rfl _ (B5 (i:=2) rfl)) (MSl.now_at hz) rfl) ?_;refine J.qn 1 λ_=>?_;refine J.vT (.bool (z.v.now==d)) rfl rfl (λhg aa w he hC=>(W0 (xs:=J4 z.v.now) (ys:=J4 d) rfl rfl rfl he rfl rfl a2D (a1d _) (a1d _) mkD gdD).trans (by rw[eqD _ _ f1 hd,b7E])) ?_;refine J.qr [1,2,3,4] λ_=>?_;rw[hmy];exact⟨rfl,rfl⟩
 ·have ha:Mv.adr Z.length g i=none:=by unfold Mv.adr;rw[g7 hi]
  have hmy:Mv.may (Z.map (·.v)) i d=false:=by
   unfold Mv.may Mv.inR;rw[n5];have:(decide (0<=i)&&decide (i<(Z.length:Int)))=false:=by simp;omega
   rw[this];rfl
  rw[ha];refine J.qT λ_=>?_;refine J.qr [1,2,3,4] λ_=>?_;rw[hmy];exact⟨rfl,rfl⟩

section
variable {P : Program} {ops : Array Oper}
theorem b5W {o:Oper} {x:Operand} (hx:o.op= .move x) {K:Act->World->Prop} {a:Act} {w:World} (h:sOp P ops o K a w):sOp P ops o (λa' w'=>K a' w'/\w'=w) a w:=by
 unfold sOp at*;split
 ·rename_i hw;rw[i3 hw]at h;have e:execOp a.eval o=pure (.value (a.eval x)):=by unfold execOp;rw[hx]
  rw[e]at h ⊢;exact⟨h,rfl⟩
 ·rename_i hw;rw[g7 hw]at h;exact⟨h,rfl⟩
theorem a5L {lt mv:List Nat} (hmv:∀j∈mv,∀o,ops[j]? =some o->∃x,o.op= .move x) {C D:World->Prop} {K:Act->World->Prop} {i:Nat} {oi:Oper} {v:Value} (hi:ops[i]? =some oi) (hsel:∀(j:Nat) (o:Oper) cs b,ops[j]? =some o->o.op≠ .select cs b)
  (hD:(i∉lt/\(∀w,C w->D w)/\∀j∈lt,j∈mv\/a1X ops 3 j i=true)\/(i∈lt/\∀w,D w)):
  ∀(fuel:Nat) (listed:Array Bool) (a:Act) (w:World),Shut ops listed->
   (∀j oj,ops[j]? =some oj->j≠i->listed.getD j true=false->(∀e∈oj.after,Region.binds .any e=true->e.on≠i)->oi.apart ops oj=true)->
   i∈Region.ready .any ops listed->YldIn P ops D oi v a->D w->(i∉lt->C w)->
   sAny P ops lt C K fuel (listed.setIfInBounds i true) (a.put oi.dst v) w->sAny P ops lt C K (fuel+1) listed a w:=by
 intro fuel
 induction fuel with
 | zero=>
  intro listed a w _ _ hr hy hDw hC H;refine⟨λh=>(by rw[h]at hr;cases hr),λj hj=>?_⟩
  by_cases hji:j=i
  ·subst hji;exact⟨oi,hi,hy.sOp hDw ⟨hC,H⟩⟩
  ·have:=ready_mono hj hji;rw[H.1]at this;cases this
 | succ fuel ih=>
  intro listed a w hsh hfree hr hy hDw hC H;refine⟨λh=>(by rw[h]at hr;cases hr),λj hj=>?_⟩
  by_cases hji:j=i
  ·subst hji;exact⟨oi,hi,hy.sOp hDw ⟨hC,H⟩⟩
  ·obtain⟨oj,hoj,h1⟩:=H.2 j (ready_mono hj hji);obtain⟨hjun,oj',hoj',hall⟩:=mem_ready.1 hj;have:oj'=oj:=by rw[hoj]at hoj';injection hoj' with e;exact e.symm
   subst this;have hiun:listed.getD i false≠true:=λh1=>by
    have h0:=(mem_ready.1 hr).1;rcases Q1 i listed.size with h' | h'
    ·simp[h']at h0 h1;rw[h0]at h1;cases h1
    ·simp[O6 h']at h1
   have hnot:∀e∈oj'.after,Region.binds .any e=true->e.on≠i:=λe he hb heq=>hiun (heq▸hall e he hb);have h2:=b3a (hfree j oj' hoj hji hjun hnot) (λcs b=>hsel i oi cs b hi) (λcs b=>hsel j oj' cs b hoj) hy h1;have hfree':∀k ok,ops[k]? =some ok->k≠i->(listed.setIfInBounds j true).getD k true=false->
     (∀e∈ok.after,Region.binds .any e=true->e.on≠i)->oi.apart ops ok=true:=λk ok hk hki hun hno=>by
    refine hfree k ok hk hki ?_ hno
    by_cases hjk:j=k
    ·subst hjk;exact hjun
    ·rw[getD_set_ne true hjk]at hun;exact hun
   have h2':sOp P ops oj' (λa' w'=>(YldIn P ops D oi v a'/\(j∉lt->C w')/\sAny P ops lt C K fuel ((listed.setIfInBounds i true).setIfInBounds j true) (a'.put oi.dst v) w')/\(j∈mv->w'=w)) a w:=by
    by_cases hm:j∈mv
    ·obtain⟨x,hx⟩:=hmv j hm oj' hoj;exact(b5W hx h2).mono λ_ _ hh=>⟨hh.1,λ_=>hh.2⟩
    ·exact h2.mono λ_ _ hh=>⟨hh,λh=>absurd h hm⟩
   refine⟨oj',hoj,h2'.mono λa' w' ⟨⟨hy',hC',h3⟩,hww⟩=>⟨hC',?_⟩⟩;have hdc:D w'/\(i∉lt->C w'):=by
    rcases hD with⟨hil,hCD,hw⟩ | ⟨hil,hd⟩
    ·by_cases hm:j∈mv
     ·rw[hww hm];exact⟨hDw,hC⟩
     ·have hjl:j∉lt:=λh=>by
       rcases hw j h with h' | h'
       ·exact hm h'
       ·exact hiun (a4m hsh h' hj)
      exact⟨hCD _ (hC' hjl),λ_=>hC' hjl⟩
    ·exact⟨hd _,λh=>absurd hil h⟩
   refine ih (listed.setIfInBounds j true) a' w' (hsh.set hj) hfree' (ready_mono hr (Ne.symm hji)) hy' hdc.1 hdc.2 ?_;rw[Array.setIfInBounds_comm _ _ hji];exact h3
theorem PT.sound2 {lt mv:List Nat} {C:World->Prop} {K:Act->World->Prop} (hs:Region.noSelect ops=true) (hmv:∀j∈mv,∀o,ops[j]? =some o->∃x,o.op= .move x) (hlt:∀j∈lt,∀i,i<ops.size->i∉lt->j∈mv\/a1X ops 3 j i=true):∀(t:PT) (fl:Bool) (n:Nat) (listed:Array Bool) (a:Act) (w:World),Shut ops listed->t.ok ops lt fl n listed=true->(t.allLt lt=false->C w)->pT P ops C K t a w->
  (fl=false->sAny P ops lt C K n listed a w)/\(∀i∈t.heads,∃o,ops[i]? =some o/\∃m,n=m+1/\sOp P ops o (λa' w'=>(i∉lt->C w')/\sAny P ops lt C K m (listed.setIfInBounds i true) a' w') a w)
 | .done,fl,n,listed,a,w,hsh,h,hC,hp=>by
  cases fl with
  | true=>simp[PT.ok]at h
  | false=>exact⟨λ_=>a8H (by simpa[PT.ok]using h) hp n,by simp[PT.heads]⟩
 | .take p i t,fl,n,listed,a,w,hsh,h,hC,hp=>by
  cases fl with
  | true=>simp[PT.ok]at h
  | false=>
   cases n with
   | zero=>simp[PT.ok]at h
   | succ n=>
    simp only[PT.ok,i4]at h;obtain⟨⟨⟨hr,hf⟩,ht⟩,hp2⟩:=h;refine⟨λ_=>?_,by simp[PT.heads]⟩;obtain⟨o,v,hi,hy,hp⟩:=hp;have hisz:i<ops.size:=(Array.getElem?_eq_some_iff.1 hi).1
    by_cases hil:i∈lt
    ·have hpt:p=true:=by simpa[hil]using hp2
     subst hpt;refine a5L hmv hi (Region.noSelect_spec hs) (.inr ⟨hil,λw h=>by cases h⟩) n listed a w hsh (Region.free_spec hi hf) (by simpa using hr) hy (λh=>by cases h) (λh=>absurd hil h) ((PT.sound2 hs hmv hlt t false n _ _ w (hsh.set (by simpa using hr)) ht (λhe=>hC ?_) hp).1 rfl);simp[PT.allLt,he]
    ·have hCw:C w:=hC (by simp[PT.allLt,hil]);exact a5L hmv hi (Region.noSelect_spec hs) (.inl ⟨hil,λw h _=>h,λj hj=>hlt j hj i hisz hil⟩) n listed a w hsh (Region.free_spec hi hf) (by simpa using hr) hy (λ_=>hCw) (λ_=>hCw) ((PT.sound2 hs hmv hlt t false n _ _ w (hsh.set (by simpa using hr)) ht (λ_=>hCw) hp).1 rfl)
 | .alt l i t m,fl,n,listed,a,w,hsh,h,hC,hp=>by
  cases n with
  | zero=>simp[PT.ok]at h
  | succ n=>
   simp only[PT.ok,i4]at h;obtain⟨⟨⟨⟨⟨ht,hm⟩,hall⟩,hl⟩,hlate⟩,hrd⟩:=h;obtain⟨⟨o,hi,hp⟩,hpm⟩:=hp;have hl':l=true↔i∈lt:=by
    have:=a6c hl;rw[<- this];simp
   have hmm:=(PT.sound2 hs hmv hlt m true (n+1) listed a w hsh hm (λhe=>hC (by simp[PT.allLt,he])) hpm).2;have hheads:∀j∈PT.heads (.alt l i t m),∃o,ops[j]? =some o/\∃m,n+1=m+1/\sOp P ops o (λa' w'=>(j∉lt->C w')/\sAny P ops lt C K m (listed.setIfInBounds j true) a' w') a w:=by
    intro j hj;rcases List.mem_cons.1 hj with rfl | hj
    ·refine⟨o,hi,n,rfl,hp.mono λa' w' hh=>⟨λhn=>hh.1 ?_,(PT.sound2 hs hmv hlt t false n _ a' w' (hsh.set (by simpa using hrd)) ht (λhe=>hh.1 ?_) hh.2).1 rfl⟩⟩
     ·cases l with
      | false=>rfl
      | true=>exact absurd (hl'.1 rfl) hn
     ·cases l with
      | false=>rfl
      | true=>simp only[a1I,C0]at hlate;rw[hlate]at he;cases he
    ·exact hmm j hj
   refine⟨λhfl=>?_,hheads⟩;subst hfl;simp only[C0,i4,D6]at hall;refine⟨λh0=>absurd hall.1 (by simp[h0]),λj hj=>?_⟩;obtain⟨o,h1,m',h2,h3⟩:=hheads j (by simpa using hall.2 j hj);have:m'=n:=by omega
   subst this;exact⟨o,h1,h3⟩
 | .non,fl,n,listed,a,w,hsh,h,hC,hp=>by
  cases fl with
  | true=>exact⟨(λh=>by cases h),by simp[PT.heads]⟩
  | false=>simp[PT.ok]at h
end
def b6Z (o:Oper):Bool:=match o.op with
 | .move _=>true
 | _=>false
def PT.good2 (ops:Array Oper) (lt mv:List Nat) (t:PT):Bool:=Region.noSelect ops&&(mv.all λj=>(ops[j]?.map b6Z).getD true)&&lt.all (λj=>mv.contains j||(List.range ops.size).all λi=>lt.contains i||a1X ops 3 j i)&&t.ok ops lt false ops.size (Array.replicate ops.size false)
theorem a6i {P:Program} {id:Nat} {ops:Array Oper} {C:World->Prop} {Q:Exit->Act->World->Prop} {a:Act} {w:World} (hm:P.follows .mixedOrders=true) (t:PT) (lt mv:List Nat) (ht:t.good2 ops lt mv=true) (hC:C {w with drawn:=w.drawn+1})
  (h:pT P ops C (Q .normal) t a {w with drawn:=w.drawn+1}):(Code.region id ops true).wp P Q a w:=by
 simp only[PT.good2,i4,D6,I4]at ht;obtain⟨⟨⟨h1,h0⟩,h2⟩,h3⟩:=ht;refine wp_region_any hm (sAny.wpAny (λ_ _ h=>h) _ _ _ _ ((PT.sound2 h1 (lt:=lt) (mv:=mv) (λj hj o ho=>?_) (λj hj i hi hn=>?_) t false _ _ a _ (Shut.none _) h3 (λ_=>hC) h).1 rfl))
 ·have:=h0 j hj;rw[ho]at this;simp only[B6,j6]at this;unfold b6Z at this;split at this
  ·exact⟨_,by assumption⟩
  ·cases this
 ·have:=h2 j hj;rcases Bool.or_eq_true_iff.1 this with h | h
  ·exact .inl (by simpa using h)
  ·rw[D6]at h;have:=h i (List.mem_range.2 hi);exact .inr (by simpa[hn]using this)
theorem J.plan2 {X:Cx} {K:List KI} {E:Env} {L:List Atom} {id:Nat} {ops:Array Oper} (t:PT) (lt mv ro:List Nat) (hm:X.P.follows .mixedOrders=true) (ht:t.good2 ops lt mv=true) (h:J X (.reg ops (snap L ro) t::K) E L):J X (.code (.region id ops true)::K) E L:=
 λa w hx he hs=>a6i hm t lt mv ht (CAt.snap (w:={w with drawn:=w.drawn+1}) hs ro) (h a _ hx.drew he hs)
theorem a0o (l:List (List UInt8)) (d:List UInt8):O7 l++J4 d=O7 (l++[d]):=by unfold O7;rw[I9];simp
theorem MSl.put17 (d:List UInt8) (o:Bool) (A B:List (List UInt8)) (a1:Option Nat) (c1:Nat) (a2:Option Nat) (c2:Nat) (x:Option Nat×Nat):(MSl.cells ⟨⟨d,o,A,B⟩,a1,c1,a2,c2⟩).set 17 (slv x.1 (A.length+1) x.2)=MSl.cells ⟨⟨d,o,A++[d],B⟩,x.1,x.2,a2,c2⟩:=by
 unfold MSl.cells;dsimp only;rw[i5];rfl
theorem MSl.put18 (d:List UInt8) (o:Bool) (A B:List (List UInt8)) (a1:Option Nat) (c1:Nat) (a2:Option Nat) (c2:Nat) (x:Option Nat×Nat):(MSl.cells ⟨⟨d,o,A,B⟩,a1,c1,a2,c2⟩).set 18 (slv x.1 (B.length+1) x.2)=MSl.cells ⟨⟨d,o,A,B++[d]⟩,a1,c1,x.1,x.2⟩:=by
 unfold MSl.cells;dsimp only;rw[i5];rfl
theorem b6E (q g:Nat) (Z:List MSl) (hn:Z.length<=65536) (hf:∀z∈Z,z.Fine) (i:Int) (d:List UInt8) (hd:d.length=16):FP 32 [pp q,iI i,a8r d] (b0z q g Z) (λv As=>∃Z',v= .bool (Mv.inR (Z.map (·.v)) i)/\As=b0z q g Z'/\Z'.map (·.v)=Mv.write (Z.map (·.v)) i d):=by
 refine FE [2,0,0] Tryz.func32 λX F hX=>?_;refine J.qp (b9V q g Z.length hn i) [1] λ_=>?_
 by_cases hi:0<=i/\i<(Z.length:Int)
 ·have ha:Mv.adr Z.length g i=some ⟨g,i.toNat*19,none⟩:=by unfold Mv.adr;rw[i3 hi]
  obtain⟨k,rfl⟩:=i6 hi.1;obtain⟨z,hz⟩:∃z,Z[k]? =some z:=⟨_,d6 (by omega)⟩;obtain⟨f1,f2,f3,f4,f5⟩:=hf z (p6 hz);have hin:Mv.inR (Z.map (·.v)) (k:Int)=true:=by unfold Mv.inR;rw[n5,i9 hi.1,i9 hi.2];rfl
  rw[ha,j4];refine J.qF λ_=>?_;refine J.openAt 3 k rfl rfl (by rw[j5,hz];rfl) rfl ?_;refine J.openAt 4 k rfl rfl (by rw[j5,hz];rfl) rfl ?_;have hl1:k*19+19<=(Z.flatMap MSl.cells).length:=by rw[MSl.flat_len];omega
  have S9:∀y:MSl,(Z.set k y)[k]? =some y:=λy=>by rw[s9,i3 rfl,i3 (by omega)]
  refine J.qn 8 λ_=>?_;have hst:((Z.flatMap MSl.cells).take (k*19)++J4 d++(Z.flatMap MSl.cells).drop (k*19+(J4 d).length))=(Z.set k ⟨⟨d,z.v.op,z.v.may,z.v.ever⟩,z.a1,z.c1,z.a2,z.c2⟩).flatMap MSl.cells:=a9n MSl.cells 19 MSl.cells_len (J4 d) hz (by show 16<=19;omega) (y:=⟨⟨d,z.v.op,z.v.may,z.v.ever⟩,z.a1,z.c1,z.a2,z.c2⟩) rfl;refine J.sN (J4 d) 2 ((Z.set k ⟨⟨d,z.v.op,z.v.may,z.v.ever⟩,z.a1,z.c1,z.a2,z.c2⟩).flatMap MSl.cells) ?_ ?_ ?_
  ·show k*19+0+16<=_;omega
  ·rw[Q3];exact hst
  refine J.qn 3 λ_=>?_;refine J.s1 2 ((Z.set k ⟨⟨d,false,z.v.may,z.v.ever⟩,z.a1,z.c1,z.a2,z.c2⟩).flatMap MSl.cells) ?_ ?_ ?_
  ·rw[MSl.flat_len,y8,<- MSl.flat_len];omega
  ·exact(O8 MSl.cells 19 MSl.cells_len 16 (y:=⟨⟨d,false,z.v.may,z.v.ever⟩,z.a1,z.c1,z.a2,z.c2⟩) _ (S9 ⟨⟨d,z.v.op,z.v.may,z.v.ever⟩,z.a1,z.c1,z.a2,z.c2⟩) (by omega) rfl).trans (by rw[Y5];all_goals rfl)
  refine J.q λ_=>?_;refine J.plan2 (.take true 0 (.take true 1 (.take true 2 (.take true 3 (.take true 4 (.take false 5 (.take false 6 (.take true 9 (.take true 10 (.take true 11 (.take false 12 (.take false 13 (.alt false 7 ((.alt false 8 ((.of [58,62,64,68,75,76,80,87])) (.alt false 14 ((.of [34,62,64,68,75,76,80,87])) .non))) (.alt false 14 ((.of [30,34,62,64,68,75,76,80,87])) .non)))))))))))))) [1,16,17,18,19,20,21] [1] [1,2,3,4,5] (by rw[hX.hP];kernel_rfl) (by kernel_rfl) ?_;have hcell:=λj hj=>a2k MSl.cells 19 MSl.cells_len (S9 ⟨⟨d,false,z.v.may,z.v.ever⟩,z.a1,z.c1,z.a2,z.c2⟩) j hj;refine J.qn 6 λ_=>?_;refine J.vT (slv z.a1 z.v.may.length z.c1) rfl rfl (λhg aa w he hC=>C8 tk rfl rfl he rfl rfl rfl (hC rfl _ (B5 (i:=2) rfl)) (hcell 17 (by omega))) ?_;refine J.qn 4 λ_=>?_;refine J.vT (slv z.a2 z.v.ever.length z.c2) rfl rfl (λhg aa w he hC=>C8 tk rfl rfl he rfl rfl rfl (hC rfl _ (B5 (i:=2) rfl)) (hcell 18 (by omega))) ?_;refine J.qn 1 λ_=>?_;refine J.join (α:=(Option Nat×Nat)×(Option Nat×Nat)) (λ_=>[sv 6 (.bool false)]) (λx=>[.hp F, .pt q 118 [.slice (some ⟨g,0,none⟩) Z.length Z.length], .pt g 120 ((Z.set k ⟨⟨d,false,z.v.may++[d],z.v.ever++[d]⟩,x.1.1,x.1.2,x.2.1,x.2.2⟩).flatMap MSl.cells), .hp (HP.of ((Z.map MSl.m1).set k .emp)), .hp (HP.of ((Z.map MSl.m2).set k .emp)),n9 30 16 x.1.1 (z.v.may.length+1) x.1.2 (O7 (z.v.may++[d])),n9 30 16 x.2.1 (z.v.ever.length+1) x.2.2 (O7 (z.v.ever++[d]))]) (λhj=>?_) (λx=>?_)
  ·refine J.alts ?_ ?_
   ·skip
    refine J.qn 1 λbb=>?_;refine J.alts ?_ ?_
    ·skip
     refine J.ap 6 8 0 (a0o z.v.may d) λa3 c3=>?_;refine J.qn 1 λbc=>?_;refine J.ap 7 9 0 (a0o z.v.ever d) λa4 c4=>?_;refine J.qn 2 λ_=>?_;refine J.s1 2 ((Z.set k ⟨⟨d,false,z.v.may++[d],z.v.ever⟩,a3,c3,z.a2,z.c2⟩).flatMap MSl.cells) ?_ ?_ ?_
     ·rw[MSl.flat_len,y8,<- MSl.flat_len];omega
     ·exact(O8 MSl.cells 19 MSl.cells_len 17 (y:=⟨⟨d,false,z.v.may++[d],z.v.ever⟩,a3,c3,z.a2,z.c2⟩) _ (S9 ⟨⟨d,false,z.v.may,z.v.ever⟩,z.a1,z.c1,z.a2,z.c2⟩) (by omega) (MSl.put17 _ _ _ _ _ _ _ _ (a3,c3))).trans (by rw[Y5];all_goals rfl)
     refine J.qn 2 λ_=>?_;refine J.s1 2 ((Z.set k ⟨⟨d,false,z.v.may++[d],z.v.ever++[d]⟩,a3,c3,a4,c4⟩).flatMap MSl.cells) ?_ ?_ ?_
     ·rw[MSl.flat_len,y8,<- MSl.flat_len];omega
     ·exact(O8 MSl.cells 19 MSl.cells_len 18 (y:=⟨⟨d,false,z.v.may++[d],z.v.ever++[d]⟩,a3,c3,a4,c4⟩) _ (S9 ⟨⟨d,false,z.v.may++[d],z.v.ever⟩,a3,c3,z.a2,z.c2⟩) (by omega) (MSl.put18 _ _ _ _ _ _ _ _ (a4,c4))).trans (by rw[Y5];all_goals rfl)
     exact J.goto [0,1,2,3,4,6,7] (hj ((a3,c3),(a4,c4))) ⟨rfl,trivial⟩ rfl rfl
    ·skip
     refine J.qn 1 λbc=>?_;refine J.ap 6 8 0 (a0o z.v.may d) λa3 c3=>?_;refine J.ap 7 9 0 (a0o z.v.ever d) λa4 c4=>?_;refine J.qn 2 λ_=>?_;refine J.s1 2 ((Z.set k ⟨⟨d,false,z.v.may++[d],z.v.ever⟩,a3,c3,z.a2,z.c2⟩).flatMap MSl.cells) ?_ ?_ ?_
     ·rw[MSl.flat_len,y8,<- MSl.flat_len];omega
     ·exact(O8 MSl.cells 19 MSl.cells_len 17 (y:=⟨⟨d,false,z.v.may++[d],z.v.ever⟩,a3,c3,z.a2,z.c2⟩) _ (S9 ⟨⟨d,false,z.v.may,z.v.ever⟩,z.a1,z.c1,z.a2,z.c2⟩) (by omega) (MSl.put17 _ _ _ _ _ _ _ _ (a3,c3))).trans (by rw[Y5];all_goals rfl)
     refine J.qn 2 λ_=>?_;refine J.s1 2 ((Z.set k ⟨⟨d,false,z.v.may++[d],z.v.ever++[d]⟩,a3,c3,a4,c4⟩).flatMap MSl.cells) ?_ ?_ ?_
     ·rw[MSl.flat_len,y8,<- MSl.flat_len];omega
     ·exact(O8 MSl.cells 19 MSl.cells_len 18 (y:=⟨⟨d,false,z.v.may++[d],z.v.ever++[d]⟩,a3,c3,a4,c4⟩) _ (S9 ⟨⟨d,false,z.v.may++[d],z.v.ever⟩,a3,c3,z.a2,z.c2⟩) (by omega) (MSl.put18 _ _ _ _ _ _ _ _ (a4,c4))).trans (by rw[Y5];all_goals rfl)
     exact J.goto [0,1,2,3,4,6,7] (hj ((a3,c3),(a4,c4))) ⟨rfl,trivial⟩ rfl rfl
   ·skip
    refine J.qn 2 λbb=>?_;refine J.ap 6 9 0 (a0o z.v.may d) λa3 c3=>?_;refine J.ap 7 8 0 (a0o z.v.ever d) λa4 c4=>?_;refine J.qn 2 λ_=>?_;refine J.s1 2 ((Z.set k ⟨⟨d,false,z.v.may++[d],z.v.ever⟩,a3,c3,z.a2,z.c2⟩).flatMap MSl.cells) ?_ ?_ ?_
    ·rw[MSl.flat_len,y8,<- MSl.flat_len];omega
    ·exact(O8 MSl.cells 19 MSl.cells_len 17 (y:=⟨⟨d,false,z.v.may++[d],z.v.ever⟩,a3,c3,z.a2,z.c2⟩) _ (S9 ⟨⟨d,false,z.v.may,z.v.ever⟩,z.a1,z.c1,z.a2,z.c2⟩) (by omega) (MSl.put17 _ _ _ _ _ _ _ _ (a3,c3))).trans (by rw[Y5];all_goals rfl)
    refine J.qn 2 λ_=>?_;refine J.s1 2 ((Z.set k ⟨⟨d,false,z.v.may++[d],z.v.ever++[d]⟩,a3,c3,a4,c4⟩).flatMap MSl.cells) ?_ ?_ ?_
    ·rw[MSl.flat_len,y8,<- MSl.flat_len];omega
    ·exact(O8 MSl.cells 19 MSl.cells_len 18 (y:=⟨⟨d,false,z.v.may++[d],z.v.ever++[d]⟩,a3,c3,a4,c4⟩) _ (S9 ⟨⟨d,false,z.v.may++[d],z.v.ever⟩,a3,c3,z.a2,z.c2⟩) (by omega) (MSl.put18 _ _ _ _ _ _ _ _ (a4,c4))).trans (by rw[Y5];all_goals rfl)
    exact J.goto [0,1,2,3,4,6,7] (hj ((a3,c3),(a4,c4))) ⟨rfl,trivial⟩ rfl rfl
  obtain⟨⟨a3,c3⟩,a4,c4⟩:=x;dsimp only;obtain⟨y,hy⟩:∃y:MSl,y=⟨⟨d,false,z.v.may++[d],z.v.ever++[d]⟩,a3,c3,a4,c4⟩:=⟨_,rfl⟩;rw[<- hy,show n9 30 16 a3 (z.v.may.length+1) c3 (O7 (z.v.may++[d]))=y.m1 from by rw[hy];unfold MSl.m1;rw[i5];rfl,show n9 30 16 a4 (z.v.ever.length+1) c4 (O7 (z.v.ever++[d]))=y.m2 from by rw[hy];unfold MSl.m2;rw[i5];rfl];refine J.closeAt (A:=y.m1) 3 5 k rfl rfl rfl ?_;refine J.closeAt (A:=y.m2) 4 6 k rfl rfl rfl ?_;rw[<- K0,<- K0];refine J.qr [1,2,3,4] λ_=>?_;refine⟨Z.set k y,?_,?_,?_⟩
  ·rw[hin]
  ·unfold b0z;rw[y8];rfl
  ·have hpg:Mv.pg (Z.map (·.v)) (k:Int)=z.v:=by unfold Mv.pg;rw[j4,f9,j5,hz];rfl
   unfold Mv.write;rw[hin,i3 rfl,hpg,K0,j4,hy];rfl
 ·have ha:Mv.adr Z.length g i=none:=by unfold Mv.adr;rw[g7 hi]
  have hin:Mv.inR (Z.map (·.v)) i=false:=by
   unfold Mv.inR;rw[n5];simp;omega
  rw[ha];refine J.qT λ_=>?_;refine J.qr [1,2,3,4] λ_=>?_;exact⟨Z,by rw[hin],rfl,by unfold Mv.write;rw[hin];rfl⟩
theorem MSl.m1_of {y z:MSl} (ha:y.a1=z.a1) (hc:y.c1=z.c1) (hv:y.v.may=z.v.may):y.m1=z.m1:=by unfold MSl.m1;rw[ha,hc,hv]
theorem MSl.m2_of {y z:MSl} (ha:y.a2=z.a2) (hc:y.c2=z.c2) (hv:y.v.ever=z.v.ever):y.m2=z.m2:=by unfold MSl.m2;rw[ha,hc,hv]
theorem MSl.map_m1 {Z:List MSl} {k:Nat} {z y:MSl} (hz:Z[k]? =some z) (h:y.m1=z.m1):(Z.set k y).map MSl.m1=Z.map MSl.m1:=by rw[K0,h];exact a6U (by rw[j5,hz];rfl)
theorem MSl.map_m2 {Z:List MSl} {k:Nat} {z y:MSl} (hz:Z[k]? =some z) (h:y.m2=z.m2):(Z.set k y).map MSl.m2=Z.map MSl.m2:=by rw[K0,h];exact a6U (by rw[j5,hz];rfl)
theorem b5x {α:Type} {f:α->α} {V Y:List α} {k:Nat} {x:α} (h:Y=(V.take k).map f++V.drop k) (hk:k<V.length) (hx:Y[k]? =some x):Y.set k (f x)=(V.take (k+1)).map f++V.drop (k+1):=by
 have hl:((V.take k).map f).length=k:=by simp;omega
 have hv:V.drop k=V[k]::V.drop (k+1):=t7 hk;have he:x=V[k]:=by
  rw[h,B8 (by omega),hl,Y3,hv,R0]at hx;injection hx with hx;exact hx.symm
 rw[h,hv,P8 _ _ (by omega),hl,Y3,a0q,List.take_succ_eq_append_getElem hk,x7,n8,he];rfl
def Mv.cut1 (v:MPv):MPv:={v with op:=true}
theorem c0C (q g:Nat) (Z:List MSl) (hn:Z.length<=65536):FP 34 [pp q] (b0z q g Z) (λv As=>∃Z',v= .tuple #[]/\As=b0z q g Z'/\Z'.map (·.v)=Mv.cut (Z.map (·.v))):=by
 refine FE [2] Tryz.func34 λX F hX=>?_;refine J.qF λ_=>?_;refine J.q λ_=>?_;refine J.l (α:=(Nat×List MSl)) (λz=>z.1<=Z.length/\z.2.length=Z.length/\z.2.map MSl.m1=Z.map MSl.m1/\z.2.map MSl.m2=Z.map MSl.m2/\z.2.map (·.v)=((Z.map (·.v)).take z.1).map Mv.cut1++(Z.map (·.v)).drop z.1) (λz=>[si 10 z.1,si 9 Z.length,⟨0,pp q,2, .tt⟩]) [2] (λz=>[.pt g 120 (z.2.flatMap MSl.cells)]) (λz=>Z.length-z.1) ((0,Z)) (⟨l8 _,rfl,rfl,rfl,rfl⟩) λz hI=>?_;obtain⟨k,Y⟩:=z;dsimp only at hI ⊢;obtain⟨hk,hYl,hY1,hY2,hY⟩:=hI;refine J.qd (λ_ h1=>?_) λ_ h1=>?_
 ·simp only[d7,j3]at h1;obtain⟨z,hz⟩:∃z,Y[k]? =some z:=⟨_,d6 (by omega)⟩;have hstep:(Y.set k ⟨Mv.cut1 z.v,z.a1,z.c1,z.a2,z.c2⟩).map (·.v)=((Z.map (·.v)).take (k+1)).map Mv.cut1++(Z.map (·.v)).drop (k+1):=by
   rw[K0];exact b5x hY (by simpa using h1) (by rw[j5,hz];rfl)
  refine J.qn 16 λ_=>?_;refine J.s1 2 ((Y.set k ⟨Mv.cut1 z.v,z.a1,z.c1,z.a2,z.c2⟩).flatMap MSl.cells) ?_ ?_ ?_
  ·show 0+(k:Int).toNat*19+16<_;rw[MSl.flat_len];omega
  ·rw[show 0+(k:Int).toNat*19+16=k*19+16 from by omega];exact O8 MSl.cells 19 MSl.cells_len 16 (y:=⟨Mv.cut1 z.v,z.a1,z.c1,z.a2,z.c2⟩) _ hz (by omega) rfl
  refine J.q λ_=>?_;refine J.n ((k+1,Y.set k ⟨Mv.cut1 z.v,z.a1,z.c1,z.a2,z.c2⟩)) (⟨by dsimp only;omega,by dsimp only;rw[y8];exact hYl,(MSl.map_m1 (y:=⟨Mv.cut1 z.v,z.a1,z.c1,z.a2,z.c2⟩) hz (MSl.m1_of rfl rfl rfl)).trans hY1,(MSl.map_m2 (y:=⟨Mv.cut1 z.v,z.a1,z.c1,z.a2,z.c2⟩) hz (MSl.m2_of rfl rfl rfl)).trans hY2,hstep⟩) (by dsimp only;omega) [0,1,2,3,4]
 simp only[c9,j3]at h1;obtain rfl:k=Z.length:=by omega
 refine J.q λ_=>?_;refine J.f [1,2,3,4] ?_;refine⟨Y,rfl,?_,?_⟩
 ·unfold b0z;rw[hYl,hY1,hY2];rfl
 ·rw[hY,A6 (by simp),a9B (by simp),y9];rfl
theorem Fv.allG_keep {k m:Nat}:∀(n:Nat) (i:Int) (Z:Fv),Z.Ok k m->(Fv.allG n i Z).1.Ok k m
 | 0,_,_,h=>h
 | n+1,i,Z,h=>by
  rw[Fv.allG_succ];split
  ·exact(Fv.read_keep h i).1
  ·exact Fv.allG_keep n (i+1) _ (Fv.read_keep h i).1
theorem Fv.all_keep {Z:Fv} {k m:Nat} (h:Z.Ok k m):Z.all.1.Ok k m:=by
 unfold Fv.all;split
 ·exact Fv.allG_keep _ _ _ h
 ·exact Fv.allG_keep _ _ _ h
namespace B21
def d1 (n:UInt8):List UInt8:=n::List.replicate 15 0
def N0:Nand:=Nand.new 3 8 2
def F0:Fv:=Fv.of (M3 N0).1
def F1:Fv×Int:=F0.write 1 (d1 7)
def F2:Fv×Int:=F1.1.trim 2
def F3:Fv×Int:=F2.1.write 3 zd
def F4:Fv×List UInt8×Int:=F3.1.read 1
def F5:Fv×Int:=F4.1.flush
def F6:Fv:=F5.1.setN (F5.1.S.N.setCut (-1) 0)
def F7:Fv×List UInt8×Int:=F6.read 1
def N8:Nand:=F7.1.S.N.onN
def F8:Fv:=Fv.of (M3 N8).1
def F9:Fv×List UInt8×Int:=F8.read 1
def Fa:Fv×List (List UInt8)×Int:=F9.1.all
def P0:Pv:=Pv.new 3 8 2 []
def s1:Stp:=⟨2,0,d1 9,0,0,dF⟩
def s2:Stp:=⟨1,0,zd,0,0,dF⟩
def Z1:Fv:=((F0.setN F0.S.N).write 0 (d1 9)).1
def Z2:Fv:=((Z1.setN Z1.S.N).read 0).1
def Z3:Fv:=((Z2.setN Z2.S.N)).flush.1
theorem m0:(M3 N0).2=0:=by kernel_rfl
theorem v1:F1.2=0:=by kernel_rfl
theorem v2:F2.2=0:=by kernel_rfl
theorem v3:F3.2=3:=by kernel_rfl
theorem v4:F4.2.2=0:=by kernel_rfl
theorem w4:F4.2.1=d1 7:=by kernel_rfl
theorem v5:F5.2=0:=by kernel_rfl
theorem v7:F7.2.2=9:=by kernel_rfl
theorem m8:(M3 N8).2=0:=by kernel_rfl
theorem v9:F9.2.2=0:=by kernel_rfl
theorem w9:F9.2.1=d1 7:=by kernel_rfl
theorem va:Fa.2.1.length=3:=by kernel_rfl
theorem wa:Fa.2.2=0:=by kernel_rfl
theorem z0:P0.Z=some F0:=by kernel_rfl
theorem e1:(P0.step s1).2.err=0:=by kernel_rfl
theorem z1:(P0.step s1).1.Z=some Z1:=by kernel_rfl
def P1:Pv:=(P0.step s1).1
theorem e2:(P1.step s2).2.data=d1 9:=by kernel_rfl
theorem z2:(P1.step s2).1.Z=some Z2:=by kernel_rfl
def P2:Pv:=(P1.step s2).1
theorem z3:(P2.step flS).1.Z=some Z3:=by kernel_rfl
theorem pL1:P1.L=[]:=by kernel_rfl
theorem pl1:P1.log.length=1:=by kernel_rfl
theorem pL2:P2.L=[]:=by kernel_rfl
theorem lg2:P2.log.length=2:=by kernel_rfl
theorem t3:decide ((Z3.ticks 50).2>=0)=true:=by kernel_rfl
theorem lgA:Fa.1.lg=3:=by kernel_rfl
def M0:List MPv:=Mv.new 2
def M1:List MPv:=Mv.cut (Mv.write M0 0 (d1 1))
theorem q1:Mv.may M1 0 zd=true:=by kernel_rfl
theorem q2:Mv.may M1 0 (d1 1)=true:=by kernel_rfl
theorem q3:Mv.may M1 0 (d1 2)=false:=by kernel_rfl
def K (j:Nat):Nat:=(20-j)*10000000000000
theorem ok0:F0.Ok (K 0) 0:=Fv.of_ok (a7q (a6F 3 8 2 rfl _ (by decide))).1 (by decide)
theorem ok1:F1.1.Ok (K 1) 0:=(Fv.write_keep (ok0.less (k':=Fv.cW+(1+K 1)) (by decide)) 1 rfl).1
theorem ok2:F2.1.Ok (K 2) 0:=(Fv.trim_keep (ok1.less (k':=Fv.cW+(1+K 2)) (by decide)) 2).1
theorem ok3:F3.1.Ok (K 3) 0:=(Fv.write_keep (ok2.less (k':=Fv.cW+(1+K 3)) (by decide)) 3 rfl).1
theorem ok4:F4.1.Ok (K 4) 0:=(Fv.read_keep (ok3.less (k':=K 4) (by decide)) 1).1
theorem ok5:F5.1.Ok (K 5) 0:=(Fv.flush_keep (ok4.less (k':=Fv.cW*200+K 5) (by decide))).1
theorem ok6:F6.Ok (K 5) 0:=ok5.setN (Nand.like_cut _ _ _) (ok5.dv.gd.cut (-1) 0 (by decide) (by decide))
theorem ok7:F7.1.Ok (K 5) 0:=(Fv.read_keep ok6 1).1
theorem g8:N8.Gd (Dv.costK+K 6) 0:=(ok7.dv.gd.less (by decide) (j7 0)).on
theorem ok8:F8.Ok (K 6) 0:=Fv.of_ok (a7q g8).1 (by decide)
theorem ok9:F9.1.Ok (K 6) 0:=(Fv.read_keep ok8 1).1
theorem oka:Fa.1.Ok (K 6) 0:=Fv.all_keep ok9
theorem okz1:Z1.Ok (K 1) 0:=(Fv.write_keep ((ok0.setN (Nand.Like.refl _) ok0.dv.gd).less (k':=Fv.cW+(1+K 1)) (by decide)) 0 rfl).1
theorem okz2:Z2.Ok (K 1) 0:=(Fv.read_keep (okz1.setN (Nand.Like.refl _) okz1.dv.gd) 0).1
theorem okz2o:Z2.S.N.off=false:=by kernel_rfl
end B21
end Go.Proofs.YtpakpgkdpofbhaaGreat
namespace Go.Proofs.YtpakpgkdpofbhaaGreat
open Go Go.RowKit
theorem a2o (q n:Nat) (A:Pad) (P:Pv) (Z:Fv) (hZ:P.Z=some Z):a2U q n A P=[PlQ q n (some Z) A.f (pp A.fp) (slv A.a2 P.log.length A.c2), .pt A.fp 247 [.slice (Q9 A.a) P.L.length A.c],rdA (Q9 A.a) 7 P.L.length (A4 P.L),n9 61 17 A.a2 P.log.length A.c2 (R9 P.log)]++FvP A.f A.p n A.t A.l A.d Z:=by unfold a2U a3L;rw[hZ];rfl
theorem a6C {Z:List MSl} {M:List MPv} (h:Z.map (·.v)=M) (hM:∀v∈M,v.now.length=16/\(∀x∈v.may,x.length=16)/\(∀x∈v.ever,x.length=16)/\v.may.length<=1000/\v.ever.length<=1000):∀z∈Z,z.Fine:=λz hz=>hM z.v (by rw[<- h];exact List.mem_map.2 ⟨z,hz,rfl⟩)
theorem b4t:FP 80 [] [] (Ps (.bool true) []):=by
 refine FE [] Tryz.func80 λX F hX=>?_;refine J.qp (b4s) [] λ_=>?_;exact J.qx []
open B21
theorem b4p:FP 24 [] [] (Ps (.bool true) []):=by
 have G0:N0.Gd (Dv.costK+0) 0:=a6F 3 8 2 rfl _ (by decide);refine FE [] Tryz.func24 λX F hX=>?_;refine J.qc (a7n 3 8 2 rfl) [] λ_=>?_;rintro v As ⟨n,rfl,rfl⟩;refine⟨_,rfl,trivial,?_⟩;rw[show Nand.new 3 8 2=N0 from rfl];refine J.qc (a1A n N0 0 0 G0 (by decide) rfl) [1] λ_=>?_;rintro v As (⟨_,f,p,t,l,d,rfl,rfl⟩ | ⟨he,rfl,rfl⟩)
 rotate_left
 ·exact absurd m0 he
 refine⟨_,rfl,trivial,?_⟩;rw[show Fv.of (M3 N0).1=F0 from rfl];refine J.qF λ_=>?_;refine J.qp (a4I f p n t l d F0 (K 1) 0 (ok0.less (by decide)) (by decide) 1 (d1 7) rfl) [1,2,3,4,5,6] λ_=>?_;rw[show F0.write 1 (d1 7)=F1 from rfl,v1];refine J.qp (b3u f p n t l d F1.1 (K 2) 0 (ok1.less (by decide)) (by decide) 2) [1,2,3,4,5,6] λ_=>?_;rw[show F1.1.trim 2=F2 from rfl,v2];refine J.qp (a4I f p n t l d F2.1 (K 3) 0 (ok2.less (by decide)) (by decide) 3 zd rfl) [1,2,3,4,5,6] λ_=>?_;rw[show F2.1.write 3 zd=F3 from rfl,v3];refine J.qp (a3F f p n t l d F3.1 (K 3) 0 ok3 1) [1,2,3,4,5,6] λ_=>?_;rw[show F3.1.read 1=F4 from rfl,v4,w4];refine J.q λc7=>?_;refine J.cb (a7F f p n t l d F4.1 (K 5) 0 (ok4.less (by decide)) (by decide)) [1,2,3,4,5,6] ?_;refine cpq ⟨_,rfl,trivial,?_⟩;rw[show F4.1.flush=F5 from rfl,v5];refine J.qp (b1g n F5.1.S.N (-1) 0) [3] λ_=>?_;refine J.qp (a3F f p n t l d F6 (K 5) 0 ok6 1) [1,2,3,4,5,6] λ_=>?_;rw[show F6.read 1=F7 from rfl,v7];refine J.q λc10=>?_;refine J.cb (b6z n F7.1.S.N) [3] ?_;refine cpq ⟨_,rfl,trivial,?_⟩;rw[show F7.1.S.N.onN=N8 from rfl];refine J.qc (a1A n N8 (K 6) 0 g8 (by decide) rfl) [3] λ_=>?_;rintro v As (⟨_,f',p',t',l',d',rfl,rfl⟩ | ⟨he,rfl,rfl⟩)
 rotate_left
 ·exact absurd m8 he
 refine⟨_,rfl,trivial,?_⟩;rw[show Fv.of (M3 N8).1=F8 from rfl];refine J.qp (a3F f' p' n t' l' d' F8 (K 6) 0 ok8 1) [3,9,10,11,12,13] λ_=>?_;rw[show F8.read 1=F9 from rfl,v9,w9];refine J.q λc14=>?_;refine J.cb (c0B 2) [] ?_;rintro v As ⟨mq,mg,MZ,rfl,rfl,hM0⟩;refine⟨_,rfl,trivial,?_⟩;have ml0:MZ.length=2:=by have:=congrArg List.length hM0;rw[n5]at this;exact this
 refine J.qc (b6E mq mg MZ (by omega) (a6C hM0 (by decide)) 0 (d1 1) rfl) [15,16,17,18] λ_=>?_;rintro v As ⟨MZ1,rfl,rfl,hM1⟩;refine⟨_,rfl,trivial,?_⟩;rw[hM0]at hM1;have ml1:MZ1.length=2:=by have:=congrArg List.length hM1;rw[n5]at this;exact this
 refine J.qc (c0C mq mg MZ1 (by omega)) [15,16,17,18] λ_=>?_;rintro v As ⟨MZ2,rfl,rfl,hM2⟩;refine⟨_,rfl,trivial,?_⟩;rw[hM1]at hM2;have hM2:MZ2.map (·.v)=M1:=hM2;have ml2:MZ2.length=2:=by have:=congrArg List.length hM2;rw[n5]at this;exact this
 refine J.q λ_=>?_;refine J.turn1 [] rfl (As:=[rdA none 7 0 (A4 [])]) (λh s=>Sep.one ⟨rfl,λh=>absurd h (by decide)⟩) rfl ?_;refine J.q λ_=>?_;refine J.ca hX (by kernel_rfl) (c0p 3 8 2 rfl (rdA none 7 0 (A4 [])) none 0 0 [] (a9P _ _ _ _) rfl (by decide)) [19] 0 rfl rfl rfl rfl rfl rfl (λ_=>rfl) ?_;rintro v As ⟨q,nn,A0,rfl,hA0,rfl⟩;rw[show Pv.new 3 8 2 []=P0 from rfl]at hA0 ⊢;rw[a2o q nn A0 P0 F0 z0];refine⟨_,rfl,trivial,?_⟩;refine J.q λ_=>?_;have hst1:=a9T q nn A0 P0 hA0 F0 z0 (K 1) 0 (ok0.less (by decide)) (by decide) (by decide) (by decide) s1 rfl;rw[a2o q nn A0 P0 F0 z0]at hst1;refine J.qc (hst1) [20,21,22,23,24,25,26,27,28,29] λ_=>?_;rintro v As ⟨A1,rfl,hA1,rfl⟩;obtain⟨x1,hx1⟩:∃x,(P0.step s1).2=⟨0,x⟩:=⟨(P0.step s1).2.data,by rw[<- e1]⟩;rw[show(P0.step s1).1=P1 from rfl]at hA1 ⊢;rw[a2o q nn A1 P1 B21.Z1 z1,hx1];refine⟨_,rfl,trivial,?_⟩;refine J.q λc18=>?_;have hst2:=a9T q nn A1 P1 hA1 B21.Z1 z1 (K 2) 0 (okz1.less (by decide)) (by rw[pL1];decide) (by rw[pL1];decide) (by rw[pl1];decide) s2 rfl;rw[a2o q nn A1 P1 B21.Z1 z1]at hst2;refine J.qc (hst2) [20,21,22,23,24,25,26,27,28,29] λ_=>?_;rintro v As ⟨A2,rfl,hA2,rfl⟩;obtain⟨x2,hx2⟩:∃x,(P1.step s2).2=⟨x,d1 9⟩:=⟨(P1.step s2).2.err,by rw[<- e2]⟩;rw[show(P1.step s2).1=P2 from rfl]at hA2 ⊢;rw[a2o q nn A2 P2 B21.Z2 z2,hx2];refine⟨_,rfl,trivial,?_⟩;refine J.q λc19=>?_;refine J.cb (b7J f' p' n t' l' d' F9.1 (K 6) 0 ok9) [3,9,10,11,12,13] ?_;rintro v As ⟨aa,ac,rfl,rfl⟩;refine⟨_,rfl,trivial,?_⟩;rw[show F9.1.all=Fa from rfl,va,wa];refine J.q λ_=>?_;have hz2:P2.Z=some B21.Z2:=z2;have hlog:=c0q q nn A2 P2 (by rw[lg2];decide);rw[hz2]at hlog;refine J.qc (hlog) [20,23] λ_=>?_;rintro v As ⟨la,lc,rfl,rfl⟩;refine⟨_,rfl,trivial,?_⟩;refine J.qp (b4t) [] λ_=>?_;refine J.qn 19 λ_=>?_;refine J.v (.bool true) rfl rfl (λhg aa w he hw=>(W0 (xs:=J4 (d1 7)) (ys:=J4 (d1 7)) rfl rfl rfl he hg rfl a2D (a1d _) (a1d _) mkD gdD).trans (by rw[eqD _ _ rfl rfl];simp)) ?_;refine J.qn 20 λ_=>?_;refine J.v (.bool true) rfl rfl (λhg aa w he hw=>(W0 (xs:=J4 (d1 7)) (ys:=J4 (d1 7)) rfl rfl rfl he hg rfl a2D (a1d _) (a1d _) mkD gdD).trans (by rw[eqD _ _ rfl rfl];simp)) ?_;refine J.qp (a0G f n t l p d (F7.1.setN Fa.1.S.N) oka.dv.gd.ok) [1,10] λ_=>?_;rw[show(F7.1.setN Fa.1.S.N).lg=3 from lgA];refine J.qp (b2r mq mg MZ2 (by omega) (a6C hM2 (by decide)) 0 (zd) rfl) [15,16,17,18] λ_=>?_;rw[hM2,q1];refine J.qp (b2r mq mg MZ2 (by omega) (a6C hM2 (by decide)) 0 (d1 1) rfl) [15,16,17,18] λ_=>?_;rw[hM2,q2];refine J.qp (b2r mq mg MZ2 (by omega) (a6C hM2 (by decide)) 0 (d1 2) rfl) [15,16,17,18] λ_=>?_;rw[hM2,q3];refine J.qn 11 λ_=>?_;refine J.v (.bool true) rfl rfl (λhg aa w he hw=>(W0 (xs:=J4 (d1 9)) (ys:=J4 (d1 9)) rfl rfl rfl he hg rfl a2D (a1d _) (a1d _) mkD gdD).trans (by rw[eqD _ _ rfl rfl];simp)) ?_;refine J.q λ_=>?_;have hrest:=b9H q nn A2 P2 hA2 B21.Z2 z2 50 0 0 (okz2.less (by decide)) okz2o (by rw[pL2];decide) (by rw[pL2];decide) (by rw[lg2];decide) B21.Z3 z3;rw[a2o q nn A2 P2 B21.Z2 z2]at hrest;refine J.qc (hrest) [20,21,22,23,24,25,26,27,28,29] λ_=>?_;rintro v As ⟨A3,rfl,_,rfl⟩;refine⟨_,rfl,trivial,?_⟩;rw[t3];refine J.qp (c0Y 3 8 2) [] λ_=>?_;rw[show b3B 3 8 2=616 from rfl];refine J.qr [] λ_=>?_;refine⟨?_,rfl⟩;rw[lg2];rfl
end Go.Proofs.YtpakpgkdpofbhaaGreat
namespace Go.Proofs.YtpakpgkdpofbhaaGreat
open Go Go.RowKit
theorem b9d {d b p:Nat} (hd:3<=d/\d<=6) (hb:8<=b/\b<=16) (hp:2<=p/\p<=8):1<=lgN d b p/\lgN d b p<=200/\2*lgN d b p<=(b-5)*(p*(d-2))+1:=by
 have h1:(b-5)*p*(d-2)=(b-5)*(p*(d-2)):=Nat.mul_assoc _ _ _;have h2:3*2<=(b-5)*p:=U0 (by omega) hp.1;have h3:6*1<=(b-5)*p*(d-2):=U0 h2 (by omega);have h4:(b-5)*p<=11*8:=U0 (by omega) hp.2;have h5:(b-5)*p*(d-2)<=88*4:=U0 h4 (by omega);unfold lgN;omega
theorem b4q:FP 118 [] [] (Ps (.bool true) []):=by
 refine FE [] Tryz.func118 λX F hX=>?_;refine J.qp (b4p) [] λ_=>?_;exact J.qx []
theorem b5A:FP 66 [] [] (Ps (.bool true) []):=by
 refine FE [] Tryz.func66 λX F hX=>?_;refine J.qp (b4q) [] λ_=>?_;exact J.qx []
def a1o (x k:Int):Int:=if x.tmod k<0 then-(x.tmod k)else x.tmod k
theorem a8B (x:Int) {k:Int} (hk:1<=k):0<=a1o x k/\a1o x k<k:=by
 obtain⟨h2,h1⟩:=a8A x k (by omega);unfold a1o;split<;>omega
theorem b0L (x k:Int) (hk:1<=k/\k<=1000000):FP 68 [iI x,iI k] [] (Ps (iI (a1o x k)) []):=by
 obtain⟨h2,h1⟩:=a8A x k (by omega);refine FE [0,0] Tryz.func68 λX F hX=>?_;refine J.qd (λ_ h=>?_) λ_ h=>?_
 ·simp only[d7]at h;refine J.qr [] λ_=>?_;unfold a1o;rw[i3 h,Int.zero_sub];exact⟨rfl,rfl⟩
 ·simp only[c9]at h;refine J.qr [] λ_=>?_;unfold a1o;rw[g7 h];exact⟨rfl,rfl⟩
def a3K (n:Int):List UInt8:=[u8 n,u8 (n/256),1,u8 (n*7),0,0,0,0,0,0,0,0,0,0,0,0]
theorem b5C (n:Int):(a3K n).length=16:=rfl
theorem b2V (n:Int) (h0:0<=n/\n<=1000000):FP 71 [iI n] [] (Ps (a8r (a3K n)) []):=by
 refine FE [0] Tryz.func71 λX F hX=>?_;refine J.qn 7 λ_=>?_;refine J.v (bv (u8 n)) rfl rfl (λhg a w he hs=>by rw[<- a5h n];exact X6 tk rfl rfl he rfl rfl rfl) ?_;refine J.qn 2 λ_=>?_;rw[show n.fdiv (2^min (Int.toNat 8) IntKind.i64.bits)=n/256 from Int.fdiv_eq_ediv_of_nonneg n (by decide:(0:Int)<=256)];refine J.v (bv (u8 (n/256))) rfl rfl (λhg a w he hs=>by rw[<- a5h (n/256)];exact X6 tk rfl rfl he rfl rfl rfl) ?_;refine J.qn 2 λ_=>?_;refine J.v (bv (u8 (n*7))) rfl rfl (λhg a w he hs=>by rw[<- a5h (n*7)];exact X6 tk rfl rfl he rfl rfl rfl) ?_;exact J.qx []
theorem b1Z (g0 g1 g2:Int):FP 67 [.agg #[iI g0,iI g1,iI g2]] []
  (λv As=>∃(D B P:Nat) (n f p t l d:Nat) (Z:Fv),v= .tuple #[pp n,pp f]/\(3<=D/\D<=6)/\(8<=B/\B<=16)/\(2<=P/\P<=8)/\Z=Fv.of (Dv.new D B P (lgN D B P))/\As=FvP f p n t l d Z):=by
 refine FE [0] Tryz.func67 λX F hX=>?_;refine J.qc (c0G g0 g1 g2) [] λ_=>?_;rintro v As ⟨D,B,P,rfl,hD,hB,hP,rfl⟩;refine⟨_,rfl,trivial,?_⟩;have hg:M7 D B P=true:=by simp[M7];omega
 refine J.qc (a7n D B P hg) [] λ_=>?_;rintro v As ⟨n,rfl,rfl⟩;refine⟨_,rfl,trivial,?_⟩;have hm:=b4m (Dv.Ok.new D B P (lgN D B P) hg 0 (by decide));refine J.q λ_=>?_;refine J.ca hX (by kernel_rfl) (a1A n (Nand.new D B P) 0 0 (a6F D B P hg _ (by decide)) (by decide) rfl) [2] 0 rfl rfl rfl rfl rfl rfl (λ_=>rfl) ?_;rintro v As (⟨_,f,p,t,l,d,rfl,rfl⟩ | ⟨he,rfl,rfl⟩)
 rotate_left
 ·exact absurd (congrArg (·.2) hm) he
 refine⟨_,rfl,trivial,?_⟩;rw[hm];refine J.qF λ_=>?_;refine J.qr [2,3,4,5,6,7] λ_=>?_;exact⟨D,B,P,n,f,p,t,l,d,_,rfl,hD,hB,hP,rfl,rfl⟩
theorem b8o (f p n t l d:Nat) (Z:Fv) (c:Int) (hc:0<=c/\c<=100000) (lg m:Nat) (hl2:lg<=200) (hm:m<=1000) (I:Nat->Fv->Prop) (Jq:Fv->Prop) (h0:I 0 Z)
  (hg:∀i Y,I i Y->Y.lg=(lg:Int)/\Y.S.N.Ok)
  (hw:∀i Y,I i Y->i<lg->Y.Ok (Fv.cW+(1+0)) m/\(Y.write i (a3K (c+i))).2=0/\I (i+1) (Y.write i (a3K (c+i))).1)
  (hf:∀Y,I lg Y->Y.Ok (Fv.cW*200+0) m/\Y.flush.2=0/\Jq Y.flush.1):
  FP 69 [pp f,iI c] (FvP f p n t l d Z) (λv As=>∃Y,v= .bool true/\Jq Y/\As=FvP f p n t l d Y):=by
 refine FE [2,0] Tryz.func69 λX F hX=>?_;refine J.q λ_=>?_;refine J.l (α:=(Nat×Fv)) (λz=>z.1<=lg/\I z.1 z.2) (λz=>[si 5 z.1,⟨0,pp f,2, .tt⟩,si 1 c]) [1,2,3,4,5,6] (λz=>FvP f p n t l d z.2) (λz=>lg-z.1) ((0,Z)) (⟨l8 _,h0⟩) λz hI=>?_;obtain⟨i,Y⟩:=z;dsimp only at hI ⊢;obtain⟨hi,hY⟩:=hI;have hgY:=hg i Y hY;refine J.qp (a0G f n t l p d Y hgY.2) [1,3] λ_=>?_;rw[hgY.1];refine J.qd (λ_ h1=>?_) λ_ h1=>?_
 ·simp only[d7,j3]at h1;obtain⟨w1,w2,w3⟩:=hw i Y hY h1;refine J.qp (b2V (c+i) (by omega)) [] λ_=>?_;refine J.qp (a4I f p n t l d Y 0 m w1 hm i (a3K (c+i)) rfl) [1,2,3,4,5,6] λ_=>?_;rw[w2];refine J.qF λ_=>?_;refine J.q λ_=>?_;refine J.n ((i+1,(Y.write i (a3K (c+i))).1)) (⟨by dsimp only;omega,w3⟩) (by dsimp only;omega) [0,1,2,3,4,5,6]
 simp only[c9,j3]at h1;obtain rfl:i=lg:=by omega
 obtain⟨f1,f2,f3⟩:=hf Y hY;refine J.qp (a7F f p n t l d Y 0 m f1 hm) [1,2,3,4,5,6] λ_=>?_;rw[f2];refine J.qr [1,2,3,4,5,6] λ_=>?_;exact⟨_,rfl,f3,rfl⟩
theorem b2U (f p n t l d:Nat) (Z:Fv) (c:Int) (hc:0<=c/\c<=100000) (lg k m:Nat) (hl2:lg<=200) (hO:Z.Ok k m) (hlg:Z.lg=(lg:Int)) (hall:Z.all=(Z,(List.range lg).map (λi:Nat=>a3K (c+i)),0)):
  FP 70 [pp f,iI c] (FvP f p n t l d Z) (Ps (.bool true) (FvP f p n t l d Z)):=by
 refine FE [2,0] Tryz.func70 λX F hX=>?_;refine J.qc (b7J f p n t l d Z k m hO) [1,2,3,4,5,6] λ_=>?_;rintro v As ⟨a,cc,rfl,rfl⟩;refine⟨_,rfl,trivial,?_⟩;rw[hall];dsimp only;obtain⟨Q,hQ⟩:∃Q,(List.range lg).map (λi:Nat=>a3K (c+i))=Q:=⟨_,rfl⟩;have hQl:Q.length=lg:=by rw[<- hQ];simp
 rw[hQ,hQl];refine J.q λ_=>?_;refine J.l (α:=Nat) (λi=>i<=lg) (λi=>[si 7 i,sv 5 (slv a lg cc),si 6 0,⟨0,pp f,2, .tt⟩,si 1 c]) [] (λi=>[]) (λi=>lg-i) (0) (l8 _) λi hI=>?_;refine J.qd (λ_ h1=>?_) λ_ h1=>?_
 ·simp only[d7,j3]at h1;have hx:Q[i]? =some (a3K (c+i)):=by rw[<- hQ,j5,I8 h1];rfl
  refine J.know (λh' s=>C7 (c:=(a,cc)) (by omega) (s.get (i:=7) rfl)) λhg=>?_;obtain⟨g,rfl⟩:=hg;refine J.pq (.of [0,4,8,13,16,20,24,30,32]) [] [7] λ_ _=>?_;refine J.qn 4 λ_=>?_;refine J.vT (a8r (a3K (c+i))) rfl rfl (λhg aa w he hC=>K1 tk rfl rfl he rfl rfl rfl (hC rfl _ (B5 (i:=7) rfl)) (by rw[show 0+(i:Int).toNat*16=i*16 from by omega];exact a3o J4 16 (λ_=>rfl) Q i _ hx) rfl) ?_;refine J.qp (b2V (c+i) (by omega)) [] λ_=>?_;refine J.vT (.bool false) rfl rfl (λhg aa w he hC=>(a8S (xs:=J4 (a3K (c+i))) (ys:=J4 (a3K (c+i))) rfl rfl rfl he rfl rfl a2D (a1d _) (a1d _) mkD gdD).trans (by rw[eqD _ _ rfl rfl,i9 rfl];rfl)) ?_;refine J.qF λ_=>?_;refine J.q λ_=>?_;refine J.n (i+1) (h1) (by omega) [0,1,2,3,4,5,6,7]
 refine J.qp (a0G f n t l p d Z hO.dv.gd.ok) [1,3] λ_=>?_;rw[hlg];refine J.qr [1,2,3,4,5,6] λ_=>?_;exact⟨by simp,rfl⟩
theorem b5B (n:Nat) (N:Nand) (k m:Nat) (hG:N.cyc.Gd (Dv.costK+k) m) (hm:m<=1000) (h0:(M3 N.cyc).2=0):
  FP 72 [pp n] [B1 n N] (λv As=>∃f p t l d,v=pp f/\As=FvP f p n t l d (Fv.of (M3 N.cyc).1)):=by
 refine FE [2] Tryz.func72 λX F hX=>?_;refine J.qp (b1g n N (-1) 0) [1] λ_=>?_;refine J.qp (b6z n (N.setCut (-1) 0)) [1] λ_=>?_;rw[show(N.setCut (-1) 0).onN=N.cyc from rfl];refine J.qc (a1A n N.cyc k m hG hm rfl) [1] λ_=>?_;rintro v As (⟨_,f,p,t,l,d,rfl,rfl⟩ | ⟨he,rfl,rfl⟩)
 rotate_left
 ·exact absurd h0 he
 refine⟨_,rfl,trivial,?_⟩;refine J.qF λ_=>?_;refine J.qr [1,2,3,4,5,6] λ_=>?_;exact⟨f,p,t,l,d,rfl,rfl⟩
structure FdCh (fd:Nat) (N N':Nand):Prop where
 like:N.Like N'
 off:N'.off=N.off
 cuts:N'.cuts=N.cuts
 broken:N'.broken=N.broken
 dead:∀i:Nat,i≠fd->N'.dead.getD i false=N.dead.getD i false
 dead2:N'.dead.getD fd false=false->N.dead.getD fd false=false
 plan:∀a∈N'.plan,a∈N.plan\/a.1=(fd:Int)
 blk:∀i j:Nat,i≠fd->N'.blk i j=N.blk i j
 len:∀j:Nat,(N'.blk fd j).cells.length=(N.blk fd j).cells.length
 cell:∀(j r:Nat) (c:NCell),(N'.blk fd j).cells[r]? =some c->∃c0,(N.blk fd j).cells[r]? =some c0/\∀s,a0L s c0->a0L s c
namespace FdCh
variable {fd : Nat} {N N' : Nand}
theorem refl (fd:Nat) (N:Nand):FdCh fd N N:=⟨Nand.Like.refl _,rfl,rfl,rfl,λ_ _=>rfl,λh=>h,λ_ h=> .inl h,λ_ _ _=>rfl,λ_=>rfl,λ_ _ c h=>⟨c,h,λ_ h=>h⟩⟩
theorem same_blk (like:N.Like N') (off:N'.off=N.off) (cuts:N'.cuts=N.cuts) (broken:N'.broken=N.broken) (hd:∀i:Nat,i≠fd->N'.dead.getD i false=N.dead.getD i false) (hd2:N'.dead.getD fd false=false->N.dead.getD fd false=false) (plan:∀a∈N'.plan,a∈N.plan\/a.1=(fd:Int)) (hb:∀i j,N'.blk i j=N.blk i j\/i=fd/\(N'.blk i j).cells=(N.blk i j).cells):FdCh fd N N':=by
 refine⟨like,off,cuts,broken,hd,hd2,plan,λi j hi=>?_,λj=>?_,λj r c hc=>?_⟩
 ·rcases hb i j with h | ⟨h,_⟩
  ·exact h
  ·exact absurd h hi
 ·rcases hb fd j with h | ⟨_,h⟩
  ·rw[h]
  ·rw[h]
 ·refine⟨c,?_,λ_ h=>h⟩;rcases hb fd j with h | ⟨_,h⟩
  ·rw[<- h];exact hc
  ·rw[<- h];exact hc
theorem cellCh {y z:Int} (f:NCell->NCell) (hf:∀c,N.pageAt (fd:Int) y z=some c->∀s,a0L s c->a0L s (f c)):FdCh fd N (N.setCell (fd:Int) y z f):=by
 have hb:∀i j,(N.setCell (fd:Int) y z f).blk i j=if i=fd/\j=y.toNat then {N.blk fd y.toNat with cells:=(N.blk fd y.toNat).cells.modify z.toNat f}else N.blk i j:=λi j=>by
  show(if i=(fd:Int).toNat/\j=y.toNat then _ else _)=_;rw[j4]
 refine⟨⟨rfl,rfl,rfl⟩,rfl,rfl,rfl,λ_ _=>rfl,λh=>h,λ_ h=> .inl h,λi j hi=>by rw[hb,g7 (λh=>hi h.1)],λj=>?_,λj r c hc=>?_⟩
 ·rw[hb];split
  ·rename_i h;rw[h.2];show((N.blk fd y.toNat).cells.modify z.toNat f).length=_;rw[J6]
  ·rfl
 ·rw[hb]at hc;split at hc
  ·rename_i h;rw[h.2];have hc:((N.blk fd y.toNat).cells.modify z.toNat f)[r]? =some c:=hc;rw[Y7]at hc;cases h0:(N.blk fd y.toNat).cells[r]? with
   | none=>rw[h0]at hc;cases hc
   | some c0=>
    rw[h0]at hc;refine⟨c0,rfl,λs hs=>?_⟩
    by_cases hz:z.toNat=r
    ·have hc:some (if z.toNat=r then f c0 else c0)=some c:=hc;rw[i3 hz]at hc;injection hc with hc;rw[<- hc];refine hf c0 ?_ s hs;unfold Nand.pageAt;rw[j4,hz];exact h0
    ·have hc:some (if z.toNat=r then f c0 else c0)=some c:=hc;rw[g7 hz]at hc;injection hc with hc;rw[<- hc];exact hs
  ·exact⟨c,hc,λ_ h=>h⟩
theorem cell_lost (c:NCell) (s:Sh):a0L s {c with lost:=true}:= .inl rfl
theorem xor_zero (p:List UInt8) (n:Nat):Nand.xorAt p n 0=p:=by
 unfold Nand.xorAt;rw[UInt8.xor_zero];apply t6;intro i;rw[s9];split
 ·rename_i h;subst h;split
  ·rename_i h;rw[f9,d6 h];rfl
  ·rename_i h;rw[j9 (by omega)]
 ·rfl
theorem fault (N:Nand) (kind y z n xx:Int):FdCh fd N (N.fault kind (fd:Int) y z n xx).2:=by
 unfold Nand.fault;split
 ·exact refl fd N
 split
 ·exact same_blk ⟨rfl,rfl,rfl⟩ rfl rfl rfl (λ_ _=>rfl) (λh=>h) (λa ha=>by
   have ha:a∈Nand.addP N.plan ((fd:Int),y,z):=ha;unfold Nand.addP at ha;split at ha
   ·exact .inl ha
   ·rcases List.mem_append.1 ha with h | h
    ·exact .inl h
    ·simp at h;rw[h];exact .inr rfl) (λ_ _=> .inl rfl)
 split
 ·exact same_blk ⟨rfl,rfl,rfl⟩ rfl rfl rfl (λ_ _=>rfl) (λh=>h) (λ_ h=> .inl h) (λi j=>by
   show(if i=(fd:Int).toNat/\j=y.toNat then _ else _)=_\/_;rw[j4]
   by_cases e:i=fd/\j=y.toNat
   ·right;refine⟨e.1,?_⟩;show(if i=(fd:Int).toNat/\j=y.toNat then _ else _:NBlock).cells=_;rw[j4,i3 e,e.1,e.2]
   ·left;rw[g7 e])
 split
 ·exact cellCh _ λc _ s _=>cell_lost c s
 split
 ·exact same_blk ⟨rfl,rfl,rfl⟩ rfl rfl rfl (λi hi=>by
   show(N.dead.set (fd:Int).toNat true).getD i false=_;rw[f9,s9,g7 (by omega),<- f9]) (λh=>by
   have h:(N.dead.set (fd:Int).toNat true).getD fd false=false:=h;rw[f9,s9,i3 (by omega)]at h;rw[f9];split at h
   ·cases h
   ·rename_i hlt;rw[j9 (by omega)];rfl) (λ_ h=> .inl h) (λ_ _=> .inl rfl)
 split
 ·split
  ·exact refl fd N
  ·rename_i hn;cases hp:N.pageAt (fd:Int) y z with
   | none=>exact refl fd N
   | some c=>
    dsimp only;split
    ·exact refl fd N
    split
    ·exact refl fd N
    ·rename_i ht hl;refine cellCh _ λc' hc' s hs=>?_;rw[hp]at hc';injection hc' with hc';subst hc';rcases hs with h | h | ⟨h,_⟩
     ·exact absurd h hl
     ·obtain⟨x,hx⟩:∃x,UInt8.ofNat (xx % 256).toNat=x:=⟨_,rfl⟩;show a0L s {c with p:=Nand.xorAt c.p n.toNat (UInt8.ofNat (xx % 256).toNat),turned:=true};rw[hx]
      by_cases h0:x=0
      ·rw[h0];exact .inr (.inl (by show Nand.xorAt c.p n.toNat 0=U9 s;rw[xor_zero];exact h))
      ·exact .inr (.inr ⟨rfl, .inl ⟨n.toNat,x,by omega,h0,by show Nand.xorAt c.p n.toNat x=_;rw[h]⟩⟩)
     ·exact absurd h ht
 ·exact refl fd N
end FdCh
theorem Inv.changed {S:Dv} {fd:Nat} {N':Nand} (h:Inv fd S) (c:FdCh fd S.N N'):Inv fd {S with N:=N'}/\∀i a,Std fd S i a->Std fd {S with N:=N'} i a/\R.read N' a.block a.row a.slot a.mask=R.read S.N a.block a.row a.slot a.mask:=by
 have hoff:N'.off=false:=c.off.trans h.lit.off;have hdead:∀i:Nat,(i:Int)≠fd->N'.dead.getD i false=false:=λi hi=>by rw[c.dead i (by omega)];exact h.dead i hi
 have hpage:∀(d b r:Int),d.toNat≠fd->N'.pageAt d b r=S.N.pageAt d b r:=λd b r hd=>by
  unfold Nand.pageAt;rw[c.blk _ _ hd]
 have hfull:∀b r m l,Full fd S.N b r m l->Full fd N' b r m l:=λb r m l hF=>by
  refine⟨hF.is.like c.like,λx hx hne=>?_,λx hx y hy=>?_⟩
  ·obtain⟨t,ht⟩:=hF.good x hx hne;have:=(hF.is.inn x hx).1;exact⟨t,by rw[hpage _ _ _ (by omega)];exact ht⟩
  ·by_cases e:x.1.toNat=fd
   ·unfold Nand.pageAt at hy;rw[e]at hy;obtain⟨c0,h1,h2⟩:=c.cell _ _ y hy;refine h2 _ (hF.inn x hx c0 ?_);unfold Nand.pageAt;rw[e];exact h1
   ·rw[hpage _ _ _ e]at hy;exact hF.inn x hx y hy
 have hstd:∀i a,Std fd S i a->Std fd {S with N:=N'} i a/\R.read N' a.block a.row a.slot a.mask=R.read S.N a.block a.row a.slot a.mask:=λi a ha=>by
  obtain⟨l,g1,g2,g3,g4⟩:=ha.row;have hk:=hfull _ _ _ _ g1;have r1:=hk.read hoff hdead g3;have r2:=g1.read h.lit.off h.dead g3;rw[show((a.slot.toNat:Nat):Int)=a.slot from by omega]at r1 r2;exact⟨⟨⟨l,hk,g2,g3,g4⟩,ha.used,ha.below,ha.seq⟩,by rw[r1,r2]⟩
 have hlen:∀d j:Nat,(N'.blk d j).cells.length=(S.N.blk d j).cells.length:=λd j=>by
  by_cases e:d=fd
  ·rw[e];exact c.len j
  ·rw[c.blk d j e]
 refine⟨⟨⟨hoff,c.cuts.trans h.lit.cuts⟩,hdead,λa ha=>?_,λi j hi=>?_,h.tdead,h.tbad,?_,λb hb hu d hd=>?_,λi a ha=>(hstd i a (h.st i a ha)).1⟩,hstd⟩
 ·rcases c.plan a ha with e | e
  ·exact h.plan a e
  ·exact e
 ·show(N'.blk i j).met=false/\(N'.blk i j).fails=false;rw[c.blk i j (by omega)];exact h.flags i j hi
 ·rcases h.op with e | e
  ·exact .inl e
  ·refine .inr ⟨by have:=e.blk;show 0<=S.op/\S.op<(N'.blocks:Int);rw[c.like.blocks];exact this,e.used,by have:=e.row;show 0<=S.row/\S.row<=(N'.pages:Int);rw[c.like.pages];exact this,by have:=e.mask;show Msk N'.dies fd S.mask;rw[c.like.dies];exact this,λd hd=>?_⟩;have h1:=e.cells d hd;show((N'.blk d S.op.toNat).cells.length:Int)<=S.row/\(N'.dead.getD d false=false->((N'.blk d S.op.toNat).cells.length:Int)=S.row);rw[hlen];refine⟨h1.1,λhdd=>h1.2 ?_⟩
   by_cases e2:d=fd
   ·rw[e2]at hdd ⊢;exact c.dead2 hdd
   ·rw[<- c.dead d e2];exact hdd
 ·have h1:=h.blank b hb hu d hd;have h2:=hlen d b.toNat
  rw[h1]at h2;exact l9 h2
end Go.Proofs.YtpakpgkdpofbhaaGreat
