/- Helpers. No condition. -/
import Derived.Test.YtpakpgkdpofbhaaGreatA00
import Derived.Test.YtpakpgkdpofbhaaGreatA19
set_option maxRecDepth 20000
set_option linter.all false
namespace Go.Proofs.YtpakpgkdpofbhaaGreat
open Go Go.RowKit
theorem b3r (g0 g1 g2 cy:Int) (A:Atom):FP 16 [.agg #[iI g0,iI g1,iI g2],iI cy] [A] (Ps (.bool true) [A]):=by
 have hs:=a1S cy (k:=5) (by decide);refine FE [0,0] Tryz.func16 λX F hX=>?_;refine J.qp (a4a) [] λ_=>?_;refine J.qF λ_=>?_;refine J.qc (a2Q g0 g1 g2) [] λ_=>?_;rintro v As ⟨D,B,P,n,f,p,t,l,d,Z,rfl,hD,hB,hP,hZ,hZL,rfl⟩;refine⟨_,rfl,trivial,?_⟩;refine J.qc (a3Z f p n t l d 7 (by decide) (hZ.less (k:=400+100000) (by decide))) [3,4,5,6,7,8] λ_=>?_;rintro v As ⟨Y,rfl,⟨hY,hYL⟩,rfl⟩;refine⟨_,rfl,trivial,?_⟩;refine J.qF λ_=>?_;refine J.q λ_=>?_;refine J.l (α:=(Nat×Fv×Nat×Nat×Nat×Nat×Nat)) (λz=>(z.1:Int)<=1+a3o cy 5/\Dev D B P z.2.1 (100000-1000*z.1) (λj=>V7 (7+j))/\z.2.1.L=[]) (λz=>[si 8 z.1,sp 6 n,sp 7 z.2.2.1,si 1 cy]) [3,4,5,6,7,8] (λz=>FvP z.2.2.1 z.2.2.2.1 n z.2.2.2.2.1 z.2.2.2.2.2.1 z.2.2.2.2.2.2 z.2.1) (λz=>10-z.1) ((0,Y,f,p,t,l,d)) (⟨by dsimp only;omega,hY,hYL⟩) λz hI=>?_;obtain⟨i,Z1,f,p,t,l,d⟩:=z;dsimp only at hI ⊢;obtain⟨hi,hY,hL⟩:=hI;refine J.qp (a2P cy 5 (by decide)) [] λ_=>?_;refine J.qd (λ_ h1=>?_) λ_ h1=>?_
 ·simp only[d7]at h1;refine J.qc (a6c n (hY.less (k:=(100000-1000*(i+1))+403) (by omega))) [5] λ_=>?_;rintro v As ⟨f2,p2,t2,l2,d2,Y2,c2,rfl,hY2,hc2,hL2,rfl⟩;obtain rfl:=hc2 hL;refine⟨_,rfl,trivial,?_⟩;refine J.qp (a7L f2 p2 n t2 l2 d2 7 (by decide) hY2) [5,9,10,11,12,13] λ_=>?_;refine J.qF λ_=>?_;refine J.q λ_=>?_;refine J.n ((i+1,Y2,f2,p2,t2,l2,d2)) (⟨by dsimp only;omega,hY2,hL2⟩) (by dsimp only;omega) [0,1,2,5,9,10,11,12,13]
 refine J.qp (a4h n Z1.S.N) [5] λ_=>?_;rw[hY.br];exact J.qx [1]
end Go.Proofs.YtpakpgkdpofbhaaGreat
