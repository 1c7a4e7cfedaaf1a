/- Helpers. No condition. -/
import Derived.Test.YtpakpgkdpofbhaaGreatA00
import Derived.Test.YtpakpgkdpofbhaaGreatA19
set_option maxRecDepth 20000
set_option linter.all false
namespace Go.Proofs.YtpakpgkdpofbhaaGreat
open Go Go.RowKit
theorem b7o (g0 g1 g2 ti:Int) (A:Atom):FP 14 [.agg #[iI g0,iI g1,iI g2],iI ti] [A] (Ps (.bool true) [A]):=by
 have hs:=a1S ti (k:=6) (by decide);refine FE [0,0] Tryz.func14 λX F hX=>?_;refine J.qp (a4a) [] λ_=>?_;refine J.qF λ_=>?_;refine J.qc (a2Q g0 g1 g2) [] λ_=>?_;rintro v As ⟨D,B,P,n,f,p,t,l,d,Z,rfl,hD,hB,hP,hZ,hZL,rfl⟩;refine⟨_,rfl,trivial,?_⟩;refine J.qF λ_=>?_;refine J.q λ_=>?_;refine J.l (α:=(Nat×Fv)) (λz=>(z.1:Int)<=1+a3o ti 6/\(∃c,Dev D B P z.2 (200000-1000*z.1) c)/\z.2.L=[]) (λz=>[si 8 z.1,sp 7 f,si 1 ti]) [3,4,5,6,7,8] (λz=>FvP f p n t l d z.2) (λz=>10-z.1) ((0,Z)) (⟨by dsimp only;omega,⟨_,hZ⟩,hZL⟩) λz hI=>?_;obtain⟨i,Y⟩:=z;dsimp only at hI ⊢;obtain⟨hi,⟨c,hY⟩,hL⟩:=hI;refine J.qp (a2P ti 6 (by decide)) [] λ_=>?_;refine J.qd (λ_ h1=>?_) λ_ h1=>?_
 ·simp only[d7]at h1;refine J.qc (a3Z f p n t l d (1000*i) (by omega) (hY.less (k:=400+(200000-1000*(i+1))) (by omega))) [3,4,5,6,7,8] λ_=>?_;rintro v As ⟨Y2,rfl,⟨hY2,hL2⟩,rfl⟩;refine⟨_,rfl,trivial,?_⟩;refine J.qp (a7L f p n t l d (1000*i) (by omega) hY2) [3,4,5,6,7,8] λ_=>?_;refine J.qF λ_=>?_;refine J.q λ_=>?_;refine J.n ((i+1,Y2)) (⟨by dsimp only;omega,⟨_,hY2⟩,hL2⟩) (by dsimp only;omega) [0,1,2,3,4,5,6,7,8]
 refine J.qp (a8J f n t l p d Y) [3,8] λ_=>?_;rw[hL];exact J.qx [1]
end Go.Proofs.YtpakpgkdpofbhaaGreat
