/- Helpers. No condition. -/
import Derived.Test.YtpakpgkdpofbhaaGreatC00
import Derived.Test.YtpakpgkdpofbhaaGreatC13
import Derived.Test.YtpakpgkdpofbhaaGreatC15
import Derived.Test.YtpakpgkdpofbhaaGreatC16
set_option maxRecDepth 20000
set_option linter.all false
namespace Go.Proofs.YtpakpgkdpofbhaaGreat
open Go Go.RowKit
theorem c0X (d b p:Int):FP 25 [.agg #[iI d,iI b,iI p]] [] (λv As=>v= .bool (D8 d b p)/\As=[]):=by
 refine FE [0] Tryz.func25 λX F hX=>?_;refine J.run hX tk 400 (λb1=>rfl) (λb1=>?_) (λb1=>?_)
 ·(repeat' (first | exact Conj.nil | refine Conj.cons ?_ ?_ | exact rfl | exact hq | (exact Bool.noConfusion hq) | (rw[hq];rfl) | (rw[(i7 _).mp hq]) | intro hq | omega | (simp;done)))
 refine J.qr [] λ_=>?_;refine⟨?_,rfl⟩;show Value.bool _= .bool (D8 d b p);congr 1;rw[a0D];simp[D8];omega
theorem b2x {d b p:Int} (hbd:(3<=d/\d<=6)/\(8<=b/\b<=16)/\(2<=p/\p<=8)):(0<=12*d*b/\12*d*b<=1152)/\(0<=12*d*b*p/\12*d*b*p<=9216):=by
 have m1:0<=12*d*b/\12*d*b<=1152:=by
  have h1:=R7 (show 0<=12*d by omega) (show 0<=b by omega);have h2:=Q1 (show 12*d<=72 by omega) (show b<=16 by omega) (by omega) (by omega);omega
 have h1:=R7 m1.1 (show 0<=p by omega);have h2:=Q1 m1.2 (show p<=8 by omega) (by omega) (by omega);exact⟨m1,by omega⟩
theorem b2Q (d b p:Int) (A:Atom):FP 3 [.agg #[iI d,iI b,iI p]] [A] (λv As=>v= .bool true/\As=[A]):=by
 refine FE [0] Tryz.func3 λX F hX=>?_;refine J.qp (a2L) [] λ_=>?_;refine J.qF λ_=>?_;refine J.qp (c0X d b p) [] λ_=>?_;refine J.qd (λ_ h1=>?_) λ_ h1=>?_
 ·have hg:D8 d b p=false:=by simpa using h1
  have hb:a2q d b p=0:=by unfold a2q;rw[hg];rfl
  have ht:a1z d b p=0:=by unfold a1z;rw[hg];rfl
  refine J.qp (a6g d b p) [] λ_=>?_;rw[hb];refine J.qp (a8y d b p) [] λ_=>?_;rw[hb];refine J.qp (a8x d b p) [] λ_=>?_;rw[ht];exact J.qx [1]
 ·have hg:D8 d b p=true:=by simpa using h1
  have hbd:(3<=d/\d<=6)/\(8<=b/\b<=16)/\(2<=p/\p<=8):=by simp[D8]at hg;omega
  obtain⟨D,rfl⟩:=g7 (show 0<=d by omega);obtain⟨B,rfl⟩:=g7 (show 0<=b by omega);obtain⟨P,rfl⟩:=g7 (show 0<=p by omega);obtain⟨m1,m2⟩:=b2x hbd;have h200:1<=lgN D B P/\lgN D B P<=200:=a3d (a3k D B P hg 0 (by decide)).ok;have hb:a2q D B P=12*D*B*P+40:=by unfold a2q;rw[hg];rfl
  have ht:a1z D B P=lgN D B P+2*B:=by unfold a1z;rw[hg];rfl
  refine J.p (.of [1,8,6,12,16,21,28,32,26,36,40,44,49,57,64,69,72,54,62,76,80,84,88]) [22] [1,2] λ_=>?_;refine J.qp (a6g D B P) [] λ_=>?_;rw[hb];obtain⟨x,hx⟩:∃x:Int,12*(D:Int)*B*P+40=x:=⟨_,rfl⟩;rw[hx]at hb ⊢;refine J.qn 1 λ_=>?_;rw[show(x==x)=true from E5 x];refine J.qp (a8y D B P) [] λ_=>?_;rw[hb];refine J.qn 1 λ_=>?_;rw[show(2*x==2*x)=true from E5 _];refine J.qp (a8x D B P) [] λ_=>?_;rw[ht];refine J.qp (a8l D B P hg) [] λ_=>?_;refine J.qr [1] λ_=>?_;refine⟨?_,rfl⟩;show Value.bool (_&&(_==_))=_;rw[E5];rfl
end Go.Proofs.YtpakpgkdpofbhaaGreat
