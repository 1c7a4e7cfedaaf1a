/- Helpers. No condition. -/
import Derived.Test.YtpakpgkdpofbhaaGreatC00
import Derived.Test.YtpakpgkdpofbhaaGreatC18
set_option maxRecDepth 20000
set_option linter.all false
namespace Go.Proofs.YtpakpgkdpofbhaaGreat
open Go Go.RowKit
theorem b1q (a b c:Int) (A:Atom):FP 4 [iI a,iI b,iI c] [A] (λv As=>v= .bool true/\As=[A]):=by
 refine FE [0,0,0] Tryz.func4 λX F hX=>?_;refine J.qp (a2L) [] λ_=>?_;refine J.qF λ_=>?_;refine J.qc (b3n a b c) [] λ_=>?_;rintro v As ⟨D,B,P,rfl,hD,hB,hP,rfl⟩;refine⟨_,rfl,trivial,?_⟩;have hg:D8 D B P=true:=by simp[D8];omega
 obtain⟨m1,m2⟩:=b2x (d:=(D:Int)) (b:=(B:Int)) (p:=(P:Int)) (by omega);have h200:1<=lgN D B P/\lgN D B P<=200:=a3d (a3k D B P hg 0 (by decide)).ok;have hlow:12*(D:Int)*16<=12*D*B*P:=by
  have h1:=Int.mul_le_mul_of_nonneg_left (show(8:Int)<=B by omega) (show 0<=12*(D:Int)by omega);have h2:=Q1 h1 (show(2:Int)<=P by omega) (by omega) m1.1;omega
 have hb:a2q D B P=12*D*B*P+40:=by unfold a2q;rw[hg];rfl
 have ht:a1z D B P=lgN D B P+2*B:=by unfold a1z;rw[hg];rfl
 obtain⟨x,hx⟩:∃x:Int,12*(D:Int)*B*P+40=x:=⟨_,rfl⟩;rw[hx]at hb;refine J.p (.of [1,8,13,16,20,24,6,28,32,37,45,42,50,52,56,60,65,73,70,78,80,84,88,92,96]) [24] [1,2] λ_=>?_;refine J.qp (a6g D B P) [] λ_=>?_;rw[hb];refine J.qn 1 λ_=>?_;rw[show decide (x>=12*((D:Int)+1)*2)=true from j3 (by omega)];refine J.qp (a8y D B P) [] λ_=>?_;rw[hb];refine J.qp (a6g D B P) [] λ_=>?_;rw[hb];refine J.qn 1 λ_=>?_;rw[show decide (2*x>x)=true from j3 (by omega)];refine J.qp (a8x D B P) [] λ_=>?_;rw[ht];refine J.qp (a8l D B P hg) [] λ_=>?_;have hq:(lgN D B P:Int).tdiv 4=(lgN D B P:Int)/4:=a1j (by omega);have hq2:0<=(lgN D B P:Int).tdiv 4/\(lgN D B P:Int).tdiv 4<=50:=by rw[hq];omega
 refine J.qr [1] λ_=>?_;refine⟨?_,rfl⟩;show Value.bool (_&&decide (_>=(lgN D B P:Int).tdiv 4+1))=_;rw[j3 (by rw[hq];omega)];rfl
end Go.Proofs.YtpakpgkdpofbhaaGreat
