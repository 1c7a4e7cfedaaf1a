/- Helpers. No condition. -/
import Derived.Test.YtgkpkpbnonmopaaGreatD16
import Derived.Test.YtgkpkpbnonmopaaGreatD24
import Derived.Test.YtgkpkpbnonmopaaGreatD26
set_option maxRecDepth 20000
set_option linter.all false
namespace Go.Proofs.YtgkpkpbnonmopaaGreat
open Go Go.RowKit
theorem b2t {d b p:Int} (hbd:(3<=d/\d<=6)/\(8<=b/\b<=16)/\(2<=p/\p<=8)):(0<=12*d*b/\12*d*b<=1152)/\(0<=12*d*b*p/\12*d*b*p<=9216):=by
 have m1:0<=12*d*b/\12*d*b<=1152:=by
  have h1:=Int.mul_nonneg (show 0<=12*d by omega) (show 0<=b by omega);have h2:=Int.mul_le_mul (show 12*d<=72 by omega) (show b<=16 by omega) (by omega) (by omega);omega
 have h1:=Int.mul_nonneg m1.1 (show 0<=p by omega);have h2:=Int.mul_le_mul m1.2 (show p<=8 by omega) (by omega) (by omega);exact⟨m1,by omega⟩
theorem a5Z (a b c:Int) (A:Atom):FP 3 [iI a,iI b,iI c] [A] (λv As=>v= .bool true/\As=[A]):=by
 refine FE [0,0,0] Tryz.func3 λX F hX=>?_;refine J.qp (a0Y) [] λ_=>?_;refine J.qF λ_=>?_;refine J.qc (b4Z a b c) [] λ_=>?_;rintro v As ⟨D,B,P,rfl,hD,hB,hP,rfl⟩;refine⟨_,rfl,trivial,?_⟩;have hg:m7 D B P=true:=by simp[m7];omega
 obtain⟨m1,m2⟩:=b2t (d:=(D:Int)) (b:=(B:Int)) (p:=(P:Int)) (by omega);have h200:1<=lgN D B P/\lgN D B P<=200:=X7 (a0K D B P hg 0 (by decide)).ok;have hlow:12*(D:Int)*16<=12*D*B*P:=by
  have h1:=Int.mul_le_mul_of_nonneg_left (show(8:Int)<=B by omega) (show 0<=12*(D:Int)by omega);have h2:=Int.mul_le_mul h1 (show(2:Int)<=P by omega) (by omega) m1.1;omega
 have hb:Y8 D B P=12*D*B*P+40:=by unfold Y8;rw[hg];rfl
 have ht:a0H D B P=lgN D B P+2*B:=by unfold a0H;rw[hg];rfl
 obtain⟨x,hx⟩:∃x:Int,12*(D:Int)*B*P+40=x:=⟨_,rfl⟩;rw[hx]at hb;refine J.p (.of [1,8,13,16,20,24,6,28,32,37,45,42,50,52,56,60,65,73,70,78,80,84,88,92,96]) [24] [1,2] λ_=>?_;refine J.qp (a5A D B P) [] λ_=>?_;rw[hb];refine J.qn 1 λ_=>?_;rw[show decide (x>=12*((D:Int)+1)*2)=true from decide_eq_true (by omega)];refine J.qp (b2v D B P) [] λ_=>?_;rw[hb];refine J.qp (a5A D B P) [] λ_=>?_;rw[hb];refine J.qn 1 λ_=>?_;rw[show decide (2*x>x)=true from decide_eq_true (by omega)];refine J.qp (b2u D B P) [] λ_=>?_;rw[ht];refine J.qp (a7I D B P hg) [] λ_=>?_;have hq:(lgN D B P:Int).tdiv 4=(lgN D B P:Int)/4:=Int.tdiv_eq_ediv_of_nonneg (by omega);have hq2:0<=(lgN D B P:Int).tdiv 4/\(lgN D B P:Int).tdiv 4<=50:=by rw[hq];omega
 refine J.qr [1] λ_=>?_;refine⟨?_,rfl⟩;show Value.bool (_&&decide (_>=(lgN D B P:Int).tdiv 4+1))=_;rw[decide_eq_true (by rw[hq];omega)];rfl
end Go.Proofs.YtgkpkpbnonmopaaGreat
