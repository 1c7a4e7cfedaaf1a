/- Helpers. No condition. -/
import Derived.Test.YtgkpkpbnonmopaaGreatD21
import Derived.Test.YtgkpkpbnonmopaaGreatD26
set_option maxRecDepth 20000
set_option linter.all false
namespace Go.Proofs.YtgkpkpbnonmopaaGreat
def ms4 (a b:List UInt8) (fl:Bool):MPv:=⟨b,true,if fl then[a,b]else[zd,a,b],[zd,a,b]⟩
theorem a1V {x y:List UInt8}:(x==y)=(y==x):=by
 rw[Bool.eq_iff_iff,beq_iff_eq,beq_iff_eq];exact⟨Eq.symm,Eq.symm⟩
theorem a4T (a b:List UInt8) (fl:Bool) (d:List UInt8):Mv.may [ms4 a b fl] 0 d=((!fl&&(d==zd))||((d==a)||(d==b))):=by
 cases fl
 ·show(true&&([zd,a,b].contains d))=_;simp only[List.contains_cons,List.contains_nil,Bool.or_false,Bool.true_and,Bool.not_false]
 ·show(true&&([a,b].contains d))=_;simp only[List.contains_cons,List.contains_nil,Bool.or_false,Bool.true_and,Bool.not_true,Bool.false_and,Bool.false_or]
theorem b6t (a b:List UInt8) (fl:Bool):Mv.may [ms4 a b fl] 0 zd=(!fl||(a==zd)||(b==zd)):=by
 rw[a4T,show(zd==zd)=true from rfl,Bool.and_true,a1V (x:=zd) (y:=a),a1V (x:=zd) (y:=b),Bool.or_assoc]
theorem b6v (a b:List UInt8) (fl:Bool):Mv.may [ms4 a b fl] 0 a=true:=by rw[a4T,beq_self_eq_true];simp
theorem b4U (a b:List UInt8) (fl:Bool):Mv.may [ms4 a b fl] 0 b=true:=by rw[a4T,beq_self_eq_true b];simp
theorem b6u (a b c:List UInt8) (fl:Bool):Mv.may [ms4 a b fl] 0 c=((c==a)||(c==b)||(!fl&&(c==zd))):=by
 rw[a4T];cases(c==a)<;>cases(c==b)<;>cases(!fl&&(c==zd))<;>rfl
def ms5 (a b:List UInt8):MPv:=⟨b,false,[b],[zd,a,b]⟩
theorem b4T (a b:List UInt8) (fl:Bool):Mv.saw [ms4 a b fl] 0 b=[ms5 a b]:=by
 unfold Mv.saw;rw[b4U,if_pos rfl];rfl
theorem b6f (a b:List UInt8):Mv.may [ms5 a b] 0 a=(a==b):=by
 show(true&&(b==a))=_;rw[Bool.true_and,a1V]
def ms6 (a b:List UInt8):MPv:=⟨b,true,[b],[zd,a,b]⟩
theorem a8q (a b d:List UInt8):Mv.may [ms6 a b] 0 d=(d==b):=by
 show(true&&[b].contains d)=_;simp only[List.contains_cons,List.contains_nil,Bool.or_false,Bool.true_and]
def ms8 (a b c:List UInt8):MPv:=⟨c,true,[b,c],[zd,a,b,c]⟩
theorem a4U (a b c d:List UInt8):Mv.may [ms8 a b c] 0 d=((d==b)||(d==c)):=by
 show(true&&[b,c].contains d)=_;simp only[List.contains_cons,List.contains_nil,Bool.or_false,Bool.true_and]
end Go.Proofs.YtgkpkpbnonmopaaGreat
namespace Go.Proofs.YtgkpkpbnonmopaaGreat
open Go Go.RowKit
open Go.ChangeShapes Go.WideShapes Go.ChangeAt
theorem V2 {P:Program} {w:World} {r:Reach} {base:Nat} {t:TypeId} {v:Value} {n:Nat} {e:TypeId} (ht:P.underlying t=some (.array n e)) (h:Value.okWide P w r base t v):∃cs:Array Value,v= .agg cs:=by
 simp only[Value.okWide,ht]at h;obtain⟨cs,h1,_⟩:=h;exact⟨cs,h1⟩
end Go.Proofs.YtgkpkpbnonmopaaGreat
