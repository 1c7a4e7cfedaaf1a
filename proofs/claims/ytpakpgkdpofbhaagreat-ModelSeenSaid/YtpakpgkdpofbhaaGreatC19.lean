/- Helpers. No condition. -/
import Derived.Test.YtpakpgkdpofbhaaGreatC00
import Derived.Test.YtpakpgkdpofbhaaGreatC16
set_option maxRecDepth 20000
set_option linter.all false
namespace Go.Proofs.YtpakpgkdpofbhaaGreat
def ms4 (a b:List UInt8) (fl:Bool):MPv:=⟨b,true,if fl then[a,b]else[zd,a,b],[zd,a,b]⟩
theorem a7c {x y:List UInt8}:(x==y)=(y==x):=by
 rw[a0D,m5,m5];exact⟨Eq.symm,Eq.symm⟩
theorem b0p (a b:List UInt8) (fl:Bool) (d:List UInt8):Mv.may [ms4 a b fl] 0 d=((!fl&&(d==zd))||((d==a)||(d==b))):=by
 cases fl
 ·show(true&&([zd,a,b].contains d))=_;simp only[a0s,a0V,a2c,o0,Bool.not_false]
 ·show(true&&([a,b].contains d))=_;simp only[a0s,a0V,a2c,o0,Z4,O0,D1]
theorem c3W (a b:List UInt8) (fl:Bool):Mv.may [ms4 a b fl] 0 zd=(!fl||(a==zd)||(b==zd)):=by
 rw[b0p,show(zd==zd)=true from rfl,a7e,a7c (x:=zd) (y:=a),a7c (x:=zd) (y:=b),Bool.or_assoc]
theorem c3Y (a b:List UInt8) (fl:Bool):Mv.may [ms4 a b fl] 0 a=true:=by rw[b0p,E5];simp
theorem c2i (a b:List UInt8) (fl:Bool):Mv.may [ms4 a b fl] 0 b=true:=by rw[b0p,E5 b];simp
theorem c3X (a b c:List UInt8) (fl:Bool):Mv.may [ms4 a b fl] 0 c=((c==a)||(c==b)||(!fl&&(c==zd))):=by
 rw[b0p];cases(c==a)<;>cases(c==b)<;>cases(!fl&&(c==zd))<;>rfl
def ms5 (a b:List UInt8):MPv:=⟨b,false,[b],[zd,a,b]⟩
theorem c2h (a b:List UInt8) (fl:Bool):Mv.saw [ms4 a b fl] 0 b=[ms5 a b]:=by
 unfold Mv.saw;rw[c2i,d8 rfl];rfl
theorem c3w (a b:List UInt8):Mv.may [ms5 a b] 0 a=(a==b):=by
 show(true&&(b==a))=_;rw[o0,a7c]
def ms6 (a b:List UInt8):MPv:=⟨b,true,[b],[zd,a,b]⟩
theorem b4j (a b d:List UInt8):Mv.may [ms6 a b] 0 d=(d==b):=by
 show(true&&[b].contains d)=_;simp only[a0s,a0V,a2c,o0]
def ms8 (a b c:List UInt8):MPv:=⟨c,true,[b,c],[zd,a,b,c]⟩
theorem b0q (a b c d:List UInt8):Mv.may [ms8 a b c] 0 d=((d==b)||(d==c)):=by
 show(true&&[b,c].contains d)=_;simp only[a0s,a0V,a2c,o0]
end Go.Proofs.YtpakpgkdpofbhaaGreat
