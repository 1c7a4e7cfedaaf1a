/- Helpers. No condition. -/
import Derived.Test.YtpakpgkdpofbhaaGreatC00
import Derived.Test.YtpakpgkdpofbhaaGreatC12
set_option maxRecDepth 20000
set_option linter.all false
namespace Go.Proofs.YtpakpgkdpofbhaaGreat
open Go Go.RowKit
open Go.ChangeShapes Go.WideShapes Go.ChangeAt
theorem a3K {P:Program} {w:World} {r:Reach} {base:Nat} {t:TypeId} {v:Value} {n:Nat} {e:TypeId} (ht:P.underlying t=some (.array n e)) (h:Value.okWide P w r base t v):∃cs:Array Value,v= .agg cs:=by
 simp only[Value.okWide,ht]at h;obtain⟨cs,h1,_⟩:=h;exact⟨cs,h1⟩
end Go.Proofs.YtpakpgkdpofbhaaGreat
