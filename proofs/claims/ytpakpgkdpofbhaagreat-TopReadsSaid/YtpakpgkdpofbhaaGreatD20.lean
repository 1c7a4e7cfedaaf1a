/- Helpers. No condition. -/
import Derived.Test.YtpakpgkdpofbhaaGreatRows
import Derived.JoinedOf
namespace Go.Proofs.YtpakpgkdpofbhaaGreat
open Go
theorem b2W:laidOutB Tryz.prog=true:=by kernel_rfl
theorem b9w:mapsRowed Tryz.prog=true:=by kernel_rfl
theorem b9v:(Tryz.prog.stops==[])=true:=by kernel_rfl
theorem b9x:(Tryz.prog.stopKnobs==[])=true:=by kernel_rfl
theorem b9y:Tryz.prog.stopsHeard=true:=by kernel_rfl
theorem b9z:Tryz.prog.mayEnter=true:=by kernel_rfl
end Go.Proofs.YtpakpgkdpofbhaaGreat
