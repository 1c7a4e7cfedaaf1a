/- Helpers. No condition. -/
import Derived.Test.YtpakpgkdpofbhaaGreatRows
import Derived.JoinedOf
namespace Go.Proofs.YtpakpgkdpofbhaaGreat
open Go
theorem b2z:laidOutB Tryz.prog=true:=by kernel_rfl
theorem b9h:mapsRowed Tryz.prog=true:=by kernel_rfl
theorem b9g:(Tryz.prog.stops==[])=true:=by kernel_rfl
theorem b9i:(Tryz.prog.stopKnobs==[])=true:=by kernel_rfl
theorem b9j:Tryz.prog.stopsHeard=true:=by kernel_rfl
theorem b9k:Tryz.prog.mayEnter=true:=by kernel_rfl
end Go.Proofs.YtpakpgkdpofbhaaGreat
