/- Helpers. No condition. -/
import Derived.Test.YtpakpgkdpofbhaaGreatRows
import Derived.JoinedOf
namespace Go.Proofs.YtpakpgkdpofbhaaGreat
open Go
theorem a0I:laidOutB Tryz.prog=true:=by kernel_rfl
theorem a4B:mapsRowed Tryz.prog=true:=by kernel_rfl
theorem a4A:(Tryz.prog.stops==[])=true:=by kernel_rfl
theorem a4C:(Tryz.prog.stopKnobs==[])=true:=by kernel_rfl
theorem a4D:Tryz.prog.stopsHeard=true:=by kernel_rfl
theorem a4E:Tryz.prog.mayEnter=true:=by kernel_rfl
end Go.Proofs.YtpakpgkdpofbhaaGreat
