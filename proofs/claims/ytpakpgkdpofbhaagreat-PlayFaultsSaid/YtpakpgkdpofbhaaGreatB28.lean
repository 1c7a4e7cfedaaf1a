/- Helpers. No condition. -/
import Derived.Test.YtpakpgkdpofbhaaGreatRows
import Derived.JoinedOf
namespace Go.Proofs.YtpakpgkdpofbhaaGreat
open Go
theorem a1f:laidOutB Tryz.prog=true:=by kernel_rfl
theorem a5n:mapsRowed Tryz.prog=true:=by kernel_rfl
theorem a5m:(Tryz.prog.stops==[])=true:=by kernel_rfl
theorem a5o:(Tryz.prog.stopKnobs==[])=true:=by kernel_rfl
theorem a5p:Tryz.prog.stopsHeard=true:=by kernel_rfl
theorem a5q:Tryz.prog.mayEnter=true:=by kernel_rfl
end Go.Proofs.YtpakpgkdpofbhaaGreat
