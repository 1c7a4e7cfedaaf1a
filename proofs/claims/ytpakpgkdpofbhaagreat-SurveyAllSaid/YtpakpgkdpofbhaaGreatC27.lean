/- Helpers. No condition. -/
import Derived.Test.YtpakpgkdpofbhaaGreatRows
import Derived.ProofKit
import Derived.OpenShut
import Derived.ChangeOld
import Derived.Below
import Derived.Deep.Slices
import Derived.Deep.Strs
import Derived.Lib.SmallJoins
import Derived.JoinedOf
namespace Go.Proofs.YtpakpgkdpofbhaaGreat
open Go
theorem X1:laidOutB Tryz.prog=true:=by kernel_rfl
theorem a4h:mapsRowed Tryz.prog=true:=by kernel_rfl
theorem a4g:(Tryz.prog.stops==[])=true:=by kernel_rfl
theorem a4i:(Tryz.prog.stopKnobs==[])=true:=by kernel_rfl
theorem a4j:Tryz.prog.stopsHeard=true:=by kernel_rfl
theorem a4k:Tryz.prog.mayEnter=true:=by kernel_rfl
end Go.Proofs.YtpakpgkdpofbhaaGreat
