/- Helpers. No condition. -/
import Derived.Test.YtmafiplddapokaaGreatRows
import Derived.Below
import Derived.BigQuiet
import Derived.ChangeOld
import Derived.Deep.AppendLies
import Derived.Deep.DeepCutAuto
import Derived.Deep.DrawnRows
import Derived.Deep.Draws
import Derived.Deep.MidRow
import Derived.Deep.QuietTactic
import Derived.Deep.RegionHeld3
import Derived.Deep.RegionLaw
import Derived.Deep.Slices
import Derived.Deep.Strs
import Derived.Defers
import Derived.JoinedOf
import Derived.Laws.AppendOwn
import Derived.Laws.CopyOwn
import Derived.Laws.MakeOwn
import Derived.Laws.OwnMore
import Derived.Laws.ResultCell
import Derived.Laws.StructEq
import Derived.Lib.Hide
import Derived.Lib.SmallJoins
import Derived.Maps.AppendAt
import Derived.Maps.RangeRun
import Derived.OpenShut
import Derived.ProofKit
import Derived.Shelf.GgSortFunc.InsertionK
import Derived.Shelf.SlLaysF0
import Derived.Shelf.SlSortCmp.WholeK
import Derived.Shelf.Sort.Plain
import Derived.Sort.Grow
import Derived.StillTailTactics
import Derived.WalkKit
import Derived.WalkLawsBesides
import Derived.WalkSpells
import Derived.WideKeyEntry
set_option maxRecDepth 20000
set_option linter.all false
namespace Go.Proofs.YtmafiplddapokaaGreat.topMountCutClaim
open Go Go.RowKit
open Go.ChangeShapes Go.WideShapes Go.ChangeAt
theorem k0:(Rows.topMountCutRow.wf (OpenSpec.ofChange Rows.topMountCutSpec))=true:=by kernel_rfl
theorem k3:(Tryz.f6.params.all (Tryz.prog.readableRec ·))=true:=by kernel_rfl
theorem k4:(namedTie Tryz.prog Rows.topMountCutRow.named Rows.topMountCutSpec.vars)=true:=by kernel_rfl
theorem k5:(Rows.topMountCutRow.stops==[])=true:=by kernel_rfl
theorem k7:(Rows.topMountCutRow.knobs==[])=true:=by kernel_rfl
theorem k9:(Rows.topMountCutRow.inPlace==Tryz.prog.inPlace 6)=true:=by kernel_rfl
theorem k10:(Rows.topMountCutRow.unfollowed==Tryz.prog.unfollowed 6)=true:=by kernel_rfl
theorem k11:(Rows.topMountCutRow.recurses==Tryz.prog.recurses 6)=true:=by kernel_rfl
theorem k12:(Rows.topMountCutRow.named==Tryz.prog.varsNamed 6)=true:=by kernel_rfl
theorem k13:(Rows.topMountCutRow.maps==(Tryz.f6.params.toList++Rows.topMountCutSpec.plain.varTypes Tryz.prog).any (Tryz.prog.mapsRec ·))=true:=by kernel_rfl
theorem k14:(Rows.topMountCutRow.ifaces==(Tryz.f6.params.toList++Rows.topMountCutSpec.plain.varTypes Tryz.prog).any (Tryz.prog.ifacesRec ·))=true:=by kernel_rfl
theorem k15:(Rows.topMountCutRow.mapsOut==Tryz.prog.mapsAmong Tryz.f6.resultTypes.toList)=true:=by kernel_rfl
theorem k16:(Rows.topMountCutRow.loops==(Tryz.f6.params.toList++Rows.topMountCutSpec.plain.varTypes Tryz.prog).any (Tryz.prog.loopsFrom ·))=true:=by kernel_rfl
theorem k17:(Rows.topMountCutRow.wideKeys==(Tryz.f6.params.toList++Rows.topMountCutSpec.plain.varTypes Tryz.prog++Tryz.f6.resultTypes.toList).any (Tryz.prog.wideKeysFrom ·))=true:=by kernel_rfl
theorem k18:(Rows.topMountCutSpec.vars.all (Tryz.prog.varReadable ·))=true:=by kernel_rfl
theorem k19:(Tryz.f6.resultTypes.all (λt=>Tryz.prog.readableRec t&&decide (t<Tryz.prog.types.size)))=true:=by kernel_rfl
theorem k20:(Rows.topMountCutRow.ifacesOut==Tryz.f6.resultTypes.toList.any (Tryz.prog.ifacesRec ·))=true:=by kernel_rfl
theorem k21:(Rows.topMountCutRow.loopsOut==Tryz.f6.resultTypes.toList.any (Tryz.prog.loopsFrom ·))=true:=by kernel_rfl
theorem k22:(Rows.topMountCutRow.plainKeys==Tryz.prog.plainKeys)=true:=by kernel_rfl
theorem k23:(Rows.topMountCutRow.shortTexts.isNone)=true:=by kernel_rfl
theorem k26:(Rows.topMountCutRow.lifted==Tryz.prog.liftsFinal)=true:=by kernel_rfl
theorem k27:(Tryz.prog.make==some Rows.topMountCutRow.make)=true:=by kernel_rfl
theorem k28a:(Rows.topMountCutRow.domain.isEmpty)=true:=by kernel_rfl
theorem k28:(Rows.topMountCutRow.kinds==[])=true:=by kernel_rfl
theorem k29:(Rows.topMountCutRow.pinned==Rows.topMountCutRow.pinnedBy)=true:=by kernel_rfl
theorem k30:(Rows.topMountCutRow.veiled==(Tryz.f6.params.toList++Rows.topMountCutSpec.plain.varTypes Tryz.prog++Tryz.f6.resultTypes.toList).any (Tryz.prog.veiledRec ·))=true:=by kernel_rfl
theorem k31:(Rows.topMountCutRow.veiledFits Tryz.prog Tryz.f6.params.toList (Tryz.f6.params.toList++Rows.topMountCutSpec.plain.varTypes Tryz.prog++Tryz.f6.resultTypes.toList))=true:=by kernel_rfl
end Go.Proofs.YtmafiplddapokaaGreat.topMountCutClaim
