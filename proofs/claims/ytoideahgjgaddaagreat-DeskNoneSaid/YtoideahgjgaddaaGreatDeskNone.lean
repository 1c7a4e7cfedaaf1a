/- Shows that the closed sentence on no desk and no flash, ostrakonlaw16.DeskNone, answers true. No condition. -/
import Derived.Test.YtoideahgjgaddaaGreatM24
import Derived.Test.YtoideahgjgaddaaGreatM25
import Derived.WalkKit
set_option linter.unusedVariables false
set_option linter.unusedSimpArgs false
set_option linter.unusedSectionVars false
set_option linter.unnecessarySimpa false
namespace Go.Proofs.YtoideahgjgaddaaGreat.deskNoneClaim
open Go Go.RowKit
open Go.ChangeShapes Go.WideShapes Go.ChangeAt
theorem own : ownKnob Tryz.prog.godebug = none := by kernel_rfl
set_option maxRecDepth 100000 in
theorem lifted (os : Os) (started : os.Started) (H : Type) (enc : TypeId × Value → H) :
    ReturnsInHanded {} Tryz.checked os 7 .any (Rows.deskNoneSpec.pre6 enc Tryz.prog Tryz.f7 Rows.deskNoneRow.domain false) (Rows.deskNoneSpec.post enc Tryz.prog Tryz.f7 false true false false) := by
  refine returnsInHanded_of_change (C := Tryz.checked) own started (by kernel_rfl) Tryz.func7
    (ChangeSpec.witness6 (enc := enc) (C := Tryz.checked) false ⟨#[], #[], []⟩ 8 (by kernel_rfl) (by kernel_rfl) (by kernel_rfl) (by kernel_rfl)) ?_
  intro W base args ds gs before hval0 hW hcnd _
  have hval : ∀ (j : Nat) t v, Tryz.f7.params[j]? = some t → args[j]? = some v → Value.okWide Tryz.prog W .any base t v := hval0
  have hW' := hW
  obtain ⟨p, q, hA0, hV, rfl, hfz, hnd⟩ := hW
  have hA : DataW.TrodAll enc Tryz.prog W 0 (fun _ => true) true Tryz.f7.params.toList args.toList ds p := hA0
  rw [Tryz.params7] at hA hval
  obtain ⟨hargs, rfl, rfl⟩ := trodAll_nil hA
  obtain rfl : args = #[] := by cases args; simp_all
  obtain ⟨rfl, rfl⟩ := trodVars_none hV
  clear hA0 hval0
  refine (Fn.whole (s_DeskNone (frz W))).mono fun e W' ⟨he, bel⟩ => ?_
  subst he
  exact ⟨_, rfl, _, _, _, [], _, [], hW', trodAll_mk1 (shut_bool Tryz.underlying4 _), trodAll_mk0, rfl, bel.frame _, fun h => by cases h⟩
theorem k0 : (Rows.deskNoneRow.wf (OpenSpec.ofChange Rows.deskNoneSpec)) = true := by kernel_rfl
theorem k3 : (Tryz.f7.params.all (Tryz.prog.readableRec ·)) = true := by kernel_rfl
theorem k4 : (namedTie Tryz.prog Rows.deskNoneRow.named Rows.deskNoneSpec.vars) = true := by kernel_rfl
theorem k5 : (Rows.deskNoneRow.stops == []) = true := by kernel_rfl
theorem k7 : (Rows.deskNoneRow.knobs == []) = true := by kernel_rfl
theorem k9 : (Rows.deskNoneRow.inPlace == Tryz.prog.inPlace 7) = true := by kernel_rfl
theorem k10 : (Rows.deskNoneRow.unfollowed == Tryz.prog.unfollowed 7) = true := by kernel_rfl
theorem k11 : (Rows.deskNoneRow.recurses == Tryz.prog.recurses 7) = true := by kernel_rfl
theorem k12 : (Rows.deskNoneRow.named == Tryz.prog.varsNamed 7) = true := by kernel_rfl
theorem k13 : (Rows.deskNoneRow.maps == (Tryz.f7.params.toList ++ Rows.deskNoneSpec.plain.varTypes Tryz.prog).any (Tryz.prog.mapsRec ·)) = true := by kernel_rfl
theorem k14 : (Rows.deskNoneRow.ifaces == (Tryz.f7.params.toList ++ Rows.deskNoneSpec.plain.varTypes Tryz.prog).any (Tryz.prog.ifacesRec ·)) = true := by kernel_rfl
theorem k15 : (Rows.deskNoneRow.mapsOut == Tryz.prog.mapsAmong Tryz.f7.resultTypes.toList) = true := by kernel_rfl
theorem k16 : (Rows.deskNoneRow.loops == (Tryz.f7.params.toList ++ Rows.deskNoneSpec.plain.varTypes Tryz.prog).any (Tryz.prog.loopsFrom ·)) = true := by kernel_rfl
theorem k17 : (Rows.deskNoneRow.wideKeys == (Tryz.f7.params.toList ++ Rows.deskNoneSpec.plain.varTypes Tryz.prog ++ Tryz.f7.resultTypes.toList).any (Tryz.prog.wideKeysFrom ·)) = true := by kernel_rfl
theorem k18 : (Rows.deskNoneSpec.vars.all (Tryz.prog.varReadable ·)) = true := by kernel_rfl
theorem k19 : (Tryz.f7.resultTypes.all (fun t => Tryz.prog.readableRec t && decide (t < Tryz.prog.types.size))) = true := by kernel_rfl
theorem k20 : (Rows.deskNoneRow.ifacesOut == Tryz.f7.resultTypes.toList.any (Tryz.prog.ifacesRec ·)) = true := by kernel_rfl
theorem k21 : (Rows.deskNoneRow.loopsOut == Tryz.f7.resultTypes.toList.any (Tryz.prog.loopsFrom ·)) = true := by kernel_rfl
theorem k22 : (Rows.deskNoneRow.plainKeys == Tryz.prog.plainKeys) = true := by kernel_rfl
theorem k23 : (Rows.deskNoneRow.shortTexts.isNone) = true := by kernel_rfl
theorem k26 : (Rows.deskNoneRow.lifted == Tryz.prog.liftsFinal) = true := by kernel_rfl
theorem k27 : (Tryz.prog.make == some Rows.deskNoneRow.make) = true := by kernel_rfl
theorem k28a : (Rows.deskNoneRow.domain.isEmpty) = true := by kernel_rfl
theorem k28 : (Rows.deskNoneRow.kinds == []) = true := by kernel_rfl
theorem k29 : (Rows.deskNoneRow.pinned == Rows.deskNoneRow.pinnedBy) = true := by kernel_rfl
theorem k30 : (Rows.deskNoneRow.veiled == (Tryz.f7.params.toList ++ Rows.deskNoneSpec.plain.varTypes Tryz.prog ++ Tryz.f7.resultTypes.toList).any (Tryz.prog.veiledRec ·)) = true := by kernel_rfl
theorem k31 : (Rows.deskNoneRow.veiledFits Tryz.prog Tryz.f7.params.toList (Tryz.f7.params.toList ++ Rows.deskNoneSpec.plain.varTypes Tryz.prog ++ Tryz.f7.resultTypes.toList)) = true := by kernel_rfl
theorem closed : joinedFacts Tryz.prog 7 Tryz.f7 Rows.deskNoneSpec Rows.deskNoneRow = true := joined_of k0 j_laid j_rowed k3 k4 k5 j_stops k7 j_knobs k9 k10 k11 k12 k13 k14 k15 k16 k17 k18 k19 k20 k21 k22 k23 j_heard j_enter k26 k27 k28a k28 k29 k30 k31
theorem over : Rows.deskNoneRow.holds Tryz.pinned (OpenSpec.ofChange Rows.deskNoneSpec) :=
  OpenClaim.holds_of_wide 7 Tryz.f7 rfl rfl rfl rfl rfl rfl rfl ⟨rfl, rfl, rfl, rfl, rfl⟩ rfl rfl rfl rfl rfl (by kernel_rfl) Tryz.func7 closed
    (of_decide_eq_true (by kernel_rfl)) (by unfold Func.isWrapper; first | (rw [if_pos (by decide +kernel)]; kernel_rfl) | (rw [if_neg (by decide +kernel)]; exact ⟨rfl, rfl⟩))
    (fun os started H enc _ => lifted os started H enc)
/-- THE STATEMENT -/
theorem proved : Rows.DeskNoneSaid := over
#print axioms proved
end Go.Proofs.YtoideahgjgaddaaGreat.deskNoneClaim
