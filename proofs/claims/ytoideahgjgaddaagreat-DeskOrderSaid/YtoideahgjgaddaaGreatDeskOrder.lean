/- Shows that what waits on a desk comes out in the order in which it came in, as the sentence ostrakonlaw16.DeskOrder says. No condition. -/
import Derived.Test.YtoideahgjgaddaaGreatP25
import Derived.Test.YtoideahgjgaddaaGreatP35
import Derived.WalkKit
set_option linter.unusedVariables false
set_option linter.unusedSimpArgs false
set_option linter.unusedSectionVars false
set_option linter.unnecessarySimpa false
/- Shows that what waits on a desk comes out in the order in which it came in, as the sentence ostrakonlaw16.DeskOrder says. No condition. -/
namespace Go.Proofs.YtoideahgjgaddaaGreat.deskOrderClaim
open Go Go.RowKit
open Go.ChangeShapes Go.WideShapes Go.ChangeAt
theorem own : ownKnob Tryz.prog.godebug = none := by kernel_rfl
set_option maxRecDepth 100000 in
theorem lifted (os : Os) (started : os.Started) (H : Type) (enc : TypeId × Value → H) :
    ReturnsInHanded {} Tryz.checked os 12 .any (Rows.deskOrderSpec.pre6 enc Tryz.prog Tryz.f12 Rows.deskOrderRow.domain false) (Rows.deskOrderSpec.post enc Tryz.prog Tryz.f12 false true false false) := by
  refine returnsInHanded_of_change (C := Tryz.checked) own started (by kernel_rfl) Tryz.func12
    (ChangeSpec.witness6 (enc := enc) (C := Tryz.checked) false ⟨#[], #[.slice none 0 0], []⟩ 8 (by kernel_rfl) (by kernel_rfl) (by kernel_rfl) (by kernel_rfl)) ?_
  intro W base args ds gs before hval0 hW hcnd _
  have hval : ∀ (j : Nat) t v, Tryz.f12.params[j]? = some t → args[j]? = some v → Value.okWide Tryz.prog W .any base t v := hval0
  have hW' := hW
  obtain ⟨p, q, hA0, hV, rfl, hfz, hnd⟩ := hW
  have hA : DataW.TrodAll enc Tryz.prog W 0 (fun _ => true) true Tryz.f12.params.toList args.toList ds p := hA0
  rw [Tryz.params12] at hA hval
  obtain ⟨v0, vs0, d0, ds0, p0, q0, hargs, rfl, rfl, h0, r0⟩ := trodAll_cons hA
  obtain ⟨rfl, rfl, rfl⟩ := trodAll_nil r0
  obtain rfl : args = #[v0] := by cases args; simp_all
  obtain ⟨rfl, rfl⟩ := trodVars_none hV
  have k0 := h0
  have lt0 : ∀ x ∈ p0, x.block < W.heap.size := by obtain ⟨m, hm⟩ := k0; exact DataW.trod_lt m _ _ _ hm
  obtain ⟨ad0, len0, cap0, rfl⟩ := okWide_slice Tryz.underlying32 (hval 0 32 v0 rfl rfl)
  obtain ⟨f0, hf0⟩ := h0
  obtain ⟨l0, hl0, hd0, hr0⟩ := open_ints hf0
  clear hA0 hval0
  refine (Fn.whole (s_DeskOrder (frz W) ad0 len0 cap0 l0 (frz_rd hr0) hl0 hd0)).mono fun e W' ⟨he, bel⟩ => ?_
  subst he
  exact ⟨_, rfl, _, _, _, [], _, [], hW', trodAll_mk1 (shut_bool Tryz.underlying4 _), (trodAll_cons_mk (Below.trod j_laid (by kernel_rfl) (of_decide_eq_true (by kernel_rfl)) k0 bel lt0) trodAll_mk0), rfl, bel.frame _, fun h => by cases h⟩
theorem k0 : (Rows.deskOrderRow.wf (OpenSpec.ofChange Rows.deskOrderSpec)) = true := by kernel_rfl
theorem k3 : (Tryz.f12.params.all (Tryz.prog.readableRec ·)) = true := by kernel_rfl
theorem k4 : (namedTie Tryz.prog Rows.deskOrderRow.named Rows.deskOrderSpec.vars) = true := by kernel_rfl
theorem k5 : (Rows.deskOrderRow.stops == []) = true := by kernel_rfl
theorem k7 : (Rows.deskOrderRow.knobs == []) = true := by kernel_rfl
theorem k9 : (Rows.deskOrderRow.inPlace == Tryz.prog.inPlace 12) = true := by kernel_rfl
theorem k10 : (Rows.deskOrderRow.unfollowed == Tryz.prog.unfollowed 12) = true := by kernel_rfl
theorem k11 : (Rows.deskOrderRow.recurses == Tryz.prog.recurses 12) = true := by kernel_rfl
theorem k12 : (Rows.deskOrderRow.named == Tryz.prog.varsNamed 12) = true := by kernel_rfl
theorem k13 : (Rows.deskOrderRow.maps == (Tryz.f12.params.toList ++ Rows.deskOrderSpec.plain.varTypes Tryz.prog).any (Tryz.prog.mapsRec ·)) = true := by kernel_rfl
theorem k14 : (Rows.deskOrderRow.ifaces == (Tryz.f12.params.toList ++ Rows.deskOrderSpec.plain.varTypes Tryz.prog).any (Tryz.prog.ifacesRec ·)) = true := by kernel_rfl
theorem k15 : (Rows.deskOrderRow.mapsOut == Tryz.prog.mapsAmong Tryz.f12.resultTypes.toList) = true := by kernel_rfl
theorem k16 : (Rows.deskOrderRow.loops == (Tryz.f12.params.toList ++ Rows.deskOrderSpec.plain.varTypes Tryz.prog).any (Tryz.prog.loopsFrom ·)) = true := by kernel_rfl
theorem k17 : (Rows.deskOrderRow.wideKeys == (Tryz.f12.params.toList ++ Rows.deskOrderSpec.plain.varTypes Tryz.prog ++ Tryz.f12.resultTypes.toList).any (Tryz.prog.wideKeysFrom ·)) = true := by kernel_rfl
theorem k18 : (Rows.deskOrderSpec.vars.all (Tryz.prog.varReadable ·)) = true := by kernel_rfl
theorem k19 : (Tryz.f12.resultTypes.all (fun t => Tryz.prog.readableRec t && decide (t < Tryz.prog.types.size))) = true := by kernel_rfl
theorem k20 : (Rows.deskOrderRow.ifacesOut == Tryz.f12.resultTypes.toList.any (Tryz.prog.ifacesRec ·)) = true := by kernel_rfl
theorem k21 : (Rows.deskOrderRow.loopsOut == Tryz.f12.resultTypes.toList.any (Tryz.prog.loopsFrom ·)) = true := by kernel_rfl
theorem k22 : (Rows.deskOrderRow.plainKeys == Tryz.prog.plainKeys) = true := by kernel_rfl
theorem k23 : (Rows.deskOrderRow.shortTexts.isNone) = true := by kernel_rfl
theorem k26 : (Rows.deskOrderRow.lifted == Tryz.prog.liftsFinal) = true := by kernel_rfl
theorem k27 : (Tryz.prog.make == some Rows.deskOrderRow.make) = true := by kernel_rfl
theorem k28a : (Rows.deskOrderRow.domain.isEmpty) = true := by kernel_rfl
theorem k28 : (Rows.deskOrderRow.kinds == []) = true := by kernel_rfl
theorem k29 : (Rows.deskOrderRow.pinned == Rows.deskOrderRow.pinnedBy) = true := by kernel_rfl
theorem k30 : (Rows.deskOrderRow.veiled == (Tryz.f12.params.toList ++ Rows.deskOrderSpec.plain.varTypes Tryz.prog ++ Tryz.f12.resultTypes.toList).any (Tryz.prog.veiledRec ·)) = true := by kernel_rfl
theorem k31 : (Rows.deskOrderRow.veiledFits Tryz.prog Tryz.f12.params.toList (Tryz.f12.params.toList ++ Rows.deskOrderSpec.plain.varTypes Tryz.prog ++ Tryz.f12.resultTypes.toList)) = true := by kernel_rfl
theorem closed : joinedFacts Tryz.prog 12 Tryz.f12 Rows.deskOrderSpec Rows.deskOrderRow = true := joined_of k0 j_laid j_rowed k3 k4 k5 j_stops k7 j_knobs k9 k10 k11 k12 k13 k14 k15 k16 k17 k18 k19 k20 k21 k22 k23 j_heard j_enter k26 k27 k28a k28 k29 k30 k31
theorem over : Rows.deskOrderRow.holds Tryz.pinned (OpenSpec.ofChange Rows.deskOrderSpec) :=
  OpenClaim.holds_of_wide 12 Tryz.f12 rfl rfl rfl rfl rfl rfl rfl ⟨rfl, rfl, rfl, rfl, rfl⟩ rfl rfl rfl rfl rfl (by kernel_rfl) Tryz.func12 closed
    (of_decide_eq_true (by kernel_rfl)) (by unfold Func.isWrapper; first | (rw [if_pos (by decide +kernel)]; kernel_rfl) | (rw [if_neg (by decide +kernel)]; exact ⟨rfl, rfl⟩))
    (fun os started H enc _ => lifted os started H enc)
/-- THE STATEMENT -/
theorem proved : Rows.DeskOrderSaid := over
#print axioms proved
end Go.Proofs.YtoideahgjgaddaaGreat.deskOrderClaim
