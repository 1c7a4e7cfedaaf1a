/- Helpers of the proofs about ostrakonlaw11, proved here: LdE. No condition. -/
import Derived.Test.YtoideahgjgaddaaGreatP25
import Derived.Test.YtoideahgjgaddaaGreatP26
set_option linter.unusedVariables false
set_option linter.unusedSimpArgs false
set_option linter.unusedSectionVars false
set_option linter.unnecessarySimpa false
/- Walks: entries of a page, pads behind them. -/
namespace Go.Proofs.YtoideahgjgaddaaGreat
open Go Go.RowKit
theorem u8_val (x : Int) : Value.int .u8 (IntKind.u8.wrap x) = bv (u8 x) := by
  have h : IntKind.u8.wrap x = x % 256 := by simp [IntKind.wrap, IntKind.bits, IntKind.signed]
  rw [h, bv, u8]
  congr 1
  have h1 : 0 ≤ x % 256 ∧ x % 256 < 256 := ⟨Int.emod_nonneg _ (by decide), Int.emod_lt_of_pos _ (by decide)⟩
  have h2 : (UInt8.ofNat (x % 256).toNat).toNat = (x % 256).toNat := by
    rw [UInt8.toNat_ofNat']
    omega
  rw [h2]; omega
theorem l16_entry (k s : Int) : Fn Tryz.prog 34 [.int .i64 k, .int .i64 s] [] (fun v As => v = enV (enE k s) ∧ As = []) := by
  refine Fn.enter [0, 0] Tryz.func34 rfl rfl rfl fun X F hX => ?_
  refine J.r hX tab_ok 9 (fun _ => rfl) fun b1 => ?_
  refine J.val hX (bv (u8 k)) 0 rfl rfl (fun hg a w he hs => by rw [← u8_val k]; exact convert_run tab_ok rfl rfl he rfl rfl rfl) rfl trivial ?_
  refine J.r hX tab_ok 1 (fun _ => rfl) fun b2 => ?_
  refine J.val hX (bv (u8 s)) 0 rfl rfl (fun hg a w he hs => by rw [← u8_val s]; exact convert_run tab_ok rfl rfl he rfl rfl rfl) rfl trivial ?_
  refine J.r hX tab_ok 400 (fun _ => rfl) fun b3 => ?_
  refine J.rt hX tab_ok [] rfl rfl rfl ?_
  exact ⟨rfl, rfl⟩
theorem l16_pads (a : Option Nat) (n c m : Nat) (l : List En) (hl : l.length = n) (hnm : n ≤ m) (hm : m ≤ 100) : Fn Tryz.prog 33 [.int .i64 m, slv a n c] [ownA 45 19 a n c (cellsE l)]
    (fun v As => ∃ a' c', v = slv a' m c' ∧ As = [ownA 45 19 a' m c' (cellsE (padL m l))]) := by
  refine Fn.enter [0, 0] Tryz.func33 rfl rfl rfl fun X F hX => ?_
  refine J.r hX tab_ok 400 (fun _ => rfl) fun b4 => ?_
  refine J.r hX tab_ok 400 (fun _ => rfl) fun b5 => ?_
  refine J.lo (α := (Nat × Option Nat × Nat)) (fun z => n ≤ z.1 ∧ z.1 ≤ m) (fun z => [⟨1, slv z.2.1 z.1 z.2.2, 0, .tt⟩, ⟨0, .int .i64 m, 0, .tt⟩]) [1] (fun z => [ownA 45 19 z.2.1 z.1 z.2.2 (cellsE (l ++ List.replicate (z.1 - n) padE))]) (fun z => m - z.1) ((n, a, c)) (⟨Nat.le_refl _, hnm⟩) rfl ?_ (fun _ => rfl) fun z hI => ?_
  · rw [Nat.sub_self, List.replicate_zero, List.append_nil]; rfl
  obtain ⟨k, a1, c1⟩ := z
  dsimp only at hI ⊢
  obtain ⟨hk1, hk2⟩ := hI
  refine J.r hX tab_ok 400 (fun _ => rfl) fun b6 => ?_
  refine J.cond rfl (fun h1 => ?_) (fun h1 => ?_)
  · simp only [decide_eq_true_eq, Int.ofNat_lt] at h1
    refine J.r hX tab_ok 400 (fun _ => rfl) fun b7 => ?_
    refine J.append hX tab_ok 1 2 0 rfl rfl rfl rfl rfl rfl rfl rfl rfl rfl rfl rfl rfl rfl rfl rfl ?_ ?_ (fun _ => rfl) fun a2 c2 => ⟨_, (congrArg (fun y => lset _ 1 (ownA _ _ _ _ _ y)) (cellsE_snoc _ padE)).trans rfl, trivial, ?_⟩
    · simp only [maxLen]; omega
    · omega
    rw [List.append_assoc, ← List.replicate_succ', show k - n + 1 = k + 1 - n from by omega]
    refine J.r hX tab_ok 400 (fun _ => rfl) fun b8 => ?_
    refine J.r hX tab_ok 400 (fun _ => rfl) fun b9 => ?_
    refine J.nS ((k + 1, a2, c2)) (⟨by dsimp only; omega, by dsimp only; omega⟩) (by dsimp only; omega) [0, 1] rfl rfl
  simp only [decide_eq_false_iff_not, Int.ofNat_lt] at h1
  obtain rfl : k = m := by omega
  refine J.know (fun h' s => ownP_cap (s.get (i := 1) rfl)) fun hcap => ?_
  refine J.r hX tab_ok 5 (fun _ => rfl) fun b10 => ?_
  refine J.val hX (slv a1 k c1) 0 rfl rfl (fun hg aa w he hs => cutE_run rfl rfl rfl he rfl rfl rfl hcap) rfl trivial ?_
  refine J.r hX tab_ok 400 (fun _ => rfl) fun b11 => ?_
  refine J.rt hX tab_ok [1] rfl rfl rfl ?_
  exact ⟨a1, c1, rfl, by unfold padL; rw [hl]; rfl⟩
theorem padL_data {n : Nat} {l : List En} (h : ∀ e ∈ l, FitE e) : ∀ e ∈ padL n l, e.data.length = 16 := fun e he => (padL_fit h e he).2.2.2
end Go.Proofs.YtoideahgjgaddaaGreat
