/- Helpers of the proofs about ostrakonlaw11, proved here: Lane, Geo, Spot, SpotB, Spt, OwnB. No condition. -/
import Derived.Test.YtoideahgjgaddaaGreatM01
import Derived.Test.YtoideahgjgaddaaGreatM04
import Derived.Test.YtoideahgjgaddaaGreatM05
import Derived.Laws.MakeOwn
import Derived.Laws.OwnMore
set_option linter.unusedVariables false
set_option linter.unusedSimpArgs false
set_option linter.unusedSectionVars false
set_option linter.unnecessarySimpa false
namespace Go.Proofs.YtoideahgjgaddaaGreat
open Go.RowKit

theorem has_bits (m d : Int) (h0 : 0 ≤ m) (h1 : m < 256) : (!(bits .and .i64 m (L.one d) == 0)) = L.has m d := by
  obtain ⟨m, rfl⟩ := Int.eq_ofNat_of_zero_le h0
  by_cases hd : 0 ≤ d ∧ d < 8
  · obtain ⟨d, rfl⟩ := Int.eq_ofNat_of_zero_le hd.1
    have h2 : d < 8 := by omega
    simp only [L.one, hd, and_self, if_true, Int.toNat_natCast]
    have h3 : (2 : Nat) ^ d < 9223372036854775808 := Nat.lt_of_le_of_lt (Nat.pow_le_pow_right (by omega) (by omega : d ≤ 8)) (by decide)
    rw [i64_and_nat _ _ (by omega) h3, nat_bit]
    have h4 : L.has (m : Int) (d : Int) = m.testBit d := by simp [L.has, L.set, h1]; omega
    have h5 : 0 < 2 ^ d := Nat.pow_pos (by omega)
    have h6 : ¬ (((2 ^ d : Nat) : Int) = 0) := by omega
    rw [h4, Nat.testBit_eq_decide_div_mod_eq]
    rcases Nat.mod_two_eq_zero_or_one (m / 2 ^ d) with h | h
    · simp [h]
    · rw [h, Nat.one_mul, beq_eq_false_iff_ne.2 h6]; rfl
  · have : L.one d = 0 := by simp [L.one, hd]
    rw [this]
    have h4 : L.has (m : Int) d = false := by
      simp only [L.has, Bool.and_eq_false_iff, decide_eq_false_iff_not]; omega
    rw [h4, show (0 : Int) = ((0 : Nat) : Int) from rfl, i64_and_nat _ _ (by omega) (by omega)]; simp

theorem one_cases (d : Int) : L.one d = 0 ∨ ∃ k : Nat, k < 8 ∧ d = k ∧ L.one d = ((2 ^ k : Nat) : Int) := by
  by_cases hd : 0 ≤ d ∧ d < 8
  · obtain ⟨d, rfl⟩ := Int.eq_ofNat_of_zero_le hd.1
    exact .inr ⟨d, by omega, rfl, by simp only [L.one, hd, and_self, if_true, Int.toNat_natCast]⟩
  · exact .inl (by simp [L.one, hd])
theorem one_bd (d : Int) : 0 ≤ L.one d ∧ L.one d < 256 := by
  rcases one_cases d with h | ⟨k, hk, _, h⟩
  · omega
  · have := Nat.pow_le_pow_right (n := 2) (by omega) (by omega : k ≤ 7)
    rw [h]
    generalize 2 ^ k = q at *
    omega
theorem with_bits (m d : Int) (h0 : 0 ≤ m) (h1 : m < 256) : bits .or .i64 m (L.one d) = L.with_ m d := by
  obtain ⟨m, rfl⟩ := Int.eq_ofNat_of_zero_le h0
  obtain ⟨k, hk⟩ := Int.eq_ofNat_of_zero_le (one_bd d).1
  have := (one_bd d).2
  rw [hk] at this ⊢
  rw [i64_or_nat _ _ (by omega) (by omega)]
  simp [L.with_, L.set, hk, h1]
theorem without_dec : ∀ m, m < 256 → ∀ k, k < 8 → bits .andNot .i64 ((m : Nat) : Int) ((2 ^ k : Nat) : Int) = ((m &&& (255 - 2 ^ k) : Nat) : Int) := by decide +kernel
theorem without_dec0 : ∀ m, m < 256 → bits .andNot .i64 ((m : Nat) : Int) 0 = ((m &&& 255 : Nat) : Int) := by decide +kernel
theorem without_bits (m d : Int) (h0 : 0 ≤ m) (h1 : m < 256) : bits .andNot .i64 m (L.one d) = L.without m d := by
  obtain ⟨m, rfl⟩ := Int.eq_ofNat_of_zero_le h0
  have hs : L.set (m : Int) = true := by simp [L.set]; omega
  rcases one_cases d with h | ⟨k, hk, _, h⟩
  · rw [h, without_dec0 _ (by omega)]; simp only [L.without, hs, h, if_true, Int.toNat_natCast]; rfl
  · rw [h, without_dec _ (by omega) _ hk]; simp only [L.without, hs, h, if_true, Int.toNat_natCast]

set_option maxHeartbeats 400000 in
theorem lane_set (m : Int) (w : World) :
    Calls Tryz.prog 114 #[.int .i64 m] w fun e w' => e = .returned (.bool (L.set m)) ∧ w = w' := by
  by_cases h0 : 0 ≤ m
  · go_enter Tryz.func114, Tryz.ntmps114
    go_wp2
    go_ret
    exact ⟨retB (by simp [L.set, h0]), rfl⟩
  · go_enter Tryz.func114, Tryz.ntmps114
    go_wp2
    go_ret
    exact ⟨retB (by simp [L.set]; omega), rfl⟩

set_option maxHeartbeats 400000 in
theorem lane_one (d : Int) (w : World) :
    Calls Tryz.prog 115 #[.int .i64 d] w fun e w' => e = .returned (.int .i64 (L.one d)) ∧ w = w' := by
  by_cases h0 : d < 0
  · go_enter Tryz.func115, Tryz.ntmps115
    go_wp2
    go_ret
    exact ⟨retI (by simp [L.one]; omega), rfl⟩
  · by_cases h8 : 8 ≤ d
    · go_enter Tryz.func115, Tryz.ntmps115
      go_wp2
      go_ret
      exact ⟨retI (by simp [L.one]; omega), rfl⟩
    · obtain ⟨d, rfl⟩ := Int.eq_ofNat_of_zero_le (by omega : 0 ≤ d)
      have : d < 8 := by omega
      match d, this with
      | 0, _ | 1, _ | 2, _ | 3, _ | 4, _ | 5, _ | 6, _ | 7, _ =>
        go_enter Tryz.func115, Tryz.ntmps115
        go_wp2
        go_ret
        exact ⟨rfl, rfl⟩

set_option maxHeartbeats 400000 in
theorem lane_All (n : Int) (w : World) :
    Calls Tryz.prog 170 #[.int .i64 n] w fun e w' => e = .returned (.int .i64 (L.all n)) ∧ w = w' := by
  by_cases h0 : n < 0
  · go_enter Tryz.func170, Tryz.ntmps170
    go_wp2
    go_ret
    exact ⟨retI (by simp [L.all]; omega), rfl⟩
  · by_cases h8 : 8 < n
    · go_enter Tryz.func170, Tryz.ntmps170
      go_wp2
      go_ret
      exact ⟨retI (by simp [L.all]; omega), rfl⟩
    · obtain ⟨d, rfl⟩ := Int.eq_ofNat_of_zero_le (by omega : 0 ≤ n)
      have : d < 9 := by omega
      match d, this with
      | 0, _ | 1, _ | 2, _ | 3, _ | 4, _ | 5, _ | 6, _ | 7, _ | 8, _ =>
        go_enter Tryz.func170, Tryz.ntmps170
        go_wp2
        go_ret
        exact ⟨rfl, rfl⟩

set_option maxHeartbeats 400000 in
theorem lane_Has (m d : Int) (w : World) :
    Calls Tryz.prog 139 #[.int .i64 m, .int .i64 d] w fun e w' => e = .returned (.bool (L.has m d)) ∧ w = w' := by
  by_cases h : 0 ≤ m ∧ m < 256
  · have hs : L.set m = true := by simp [L.set, h]
    have hb := Lib.hid (has_bits m d h.1 h.2)
    go_enter Tryz.func139, Tryz.ntmps139
    go_wp2_with (first | (go_at_call 114; refine (lane_set _ _).mono ?_; rintro e w' ⟨rfl, rfl⟩) | (go_at_call 115; refine (lane_one _ _).mono ?_; rintro e w' ⟨rfl, rfl⟩))
    go_ret
    exact ⟨retB hb.out, rfl⟩
  · have hs : L.set m = false := by simp [L.set]; omega
    have hb := Lib.hid (show L.has m d = false by simp [L.has, hs])
    go_enter Tryz.func139, Tryz.ntmps139
    go_wp2_with (first | (go_at_call 114; refine (lane_set _ _).mono ?_; rintro e w' ⟨rfl, rfl⟩) | (go_at_call 115; refine (lane_one _ _).mono ?_; rintro e w' ⟨rfl, rfl⟩))
    go_ret
    exact ⟨retB hb.out.symm, rfl⟩

set_option maxHeartbeats 400000 in
theorem lane_With (m d : Int) (w : World) :
    Calls Tryz.prog 67 #[.int .i64 m, .int .i64 d] w fun e w' => e = .returned (.int .i64 (L.with_ m d)) ∧ w = w' := by
  by_cases h : 0 ≤ m ∧ m < 256
  · have hs : L.set m = true := by simp [L.set, h]
    have hb := Lib.hid (with_bits m d h.1 h.2)
    go_enter Tryz.func67, Tryz.ntmps67
    go_wp2_with (first | (go_at_call 114; refine (lane_set _ _).mono ?_; rintro e w' ⟨rfl, rfl⟩) | (go_at_call 115; refine (lane_one _ _).mono ?_; rintro e w' ⟨rfl, rfl⟩))
    go_ret
    exact ⟨retI hb.out, rfl⟩
  · have hs : L.set m = false := by simp [L.set]; omega
    have hb := Lib.hid (show L.with_ m d = 0 by simp [L.with_, hs])
    go_enter Tryz.func67, Tryz.ntmps67
    go_wp2_with (first | (go_at_call 114; refine (lane_set _ _).mono ?_; rintro e w' ⟨rfl, rfl⟩) | (go_at_call 115; refine (lane_one _ _).mono ?_; rintro e w' ⟨rfl, rfl⟩))
    go_ret
    exact ⟨retI hb.out.symm, rfl⟩

set_option maxHeartbeats 400000 in
theorem lane_Without (m d : Int) (w : World) :
    Calls Tryz.prog 108 #[.int .i64 m, .int .i64 d] w fun e w' => e = .returned (.int .i64 (L.without m d)) ∧ w = w' := by
  by_cases h : 0 ≤ m ∧ m < 256
  · have hs : L.set m = true := by simp [L.set, h]
    have hb := Lib.hid (without_bits m d h.1 h.2)
    go_enter Tryz.func108, Tryz.ntmps108
    go_wp2_with (first | (go_at_call 114; refine (lane_set _ _).mono ?_; rintro e w' ⟨rfl, rfl⟩) | (go_at_call 115; refine (lane_one _ _).mono ?_; rintro e w' ⟨rfl, rfl⟩))
    go_ret
    exact ⟨retI hb.out, rfl⟩
  · have hs : L.set m = false := by simp [L.set]; omega
    have hb := Lib.hid (show L.without m d = 0 by simp [L.without, hs])
    go_enter Tryz.func108, Tryz.ntmps108
    go_wp2_with (first | (go_at_call 114; refine (lane_set _ _).mono ?_; rintro e w' ⟨rfl, rfl⟩) | (go_at_call 115; refine (lane_one _ _).mono ?_; rintro e w' ⟨rfl, rfl⟩))
    go_ret
    exact ⟨retI hb.out.symm, rfl⟩

def oc1 (m : Int) : Int := IntKind.u64.wrap (bits BinOp.and IntKind.u64 (m / 2) 6148914691236517205 + bits BinOp.and IntKind.u64 m 6148914691236517205)
def oc2 (x : Int) : Int := IntKind.u64.wrap (bits BinOp.and IntKind.u64 (x / 4) 3689348814741910323 + bits BinOp.and IntKind.u64 x 3689348814741910323)
def oc3 (x : Int) : Int := bits BinOp.and IntKind.u64 (IntKind.u64.wrap (x / 16 + x)) 1085102592571150095
def oc4 (x : Int) : Int := IntKind.u64.wrap (x + x / 256)
def oc5 (x : Int) : Int := IntKind.u64.wrap (x + x / 65536)
def oc6 (x : Int) : Int := IntKind.u64.wrap (x + x / 4294967296)
def oc (m : Int) : Int := bits BinOp.and IntKind.i64 (wrap64 (oc6 (oc5 (oc4 (oc3 (oc2 (oc1 m))))))) 127
theorem oc_dec : ∀ m, m < 256 → oc ((m : Nat) : Int) = (L.count (m : Int) : Int) := by decide +kernel
theorem oc_eq (m : Int) (h0 : 0 ≤ m) (h1 : m < 256) : oc m = (L.count m : Int) := by
  obtain ⟨m, rfl⟩ := Int.eq_ofNat_of_zero_le h0
  exact oc_dec m (by omega)
set_option maxHeartbeats 400000 in
theorem ones64 (m : Int) (h0 : 0 ≤ m) (h1 : m < 256) (w : World) :
    Calls Tryz.prog 202 #[.int .u64 m] w fun e w' => e = .returned (.int .i64 (L.count m)) ∧ w = w' := by
  have hoc := Lib.hid (oc_eq m h0 h1)
  go_enter Tryz.func202, Tryz.ntmps202
  go_wp2
  go_ret
  exact ⟨retI hoc.out, rfl⟩
set_option maxHeartbeats 400000 in
theorem ones (m : Int) (h0 : 0 ≤ m) (h1 : m < 256) (w : World) :
    Calls Tryz.prog 160 #[.int .u64 m] w fun e w' => e = .returned (.int .i64 (L.count m)) ∧ w = w' := by
  go_enter Tryz.func160, Tryz.ntmps160
  go_wp2_with (go_at_call 202; refine (ones64 _ h0 h1 _).mono ?_; rintro e w' ⟨rfl, rfl⟩)
  go_ret
  exact ⟨rfl, rfl⟩
set_option maxHeartbeats 400000 in
theorem lane_Count (m : Int) (w : World) :
    Calls Tryz.prog 106 #[.int .i64 m] w fun e w' => e = .returned (.int .i64 (L.count m)) ∧ w = w' := by
  by_cases h : 0 ≤ m ∧ m < 256
  · have hs : L.set m = true := by simp [L.set, h]
    obtain ⟨h0, h1⟩ := h
    go_enter Tryz.func106, Tryz.ntmps106
    go_wp2_with (first | (go_at_call 114; refine (lane_set _ _).mono ?_; rintro e w' ⟨rfl, rfl⟩) | (go_at_call 160; refine (ones _ h0 h1 _).mono ?_; rintro e w' ⟨rfl, rfl⟩))
    go_ret
    exact ⟨rfl, rfl⟩
  · have hs : L.set m = false := by simp [L.set]; omega
    have hb := Lib.hid (show (L.count m : Int) = 0 by simp [L.count, L.dies, hs])
    go_enter Tryz.func106, Tryz.ntmps106
    go_wp2_with (first | (go_at_call 114; refine (lane_set _ _).mono ?_; rintro e w' ⟨rfl, rfl⟩))
    go_ret
    exact ⟨retI hb.out.symm, rfl⟩

set_option maxHeartbeats 400000 in
theorem lane_At (m i : Int) (hi0 : -1000000 ≤ i) (hi1 : i ≤ 1000000) (w : World) :
    Calls Tryz.prog 107 #[.int .i64 m, .int .i64 i] w fun e w' => e = .returned (.int .i64 (L.at_ m i)) ∧ w = w' := by
  go_enter Tryz.func107, Tryz.ntmps107
  go_wp2
  go_loop [1, 6] (fun j c => ∃ k : Nat, k ≤ 8 ∧ c = .int .i64 k ∧ j = .int .i64 (i - L.below m k) ∧ (0 ≤ i → (L.below m k : Int) ≤ i)) (fun _ c => 8 - (intOf c).toNat)
  case atStart => exact ⟨0, by omega, rfl, by rw [L.below_zero]; simp, fun h => by rw [L.below_zero]; exact h⟩
  case round =>
    obtain ⟨k, hk, rfl, rfl, hlow⟩ := hrel
    have hbl : L.below m k ≤ 8 := Nat.le_trans (List.length_filter_le _ _) (by simp)
    by_cases hlt : k < 8
    · have hs := L.below_succ m k hlt
      have ha := L.at_below m k hlt
      cases hh : L.has m k
      · rw [hh] at hs
        have hs := Lib.hid hs
        clear ha
        go_wp2_with (go_at_call 139; refine (lane_Has _ _ _).mono ?_; rintro e w' ⟨rfl, rfl⟩)
        go_round
        case rel => exact ⟨k + 1, by omega, by go_num, by rw [hs.out]; rfl, by rw [hs.out]; exact hlow⟩
        case measure => simp [intOf]; omega
      · have ha := Lib.hid (ha hh)
        rw [hh] at hs
        have hs := Lib.hid hs
        by_cases he : i = L.below m k
        · have he' : (i - (L.below m k : Int) == 0) = true := by simp; omega
          have ha : Hid (L.at_ m i = k) := by rw [he]; exact ha
          clear he
          go_wp2_with (go_at_call 139; refine (lane_Has _ _ _).mono ?_; rintro e w' ⟨rfl, rfl⟩)
          go_ret
          exact ⟨retI ha.out.symm, rfl⟩
        · have he' : (i - (L.below m k : Int) == 0) = false := by simp; omega
          have hlow' : 0 ≤ i → (L.below m k : Int) + 1 ≤ i := fun h => by have := hlow h; omega
          clear he hlow
          go_wp2_with (go_at_call 139; refine (lane_Has _ _ _).mono ?_; rintro e w' ⟨rfl, rfl⟩)
          go_round
          case rel => exact ⟨k + 1, by omega, by go_num, by rw [hs.out]; simp; omega, by rw [hs.out]; simpa using hlow'⟩
          case measure => simp [intOf]; omega
    · have : k = 8 := by omega
      subst this
      rw [L.below_eight] at hlow
      have ha := Lib.hid (L.at_ge m i (by omega))
      clear hlow
      go_wp2
      go_ret
      exact ⟨retI ha.out.symm, rfl⟩

theorem all_and (m : Int) (d : Int) (hh : L.has m d = true) : (L.count (bits .and .i64 m (L.all d)) : Int) = L.spot m d := by
  obtain ⟨h1, h2, h3, h4⟩ := L.has_lt m d hh
  rw [← L.spot_eq m d hh]
  obtain ⟨m, rfl⟩ := Int.eq_ofNat_of_zero_le h3
  obtain ⟨d, rfl⟩ := Int.eq_ofNat_of_zero_le h1
  have h5 : (2 : Nat) ^ d - 1 < 9223372036854775808 := Nat.lt_of_le_of_lt (Nat.le_trans (Nat.sub_le _ _) (Nat.pow_le_pow_right (by omega) (by omega : d ≤ 8))) (by decide)
  rw [L.all, if_pos (by omega), i64_and_nat _ _ (by omega) (by simpa using h5)]
  simp only [Int.toNat_natCast]

set_option maxHeartbeats 400000 in
theorem lane_Spot (m d : Int) (w : World) :
    Calls Tryz.prog 258 #[.int .i64 m, .int .i64 d] w fun e w' => e = .returned (.int .i64 (L.spot m d)) ∧ w = w' := by
  cases hh : L.has m d
  · have hb := Lib.hid (show L.spot m d = -1 by simp [L.spot, hh])
    go_enter Tryz.func258, Tryz.ntmps258
    go_wp2_with (first | (go_at_call 139; refine (lane_Has _ _ _).mono ?_; rintro e w' ⟨rfl, rfl⟩))
    go_ret
    exact ⟨retI hb.out.symm, rfl⟩
  · have hb := Lib.hid (all_and m d hh)
    go_enter Tryz.func258, Tryz.ntmps258
    go_wp2_with (first | (go_at_call 139; refine (lane_Has _ _ _).mono ?_; rintro e w' ⟨rfl, rfl⟩) | (go_at_call 170; refine (lane_All _ _).mono ?_; rintro e w' ⟨rfl, rfl⟩) | (go_at_call 106; refine (lane_Count _ _).mono ?_; rintro e w' ⟨rfl, rfl⟩))
    go_ret
    exact ⟨retI hb.out, rfl⟩
end Go.Proofs.YtoideahgjgaddaaGreat
namespace Go.Proofs.YtoideahgjgaddaaGreat
open Go.RowKit

set_option maxHeartbeats 400000 in
theorem geo_within (n a b : Int) (w : World) :
    Calls Tryz.prog 102 #[.int .i64 n, .int .i64 a, .int .i64 b] w fun e w' => e = .returned (.bool (decide (a ≤ n) && decide (n ≤ b))) ∧ w = w' := by
  by_cases h0 : a ≤ n
  · go_enter Tryz.func102, Tryz.ntmps102
    go_wp2
    go_ret
    exact ⟨retB (by simp [h0]), rfl⟩
  · go_enter Tryz.func102, Tryz.ntmps102
    go_wp2
    go_ret
    exact ⟨retB (by simp; omega), rfl⟩

set_option maxHeartbeats 400000 in
theorem geo_Slots (m : Int) (w : World) :
    Calls Tryz.prog 103 #[.int .i64 m] w fun e w' => e = .returned (.int .i64 (G.slots m)) ∧ w = w' := by
  have hc := L.count_le m
  by_cases h : L.count m < 2
  · have hs := Lib.hid (show G.slots m = 0 by simp [G.slots, h])
    go_enter Tryz.func103, Tryz.ntmps103
    go_wp2_with (go_at_call 106; refine (lane_Count _ _).mono ?_; rintro e w' ⟨rfl, rfl⟩)
    go_ret
    exact ⟨retI hs.out.symm, rfl⟩
  · have hs := Lib.hid (show G.slots m = (L.count m : Int) - 1 by simp [G.slots, h])
    go_enter Tryz.func103, Tryz.ntmps103
    go_wp2_with (go_at_call 106; refine (lane_Count _ _).mono ?_; rintro e w' ⟨rfl, rfl⟩)
    go_ret
    exact ⟨retI hs.out.symm, rfl⟩

set_option maxHeartbeats 400000 in
theorem geo_Parity (m b r : Int) (w : World) :
    Calls Tryz.prog 63 #[.int .i64 m, .int .i64 b, .int .i64 r] w fun e w' => e = .returned (.int .i64 (G.parity m b r)) ∧ ∃ n, w' = w.drewN n := by
  have hc := L.count_le m
  by_cases h : L.count m < 2
  · have hs := Lib.hid (show G.parity m b r = -1 by simp [G.parity, h])
    go_enter Tryz.func63, Tryz.ntmps63
    go_wp2_with (go_at_call 106; refine (lane_Count _ _).mono ?_; rintro e w' ⟨rfl, rfl⟩)
    go_ret
    exact ⟨retI hs.out.symm, 0, rfl⟩
  · by_cases hb : b < 0
    · have hs := Lib.hid (show G.parity m b r = -1 by simp [G.parity, hb])
      go_enter Tryz.func63, Tryz.ntmps63
      go_wp2_with (go_at_call 106; refine (lane_Count _ _).mono ?_; rintro e w' ⟨rfl, rfl⟩)
      go_ret
      exact ⟨retI hs.out.symm, 0, rfl⟩
    · by_cases hr : r < 0
      · have hs := Lib.hid (show G.parity m b r = -1 by simp [G.parity, hr])
        go_enter Tryz.func63, Tryz.ntmps63
        go_wp2_with (go_at_call 106; refine (lane_Count _ _).mono ?_; rintro e w' ⟨rfl, rfl⟩)
        go_ret
        exact ⟨retI hs.out.symm, 0, rfl⟩
      · have hs := Lib.hid (show G.parity m b r = L.at_ m ((b + r) % (L.count m : Int)) by simp [G.parity, h, hb, hr])
        have hn0 : (0 : Int) < (L.count m : Int) := by omega
        have h1 := Int.emod_nonneg b (by omega : (L.count m : Int) ≠ 0)
        have h2 := Int.emod_lt_of_pos b hn0
        have h3 := Int.emod_nonneg r (by omega : (L.count m : Int) ≠ 0)
        have h4 := Int.emod_lt_of_pos r hn0
        have h5 := Int.emod_nonneg (b + r) (by omega : (L.count m : Int) ≠ 0)
        have h6 := Int.emod_lt_of_pos (b + r) hn0
        have hne : ¬ L.count m = 0 := by omega
        have e1 : b.tmod (L.count m : Int) = b % (L.count m : Int) := Int.tmod_eq_emod_of_nonneg (by omega)
        have e2 : r.tmod (L.count m : Int) = r % (L.count m : Int) := Int.tmod_eq_emod_of_nonneg (by omega)
        have e3 : (b % (L.count m : Int) + r % (L.count m : Int)).tmod (L.count m : Int) = (b % (L.count m : Int) + r % (L.count m : Int)) % (L.count m : Int) := Int.tmod_eq_emod_of_nonneg (by omega)
        have e4 : IntKind.i64.wrap (b % (L.count m : Int) + r % (L.count m : Int)) = b % (L.count m : Int) + r % (L.count m : Int) := IntWalk.i64_in _ (by omega)
        go_enter Tryz.func63, Tryz.ntmps63
        go_wp2_with (first | (go_at_call 106; refine (lane_Count _ _).mono ?_; rintro e w' ⟨rfl, rfl⟩))
        go_quiet ((go_at_call 107; exact Calls.quiet_of_same ((lane_At _ _ (by omega) (by omega) _).mono fun _ _ h => ⟨h.1, h.2.symm⟩)))
        go_wp2
        go_ret
        exact ⟨retI hs.out.symm, _, rfl⟩

theorem L_at_bd (m i : Int) : -1 ≤ L.at_ m i ∧ L.at_ m i < 8 := by
  unfold L.at_
  split
  · cases h : (L.dies m)[i.toNat]? with
    | none => simp
    | some d =>
      have hd : d ∈ L.dies m := List.mem_of_getElem? h
      have : d < 8 := by
        unfold L.dies at hd
        split at hd
        · simp at hd; omega
        · cases hd
      simp; omega
  · omega
theorem G_parity_bd (m b r : Int) : -1 ≤ G.parity m b r ∧ G.parity m b r < 8 := by
  unfold G.parity
  split
  · omega
  · exact L_at_bd _ _

set_option maxHeartbeats 400000 in
theorem geo_Die (m b r s : Int) (h0 : -1000000 ≤ s) (h1 : s ≤ 1000000) (w : World) :
    Calls Tryz.prog 64 #[.int .i64 m, .int .i64 b, .int .i64 r, .int .i64 s] w fun e w' => e = .returned (.int .i64 (G.die m b r s)) ∧ ∃ n, w' = w.drewN n := by
  by_cases hp : G.parity m b r < 0
  · have hs := Lib.hid (show G.die m b r s = -1 by simp [G.die, hp])
    go_enter Tryz.func64, Tryz.ntmps64
    go_wp2_with (go_at_call 63; refine (geo_Parity _ _ _ _).mono ?_; rintro e w' ⟨rfl, n, rfl⟩)
    go_ret
    exact ⟨retI hs.out.symm, _, rfl⟩
  · have hs := Lib.hid (show G.die m b r s = L.at_ (L.without m (G.parity m b r)) s by simp [G.die, hp])
    go_enter Tryz.func64, Tryz.ntmps64
    go_wp2_with (first | (go_at_call 63; refine (geo_Parity _ _ _ _).mono ?_; rintro e w' ⟨rfl, n, rfl⟩) | (go_at_call 108; refine (lane_Without _ _ _).mono ?_; rintro e w' ⟨rfl, rfl⟩) | (go_at_call 107; refine (lane_At _ _ h0 h1 _).mono ?_; rintro e w' ⟨rfl, rfl⟩))
    go_ret
    exact ⟨retI hs.out.symm, _, rfl⟩

set_option maxHeartbeats 400000 in
theorem geo_Slot (m b r s : Int) (w : World) :
    Calls Tryz.prog 247 #[.int .i64 m, .int .i64 b, .int .i64 r, .int .i64 s] w fun e w' => e = .returned (.int .i64 (G.slot m b r s)) ∧ ∃ n, w' = w.drewN n := by
  by_cases hp : G.parity m b r < 0
  · have hs := Lib.hid (show G.slot m b r s = -1 by simp [G.slot, hp])
    go_enter Tryz.func247, Tryz.ntmps247
    go_wp2_with (go_at_call 63; refine (geo_Parity _ _ _ _).mono ?_; rintro e w' ⟨rfl, n, rfl⟩)
    go_ret
    exact ⟨retI hs.out.symm, _, rfl⟩
  · have hs := Lib.hid (show G.slot m b r s = L.spot (L.without m (G.parity m b r)) s by simp [G.slot, hp])
    go_enter Tryz.func247, Tryz.ntmps247
    go_wp2_with (first | (go_at_call 63; refine (geo_Parity _ _ _ _).mono ?_; rintro e w' ⟨rfl, n, rfl⟩) | (go_at_call 108; refine (lane_Without _ _ _).mono ?_; rintro e w' ⟨rfl, rfl⟩) | (go_at_call 258; refine (lane_Spot _ _ _).mono ?_; rintro e w' ⟨rfl, rfl⟩))
    go_ret
    exact ⟨retI hs.out.symm, _, rfl⟩

def mayGeo (d b p : Int) : Bool := decide (3 ≤ d ∧ d ≤ 6) && decide (8 ≤ b ∧ b ≤ 16) && decide (2 ≤ p ∧ p ≤ 8)
set_option maxHeartbeats 400000 in
theorem geo_May (d b p : Int) (w : World) :
    Calls Tryz.prog 59 #[.agg #[.int .i64 d, .int .i64 b, .int .i64 p]] w fun e w' => e = .returned (.bool (mayGeo d b p)) ∧ Below w.heap.size w w' := by
  by_cases h1 : 3 ≤ d ∧ d ≤ 6
  · have e1 : (decide (3 ≤ d) && decide (d ≤ 6)) = true := by simp [h1]
    by_cases h2 : 8 ≤ b ∧ b ≤ 16
    · have e2 : (decide (8 ≤ b) && decide (b ≤ 16)) = true := by simp [h2]
      have hs := Lib.hid (show mayGeo d b p = (decide (2 ≤ p) && decide (p ≤ 8)) by simp [mayGeo, h1, h2])
      go_enter Tryz.func59, Tryz.ntmps59
      go_wp2_with (go_at_call 102; refine (geo_within _ _ _ _).mono ?_; rintro e w' ⟨rfl, rfl⟩)
      go_ret
      exact ⟨retB hs.out.symm, (Below.refl _ _).alloc (Nat.le_refl _) _⟩
    · have e2 : (decide (8 ≤ b) && decide (b ≤ 16)) = false := by simp; omega
      have hs := Lib.hid (show mayGeo d b p = false by simp [mayGeo, h2])
      go_enter Tryz.func59, Tryz.ntmps59
      go_wp2_with (go_at_call 102; refine (geo_within _ _ _ _).mono ?_; rintro e w' ⟨rfl, rfl⟩)
      go_ret
      exact ⟨retB hs.out.symm, (Below.refl _ _).alloc (Nat.le_refl _) _⟩
  · have e1 : (decide (3 ≤ d) && decide (d ≤ 6)) = false := by simp; omega
    have hs := Lib.hid (show mayGeo d b p = false by simp [mayGeo, h1])
    go_enter Tryz.func59, Tryz.ntmps59
    go_wp2_with (go_at_call 102; refine (geo_within _ _ _ _).mono ?_; rintro e w' ⟨rfl, rfl⟩)
    go_ret
    exact ⟨retB hs.out.symm, (Below.refl _ _).alloc (Nat.le_refl _) _⟩

def inGeo (d b p x y z : Int) : Bool := decide (0 ≤ x ∧ x < d) && decide (0 ≤ y ∧ y < b) && decide (0 ≤ z ∧ z < p)
set_option maxRecDepth 100000 in
set_option maxHeartbeats 400000 in
theorem geo_In (d b p x y z : Int) (hd : 0 ≤ d ∧ d ≤ 1000000) (hb : 0 ≤ b ∧ b ≤ 1000000) (hp : 0 ≤ p ∧ p ≤ 1000000) (w : World) :
    Calls Tryz.prog 68 #[.agg #[.int .i64 d, .int .i64 b, .int .i64 p], .agg #[.int .i64 x, .int .i64 y, .int .i64 z]] w fun e w' => e = .returned (.bool (inGeo d b p x y z)) ∧ Below w.heap.size w w' := by
  by_cases h1 : 0 ≤ x ∧ x < d
  · have e1 : (decide (0 ≤ x) && decide (x ≤ d - 1)) = true := by simp; omega
    by_cases h2 : 0 ≤ y ∧ y < b
    · have e2 : (decide (0 ≤ y) && decide (y ≤ b - 1)) = true := by simp; omega
      have hs := Lib.hid (show inGeo d b p x y z = (decide (0 ≤ z) && decide (z ≤ p - 1)) by rw [Bool.eq_iff_iff]; simp [inGeo, h1, h2]; omega)
      go_enter Tryz.func68, Tryz.ntmps68
      go_wp2_with (go_at_call 102; refine (geo_within _ _ _ _).mono ?_; rintro e w' ⟨rfl, rfl⟩)
      go_ret
      exact ⟨retB hs.out.symm, ((Below.refl _ _).alloc (Nat.le_refl _) _).alloc (by simp) _⟩
    · have e2 : (decide (0 ≤ y) && decide (y ≤ b - 1)) = false := by rw [Bool.eq_false_iff]; simp; omega
      have hs := Lib.hid (show inGeo d b p x y z = false by simp only [inGeo, h2, decide_false, Bool.and_false, Bool.false_and])
      go_enter Tryz.func68, Tryz.ntmps68
      go_wp2_with (go_at_call 102; refine (geo_within _ _ _ _).mono ?_; rintro e w' ⟨rfl, rfl⟩)
      go_ret
      exact ⟨retB hs.out.symm, ((Below.refl _ _).alloc (Nat.le_refl _) _).alloc (by simp) _⟩
  · have e1 : (decide (0 ≤ x) && decide (x ≤ d - 1)) = false := by rw [Bool.eq_false_iff]; simp; omega
    have hs := Lib.hid (show inGeo d b p x y z = false by simp only [inGeo, h1, decide_false, Bool.false_and])
    go_enter Tryz.func68, Tryz.ntmps68
    go_wp2_with (go_at_call 102; refine (geo_within _ _ _ _).mono ?_; rintro e w' ⟨rfl, rfl⟩)
    go_ret
    exact ⟨retB hs.out.symm, ((Below.refl _ _).alloc (Nat.le_refl _) _).alloc (by simp) _⟩
end Go.Proofs.YtoideahgjgaddaaGreat
namespace Go.Proofs.YtoideahgjgaddaaGreat
open Go.RowKit

abbrev A3 := Int × Int × Int
def a3c (a : A3) : List Value := [.int .i64 a.1, .int .i64 a.2.1, .int .i64 a.2.2]
def a3v (a : A3) : Value := .agg #[.int .i64 a.1, .int .i64 a.2.1, .int .i64 a.2.2]
theorem leaves39 : leaves Tryz.prog 100 66 = some [.int .i64, .int .i64, .int .i64] := by kernel_rfl
theorem agg39 : AggT Tryz.prog 66 3 := ⟨⟨_, Tryz.underlying66, rfl⟩, by kernel_rfl⟩
theorem eqc_a3 (a b : A3) : eqCells (a3c a) (a3c b) = decide (a = b) := by
  obtain ⟨a1, a2, a3⟩ := a
  obtain ⟨b1, b2, b3⟩ := b
  rw [Bool.eq_iff_iff]
  simp [a3c, eqCells, cellEq]
theorem key39 : KeyOk Tryz.prog 66 a3v where
  now := ⟨_, Tryz.underlying66, fun _ _ => .inl rfl⟩
  eq := fun a b w => by
    have hm : ∀ xs, mkV Tryz.prog 66 xs = .agg xs.toArray := fun xs => by simp [mkV, Tryz.underlying66]
    have := equalIn_leaves 100 66 _ leaves39 10000 (by omega) (a3c a) (a3c b) ⟨rfl, rfl, rfl, trivial⟩ ⟨rfl, rfl, rfl, trivial⟩ w
    rw [eqc_a3, hm, hm] at this
    exact this
  check := fun e a w => by kernel_rfl
  bits := fun a => by
    obtain ⟨a1, a2, a3⟩ := a
    simp [a3v, Instr.sameBits]

def trues (l : List A3) : List (A3 × Value) := l.map fun a => (a, .bool true)
/-- a spot.Map[bool] all of whose things are true -/
def SpotAt (w : World) (q mr : Nat) (l : List A3) : Prop := Blk w q 180 #[.map (some mr)] ∧ MapAt w mr a3v (trues l)

theorem zero4 (w : World) : (zeroValue 4).run Tryz.prog w = .ok (.bool false) w := by kernel_rfl

theorem alook_trues (l : List A3) (a : A3) : ((alook (trues l) a).getD (.bool false) = .bool (decide (a ∈ l))) ∧ (alook (trues l) a).isSome = decide (a ∈ l) := by
  induction l with
  | nil => exact ⟨rfl, rfl⟩
  | cons x l ih =>
    simp only [trues, List.map_cons, alook]
    by_cases h : a = x
    · simp [h]
    · have : ¬ (a = (x, Value.bool true).1) := h
      simp only [if_neg this, List.mem_cons, h, false_or]; exact ih

set_option maxRecDepth 100000 in
set_option maxHeartbeats 400000 in
theorem spot_New (w : World) :
    Calls Tryz.prog 60 #[] w fun e w' => e = .returned (.pointer (some ⟨w.heap.size + 1, 0, none⟩)) ∧ w' = (w.alloc (.map #[] 0)).alloc (.cells #[.map (some w.heap.size)] 180) := by
  have hmm := @run_makeMap Tryz.prog
  go_enter Tryz.func60, Tryz.ntmps60
  go_wp2
  go_ret
  exact ⟨rfl, rfl⟩

set_option maxRecDepth 100000 in
set_option maxHeartbeats 400000 in
theorem spot_Get (q mr : Nat) (l : List A3) (x y z : Int) (w : World) (h : SpotAt w q mr l) :
    Calls Tryz.prog 82 #[.pointer (some ⟨q, 0, none⟩), .agg #[.int .i64 x, .int .i64 y, .int .i64 z]] w fun e w' => e = .returned (.tuple #[.bool (decide ((x, y, z) ∈ l)), .bool (decide ((x, y, z) ∈ l))]) ∧ Below w.heap.size w w' := by
  obtain ⟨hb, hm⟩ := h
  have c0 := hb.cell 0
  simp at c0
  have hlt := hb.lt
  have hlk : ∀ n, (Instr.lookup 178 (.map (some mr)) (.agg #[.int .i64 x, .int .i64 y, .int .i64 z]) true).run Tryz.prog ((w.alloc (.cells #[.int .i64 x, .int .i64 y, .int .i64 z] 66)).drewN n) = .ok (.tuple #[.bool (decide ((x, y, z) ∈ l)), .bool (decide ((x, y, z) ∈ l))]) ((w.alloc (.cells #[.int .i64 x, .int .i64 y, .int .i64 z] 66)).drewN n) := fun n => by
    have := run_lookupAt key39 Tryz.underlying178 zero4 (w := (w.alloc (.cells #[.int .i64 x, .int .i64 y, .int .i64 z] 66)).drewN n) (hm.alloc (.cells #[.int .i64 x, .int .i64 y, .int .i64 z] 66)) (x, y, z) true
    rw [(alook_trues l (x, y, z)).1, (alook_trues l (x, y, z)).2] at this
    exact this
  generalize decide ((x, y, z) ∈ l) = b at *
  go_enter Tryz.func82, Tryz.ntmps82
  go_wp2
  go_quiet (fail)
  go_wp2
  go_ret2
  exact ⟨rfl, below_drewN' ((Below.refl _ _).alloc (Nat.le_refl _) _) _⟩

set_option maxRecDepth 100000 in
set_option maxHeartbeats 400000 in
theorem spot_Set (q mr : Nat) (l : List A3) (x y z : Int) (w : World) (h : SpotAt w q mr l) :
    Calls Tryz.prog 69 #[.pointer (some ⟨q, 0, none⟩), .agg #[.int .i64 x, .int .i64 y, .int .i64 z], .bool true] w fun e w' => e = .returned (.tuple #[]) ∧ MapAt w' mr a3v (aput (trues l) (x, y, z) (.bool true)) ∧ w.grownBy w' (some mr) := by
  obtain ⟨hb, hm⟩ := h
  have c0 := hb.cell 0
  simp at c0
  have hlt := hb.lt
  go_enter Tryz.func69, Tryz.ntmps69
  go_wp2_with fail
  obtain ⟨w0, hw0⟩ : ∃ w0, w.alloc (.cells #[.int .i64 x, .int .i64 y, .int .i64 z] 66) = w0 := ⟨_, rfl⟩
  have b0 := Blk.new w 66 #[.int .i64 x, .int .i64 y, .int .i64 z]
  replace hb := hb.alloc (.cells #[.int .i64 x, .int .i64 y, .int .i64 z] 66)
  replace hm := hm.alloc (.cells #[.int .i64 x, .int .i64 y, .int .i64 z] 66)
  have hg : w.grownBy w0 (some mr) := by rw [← hw0]; exact World.grownBy_alloc _ _ _
  rw [hw0] at b0 hb hm
  rw [hw0]
  clear hw0
  have d0 := hb.cell 0
  have d1 := b0.cell 0
  have d2 := b0.cell 1
  have d3 := b0.cell 2
  simp at d0 d1 d2 d3
  go_still_tail 6, (by kernel_rfl)
  change wpList _ _ _ _ _ w0.drew
  go_wp2_with ((with_reducible refine wl_mapUpdate (kv := a3v) 178 66 4 mr (trues l) (x, y, z) (.bool true) key39 Tryz.underlying178 hm.drew ?_ ?_ ?_ ?_); (· rfl); (· rfl); (· rfl); intro w1 h1 h2 h3)
  go_end0
  exact ⟨rfl, h1, hg.trans ⟨h2.os, h2.tape, h2.output, h2.size, h2.block⟩⟩
end Go.Proofs.YtoideahgjgaddaaGreat
namespace Go.Proofs.YtoideahgjgaddaaGreat
open Go.RowKit

def addS (l : List A3) (a : A3) : List A3 := if a ∈ l then l else l ++ [a]
theorem adel_trues (l : List A3) (a : A3) : adel (trues l) a = trues (l.erase a) := by
  induction l with
  | nil => rfl
  | cons x l ih =>
    rw [List.erase_cons]
    simp only [trues, List.map_cons, adel]
    by_cases h : a = x
    · subst h; simp
    · have h2 : ¬ (x == a) = true := by simpa using Ne.symm h
      rw [if_neg h, if_neg h2, List.map_cons]
      exact congrArg _ ih
theorem aput_trues (l : List A3) (a : A3) : aput (trues l) a (.bool true) = trues (addS l a) := by
  unfold addS
  induction l with
  | nil => rfl
  | cons x l ih =>
    simp only [trues, List.map_cons, aput]
    by_cases h : a = x
    · subst h; simp
    · rw [if_neg h]
      have : (a ∈ x :: l) ↔ a ∈ l := by simp [h]
      simp only [this]
      split
      · rename_i h3; rw [if_pos h3] at ih; simp only [List.map_cons]; exact congrArg _ ih
      · rename_i h3; rw [if_neg h3] at ih; simp only [List.cons_append, List.map_cons]; exact congrArg _ ih

set_option maxRecDepth 100000 in
set_option maxHeartbeats 400000 in
theorem spot_Drop (q mr : Nat) (l : List A3) (x y z : Int) (w : World) (h : SpotAt w q mr l) :
    Calls Tryz.prog 83 #[.pointer (some ⟨q, 0, none⟩), .agg #[.int .i64 x, .int .i64 y, .int .i64 z]] w fun e w' => e = .returned (.bool (decide ((x, y, z) ∈ l))) ∧ SpotAt w' q mr (l.erase (x, y, z)) ∧ w.grownBy w' (some mr) := by
  have hget := spot_Get q mr l x y z
  have hne := h.2.ne_blk h.1
  go_enter Tryz.func83, Tryz.ntmps83
  go_upto_region 1 with fail
  obtain ⟨w0, hw0⟩ : ∃ w0, w.alloc (.cells #[.int .i64 x, .int .i64 y, .int .i64 z] 66) = w0 := ⟨_, rfl⟩
  have b0 := Blk.new w 66 #[.int .i64 x, .int .i64 y, .int .i64 z]
  have h0 : SpotAt (w.alloc (.cells #[.int .i64 x, .int .i64 y, .int .i64 z] 66)) q mr l := ⟨h.1.alloc _, h.2.alloc _⟩
  have hg : w.grownBy w0 (some mr) := by rw [← hw0]; exact World.grownBy_alloc _ _ _
  have hl1 := h.1.lt
  have hl2 := h.2.lt
  rw [hw0] at b0 h0
  rw [hw0]
  clear hw0 h
  have d1 := b0.cell 0
  have d2 := b0.cell 1
  have d3 := b0.cell 2
  simp at d1 d2 d3
  have hs0 := b0.lt
  go_wp2_with fail
  refine (hget _ h0).mono ?_
  rintro e w1 ⟨rfl, hb1⟩
  replace h0 : SpotAt w1 q mr l := ⟨h0.1.below hb1 h0.1.lt, h0.2.block (hb1.block _ h0.2.lt)⟩
  replace b0 := b0.below hb1 b0.lt
  have hs1 := hb1.size
  replace hg : w.grownBy w1 (some mr) := hg.trans ⟨hb1.os, hb1.tape, hb1.output, hb1.size, fun k hk _ => hb1.block k hk⟩
  clear hb1 d1 d2 d3
  have d0 := h0.1.cell 0
  have d1 := b0.cell 0
  have d2 := b0.cell 1
  have d3 := b0.cell 2
  simp at d0 d1 d2 d3
  have hl := alook_trues l (x, y, z)
  by_cases hm : (x, y, z) ∈ l
  · have hd : decide ((x, y, z) ∈ l) = true := by simpa using hm
    have Hd := Lib.hid hd
    rw [hd]
    clear hd
    go_wp2_with fail
    go_still_tail 5, (by kernel_rfl)
    change wpList _ _ _ _ _ w1.drew
    refine wl_delete (kv := a3v) 178 66 4 mr (trues l) (x, y, z) key39 Tryz.underlying178 h0.2.drew ?_ ?_ ?_
    · rfl
    · rfl
    intro w2 h1 h2 h3
    go_wp2
    go_ret
    refine ⟨by rw [Hd.out]; rfl, ⟨h0.1.drew.grown h2 (by simpa using Ne.symm hne), by rw [← adel_trues]; exact h1⟩, hg.trans ?_⟩
    exact ⟨h2.os, h2.tape, h2.output, h2.size, h2.block⟩
  · have hd : decide ((x, y, z) ∈ l) = false := by simpa using hm
    have Hd := Lib.hid hd
    rw [hd]
    clear hd
    go_wp2
    go_ret
    exact ⟨by rw [Hd.out]; rfl, by rw [List.erase_of_not_mem hm]; exact h0, hg⟩
end Go.Proofs.YtoideahgjgaddaaGreat
namespace Go.Proofs.YtoideahgjgaddaaGreat
open Go Go.RowKit
/-- a spot.Map[bool] all of whose things are true -/
def SpotA (q : Nat) (l : List A3) : Atom := exA fun mr : Nat => [.pt q 180 [.map (some mr)], mapA mr a3v (trues l)]
theorem umap : Tryz.prog.underlying 178 = some (.map 66 4) := by kernel_rfl
theorem s_New : Fn Tryz.prog 60 [] [] (fun v As => ∃ q, v = .pointer (some ⟨q, 0, none⟩) ∧ As = [SpotA q []]) := by
  refine Fn.enter [] Tryz.func60 rfl rfl rfl fun X F hX => ?_
  refine J.r hX tab_ok 400 (fun _ => rfl) fun bs => ?_
  refine J.turn1 [1] rfl (As := [mapA (bs 0) a3v (trues [])]) (fun h s => ?_) rfl ?_
  · refine ⟨fun _ => 0, fun i A hA => ?_⟩
    cases i with
    | zero => simp at hA; subst hA; exact ⟨#[], 0, res_some.2 ⟨rfl, s.get (i := 0) rfl⟩, rfl, by simp, by simp⟩
    | succ k => simp at hA
  refine J.close (f := fun mr : Nat => [.pt (bs 1) 180 [.map (some mr)], mapA mr a3v (trues [])]) (bs 0) [2, 1] rfl rfl rfl ?_
  refine J.r hX tab_ok 400 (fun _ => rfl) fun b1 => ?_
  refine J.rt hX tab_ok [2] rfl rfl rfl ?_
  exact ⟨bs 1, rfl, rfl⟩
theorem s_Get (q : Nat) (l : List A3) (x y z : Int) : Fn Tryz.prog 82 [.pointer (some ⟨q, 0, none⟩), .agg #[.int .i64 x, .int .i64 y, .int .i64 z]] [SpotA q l]
    (fun v As => v = .tuple #[.bool (decide ((x, y, z) ∈ l)), .bool (decide ((x, y, z) ∈ l))] ∧ As = [SpotA q l]) := by
  refine Fn.enter [2, 0] Tryz.func82 rfl rfl rfl fun X F hX => ?_
  refine J.open_ (α := Nat) 1 rfl rfl (fun _ => rfl) fun mr => ?_
  refine J.r hX tab_ok 400 (fun _ => rfl) fun b2 => ?_
  refine J.cond rfl (fun h => by simp at h) (fun _ => ?_)
  refine J.r hX tab_ok 400 (fun _ => rfl) fun b3 => ?_
  refine J.plan (.of [0,4,8,13,17,21,24,28,32,36,40]) [10] [1,2,3] (by rw [hX.hP]; kernel_rfl) (by kernel_rfl) ?_
  refine J.r hX tab_ok 400 (fun _ => rfl) fun b4 => ?_
  refine J.valT hX (.tuple #[.bool (decide ((x, y, z) ∈ l)), .bool (decide ((x, y, z) ∈ l))]) 0 rfl rfl (fun _ a w he hC => ?_) rfl ?_
  · refine (lookup_run (key := (x, y, z)) key39 umap (z := .bool false) (fun w => by kernel_rfl) rfl rfl rfl rfl he rfl rfl (hC rfl _ (cget_mem (i := 2) rfl))).trans ?_
    simp only [(alook_trues l _).1, (alook_trues l _).2]
  refine J.close (f := fun mr : Nat => [.pt q 180 [.map (some mr)], mapA mr a3v (trues l)]) mr [1, 2] rfl rfl rfl ?_
  refine J.r hX tab_ok 400 (fun _ => rfl) fun b5 => ?_
  refine J.rt hX tab_ok [1] rfl rfl rfl ?_
  exact ⟨rfl, rfl⟩
theorem s_Set (q : Nat) (l : List A3) (x y z : Int) : Fn Tryz.prog 69 [.pointer (some ⟨q, 0, none⟩), .agg #[.int .i64 x, .int .i64 y, .int .i64 z], .bool true] [SpotA q l]
    (fun v As => v = .tuple #[] ∧ As = [SpotA q (addS l (x, y, z))]) := by
  refine Fn.enter [2, 0, 0] Tryz.func69 rfl rfl rfl fun X F hX => ?_
  refine J.open_ (α := Nat) 1 rfl rfl (fun _ => rfl) fun mr => ?_
  refine J.r hX tab_ok 400 (fun _ => rfl) fun b6 => ?_
  refine J.cond rfl (fun _ => ?_) (fun h => by simp at h)
  refine J.r hX tab_ok 400 (fun _ => rfl) fun b7 => ?_
  refine J.plan (.of [0,4,8,13,17,20,27]) [6] [1,2,3] (by rw [hX.hP]; kernel_rfl) (by kernel_rfl) ?_
  refine J.r hX tab_ok 400 (fun _ => rfl) fun b8 => ?_
  refine J.mapUpdate hX key39 umap (x, y, z) 2 rfl rfl rfl rfl rfl rfl rfl rfl rfl rfl rfl rfl (fun _ => rfl) (by rw [aput_trues]; rfl) ⟨trivial, ?_⟩
  refine J.close (f := fun mr : Nat => [.pt q 180 [.map (some mr)], mapA mr a3v (trues (addS l (x, y, z)))]) mr [1, 2] rfl rfl rfl ?_
  refine J.r hX tab_ok 400 (fun _ => rfl) fun b9 => ?_
  refine J.fi hX tab_ok [1] rfl rfl rfl ?_
  exact ⟨rfl, rfl⟩
theorem s_Drop (q : Nat) (l : List A3) (x y z : Int) : Fn Tryz.prog 83 [.pointer (some ⟨q, 0, none⟩), .agg #[.int .i64 x, .int .i64 y, .int .i64 z]] [SpotA q l]
    (fun v As => v = .bool (decide ((x, y, z) ∈ l)) ∧ As = [SpotA q (l.erase (x, y, z))]) := by
  refine Fn.enter [2, 0] Tryz.func83 rfl rfl rfl fun X F hX => ?_
  refine J.r hX tab_ok 400 (fun _ => rfl) fun b10 => ?_
  refine J.ca hX (by kernel_rfl) (s_Get q l x y z) [1] 0 rfl rfl rfl rfl rfl rfl (fun _ => rfl) ?_
  rintro v As ⟨rfl, rfl⟩
  refine ⟨_, rfl, trivial, ?_⟩
  refine J.r hX tab_ok 400 (fun _ => rfl) fun b11 => ?_
  refine J.cond rfl (fun h => ?_) (fun h => ?_)
  · refine J.open_ (α := Nat) 1 rfl rfl (fun _ => rfl) fun mr => ?_
    refine J.r hX tab_ok 400 (fun _ => rfl) fun b12 => ?_
    refine J.plan (.of [0,4,8,13,17,22]) [] [1,2] (by rw [hX.hP]; kernel_rfl) (by kernel_rfl) ?_
    refine J.r hX tab_ok 400 (fun _ => rfl) fun b13 => ?_
    refine J.delete hX key39 umap (x, y, z) 3 rfl rfl rfl rfl rfl rfl rfl rfl rfl rfl (fun _ => rfl) (by rw [adel_trues]; rfl) ⟨⟨rfl, rfl, trivial⟩, ?_⟩
    refine J.close (f := fun mr : Nat => [.pt q 180 [.map (some mr)], mapA mr a3v (trues (l.erase (x, y, z)))]) mr [1, 3] rfl rfl rfl ?_
    refine J.r hX tab_ok 400 (fun _ => rfl) fun b14 => ?_
    refine J.rt hX tab_ok [1] rfl rfl rfl ?_
    exact ⟨rfl, rfl⟩
  · refine J.r hX tab_ok 400 (fun _ => rfl) fun b15 => ?_
    refine J.rt hX tab_ok [1] rfl rfl rfl ?_
    simp only [decide_eq_false_iff_not] at h
    exact ⟨rfl, by rw [List.erase_of_not_mem h]; rfl⟩
end Go.Proofs.YtoideahgjgaddaaGreat
namespace Go.Proofs.YtoideahgjgaddaaGreat
open Go Go.RowKit
theorem Sep.one {A : Atom} {h : Hl} (hA : A.sat h) : Sep [A] h := ⟨fun _ => 0, fun i B hB => by
  cases i with
  | zero => simp at hB; subst hB; exact A.up (fun b o hb => res_some.2 ⟨rfl, hb⟩) hA
  | succ k => simp at hB⟩
theorem lput_gen {α : Type} : ∀ (cs : List α) (off : Nat) (xs : List α), off + xs.length ≤ cs.length → lput cs off xs = some (cs.take off ++ xs ++ cs.drop (off + xs.length))
  | cs, 0, xs, h => by
    simp only [List.take_zero, List.nil_append, Nat.zero_add]
    have e : lput cs 0 xs = lputs cs xs := by cases cs <;> rfl
    rw [e]
    clear e
    induction xs generalizing cs with
    | nil => cases cs <;> rfl
    | cons x xs ih =>
      cases cs with
      | nil => simp at h
      | cons c cs =>
        simp only [lputs, ih cs (by simp at h ⊢; omega), List.cons_append, List.length_cons, List.drop_succ_cons]
  | [], k + 1, xs, h => by simp at h
  | c :: cs, k + 1, xs, h => by
    simp only [lput, lput_gen cs k xs (by simp at h; omega), List.take_succ_cons, List.cons_append]
    rw [show k + 1 + xs.length = (k + xs.length) + 1 from by omega, List.drop_succ_cons]
/-- the values of some slots -/
def subV (E : Env) : Env → List Prop
  | [] => []
  | s :: r => ((E.get s.k).map Slot.val = some s.val) :: subV E r
theorem EnvOK.subV {n : Nat} {E E' : Env} {a : Act} (h : EnvOK n E a) (hs : Conj (subV E E')) : EnvOK n E' a := by
  refine ⟨h.size, h.defers, ?_⟩
  induction E' with
  | nil => intro k s hk; cases hk
  | cons s' r ih =>
    intro k s hk
    simp only [Env.get] at hk
    split at hk
    · rename_i e
      have := Nat.eq_of_beq_eq_true e
      injection hk with hk; subst hk
      subst this
      have h1 := hs.1
      cases h2 : E.get s'.k with
      | none => rw [h2] at h1; cases h1
      | some u =>
        rw [h2] at h1
        have h3 : u.val = s'.val := by simpa using h1
        have := h.slot _ _ h2
        rw [h3] at this
        exact this
    · exact ih hs.2 k s hk
section
variable {X : Cx} {P : Program} {T : Tab} {K : List KI} {E : Env} {L : List Atom} {N : Nat} {F : HP} {Post : Value → List Atom → Prop} {rs : List ResultVar}
/-- the array of a slice that owns it lies bare -/
theorem J.openOwn {e size g n cap : Nat} {xs : List Value} {L' : List Value → List Atom} (i : Nat) (ok : okIdx L [i] = true) (hp : picks L [i] = [ownA e size (some g) n cap xs]) (hL : ∀ r, lupd L [i] [.pt g e (xs ++ r)] = some (L' r))
    (h : ∀ r : List Value, xs.length = n * size → n ≤ cap → cap ≤ maxLen → xs.length + r.length = cap * size → J X K E (L' r)) : J X K E L := by
  refine J.turn [i] ok (α := { r : List Value // xs.length = n * size ∧ n ≤ cap ∧ cap ≤ maxLen ∧ xs.length + r.length = cap * size }) (As := fun r => [.pt g e (xs ++ r.1)]) (L' := fun r => L' r.1) (fun h' s => ?_) (fun r => hL r.1) (fun r => h r.1 r.2.1 r.2.2.1 r.2.2.2.1 r.2.2.2.2)
  rw [hp] at s
  obtain ⟨h0, cur, h1, h2, h3, h4, h5⟩ := s.get (i := 0) rfl
  refine ⟨⟨cur.toList.drop (n * size), h0, h2, h3, ?_⟩, Sep.one ?_⟩
  · have hle : n * size ≤ cap * size := Nat.mul_le_mul_right _ h2
    have h4' : cur.toList.length = cap * size := h4
    rw [List.length_drop, h4', h0]; omega
  · show h' g = _
    rw [h1]
    show some (Obj.cells cur e (0, 0)) = some (Obj.cells (xs ++ cur.toList.drop (n * size)).toArray e (0, 0))
    rw [← h5, List.take_append_drop]
theorem J.closeOwn {e size g n cap : Nat} {xs ys : List Value} {L' : List Atom} (i : Nat) (ok : okIdx L [i] = true) (hp : picks L [i] = [.pt g e ys]) (h0 : xs.length = n * size) (h2 : n ≤ cap) (h3 : cap ≤ maxLen) (h4 : ys.length = cap * size) (h5 : ys.take (n * size) = xs)
    (hL : lupd L [i] [ownA e size (some g) n cap xs] = some L') (h : J X K E L') : J X K E L := by
  refine J.turn1 [i] ok (fun h' s => ?_) hL h
  rw [hp] at s
  exact Sep.one (show ownP e size (some g) n cap xs h' from ⟨h0, ys.toArray, s.get (i := 0) rfl, h2, h3, by simpa using h4, by simpa using h5⟩)
/-- cells are stored at a place that is not a numeral -/
theorem J.storeN {T : Tab} (hX : IsCx X P rs N F Post) (hT : TabOK P T) {ops : Array Oper} {C : Cl} {lt : Bool} {i : Nat} {t : PT} {o : Oper} {g : G} {ty0 : TypeId} {x y : Operand} {k1 k2 t1 t2 b off ty : Nat} {g1 g2 : G} {v : Value} {cs vs : List Value} {ti : TI} {E' : Value → Env} (is : Nat)
    (ho : lget ops.toList i = some o) (hg : gd ops.toList E o = some g) (hgo : g.on = true) (hop : o.op = .store ty0 x y) (hx : ev E x = some ⟨k1, .pointer (some ⟨b, off, none⟩), t1, g1⟩) (v1 : g1.on = true) (hy : ev E y = some ⟨k2, v, t2, g2⟩) (v2 : g2.on = true)
    (hti : T.get ty0 = some ti) (hc : v.cells.toList = vs) (hsz : ti.size = vs.length) (h1 : vs.all (·.oneCell') = true) (hL : lget L is = some (.pt b ty cs)) (hlt : off + vs.length ≤ cs.length) (cs' : List Value) (hcs : cs.take off ++ vs ++ cs.drop (off + vs.length) = cs') {L2 : List Atom} (hL2 : lset L is (.pt b ty cs') = some L2)
    (hd : ∀ v, putE N o.dst v 0 .tt E = some (E' v)) (hJ : Conj (staysL lt C L2) ∧ J X (.reg ops C t :: K) (E' undef) L2) : J X (.reg ops C (.alt lt i t .non) :: K) E L := by
  refine J.op hX (S := fun v' L' => v' = undef ∧ L' = L.set is (.pt b ty cs')) 0 ho hg hgo (fun a0 w hen hs => ?_) hd (fun v L' ⟨e1, e2⟩ => by subst e1; subst e2; rw [← lset_eq hL2]; exact hJ)
  rw [lget_eq] at hL
  have ex := ev_spec hen hx
  have ey := ev_spec hen hy
  simp only [Slot.val, v1, v2] at ex ey
  obtain ⟨d, f, z, ok⟩ := tiOf_spec (hT.get hti)
  have hblk : Blk w b ty cs.toArray := hs.pt hL
  have hput : lput cs (off + 0) vs = some cs' := by rw [Nat.add_zero, ← hcs]; exact lput_gen _ _ _ hlt
  obtain ⟨w', r1, r2, r3⟩ := storeCells_run (P := P) vs 0 w cs cs' hblk hput h1
  have hsize : v.cells.size = f.size := by
    rw [← ok.hsize, hsz, ← Array.length_toList, hc]
  refine ⟨undef, _, .skip, w', ⟨rfl, rfl⟩, ?_, .inr ⟨rfl, rfl⟩, ?_, r3⟩
  · simp only [execOp, hop, ex, ey, Instr.storeAt, Instr.sureAddr, Sem.run_bind, Sem.run_pure, Result.andThen_ok, storeVar, sizeOf_run ok.hf]
    simp [hsize, hc, r1]
  · rw [r2]; exact hs.setPt cs' hL
/-- make of a slice of one-celled things -/
theorem J.makeSlice {T : Tab} (hX : IsCx X P rs N F Post) (hT : TabOK P T) {ops : Array Oper} {C : Cl} {lt : Bool} {i : Nat} {t : PT} {o : Oper} {g : G} {st e by_ : Nat} {x y : Operand} {k1 k2 t1 t2 n s1 b1 : Nat} {kl kc : IntKind} {g1 g2 : G} {z1 : List Value} {z : Value} {td : TD} {E' : Value → Env} {L2 : Nat → List Atom} (tag : Nat)
    (ho : lget ops.toList i = some o) (hg : gd ops.toList E o = some g) (hgo : g.on = true) (hop : o.op = .makeSlice st x y) (hx : ev E x = some ⟨k1, .int kl n, t1, g1⟩) (v1 : g1.on = true) (hy : ev E y = some ⟨k2, .int kc n, t2, g2⟩) (v2 : g2.on = true)
    (hst : T.get st = some ⟨.slice e 1, s1, z1, b1⟩) (he : T.get e = some ⟨td, 1, [z], by_⟩) (h63 : n ≤ maxLen) (hbytes : by_ * n ≤ 281474976710656)
    (hL2 : ∀ b, lsnoc nums L (.pt b e (List.replicate n z)) = some (L2 b, tag)) (hd : ∀ v, putE N o.dst v tag .tt E = some (E' v)) (hJ : ∀ b, Conj (staysL lt C (L2 b)) ∧ J X (.reg ops C t :: K) (E' (.slice (some ⟨b, 0, none⟩) n n)) (L2 b)) : J X (.reg ops C (.alt lt i t .non) :: K) E L := by
  refine J.op hX (S := fun v' L' => ∃ b, v' = .slice (some ⟨b, 0, none⟩) n n ∧ L' = L ++ [.pt b e (List.replicate n z)]) tag ho hg hgo (fun a0 w hen hs => ?_) hd (fun v L' ⟨b, e1, e2⟩ => by subst e1; subst e2; rw [← lsnoc_eq (hL2 b)]; exact hJ b)
  have ex := ev_spec hen hx
  have ey := ev_spec hen hy
  simp only [Slot.val, v1, v2] at ex ey
  obtain ⟨d, f, zv, ok⟩ := tiOf_spec (hT.get hst)
  obtain ⟨fe, rfl, g1', g2'⟩ := ok.slice rfl
  obtain ⟨d', f', zv', ok'⟩ := tiOf_spec (hT.get he)
  have hf : fe = f' := by have := g1'.symm.trans ok'.hf; injection this
  subst hf
  have hb2 : (fe.bytes : Int) * (n : Int) ≤ 281474976710656 := by
    rw [← ok'.hbytes]
    have h : ((by_ * n : Nat) : Int) ≤ 281474976710656 := by omega
    rwa [Int.natCast_mul] at h
  have hr := run_make (P := P) w st e fe zv' ok.hd ok'.hf ok'.hz kl kc n n (by omega) (Int.le_refl _) hb2 (by simp [maxLen] at h63; omega)
  have hz : zv'.cells = #[z] := by apply Array.toList_inj.1; exact ok'.hzero.symm
  have hs1 : fe.size = 1 := ok'.hsize.symm
  simp only [Int.toNat_natCast, hs1, Nat.mul_one, hz] at hr
  refine ⟨_, _, .value (.slice (some ⟨w.heap.size, 0, none⟩) n n), w.alloc (.cells (madeCells #[z] n) e), ⟨w.heap.size, rfl, rfl⟩, ?_, .inl rfl, ?_, ⟨rfl, rfl, rfl, by show w.heap.size ≤ (w.heap.push _).size; simp⟩⟩
  · simp only [execOp, hop, ex, ey, hr, Sem.run_bind, Result.andThen_ok, Sem.run_pure]
  · have e1 : Obj.cells (madeCells #[z] n) e (0, 0) = Obj.cells (List.replicate n z).toArray e (0, 0) := by
      congr 1; apply Array.toList_inj.1; rw [toList_madeCells_one]
    show Sep _ (hl { w with heap := w.heap.push (Obj.cells (madeCells #[z] n) e (0, 0)) })
    rw [e1, hl_push]
    exact hs.snoc (hl_none w) (fun h' hh => hh)
theorem J.nextS {α : Type} {I : α → Prop} {Ei : α → Env} {Li : α → List Atom} {μ : α → Nat} {m : Nat} (x : α) (h1 : I x) (h2 : μ x < m) (is : List Nat) (h3 : Conj (subL E (Ei x))) (ok : okIdx L is = true) (hL : picks L is = Li x) :
    J X (.stop (fun a w => Ext X.w0 w ∧ ∃ x', I x' ∧ μ x' < m ∧ EnvOK X.n (Ei x') a ∧ Sep (Li x') (hl w)) :: K) E L := J.next x h1 h2 h3 (fun h' s => by have := s.sub is ok; rwa [hL] at this)
theorem J.nS {α : Type} {I : α → Prop} {Ei : α → Env} {Li : α → List Atom} {μ : α → Nat} {m : Nat} (x : α) (h1 : I x) (h2 : μ x < m) (is : List Nat) (ok : okIdx L is = true) (hL : picks L is = Li x) (h3 : Conj (subL E (Ei x)) := by (repeat' (first | exact Conj.nil | refine Conj.cons ?_ ?_ | omega | exact hq0 | (simpa using hq0) | (exact fun h => h) | exact rfl | (intro hq; have hq0 := hq; try simp only [Bool.and_eq_true, Bool.or_eq_true, decide_eq_true_eq, Bool.not_eq_true', decide_eq_false_iff_not] at hq) | (simp; done) | (simp; omega) | decide))) :
    J X (.stop (fun a w => Ext X.w0 w ∧ ∃ x', I x' ∧ μ x' < m ∧ EnvOK X.n (Ei x') a ∧ Sep (Li x') (hl w)) :: K) E L := J.nextS x h1 h2 is h3 ok hL
/-- an integer cut down to another kind -/
theorem convert_run {w : World} {n0 : Nat} {a : Act} (hT : TabOK P T) {o : Oper} {src dst : TypeId} {x : Operand} {k tg sz b1 : Nat} {z1 : List Value} {g : G} {k0 k' : IntKind} {n : Int} {ti : TI} (hop : o.op = .convert src dst x) (hx : ev E x = some ⟨k, .int k0 n, tg, g⟩) (he : EnvOK n0 E a) (hg : g.on = true) (hd : T.get dst = some ⟨.int k', sz, z1, b1⟩) (hs : T.get src = some ti) :
    (execOp a.eval o).run P w = .ok (.value (.int k' (k'.wrap n))) w := by
  have ex := ev_spec he hx
  simp only [Slot.val, hg] at ex
  obtain ⟨d, fi, zv, ok⟩ := tiOf_spec (hT.get hd)
  obtain ⟨d', fi', zv', ok'⟩ := tiOf_spec (hT.get hs)
  have := ok.int rfl
  subst this
  simp [execOp, hop, ex, convert, underlying_run ok.hd, underlying_run ok'.hd, Conv.intToInt]
/-- a few ways come together -/
theorem J.join {α : Type} {k : KI} (E0 : α → Env) (L0 : α → List Atom) (h1 : (∀ x, J X K (E0 x) (L0 x)) → J X (k :: K) E L) (h2 : ∀ x, J X K (E0 x) (L0 x)) : J X (k :: K) E L := h1 h2
theorem J.goto {E0 : Env} {L0 : List Atom} (is : List Nat) (h : J X K E0 L0) (h3 : Conj (subV E E0)) (ok : okIdx L is = true) (hL : picks L is = L0) : J X K E L :=
  fun a w hx he s => h a w hx (he.subV h3) (by have := s.sub is ok; rwa [hL] at this)
end
end Go.Proofs.YtoideahgjgaddaaGreat
