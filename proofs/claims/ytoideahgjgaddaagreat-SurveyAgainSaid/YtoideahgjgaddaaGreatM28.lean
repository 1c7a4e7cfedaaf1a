/- Helpers of the proofs about ostrakonlaw11, proved here: RfF, RfB, Cp, RfG, RfC, RfD. No condition. -/
import Derived.Test.YtoideahgjgaddaaGreatM03
import Derived.Test.YtoideahgjgaddaaGreatM13
import Derived.Test.YtoideahgjgaddaaGreatM14
import Derived.Test.YtoideahgjgaddaaGreatM20
import Derived.Test.YtoideahgjgaddaaGreatM26
import Derived.Test.YtoideahgjgaddaaGreatM27
set_option linter.unusedVariables false
set_option linter.unusedSimpArgs false
set_option linter.unusedSectionVars false
set_option linter.unnecessarySimpa false
namespace Go.Proofs.YtoideahgjgaddaaGreat
open Go Go.RowKit
theorem store_tail {l : List Bool} (r : List Value) {k n cap : Nat} (hl : l.length = n) (hk : k < n) (h : (cellsB l ++ r).length = cap) : k < (cellsB l ++ r).length := by
  rw [List.length_append, cellsB_len]; omega
set_option maxRecDepth 20000 in
theorem f1_Step (s x : Nat) (hs : s < 4294967296) (hx : x < 256) : Fn Tryz.prog 223 [.int .u32 s, .int .u8 x] [] (fun v As => v = .int .u32 (K.step s x) ∧ As = []) := by
  have hs0 : s ^^^ x * 16777216 < 4294967296 := K.step_lt0 hs hx
  have hst : K.step s x = K.rounds 8 (s ^^^ x * 16777216) := rfl
  obtain ⟨s0, hs0e⟩ : ∃ s0, s ^^^ x * 16777216 = s0 := ⟨_, rfl⟩
  have hsb := K.step_bits s x hx
  rw [hs0e] at hs0 hst hsb
  obtain ⟨P0, hP0⟩ : ∃ P0, Bt.bits 1947962583 32 = P0 := ⟨_, rfl⟩
  have hP0l : P0.length = 32 := by rw [← hP0, Bt.length_bits]
  refine Fn.enter [0, 0] Tryz.func223 rfl rfl rfl fun X F hX => ?_
  refine J.r hX tab_ok 400 (fun _ => rfl) fun b1 => ?_
  refine J.r hX tab_ok 400 (fun _ => rfl) fun b2 => ?_
  refine J.ca hX (by kernel_rfl) (f1_Bits s 32 (by omega) (by omega)) [] 0 rfl rfl rfl rfl rfl rfl (fun _ => rfl) ?_
  rintro v As ⟨a1, c1, rfl, rfl⟩
  refine ⟨_, rfl, trivial, ?_⟩
  refine J.r hX tab_ok 400 (fun _ => rfl) fun b3 => ?_
  refine J.r hX tab_ok 400 (fun _ => rfl) fun b4 => ?_
  refine J.ca hX (by kernel_rfl) (f1_Bits x 8 (by omega) (by omega)) [] 0 rfl rfl rfl rfl rfl rfl (fun _ => rfl) ?_
  rintro v As ⟨a2, c2, rfl, rfl⟩
  refine ⟨_, rfl, trivial, ?_⟩
  refine J.r hX tab_ok 400 (fun _ => rfl) fun b5 => ?_
  refine J.r hX tab_ok 400 (fun _ => rfl) fun b6 => ?_
  refine J.ca hX (by kernel_rfl) (f1_Bits 1947962583 32 (by omega) (by omega)) [] 0 rfl rfl rfl rfl rfl rfl (fun _ => rfl) ?_
  rintro v As ⟨a3, c3, rfl, rfl⟩
  refine ⟨_, rfl, trivial, ?_⟩
  rw [hP0]
  refine J.know (fun h' s => own_some (c := (a1, c1)) (by omega) (s.get (i := 1) rfl)) fun hg => ?_
  obtain ⟨g1, rfl⟩ := hg
  refine J.know (fun h' s => own_some (c := (a2, c2)) (by omega) (s.get (i := 2) rfl)) fun hg => ?_
  obtain ⟨g2, rfl⟩ := hg
  refine J.know (fun h' s => own_some (c := (a3, c3)) (by omega) (s.get (i := 3) rfl)) fun hg => ?_
  obtain ⟨g3, rfl⟩ := hg
  refine J.r hX tab_ok 400 (fun _ => rfl) fun b7 => ?_
  refine J.openOwn 1 rfl rfl (fun _ => rfl) fun r q1 q2 q3 q4 => ?_
  refine J.r hX tab_ok 400 (fun _ => rfl) fun b8 => ?_
  refine J.lo (α := (Nat × List Bool)) (fun z => z.1 ≤ 8 ∧ z.2.length = 32 ∧ ∀ i, i < 32 → z.2.getD i false = if i < z.1 then ((Bt.bits s 32).getD i false != (Bt.bits x 8).getD i false) else (Bt.bits s 32).getD i false) (fun z => [⟨8, .int .i64 z.1, 0, .tt⟩, ⟨5, slv (some g1) 32 c1, 0, .tt⟩, ⟨6, slv (some g2) 8 c2, 0, .tt⟩, ⟨7, slv (some g3) 32 c3, 0, .tt⟩]) [1] (fun z => [.pt g1 4 (cellsB z.2 ++ r)]) (fun z => 8 - z.1) ((0, Bt.bits s 32)) (⟨Nat.zero_le _, Bt.length_bits _ _, fun i hi => by simp⟩) rfl ?_ (fun _ => rfl) fun z hI => ?_
  · rfl
  obtain ⟨k, l⟩ := z
  dsimp only at hI ⊢
  obtain ⟨hk, hl, hv⟩ := hI
  refine J.r hX tab_ok 400 (fun _ => rfl) fun b9 => ?_
  refine J.cond rfl (fun h1 => ?_) (fun h1 => ?_)
  · simp only [decide_eq_true_eq] at h1
    have h1 : k < 8 := by omega
    refine J.r hX tab_ok 400 (fun _ => rfl) fun b10 => ?_
    refine J.plan (.of [0,4,8,12,16,21,24,28,32,37,40,44,51]) [11,12] [1,2,3] (by rw [hX.hP]; kernel_rfl) (by kernel_rfl) ?_
    refine J.r hX tab_ok 400 (fun _ => rfl) fun b11 => ?_
    refine J.valT hX (.bool (l.getD k false)) 0 rfl rfl (fun hg a w he hC => ?_) rfl ?_
    · exact load1_run tab_ok rfl rfl he hg rfl rfl (hC rfl _ (cget_mem (i := 1) rfl)) (by rw [show 0 + (k : Int).toNat * 1 = k from by omega]; exact cellsB_at r (by omega))
    refine J.r hX tab_ok 400 (fun _ => rfl) fun b12 => ?_
    refine J.valT hX (.bool ((Bt.bits x 8).getD k false)) 0 rfl rfl (fun hg a w he hC => own1_run tab_ok rfl rfl he hg rfl rfl (hC rfl _ (cget_mem (i := 2) rfl)) (by rw [show 0 + (k : Int).toNat * 1 = k from by omega]; have := cellsB_at (l := Bt.bits x 8) [] (k := k) (by rw [Bt.length_bits]; omega); rwa [List.append_nil] at this)) rfl ?_
    refine J.r hX tab_ok 400 (fun _ => rfl) fun b13 => ?_
    refine J.store1 hX tab_ok 1 rfl rfl rfl rfl rfl rfl rfl rfl rfl rfl rfl rfl rfl ?_ (cellsB (l.set k (l.getD k false != (Bt.bits x 8).getD k false)) ++ r) ?_ rfl (fun _ => rfl) ⟨trivial, ?_⟩
    · rw [show 0 + (k : Int).toNat * 1 = k from by omega, List.length_append, cellsB_len]; omega
    · rw [show 0 + (k : Int).toNat * 1 = k from by omega]
      exact cellsB_set r _ (by omega)
    refine J.r hX tab_ok 400 (fun _ => rfl) fun b14 => ?_
    refine J.r hX tab_ok 400 (fun _ => rfl) fun b15 => ?_
    refine J.nS ((k + 1, l.set k (l.getD k false != (Bt.bits x 8).getD k false))) (⟨by dsimp only; omega, by rw [List.length_set]; exact hl, fun i hi => by
      have hvk := hv k (by omega)
      rw [if_neg (by omega)] at hvk
      dsimp only
      rw [List.getD_eq_getElem?_getD, List.getElem?_set, hl]
      by_cases e : k = i
      · subst e
        rw [if_pos rfl, if_pos (by omega), if_pos (by omega), hvk]; rfl
      · rw [if_neg e, ← List.getD_eq_getElem?_getD, hv i hi]
        by_cases h9 : i < k
        · rw [if_pos h9, if_pos (by omega)]
        · rw [if_neg h9, if_neg (by omega)]⟩) (by dsimp only; omega) [0, 1, 2, 3] rfl rfl
  simp only [decide_eq_false_iff_not] at h1
  obtain rfl : l = Bt.bits s0 32 := Bt.ext_bits 32 hl (Bt.length_bits _ _) fun i hi => by
    rw [hv i hi, hsb i hi]
    by_cases h9 : i < 8
    · rw [if_pos h9, if_pos (by omega)]
    · rw [if_neg h9, if_neg (by omega)]
  refine J.closeOwn (e := 4) (size := 1) (n := 32) (cap := c1) (xs := cellsB (Bt.bits s0 32)) 1 rfl rfl (by rw [cellsB_len, hl]) q2 q3 (by rw [List.length_append, cellsB_len, hl]; rw [cellsB_len, Bt.length_bits] at q4; exact q4) (List.take_left' (by rw [cellsB_len, hl])) rfl ?_
  refine J.r hX tab_ok 400 (fun _ => rfl) fun b16 => ?_
  refine J.r hX tab_ok 400 (fun _ => rfl) fun b17 => ?_
  refine J.lo (α := (Nat × Option Nat × Nat)) (fun z => z.1 ≤ 8) (fun z => [⟨9, .int .i64 z.1, 0, .tt⟩, ⟨5, slv z.2.1 32 z.2.2, 0, .tt⟩, ⟨7, slv (some g3) 32 c3, 0, .tt⟩]) [1] (fun z => [ownA 4 1 z.2.1 32 z.2.2 (cellsB (Bt.bits (K.rounds z.1 s0) 32))]) (fun z => 8 - z.1) ((0, some g1, c1)) (Nat.zero_le _) rfl ?_ (fun _ => rfl) fun z hI => ?_
  · rfl
  obtain ⟨j, a, c⟩ := z
  dsimp only at hI ⊢
  refine J.r hX tab_ok 400 (fun _ => rfl) fun b18 => ?_
  refine J.cond rfl (fun h2 => ?_) (fun h2 => ?_)
  · simp only [decide_eq_true_eq] at h2
    have h2 : j < 8 := by omega
    have hr := K.rounds_lt j s0 hs0
    obtain ⟨u, hu⟩ : ∃ u, K.rounds j s0 = u := ⟨_, rfl⟩
    have hn : K.rounds (j + 1) s0 = K.round u := by rw [← hu]; rfl
    rw [hu] at hr ⊢
    have hrb := K.round_bits u hr
    rw [hP0] at hrb
    obtain ⟨U, hU⟩ : ∃ U, Bt.bits u 32 = U := ⟨_, rfl⟩
    have hUl : U.length = 32 := by rw [← hU, Bt.length_bits]
    rw [hU] at hrb ⊢
    obtain ⟨tb, htb⟩ : ∃ tb, U.getD 0 false = tb := ⟨_, rfl⟩
    rw [htb] at hrb
    refine J.know (fun h' s => own_some (c := (a, c)) (by omega) (s.get (i := 1) rfl)) fun hg => ?_
    obtain ⟨g, rfl⟩ := hg
    refine J.know (p := 32 ≤ c) (fun h' s => by
      obtain ⟨_, cur, h1, h2, _⟩ := s.get (i := 1) rfl
      exact h2) fun hc => ?_
    refine J.turn1 [] rfl (As := [ownA 4 1 none 0 0 []]) (fun h s => Sep.one ⟨rfl, rfl, rfl⟩) rfl ?_
    refine J.r hX tab_ok 400 (fun _ => rfl) fun b19 => ?_
    refine J.val hX (.bool tb) 0 rfl rfl (fun hg a w he hs => own1_run tab_ok rfl rfl he rfl rfl rfl (hs.get (i := 1) rfl) (by have := cellsB_at (l := U) [] (k := 0) (by omega); rw [List.append_nil, htb] at this; exact this)) rfl trivial ?_
    refine J.r hX tab_ok 400 (fun _ => rfl) fun b20 => ?_
    have hRd : Rd (ownA 4 1 (some g) 32 c (cellsB U)) (some ⟨g, 0 + Int.toNat 1 * 1, none⟩) 1 (32 - Int.toNat 1) (cellsB (U.drop 1)) := by
      have := (own_rd 4 1 (some g) 32 c (cellsB U)).drop 1 (by omega)
      rw [cellsB_drop]; exact this
    refine J.appendR hX tab_ok 4 1 0 rfl rfl rfl rfl rfl rfl rfl rfl rfl rfl hRd rfl rfl rfl rfl (cellsB_one _) ?_ ?_ (fun _ => rfl) fun a4 c4 => ⟨_, rfl, trivial, ?_⟩
    · decide
    · decide
    rw [show 0 + (32 - Int.toNat 1) = 31 from rfl, List.nil_append]
    refine J.r hX tab_ok 400 (fun _ => rfl) fun b21 => ?_
    refine J.append hX tab_ok 4 5 0 rfl rfl rfl rfl rfl rfl rfl rfl rfl rfl rfl rfl rfl rfl rfl rfl ?_ ?_ (fun _ => rfl) fun a5 c5 => ⟨_, (congrArg (fun z => lset _ 4 (ownA _ _ _ _ _ z)) (cellsB_snoc (U.drop 1) false).symm).trans rfl, trivial, ?_⟩
    · decide
    · decide
    rw [show 31 + 1 = 32 from rfl]
    have hVl : (U.drop 1 ++ [false]).length = 32 := by rw [List.length_append, List.length_drop, hUl]; rfl
    have hVg : ∀ i, i < 32 → (U.drop 1 ++ [false]).getD i false = if i = 31 then false else U.getD (i + 1) false := fun i hi => by
      rw [List.getD_eq_getElem?_getD]
      by_cases e : i = 31
      · subst e
        rw [if_pos rfl, List.getElem?_append_right (by rw [List.length_drop, hUl]; exact Nat.le_refl _), List.length_drop, hUl]; rfl
      · rw [if_neg e, List.getElem?_append_left (by rw [List.length_drop, hUl]; omega), List.getElem?_drop, Nat.add_comm, ← List.getD_eq_getElem?_getD]
    generalize U.drop 1 ++ [false] = V at hVl hVg
    refine J.know (fun h' s => own_some (c := (a5, c5)) (by omega) (s.get (i := 4) rfl)) fun hg => ?_
    obtain ⟨g5, rfl⟩ := hg
    refine J.r hX tab_ok 400 (fun _ => rfl) fun b22 => ?_
    refine J.openOwn 4 rfl rfl (fun _ => rfl) fun r5 q5 q6 q7 q8 => ?_
    refine J.r hX tab_ok 400 (fun _ => rfl) fun b23 => ?_
    refine J.lo (α := (Nat × List Bool)) (fun z => (z.1 ≤ 32 ∧ (z.1 = 0 ∨ tb = true)) ∧ z.2.length = 32 ∧ ∀ i, i < 32 → z.2.getD i false = if i < z.1 then (V.getD i false != P0.getD i false) else V.getD i false) (fun z => [⟨11, .int .i64 z.1, 0, .tt⟩, ⟨5, slv (some g5) 32 c5, 0, .tt⟩, ⟨7, slv (some g3) 32 c3, 0, .tt⟩, ⟨9, .int .i64 j, 0, .tt⟩, ⟨10, .bool tb, 0, .tt⟩]) [4] (fun z => [.pt g5 4 (cellsB z.2 ++ r5)]) (fun z => 32 - z.1) ((0, V)) (⟨⟨Nat.zero_le _, .inl rfl⟩, hVl, fun i hi => by simp⟩) rfl ?_ (fun _ => rfl) fun z hI => ?_
    · rfl
    obtain ⟨k, l⟩ := z
    dsimp only at hI ⊢
    obtain ⟨hk, hl, hv⟩ := hI
    refine J.r hX tab_ok 400 (fun _ => rfl) fun b24 => ?_
    refine J.cond rfl (fun h3 => ?_) (fun h3 => ?_)
    · simp only [Bool.and_eq_true, decide_eq_true_eq] at h3
      have h4 : k < 32 := by omega
      refine J.r hX tab_ok 400 (fun _ => rfl) fun b25 => ?_
      refine J.plan (.of [0,4,8,12,16,21,24,28,32,37,40,44,51]) [11,12] [1,2,3,4] (by rw [hX.hP]; kernel_rfl) (by kernel_rfl) ?_
      refine J.r hX tab_ok 400 (fun _ => rfl) fun b26 => ?_
      refine J.valT hX (.bool (l.getD k false)) 0 rfl rfl (fun hg a w he hC => ?_) rfl ?_
      · exact load1_run tab_ok rfl rfl he hg rfl rfl (hC rfl _ (cget_mem (i := 4) rfl)) (by rw [show 0 + (k : Int).toNat * 1 = k from by omega]; exact cellsB_at r5 (by omega))
      refine J.r hX tab_ok 400 (fun _ => rfl) fun b27 => ?_
      refine J.valT hX (.bool (P0.getD k false)) 0 rfl rfl (fun hg a w he hC => own1_run tab_ok rfl rfl he hg rfl rfl (hC rfl _ (cget_mem (i := 3) rfl)) (by rw [show 0 + (k : Int).toNat * 1 = k from by omega]; have := cellsB_at (l := P0) [] (k := k) (by omega); rwa [List.append_nil] at this)) rfl ?_
      refine J.r hX tab_ok 400 (fun _ => rfl) fun b28 => ?_
      refine J.store1 hX tab_ok 4 rfl rfl rfl rfl rfl rfl rfl rfl rfl rfl rfl rfl rfl ?_ (cellsB (l.set k (l.getD k false != P0.getD k false)) ++ r5) ?_ rfl (fun _ => rfl) ⟨trivial, ?_⟩
      · rw [show 0 + (k : Int).toNat * 1 = k from by omega, List.length_append, cellsB_len]; omega
      · rw [show 0 + (k : Int).toNat * 1 = k from by omega]
        exact cellsB_set r5 _ (by omega)
      refine J.r hX tab_ok 400 (fun _ => rfl) fun b29 => ?_
      refine J.r hX tab_ok 400 (fun _ => rfl) fun b30 => ?_
      refine J.nS ((k + 1, l.set k (l.getD k false != P0.getD k false))) (⟨⟨by dsimp only; omega, .inr h3.2⟩, by rw [List.length_set]; exact hl, fun i hi => by
        have hvk := hv k (by omega)
        rw [if_neg (by omega)] at hvk
        dsimp only
        rw [List.getD_eq_getElem?_getD, List.getElem?_set, hl]
        by_cases e : k = i
        · subst e
          rw [if_pos rfl, if_pos (by omega), if_pos (by omega), hvk]; rfl
        · rw [if_neg e, ← List.getD_eq_getElem?_getD, hv i hi]
          by_cases h9 : i < k
          · rw [if_pos h9, if_pos (by omega)]
          · rw [if_neg h9, if_neg (by omega)]⟩) (by dsimp only; omega) [0, 1, 2, 3, 4, 5] rfl rfl
    obtain rfl : l = Bt.bits (K.rounds (j + 1) s0) 32 := Bt.ext_bits 32 hl (Bt.length_bits _ _) fun i hi => by
      rw [hv i hi, hn, hrb i hi, hVg i hi]
      cases tb with
      | true =>
        have hk32 : k = 32 := by
          simp only [Bool.and_true, decide_eq_false_iff_not] at h3
          omega
        rw [if_pos (by omega), Bool.true_and]
      | false =>
        have hk0 : k = 0 := by
          rcases hk.2 with h | h
          · exact h
          · cases h
        rw [if_neg (by omega), Bool.false_and, Bool.bne_false]
    refine J.closeOwn (e := 4) (size := 1) (n := 32) (cap := c5) (xs := cellsB (Bt.bits (K.rounds (j + 1) s0) 32)) 4 rfl rfl (by rw [cellsB_len, hl]) q6 q7 (by rw [List.length_append, cellsB_len, hl]; rw [cellsB_len, hVl] at q8; exact q8) (List.take_left' (by rw [cellsB_len, hl])) rfl ?_
    refine J.r hX tab_ok 400 (fun _ => rfl) fun b31 => ?_
    refine J.r hX tab_ok 400 (fun _ => rfl) fun b32 => ?_
    refine J.nS ((j + 1, some g5, c5)) (by dsimp only; omega) (by dsimp only; omega) [0, 4, 2, 3] rfl rfl
  simp only [decide_eq_false_iff_not] at h2
  obtain rfl : j = 8 := by omega
  refine J.know (fun h' s => own_some (c := (a, c)) (by omega) (s.get (i := 1) rfl)) fun hg => ?_
  obtain ⟨g, rfl⟩ := hg
  have hr8 := K.rounds_lt 8 s0 hs0
  have hnum := Bt.num_bits (K.rounds 8 s0) 32 hr8
  refine J.r hX tab_ok 400 (fun _ => rfl) fun b33 => ?_
  refine J.r hX tab_ok 400 (fun _ => rfl) fun b34 => ?_
  refine J.ca hX (by kernel_rfl) (f1_Num (ownA 4 1 (some g) 32 c (cellsB (Bt.bits (K.rounds 8 s0) 32))) (some ⟨g, 0, none⟩) 32 c (Bt.bits (K.rounds 8 s0) 32) (own_rd _ _ _ _ _ _) (Bt.length_bits _ _) (by decide)) [1] 0 rfl rfl rfl rfl rfl rfl (fun _ => rfl) ?_
  rintro v As ⟨rfl, rfl⟩
  refine ⟨_, rfl, trivial, ?_⟩
  rw [hnum, ← hst]
  have hlt : K.step s x < 4294967296 := K.step_lt s x hs hx
  refine J.r hX tab_ok 400 (fun _ => rfl) fun b35 => ?_
  refine J.rt hX tab_ok [] rfl rfl rfl ?_
  exact ⟨rfl, rfl⟩
theorem f1_Sum (A : Atom) (a : Option Addr) (n cap : Nat) (l : List UInt8) (hA : Rd A a 1 n (l.map bv)) (hl : l.length = n) (hn : n ≤ 64) : Fn Tryz.prog 198 [.slice a n cap] [A] (fun v As => v = .int .u32 (K.sum l) ∧ As = [A]) := by
  refine Fn.enter [0] Tryz.func198 rfl rfl rfl fun X F hX => ?_
  refine J.r hX tab_ok 400 (fun _ => rfl) fun b36 => ?_
  refine J.r hX tab_ok 400 (fun _ => rfl) fun b37 => ?_
  refine J.lo (α := Nat) (fun k => k ≤ n) (fun k => [⟨4, .int .i64 k, 0, .tt⟩, ⟨3, .int .u32 (K.sum (l.take k)), 0, .tt⟩, ⟨0, .slice a n cap, 0, .tt⟩]) [] (fun k => []) (fun k => n - k) (0) (Nat.zero_le _) rfl ?_ (fun _ => rfl) fun k hI => ?_
  · rfl
  refine J.r hX tab_ok 400 (fun _ => rfl) fun b38 => ?_
  refine J.cond rfl (fun h1 => ?_) (fun h1 => ?_)
  · simp only [decide_eq_true_eq, Int.ofNat_lt] at h1
    obtain ⟨x, hx⟩ : ∃ x, l[k]? = some x := ⟨_, List.getElem?_eq_getElem (by omega)⟩
    have hs := K.sum_snoc l k x hx
    have hlt := K.sum_lt (l.take k)
    have hxl : x.toNat < 256 := x.toNat_lt
    refine J.know (p := ∃ g o, a = some ⟨g, o, none⟩) (fun h' s => Rd.addr (hA _ (s.get (i := 1) rfl)) (by omega)) fun hk => ?_
    obtain ⟨gm, om, rfl⟩ := hk
    refine J.r hX tab_ok 400 (fun _ => rfl) fun b39 => ?_
    refine J.val hX (bv x) 0 rfl rfl (fun hg a w he hw => rd1_run tab_ok rfl rfl he rfl rfl rfl (hA _ (hw.get (i := 1) rfl)) (by omega) (j := k) (by omega) (by rw [List.getElem?_map, hx]; rfl)) rfl trivial ?_
    refine J.r hX tab_ok 400 (fun _ => rfl) fun b40 => ?_
    refine J.r hX tab_ok 400 (fun _ => rfl) fun b41 => ?_
    refine J.ca hX (by kernel_rfl) (f1_Step (K.sum (l.take k)) x.toNat hlt hxl) [] 0 rfl rfl rfl rfl rfl rfl (fun _ => rfl) ?_
    rintro v As ⟨rfl, rfl⟩
    refine ⟨_, rfl, trivial, ?_⟩
    rw [← hs]
    refine J.r hX tab_ok 400 (fun _ => rfl) fun b42 => ?_
    refine J.r hX tab_ok 400 (fun _ => rfl) fun b43 => ?_
    refine J.nS (k + 1) (by omega) (by omega) [0, 1] rfl rfl
  simp only [decide_eq_false_iff_not, Int.ofNat_lt] at h1
  have htk : l.take k = l := List.take_of_length_le (by omega)
  rw [htk]
  refine J.r hX tab_ok 400 (fun _ => rfl) fun b44 => ?_
  refine J.rt hX tab_ok [1] rfl rfl rfl ?_
  exact ⟨rfl, rfl⟩
end Go.Proofs.YtoideahgjgaddaaGreat
namespace Go.Proofs.YtoideahgjgaddaaGreat
open Go Go.RowKit
theorem dI_count (m : Int) : (dI m).length = L.count m := by
  rw [← L.below_eight m, dI, dsk, List.length_map, L.below]
  refine congrArg List.length (List.filter_congr fun d hd => ?_)
  rw [List.mem_range] at hd
  simp [hd]
theorem leavesD : leaves Tryz.prog 100 43 = some lvD := by kernel_rfl
theorem mkD (zs : List Value) : mkV Tryz.prog 43 zs = .agg zs.toArray := by simp [mkV, Tryz.underlying43]
theorem gdD : Tryz.prog.eqGuardType Tryz.prog.depth 43 = false := by kernel_rfl
/-- what the reference lets -/
def f9out (s : Sh) : Bool := ((((((((((s.kind != 1) && (s.kind != 2)) || decide (s.block < 0)) || decide (s.block ≥ 16)) || decide (s.row < 0)) || decide (s.row ≥ 8)) || decide ((L.count s.mask : Int) < 2)) || decide (s.seq < 0)) || decide (s.seq > 1099511627775)) || decide (s.lpn < 0)) || decide (s.lpn > 65535)
theorem may_out (s : Sh) (h : f9out s = true) : S.may s = false := by
  rw [Bool.eq_false_iff]
  intro hm
  simp only [S.may, S.place, S.numbers, S.inB, Bool.and_eq_true, Bool.or_eq_true, decide_eq_true_eq] at hm
  simp only [f9out, Bool.and_eq_true, Bool.or_eq_true, decide_eq_true_eq, bne_iff_ne, ne_eq] at h
  omega
theorem may_par (s : Sh) (h : f9out s = false) (hk : s.kind = 2) : S.may s = (decide (s.role ≥ 0) && decide (s.role ≤ 255)) := by
  simp only [f9out, Bool.and_eq_false_iff, Bool.or_eq_false_iff, decide_eq_false_iff_not, bne_eq_false_iff_eq] at h
  simp only [S.may, S.place, S.numbers, S.inB]
  rw [decide_eq_true (show 0 ≤ s.block by omega), decide_eq_true (show s.block ≤ 15 by omega), decide_eq_true (show 0 ≤ s.row by omega), decide_eq_true (show s.row ≤ 7 by omega), decide_eq_true (show 2 ≤ L.count s.mask by omega), decide_eq_true (show 0 ≤ s.seq by omega), decide_eq_true (show s.seq ≤ 1099511627775 by omega), decide_eq_true (show 0 ≤ s.lpn by omega), decide_eq_true (show s.lpn ≤ 65535 by omega), decide_eq_true hk]
  simp
theorem may_own (s : Sh) (h : f9out s = false) (hk : s.kind ≠ 2) : S.may s = S.entry s := by
  simp only [f9out, Bool.and_eq_false_iff, Bool.or_eq_false_iff, decide_eq_false_iff_not, bne_eq_false_iff_eq] at h
  have h1 : s.kind = 1 := by omega
  have hr : S.entry s = true → 0 ≤ s.role ∧ s.role ≤ 255 := by
    intro he
    unfold S.entry at he
    split at he
    · omega
    · split at he
      · omega
      · split at he
        · omega
        · cases he
  simp only [S.may, S.place, S.numbers, S.inB]
  rw [decide_eq_true (show 0 ≤ s.block by omega), decide_eq_true (show s.block ≤ 15 by omega), decide_eq_true (show 0 ≤ s.row by omega), decide_eq_true (show s.row ≤ 7 by omega), decide_eq_true (show 2 ≤ L.count s.mask by omega), decide_eq_true (show 0 ≤ s.seq by omega), decide_eq_true (show s.seq ≤ 1099511627775 by omega), decide_eq_true (show 0 ≤ s.lpn by omega), decide_eq_true (show s.lpn ≤ 65535 by omega), decide_eq_true h1, decide_eq_false hk]
  cases he : S.entry s
  · simp
  · have := hr he
    rw [decide_eq_true this.1, decide_eq_true this.2]; rfl
theorem f9_May (s : Sh) (h : s.data.length = 16) : Fn Tryz.prog 199 [shV s] [] (fun v As => v = .bool (S.may s) ∧ As = []) := by
  refine Fn.enter [0] Tryz.func199 rfl rfl rfl fun X F hX => ?_
  refine J.run hX tab_ok 400 (fun b1 => rfl) (fun b1 => ?_) (fun b1 => ?_)
  · (repeat' (first | exact Conj.nil | refine Conj.cons ?_ ?_ | exact rfl | exact hq | (rw [hq]; rfl) | (rw [(Bool.not_eq_true' _).mp hq]) | intro hq | omega | (simp; done)))
  refine J.gcase hX rfl rfl rfl trivial (fun hb => ?_) (fun hb => ?_)
  · have hb2 := (Bool.not_eq_true' _).mp hb
    rw [hb2]
    refine J.r hX tab_ok 400 (fun _ => rfl) fun b2 => ?_
    refine J.ca hX (by kernel_rfl) (f1_Dies s.mask) [] 0 rfl rfl rfl rfl rfl rfl (fun _ => rfl) ?_
    rintro v As ⟨a, c, rfl, rfl⟩
    refine ⟨_, rfl, trivial, ?_⟩
    rw [dI_count]
    refine J.run hX tab_ok 400 (fun b3 => rfl) (fun b3 => ?_) (fun b3 => ?_)
    · (repeat' (first | exact Conj.nil | refine Conj.cons ?_ ?_ | exact rfl | exact hq | (rw [hq]; rfl) | (rw [(Bool.not_eq_true' _).mp hq]) | intro hq | omega | (simp; done)))
    refine J.r hX tab_ok 400 (fun _ => rfl) fun b4 => ?_
    refine J.cond rfl (fun h3 => ?_) (fun h3 => ?_)
    · have ho : f9out s = true := by unfold f9out; rw [hb2]; exact h3
      refine J.r hX tab_ok 400 (fun _ => rfl) fun b5 => ?_
      refine J.rt hX tab_ok [] rfl rfl rfl ?_
      exact ⟨by rw [may_out s ho], rfl⟩
    have ho : f9out s = false := by unfold f9out; rw [hb2]; exact h3
    refine J.r hX tab_ok 400 (fun _ => rfl) fun b6 => ?_
    refine J.cond rfl (fun h4 => ?_) (fun h4 => ?_)
    · simp only [beq_iff_eq] at h4
      refine J.r hX tab_ok 400 (fun _ => rfl) fun b7 => ?_
      refine J.rt hX tab_ok [] rfl rfl rfl ?_
      exact ⟨by rw [may_par s ho h4], rfl⟩
    simp only [beq_eq_false_iff_ne, ne_eq] at h4
    have key : ∀ b, S.entry s = b → S.may s = b := fun b hb => (may_own s ho h4).trans hb
    refine J.r hX tab_ok 400 (fun _ => rfl) fun b8 => ?_
    refine J.val hX (.bool (decide (s.data = zeros16))) 0 rfl rfl (fun hg a w he hs => ?_) rfl trivial ?_
    · rw [← eqD s.data zeros16 h rfl]
      exact eqAgg_run (xs := dataC s.data) (ys := dataC zeros16) rfl rfl rfl he rfl rfl leavesD (fitsD _) (fitsD _) mkD gdD
    refine J.r hX tab_ok 400 (fun _ => rfl) fun b9 => ?_
    refine J.cond rfl (fun h5 => ?_) (fun h5 => ?_)
    · simp only [beq_iff_eq] at h5
      refine J.r hX tab_ok 400 (fun _ => rfl) fun b10 => ?_
      refine J.rt hX tab_ok [] rfl rfl rfl ?_
      exact ⟨by rw [key true (by unfold S.entry; rw [if_pos h5])], rfl⟩
    simp only [beq_eq_false_iff_ne, ne_eq] at h5
    have k2 : s.role = 2 ∨ s.role = 4 → S.may s = decide (s.data = zeros16) := fun hr => key _ (by unfold S.entry; rw [if_neg h5, if_pos hr])
    refine J.r hX tab_ok 400 (fun _ => rfl) fun b11 => ?_
    refine J.cond rfl (fun h6 => ?_) (fun h6 => ?_)
    · have h6' := h6
      simp only [beq_iff_eq] at h6'
      rw [h6]
      refine J.r hX tab_ok 400 (fun _ => rfl) fun b12 => ?_
      refine J.cond rfl (fun _ => ?_) (fun h => by simp at h)
      refine J.r hX tab_ok 400 (fun _ => rfl) fun b13 => ?_
      refine J.rt hX tab_ok [] rfl rfl rfl ?_
      exact ⟨by rw [k2 (.inl h6')], rfl⟩
    · have h6' := h6
      simp only [beq_eq_false_iff_ne, ne_eq] at h6'
      refine J.r hX tab_ok 400 (fun _ => rfl) fun b14 => ?_
      refine J.cond rfl (fun h7 => ?_) (fun h7 => ?_)
      · have h7' := h7
        simp only [beq_iff_eq] at h7'
        refine J.r hX tab_ok 400 (fun _ => rfl) fun b15 => ?_
        refine J.rt hX tab_ok [] rfl rfl rfl ?_
        exact ⟨by rw [k2 (.inr h7')], rfl⟩
      have h7' := h7
      simp only [beq_eq_false_iff_ne, ne_eq] at h7'
      refine J.r hX tab_ok 400 (fun _ => rfl) fun b16 => ?_
      refine J.cond rfl (fun h8 => ?_) (fun h8 => ?_)
      · have h8' := h8
        simp only [beq_iff_eq] at h8'
        refine J.run hX tab_ok 400 (fun b17 => rfl) (fun b17 => ?_) (fun b17 => ?_)
        · (repeat' (first | exact Conj.nil | refine Conj.cons ?_ ?_ | exact rfl | exact hq | (rw [hq]; rfl) | (rw [(Bool.not_eq_true' _).mp hq]) | intro hq | omega | (simp; done)))
        refine J.r hX tab_ok 400 (fun _ => rfl) fun b18 => ?_
        refine J.rt hX tab_ok [] rfl rfl rfl ?_
        exact ⟨by rw [key _ (by unfold S.entry; rw [if_neg h5, if_neg (by omega), if_pos h8'])]; rfl, rfl⟩
      · have h8' := h8
        simp only [beq_eq_false_iff_ne, ne_eq] at h8'
        refine J.r hX tab_ok 400 (fun _ => rfl) fun b19 => ?_
        refine J.rt hX tab_ok [] rfl rfl rfl ?_
        exact ⟨by rw [key false (by unfold S.entry; rw [if_neg h5, if_neg (by omega), if_neg h8'])], rfl⟩
  · have hb2 := (Bool.not_eq_false' _).mp hb
    rw [hb2]
    refine J.r hX tab_ok 400 (fun _ => rfl) fun b20 => ?_
    refine J.val hX (.int .i64 0) 0 rfl rfl (fun hg a w he hw => by simp [G.on] at hg) rfl trivial ?_
    refine J.run hX tab_ok 400 (fun b21 => rfl) (fun b21 => ?_) (fun b21 => ?_)
    · (repeat' (first | exact Conj.nil | refine Conj.cons ?_ ?_ | exact rfl | exact hq | (exact Bool.noConfusion hq) | (rw [hq]; rfl) | (rw [(Bool.not_eq_true' _).mp hq]) | intro hq | omega | (simp; done)))
    refine J.r hX tab_ok 400 (fun _ => rfl) fun b22 => ?_
    refine J.cond rfl (fun _ => ?_) (fun h => by simp at h)
    have ho : f9out s = true := by unfold f9out; rw [hb2]; rfl
    refine J.r hX tab_ok 400 (fun _ => rfl) fun b23 => ?_
    refine J.rt hX tab_ok [] rfl rfl rfl ?_
    exact ⟨by rw [may_out s ho], rfl⟩
end Go.Proofs.YtoideahgjgaddaaGreat
namespace Go.Proofs.YtoideahgjgaddaaGreat
open Go Go.RowKit
theorem hl_setRow {w : World} {g : Nat} {cur cs : Array Value} {t : TypeId} (h : w.heap[g]? = some (.cells cur t (0, 0))) : hl (w.setRow g cs) = hset (hl w) g (.cells cs t (0, 0)) := by
  funext x
  unfold hset
  by_cases e : x = g
  · subst e
    rw [if_pos rfl]
    exact setRow_heap w x cur cs t _ h
  · rw [if_neg e]
    exact setRow_other w g x _ e
section
variable {X : Cx} {P : Program} {T : Tab} {K : List KI} {E : Env} {L : List Atom} {N : Nat} {F : HP} {Post : Value → List Atom → Prop} {rs : List ResultVar}
/-- one-celled things that are read are copied into an array of its own -/
theorem J.copy (hX : IsCx X P rs N F Post) (hT : TabOK P T) {ops : Array Oper} {C : Cl} {lt : Bool} {i : Nat} {t : PT} {o : Oper} {g : G} {x y : Operand} {dT sT e by_ : Nat} {kx tx ky ty : Nat} {gx gy : G} {b off dl dc b2 oo sl sc tb : Nat} {old xs : List Value} {s1 b1 : Nat} {z1 : List Value} {E' : Value → Env} {Ay : Atom} (is iy : Nat)
    (ho : lget ops.toList i = some o) (hg : gd ops.toList E o = some g) (hgo : g.on = true) (hop : o.op = .call ⟨.builtin .copy, #[x, y], #[dT, sT]⟩)
    (hx : ev E x = some ⟨kx, .slice (some ⟨b, off, none⟩) dl dc, tx, gx⟩) (hvx : gx.on = true) (hy : ev E y = some ⟨ky, .slice (some ⟨b2, oo, none⟩) sl sc, ty, gy⟩) (hvy : gy.on = true)
    (hLx : lget L is = some (.pt b tb old)) (hLy : lget L iy = some Ay) (hrd : Rd Ay (some ⟨b2, oo, none⟩) 1 sl xs) (hst : T.get dT = some ⟨.slice e 1, s1, z1, b1⟩) {td : TD} {z : List Value} (he : T.get e = some ⟨td, 1, z, by_⟩)
    (cs : List Value) (hcs : xs.take (Nat.min sl dl) = cs) (hlt : off + cs.length ≤ old.length) (h1 : ∀ u ∈ xs, u.oneCell' = true) (cs' : List Value) (hcs' : old.take off ++ cs ++ old.drop (off + cs.length) = cs') {L2 : List Atom} (hL2 : lset L is (.pt b tb cs') = some L2)
    (hd : ∀ v, putE N o.dst v 0 .tt E = some (E' v)) (hJ : Conj (staysL lt C L2) ∧ J X (.reg ops C t :: K) (E' (goInt cs.length)) L2) : J X (.reg ops C (.alt lt i t .non) :: K) E L := by
  refine J.op hX (S := fun v' L' => v' = goInt cs.length ∧ L' = L.set is (.pt b tb cs')) 0 ho hg hgo (fun a0 w hen hs => ?_) hd (fun v L' ⟨e1, e2⟩ => by subst e1; subst e2; rw [← lset_eq hL2]; exact hJ)
  rw [lget_eq] at hLx hLy
  have ex := ev_spec hen hx
  have ey := ev_spec hen hy
  simp only [Slot.val, hvx, hvy] at ex ey
  obtain ⟨d, f, zv, ok⟩ := tiOf_spec (hT.get hst)
  obtain ⟨fe, rfl, g1, g2⟩ := ok.slice rfl
  have hblk : Blk w b tb old.toArray := hs.pt hLx
  have hrd2 := hrd _ (hs.get hLy)
  have hxl : xs.length = sl := by rw [hrd2.1, Nat.mul_one]
  have hn : cs.length = Nat.min sl dl := by
    rw [← hcs, List.length_take, hxl]
    exact Nat.min_eq_left (Nat.min_le_left sl dl)
  have hsrc : ∀ j v, cs[j]? = some v → w.cell? ((⟨b2, oo, none⟩ : Addr).add j) = some v := fun j u hu => by
    have hj : j < cs.length := (List.getElem?_eq_some_iff.1 hu).1
    rw [← hcs, List.getElem?_take] at hu
    split at hu
    · rw [Addr.add_none]
      refine rd_cell hrd2 ?_ hu
      have := (List.getElem?_eq_some_iff.1 hu).1
      omega
    · cases hu
  have h1' : ∀ v ∈ cs, v.oneCell' = true := fun v hv => h1 v (by rw [← hcs] at hv; exact List.mem_of_mem_take hv)
  have hsz : (P.info? e).map (·.size) = some 1 := by rw [g1]; exact congrArg some g2
  have hrun := run_copy_row (P := P) w dT sT o.type e b off dl dc ⟨b2, oo, none⟩ sl sc old.toArray tb cs ok.hd hsz hblk hn hsrc (by simpa using hlt) h1'
  have harr : (old.toArray.toList.take off ++ cs ++ old.toArray.toList.drop (off + cs.length)).toArray = cs'.toArray := congrArg List.toArray hcs'
  rw [harr] at hrun
  refine ⟨_, _, .value (goInt cs.length), w.setRow b cs'.toArray, ⟨rfl, rfl⟩, ?_, .inl rfl, ?_, Ext.grown (grown_setRow w b _)⟩
  · simp only [execOp, hop, resolve, Sem.run_bind, Sem.run_pure, Result.andThen_ok, invoke, builtin, List.map_toArray, List.map_cons, List.map_nil, ex, ey, hrun]
  · rw [hl_setRow hblk]
    exact hs.setPt cs' hLx
end
end Go.Proofs.YtoideahgjgaddaaGreat
namespace Go.Proofs.YtoideahgjgaddaaGreat
open Go Go.RowKit
theorem f9_field (p : List UInt8) (hp : p.length = 32) (fr w : Nat) (h : fr + w ≤ 256) (hw : 1 ≤ w ∧ w ≤ 64) : Fn Tryz.prog 197 [pgV p, .int .i64 fr, .int .i64 w] [] (fun v As => v = .int .u64 (Bt.numAt p fr w) ∧ As = []) := by
  have hnum := Bt.numAt_num p fr w (by omega)
  have hul := Bt.length_unpack p
  refine Fn.enter [0, 0, 0] Tryz.func197 rfl rfl rfl fun X F hX => ?_
  refine J.r hX tab_ok 400 (fun _ => rfl) fun bb => ?_
  refine J.r hX tab_ok 400 (fun _ => rfl) fun b1 => ?_
  refine J.ca hX (by kernel_rfl) (f1_Of (.pt (bb 0) 94 (pageC p)) (some ⟨bb 0, 0, none⟩) 32 32 p (by rw [← pageC_eq p hp]; exact pt_rd _ _ _ 1 32 rfl) hp (by decide)) [1] 0 rfl rfl rfl rfl rfl rfl (fun _ => rfl) ?_
  rintro v As ⟨a, c, rfl, rfl⟩
  refine ⟨_, rfl, trivial, ?_⟩
  refine J.know (fun h' s => own_some (c := (a, c)) (by omega) (s.get (i := 2) rfl)) fun hg => ?_
  obtain ⟨g, rfl⟩ := hg
  refine J.know (p := 32 * 8 ≤ c) (fun h' s => by
    obtain ⟨_, cur, h1, h2, _⟩ := s.get (i := 2) rfl
    exact h2) fun hc => ?_
  have hRd : Rd (ownA 4 1 (some g) (32 * 8) c (cellsB (Bt.unpack p))) (some ⟨g, 0 + fr * 1, none⟩) 1 w (cellsB (((Bt.unpack p).drop fr).take w)) := by
    have := ((own_rd 4 1 (some g) (32 * 8) c (cellsB (Bt.unpack p))).drop fr (by omega)).take w (by omega)
    rw [cellsB_take, cellsB_drop]
    rw [Nat.mul_one] at this ⊢
    rwa [Nat.mul_one] at this
  refine J.r hX tab_ok 400 (fun _ => rfl) fun b2 => ?_
  rw [show ((fr : Int) + (w : Int)).toNat - (fr : Int).toNat = w from by omega, show (fr : Int).toNat = fr from by omega]
  refine J.r hX tab_ok 400 (fun _ => rfl) fun b3 => ?_
  refine J.ca hX (by kernel_rfl) (f1_Num (ownA 4 1 (some g) (32 * 8) c (cellsB (Bt.unpack p))) (some ⟨g, 0 + fr * 1, none⟩) w (c - fr) (((Bt.unpack p).drop fr).take w) hRd (by rw [List.length_take, List.length_drop]; omega) (by omega)) [2] 0 rfl rfl rfl rfl rfl rfl (fun _ => rfl) ?_
  rintro v As ⟨rfl, rfl⟩
  refine ⟨_, rfl, trivial, ?_⟩
  rw [hnum]
  refine J.r hX tab_ok 400 (fun _ => rfl) fun b4 => ?_
  refine J.rt hX tab_ok [] rfl rfl rfl ?_
  exact ⟨rfl, rfl⟩
set_option maxRecDepth 20000 in
theorem f9_Get (p : List UInt8) (hp : p.length = 32) : Fn Tryz.prog 157 [pgV p] [] (fun v As => v = .tuple #[shV (S.getV p), .bool (S.get p).isSome] ∧ As = []) := by
  obtain ⟨r1, r2, r3⟩ := S.field_role p hp
  obtain ⟨r4, r5, r6, r7⟩ := S.field_rest p hp
  have w1 := Bt.numAt_lt p 128 8
  have w2 := Bt.numAt_lt p 136 16
  have w3 := Bt.numAt_lt p 152 40
  have w4 := Bt.numAt_lt p 192 8
  have w5 := Bt.numAt_lt p 200 8
  have w6 := Bt.numAt_lt p 208 8
  have w7 := Bt.numAt_lt p 216 8
  have w8 := Bt.numAt_lt p 224 32
  rw [show (2 : Nat) ^ 8 = 256 from rfl] at w1 w4 w5 w6 w7
  rw [show (2 : Nat) ^ 16 = 65536 from rfl] at w2
  rw [show (2 : Nat) ^ 40 = 1099511627776 from rfl] at w3
  rw [show (2 : Nat) ^ 32 = 4294967296 from rfl] at w8
  refine Fn.enter [0] Tryz.func157 rfl rfl rfl fun X F hX => ?_
  have hpl : (p.take 16).length = 16 := by rw [List.length_take, hp]; rfl
  have hpc : (pageC p).take 16 = dataC (p.take 16) := by rw [pageC_eq p hp, dataC_eq _ hpl, List.map_take]
  have hone : ∀ u ∈ pageC p, u.oneCell' = true := by
    rw [pageC_eq p hp]
    intro u hu
    obtain ⟨b, _, rfl⟩ := List.mem_map.1 hu
    rfl
  have hsum : K.sum (p.take 28) < 4294967296 := K.sum_lt _
  refine J.r hX tab_ok 400 (fun _ => rfl) fun bb => ?_
  refine J.r hX tab_ok 400 (fun _ => rfl) fun b5 => ?_
  refine J.plan (.of [0,4,8,14]) [] [1] (by rw [hX.hP]; kernel_rfl) (by kernel_rfl) ?_
  refine J.r hX tab_ok 400 (fun _ => rfl) fun b6 => ?_
  have hRd : ∀ k, k ≤ 32 → Rd (.pt (bb 0) 94 (pageC p)) (some ⟨bb 0, 0 + 0 * 1, none⟩) 1 k ((pageC p).take k) := fun k hk => by
    have := (pt_rd (bb 0) 94 (pageC p) 1 32 rfl).take k hk
    rwa [Nat.mul_one] at this
  refine J.copy hX tab_ok 3 1 rfl rfl rfl rfl rfl rfl rfl rfl rfl rfl (hRd 16 (by decide)) rfl rfl (dataC (p.take 16)) (by rw [← hpc]; exact List.take_of_length_le (Nat.le_refl _)) (Nat.le_of_ble_eq_true rfl) (fun u hu => hone u (List.mem_of_mem_take hu)) (shL ⟨p.take 16, 0, 0, 0, 0, 0, 0, 0⟩) rfl rfl (fun _ => rfl) ⟨⟨rfl, trivial⟩, ?_⟩
  refine J.r hX tab_ok 400 (fun _ => rfl) fun b7 => ?_
  refine J.plan (.of [1,13,25,6,8,18,20,30,32,36,42,44,50,52,59]) [13,14] [1] (by rw [hX.hP]; kernel_rfl) (by kernel_rfl) ?_
  refine J.r hX tab_ok 400 (fun _ => rfl) fun b8 => ?_
  refine J.r hX tab_ok 400 (fun _ => rfl) fun b9 => ?_
  refine J.ca hX (by kernel_rfl) (f9_field p hp 128 8 (by omega) (by omega)) [] 0 rfl rfl rfl rfl rfl rfl (fun _ => rfl) ?_
  rintro v As ⟨rfl, rfl⟩
  refine ⟨_, rfl, ⟨rfl, trivial⟩, ?_⟩
  refine J.r hX tab_ok 400 (fun _ => rfl) fun b10 => ?_
  refine J.r hX tab_ok 400 (fun _ => rfl) fun b11 => ?_
  refine J.ca hX (by kernel_rfl) (f9_field p hp 136 16 (by omega) (by omega)) [] 0 rfl rfl rfl rfl rfl rfl (fun _ => rfl) ?_
  rintro v As ⟨rfl, rfl⟩
  refine ⟨_, rfl, ⟨rfl, trivial⟩, ?_⟩
  refine J.r hX tab_ok 400 (fun _ => rfl) fun b12 => ?_
  refine J.r hX tab_ok 400 (fun _ => rfl) fun b13 => ?_
  refine J.ca hX (by kernel_rfl) (f9_field p hp 152 40 (by omega) (by omega)) [] 0 rfl rfl rfl rfl rfl rfl (fun _ => rfl) ?_
  rintro v As ⟨rfl, rfl⟩
  refine ⟨_, rfl, ⟨rfl, trivial⟩, ?_⟩
  refine J.r hX tab_ok 400 (fun _ => rfl) fun b14 => ?_
  refine J.plan (.of [1,13,25,37,6,8,18,20,30,32,42,44,48,54,56,62,64,70,72,79]) [18,19] [1] (by rw [hX.hP]; kernel_rfl) (by kernel_rfl) ?_
  refine J.r hX tab_ok 400 (fun _ => rfl) fun b15 => ?_
  refine J.r hX tab_ok 400 (fun _ => rfl) fun b16 => ?_
  refine J.ca hX (by kernel_rfl) (f9_field p hp 192 8 (by omega) (by omega)) [] 0 rfl rfl rfl rfl rfl rfl (fun _ => rfl) ?_
  rintro v As ⟨rfl, rfl⟩
  refine ⟨_, rfl, ⟨rfl, trivial⟩, ?_⟩
  refine J.r hX tab_ok 400 (fun _ => rfl) fun b17 => ?_
  refine J.r hX tab_ok 400 (fun _ => rfl) fun b18 => ?_
  refine J.ca hX (by kernel_rfl) (f9_field p hp 200 8 (by omega) (by omega)) [] 0 rfl rfl rfl rfl rfl rfl (fun _ => rfl) ?_
  rintro v As ⟨rfl, rfl⟩
  refine ⟨_, rfl, ⟨rfl, trivial⟩, ?_⟩
  refine J.r hX tab_ok 400 (fun _ => rfl) fun b19 => ?_
  refine J.r hX tab_ok 400 (fun _ => rfl) fun b20 => ?_
  refine J.ca hX (by kernel_rfl) (f9_field p hp 208 8 (by omega) (by omega)) [] 0 rfl rfl rfl rfl rfl rfl (fun _ => rfl) ?_
  rintro v As ⟨rfl, rfl⟩
  refine ⟨_, rfl, ⟨rfl, trivial⟩, ?_⟩
  refine J.r hX tab_ok 400 (fun _ => rfl) fun b21 => ?_
  refine J.r hX tab_ok 400 (fun _ => rfl) fun b22 => ?_
  refine J.ca hX (by kernel_rfl) (f9_field p hp 216 8 (by omega) (by omega)) [] 0 rfl rfl rfl rfl rfl rfl (fun _ => rfl) ?_
  rintro v As ⟨rfl, rfl⟩
  refine ⟨_, rfl, ⟨rfl, trivial⟩, ?_⟩
  have hsf : (⟨p.take 16, (Bt.numAt p 128 8 : Nat), (Bt.numAt p 136 16 : Nat), (Bt.numAt p 152 40 : Nat), (Bt.numAt p 216 8 : Nat), (Bt.numAt p 192 8 : Nat), (Bt.numAt p 200 8 : Nat), (Bt.numAt p 208 8 : Nat)⟩ : Sh) = S.fields p := by
    rw [← r1, ← r2, ← r3, ← r4, ← r5, ← r6, ← r7]; rfl
  have hmayc := f9_May ⟨p.take 16, (Bt.numAt p 128 8 : Nat), (Bt.numAt p 136 16 : Nat), (Bt.numAt p 152 40 : Nat), (Bt.numAt p 216 8 : Nat), (Bt.numAt p 192 8 : Nat), (Bt.numAt p 200 8 : Nat), (Bt.numAt p 208 8 : Nat)⟩ hpl
  have hget := S.get_some p hp
  refine J.r hX tab_ok 400 (fun _ => rfl) fun b23 => ?_
  refine J.plan (.of [1,12,6,8,18,20,24,29,34,36,40]) [] [1,3] (by rw [hX.hP]; kernel_rfl) (by kernel_rfl) ?_
  refine J.r hX tab_ok 400 (fun _ => rfl) fun b24 => ?_
  refine J.r hX tab_ok 400 (fun _ => rfl) fun b25 => ?_
  refine J.ca hX (by kernel_rfl) (f9_field p hp 224 32 (by omega) (by omega)) [] 0 rfl rfl rfl rfl rfl rfl (fun _ => rfl) ?_
  rintro v As ⟨rfl, rfl⟩
  refine ⟨_, rfl, ⟨rfl, rfl, trivial⟩, ?_⟩
  refine J.r hX tab_ok 400 (fun _ => rfl) fun b26 => ?_
  refine J.r hX tab_ok 400 (fun _ => rfl) fun b27 => ?_
  refine J.ca hX (by kernel_rfl) (f1_Sum (.pt (bb 0) 94 (pageC p)) (some ⟨bb 0, 0 + 0 * 1, none⟩) 28 32 (p.take 28) (by rw [List.map_take, ← pageC_eq p hp]; exact hRd 28 (by decide)) (by rw [List.length_take, hp]; rfl) (by decide)) [1] 0 rfl rfl rfl rfl rfl rfl (fun _ => rfl) ?_
  rintro v As ⟨rfl, rfl⟩
  refine ⟨_, rfl, ⟨rfl, rfl, trivial⟩, ?_⟩
  refine J.r hX tab_ok 400 (fun _ => rfl) fun b28 => ?_
  refine J.gcase hX rfl rfl rfl ⟨rfl, rfl, trivial⟩ (fun hb => ?_) (fun hb => ?_)
  · have hb2 : (((Bt.numAt p 224 32 : Nat) : Int) != ((K.sum (p.take 28) : Nat) : Int)) = false := by simpa using hb
    rw [hb2]
    refine J.r hX tab_ok 400 (fun _ => rfl) fun b29 => ?_
    refine J.ca hX (by kernel_rfl) (hmayc) [] 0 rfl rfl rfl rfl rfl rfl (fun _ => rfl) ?_
    rintro v As ⟨rfl, rfl⟩
    refine ⟨_, rfl, ⟨rfl, rfl, trivial⟩, ?_⟩
    rw [hsf]
    have heq : Bt.numAt p 224 32 = K.sum (p.take 28) := by
      simp only [Bool.not_eq_true', bne_eq_false_iff_eq] at hb
      omega
    refine J.r hX tab_ok 400 (fun _ => rfl) fun b30 => ?_
    refine J.cond rfl (fun h1 => ?_) (fun h1 => ?_)
    · have hg : S.get p = none := by
        rw [hget, if_neg]
        rintro ⟨_, hm⟩
        rw [hm] at h1
        simp at h1
      refine J.r hX tab_ok 400 (fun _ => rfl) fun b31 => ?_
      refine J.rt hX tab_ok [] rfl rfl rfl ?_
      exact ⟨by unfold S.getV; rw [hg]; rfl, rfl⟩
    · have hg : S.get p = some (S.fields p) := by
        rw [hget, if_pos]
        refine ⟨heq, ?_⟩
        cases hm : S.may (S.fields p) with
        | true => rfl
        | false => rw [hm] at h1; simp at h1
      refine J.r hX tab_ok 400 (fun _ => rfl) fun b32 => ?_
      refine J.rt hX tab_ok [] rfl rfl rfl ?_
      exact ⟨by unfold S.getV; rw [hg, Option.getD_some, ← hsf]; rfl, rfl⟩
  · have hb2 : (((Bt.numAt p 224 32 : Nat) : Int) != ((K.sum (p.take 28) : Nat) : Int)) = true := by simpa using hb
    rw [hb2]
    have hne : Bt.numAt p 224 32 ≠ K.sum (p.take 28) := by
      simp only [Bool.not_eq_false', bne_iff_ne, ne_eq] at hb
      omega
    have hg : S.get p = none := by
      rw [hget, if_neg]
      exact fun h => hne h.1
    refine J.r hX tab_ok 400 (fun _ => rfl) fun b33 => ?_
    refine J.valT hX (.bool false) 0 rfl rfl (fun hg a w he hC => by simp [G.on] at hg) rfl ?_
    refine J.r hX tab_ok 400 (fun _ => rfl) fun b34 => ?_
    refine J.cond rfl (fun h1 => ?_) (fun h1 => ?_)
    · refine J.r hX tab_ok 400 (fun _ => rfl) fun b35 => ?_
      refine J.rt hX tab_ok [] rfl rfl rfl ?_
      exact ⟨by unfold S.getV; rw [hg]; rfl, rfl⟩
    · simp at h1
end Go.Proofs.YtoideahgjgaddaaGreat
namespace Go.Proofs.YtoideahgjgaddaaGreat
open Go Go.RowKit
theorem f9_Own (b r m : Int) (e : En) (h : e.data.length = 16) : Fn Tryz.prog 220 [.int .i64 b, .int .i64 r, .int .i64 m, enV e] [] (fun v As => v = .tuple #[shV (W.own b r m e), .bool (W.ok b r m e)] ∧ As = []) := by
  refine Fn.enter [0, 0, 0, 0] Tryz.func220 rfl rfl rfl fun X F hX => ?_
  refine J.r hX tab_ok 400 (fun _ => rfl) fun b1 => ?_
  refine J.r hX tab_ok 400 (fun _ => rfl) fun b2 => ?_
  refine J.ca hX (by kernel_rfl) (f9_May (W.sh b r m e) h) [] 0 rfl rfl rfl rfl rfl rfl (fun _ => rfl) ?_
  rintro v As ⟨rfl, rfl⟩
  refine ⟨_, rfl, trivial, ?_⟩
  refine J.r hX tab_ok 400 (fun _ => rfl) fun b3 => ?_
  refine J.cond rfl (fun h1 => ?_) (fun h1 => ?_)
  · simp only [Bool.not_eq_true'] at h1
    refine J.r hX tab_ok 400 (fun _ => rfl) fun b4 => ?_
    refine J.rt hX tab_ok [] rfl rfl rfl ?_
    exact ⟨by rw [W.own, W.ok, h1]; rfl, rfl⟩
  · simp only [Bool.not_eq_false'] at h1
    refine J.r hX tab_ok 400 (fun _ => rfl) fun b5 => ?_
    refine J.rt hX tab_ok [] rfl rfl rfl ?_
    exact ⟨by rw [W.own, W.ok, h1]; rfl, rfl⟩
namespace F9
def xo (m n : Int) : Int := IntKind.i64.wrap ((BitVec.ofInt IntKind.i64.bits m ^^^ BitVec.ofInt IntKind.i64.bits n).toNat : Int)
def mixS (a b : Sh) (k : Nat) : Sh := ⟨W.mix a.data b.data k, a.role, a.lpn, a.seq, a.kind, a.block, a.row, a.mask⟩
def over (a b : Sh) : Sh := ⟨W.mix a.data b.data 16, xo a.role b.role, xo a.lpn b.lpn, xo a.seq b.seq, a.kind, a.block, a.row, a.mask⟩
end F9
theorem shL_get {s : Sh} (h : s.data.length = 16) {k : Nat} (hk : k < 16) : (shL s)[k]? = some (bv (s.data.getD k 0)) := by
  have e : shL s = dataC s.data ++ [.int .i64 s.role, .int .i64 s.lpn, .int .i64 s.seq, .int .i64 s.kind, .int .i64 s.block, .int .i64 s.row, .int .i64 s.mask] := rfl
  rw [e, List.getElem?_append_left (by show k < 16; exact hk), dataC_get h hk]
theorem shL_set {a b : Sh} (ha : a.data.length = 16) (hb : b.data.length = 16) {k : Nat} (hk : k < 16) : (shL (F9.mixS a b k)).set k (bv (a.data.getD k 0 ^^^ b.data.getD k 0)) = shL (F9.mixS a b (k + 1)) := by
  have e : ∀ s : Sh, shL s = dataC s.data ++ [.int .i64 s.role, .int .i64 s.lpn, .int .i64 s.seq, .int .i64 s.kind, .int .i64 s.block, .int .i64 s.row, .int .i64 s.mask] := fun s => rfl
  rw [e, e, List.set_append_left _ _ (by show k < 16; exact hk)]
  show (dataC (W.mix a.data b.data k)).set k _ ++ _ = dataC (W.mix a.data b.data (k + 1)) ++ _
  rw [dataC_set (mix_len ha hb k (by omega)), mix_set ha hb hk]
  rfl
theorem f9_over (a b : Sh) (ha : a.data.length = 16) (hb : b.data.length = 16) : Fn Tryz.prog 219 [shV a, shV b] [] (fun v As => v = shV (F9.over a b) ∧ As = []) := by
  refine Fn.enter [0, 0] Tryz.func219 rfl rfl rfl fun X F hX => ?_
  refine J.r hX tab_ok 400 (fun _ => rfl) fun bb => ?_
  refine J.r hX tab_ok 400 (fun _ => rfl) fun b6 => ?_
  refine J.lo (α := Nat) (fun i => i ≤ 16) (fun i => [⟨5, .int .i64 i, 0, .tt⟩, ⟨2, .pointer (some ⟨bb 0, 0, none⟩), 2, .tt⟩, ⟨3, .pointer (some ⟨bb (0 + 1), 0, none⟩), 3, .tt⟩, ⟨4, .pointer (some ⟨bb (0 + 1 + 1), 0, none⟩), 4, .tt⟩]) [1] (fun i => [.pt (bb 0) 137 (shL (F9.mixS a b i))]) (fun i => 16 - i) (0) (Nat.zero_le _) rfl ?_ (fun _ => rfl) fun i hI => ?_
  · rw [show F9.mixS a b 0 = a from by simp [F9.mixS, W.mix]]; rfl
  have hml := mix_len ha hb i hI
  refine J.r hX tab_ok 400 (fun _ => rfl) fun b7 => ?_
  refine J.cond rfl (fun h2 => ?_) (fun h2 => ?_)
  · simp only [decide_eq_true_eq] at h2
    have h3 : i < 16 := by omega
    refine J.r hX tab_ok 400 (fun _ => rfl) fun b8 => ?_
    refine J.plan (.of [0,4,8,13,16,20,24,29,32,36,40,47]) [10,11] [1,2,3] (by rw [hX.hP]; kernel_rfl) (by kernel_rfl) ?_
    refine J.r hX tab_ok 400 (fun _ => rfl) fun b9 => ?_
    refine J.valT hX (bv (a.data.getD i 0)) 0 rfl rfl (fun hg a w he hC => ?_) rfl ?_
    · exact load1_run tab_ok rfl rfl he hg rfl rfl (hC rfl _ (cget_mem (i := 1) rfl)) (by rw [show 0 + 0 + (i : Int).toNat * 1 = i from by omega, shL_get hml h3]; exact congrArg (fun z => some (bv z)) (mix_get ha hb h3))
    refine J.r hX tab_ok 400 (fun _ => rfl) fun b10 => ?_
    refine J.valT hX (bv (b.data.getD i 0)) 0 rfl rfl (fun hg a w he hC => ?_) rfl ?_
    · exact load1_run tab_ok rfl rfl he hg rfl rfl (hC rfl _ (cget_mem (i := 2) rfl)) (by rw [show 0 + 0 + (i : Int).toNat * 1 = i from by omega]; exact shL_get hb h3)
    refine J.r hX tab_ok 400 (fun _ => rfl) fun b11 => ?_
    refine J.store1 hX tab_ok 1 rfl rfl rfl rfl rfl rfl rfl rfl rfl rfl rfl rfl rfl ?_ (shL (F9.mixS a b (i + 1))) ?_ rfl (fun _ => rfl) ⟨trivial, ?_⟩
    · show 0 + 0 + (i : Int).toNat * 1 < 23
      omega
    · rw [show 0 + 0 + (i : Int).toNat * 1 = i from by omega, xor_u8b]
      exact shL_set ha hb h3
    refine J.r hX tab_ok 400 (fun _ => rfl) fun b12 => ?_
    refine J.nx (i + 1) (by omega) (by omega) (fun _ s => s)
  · simp only [decide_eq_false_iff_not] at h2
    obtain rfl : i = 16 := by omega
    refine J.r hX tab_ok 400 (fun _ => rfl) fun b13 => ?_
    refine J.plan (.take true 0 (.take true 2 (.take false 3 (.take true 5 (.take true 7 (.take false 8 (.take true 10 (.take true 12 (.take false 13 (.alt false 1 ((.take true 4 (.alt false 6 ((.of [36,46,56,60,66,68,74,76,83])) (.alt false 11 ((.of [56,26,36,60,66,68,74,76,83])) .non)))) (.alt false 6 ((.take true 9 (.alt false 1 ((.of [16,46,56,60,66,68,74,76,83])) (.alt false 11 ((.of [56,6,16,60,66,68,74,76,83])) .non)))) (.alt false 11 ((.take true 14 (.alt false 1 ((.of [16,26,36,60,66,68,74,76,83])) (.alt false 6 ((.of [36,6,16,60,66,68,74,76,83])) .non)))) .non)))))))))))) [19,20] [2,3] (by rw [hX.hP]; kernel_rfl) (by kernel_rfl) ?_
    refine J.r hX tab_ok 400 (fun _ => rfl) fun b14 => ?_
    refine J.alts ?_ (J.alts ?_ ?_)
    all_goals skip
    · skip
      refine J.r hX tab_ok 400 (fun _ => rfl) fun b15 => ?_
      refine J.alts ?_ ?_
      · skip
        refine J.r hX tab_ok 400 (fun _ => rfl) fun b16 => ?_
        refine J.rt hX tab_ok [] rfl rfl rfl ?_
        exact ⟨rfl, rfl⟩
      · skip
        refine J.r hX tab_ok 400 (fun _ => rfl) fun b17 => ?_
        refine J.rt hX tab_ok [] rfl rfl rfl ?_
        exact ⟨rfl, rfl⟩
    · skip
      refine J.r hX tab_ok 400 (fun _ => rfl) fun b18 => ?_
      refine J.alts ?_ ?_
      · skip
        refine J.r hX tab_ok 400 (fun _ => rfl) fun b19 => ?_
        refine J.rt hX tab_ok [] rfl rfl rfl ?_
        exact ⟨rfl, rfl⟩
      · skip
        refine J.r hX tab_ok 400 (fun _ => rfl) fun b20 => ?_
        refine J.rt hX tab_ok [] rfl rfl rfl ?_
        exact ⟨rfl, rfl⟩
    · skip
      refine J.r hX tab_ok 400 (fun _ => rfl) fun b21 => ?_
      refine J.alts ?_ ?_
      · skip
        refine J.r hX tab_ok 400 (fun _ => rfl) fun b22 => ?_
        refine J.rt hX tab_ok [] rfl rfl rfl ?_
        exact ⟨rfl, rfl⟩
      · skip
        refine J.r hX tab_ok 400 (fun _ => rfl) fun b23 => ?_
        refine J.rt hX tab_ok [] rfl rfl rfl ?_
        exact ⟨rfl, rfl⟩
/-- a row's parity as the reference has it: the first k laid over one another -/
def F9.par (b r m : Int) (l : List En) : Sh := l.foldl (fun s e => F9.over s (W.sh b r m e)) ⟨zeros16, 0, 0, 0, 2, b, r, m⟩
theorem par_len (b r m : Int) (l : List En) (hd : ∀ s ∈ l, s.data.length = 16) : (F9.par b r m l).data.length = 16 := by
  have : ∀ (l : List En) (s : Sh), (∀ s ∈ l, s.data.length = 16) → s.data.length = 16 → (l.foldl (fun s e => F9.over s (W.sh b r m e)) s).data.length = 16 := by
    intro l
    induction l with
    | nil => intro s _ h; exact h
    | cons x l ih => intro s hd h; exact ih _ (fun t ht => hd t (by simp [ht])) (mix_len h (hd x (by simp)) 16 (by omega))
  exact this l _ hd rfl
theorem slots_dI (m : Int) : (if 2 ≤ (dI m).length then ((dI m).length : Int) - 1 else 0) = G.slots m := by
  rw [dI_count, G.slots]
  by_cases h : L.count m < 2
  · rw [if_pos h, if_neg (by omega)]
  · rw [if_neg h, if_pos (by omega)]
end Go.Proofs.YtoideahgjgaddaaGreat
namespace Go.Proofs.YtoideahgjgaddaaGreat
open Go Go.RowKit
theorem dI_dies (m : Int) : dI m = (L.dies m).map (fun d : Nat => (d : Int)) := by
  unfold dI dsk L.dies
  congr 1
  cases hs : L.set m with
  | false =>
    rw [if_neg (by simp)]
    refine List.filter_eq_nil_iff.2 fun d _ => ?_
    simp [L.has, hs]
  | true =>
    rw [if_pos rfl]
    refine List.filter_congr fun d hd => ?_
    rw [List.mem_range] at hd
    simp [L.has, hs, hd]
    omega
theorem dI_at (m : Int) (i : Nat) (hi : i < L.count m) : (dI m)[i]? = some (L.at_ m i) := by
  have h1 : i < (L.dies m).length := hi
  rw [dI_dies, List.getElem?_map, L.at_, if_pos (by omega), Int.toNat_natCast, List.getElem?_eq_getElem h1]
  rfl
theorem par_idx (b r c : Int) (hb : 0 ≤ b) (hr : 0 ≤ r) (hc : 0 < c) : (b.tmod c + r.tmod c).tmod c = (b + r) % c ∧ (0 ≤ b.tmod c ∧ b.tmod c < c) ∧ (0 ≤ r.tmod c ∧ r.tmod c < c) := by
  rw [Int.tmod_eq_emod_of_nonneg hb, Int.tmod_eq_emod_of_nonneg hr]
  have h1 := Int.emod_nonneg b (show c ≠ 0 by omega)
  have h2 := Int.emod_nonneg r (show c ≠ 0 by omega)
  have h3 := Int.emod_lt_of_pos b hc
  have h4 := Int.emod_lt_of_pos r hc
  refine ⟨?_, ⟨h1, h3⟩, h2, h4⟩
  rw [Int.tmod_eq_emod_of_nonneg (by omega), ← Int.add_emod]
theorem f6_Parity (m b r : Int) : Fn Tryz.prog 101 [.int .i64 m, .int .i64 b, .int .i64 r] [] (fun v As => v = .int .i64 (G.parity m b r) ∧ As = []) := by
  have hcnt := dI_count m
  have hc8 := L.count_le m
  refine Fn.enter [0, 0, 0] Tryz.func101 rfl rfl rfl fun X F hX => ?_
  refine J.r hX tab_ok 400 (fun _ => rfl) fun b1 => ?_
  refine J.r hX tab_ok 400 (fun _ => rfl) fun b2 => ?_
  refine J.ca hX (by kernel_rfl) (f1_Dies m) [] 0 rfl rfl rfl rfl rfl rfl (fun _ => rfl) ?_
  rintro v As ⟨a, c, rfl, rfl⟩
  refine ⟨_, rfl, trivial, ?_⟩
  rw [hcnt]
  refine J.r hX tab_ok 400 (fun _ => rfl) fun b3 => ?_
  refine J.cond rfl (fun h1 => ?_) (fun h1 => ?_)
  · refine J.r hX tab_ok 400 (fun _ => rfl) fun b4 => ?_
    refine J.rt hX tab_ok [] rfl rfl rfl ?_
    refine ⟨?_, rfl⟩
    unfold G.parity
    rw [if_pos]
    simp only [Bool.or_eq_true, decide_eq_true_eq] at h1
    omega
  · simp only [Bool.or_eq_false_iff, decide_eq_false_iff_not] at h1
    obtain ⟨⟨h1, h2⟩, h3⟩ := h1
    have hp : G.parity m b r = L.at_ m ((b + r) % (L.count m : Int)) := by unfold G.parity; rw [if_neg (by omega)]
    obtain ⟨e1, e2, e3⟩ := par_idx b r (L.count m) (by omega) (by omega) (by omega)
    have e4 := Int.emod_nonneg (b + r) (show (L.count m : Int) ≠ 0 by omega)
    have e5 := Int.emod_lt_of_pos (b + r) (show 0 < (L.count m : Int) by omega)
    obtain ⟨i, hi⟩ := Int.eq_ofNat_of_zero_le e4
    rw [hi] at e1 e5 hp
    have hat := dI_at m i (by omega)
    refine J.know (fun h' s => own_some (c := (a, c)) (by omega) (s.get (i := 1) rfl)) fun hg => ?_
    obtain ⟨g1, rfl⟩ := hg
    have e6 := tm_bd b (L.count m) (by omega)
    refine J.r hX tab_ok 400 (fun _ => rfl) fun b5 => ?_
    refine J.plan (.of [0,4,8,12,16,20,24,28,32,36,40,44,48,52,57,60]) [15] [1] (by rw [hX.hP]; kernel_rfl) (by kernel_rfl) ?_
    refine J.r hX tab_ok 13 (fun _ => rfl) fun b6 => ?_
    rw [e1]
    refine J.r hX tab_ok 400 (fun _ => rfl) fun b7 => ?_
    refine J.valT hX (.int .i64 (L.at_ m (i : Nat))) 0 rfl rfl (fun hg a w he hC => own1_run tab_ok rfl rfl he rfl rfl rfl (hC rfl _ (cget_mem (i := 1) rfl)) (by rw [show 0 + (i : Int).toNat * 1 = i from by omega]; exact cellsI_get hat)) rfl ?_
    refine J.r hX tab_ok 400 (fun _ => rfl) fun b8 => ?_
    refine J.rt hX tab_ok [] rfl rfl rfl ?_
    exact ⟨by rw [hp], rfl⟩
end Go.Proofs.YtoideahgjgaddaaGreat
