/- Helpers of the proofs about ostrakonlaw11, proved here: RfH, PlW, RfM, Lit, Fa, Lv. No condition. -/
import Derived.Test.YtoideahgjgaddaaGreatM16
import Derived.Test.YtoideahgjgaddaaGreatM18
import Derived.Test.YtoideahgjgaddaaGreatM21
import Derived.Test.YtoideahgjgaddaaGreatM24
import Derived.Test.YtoideahgjgaddaaGreatM26
import Derived.Test.YtoideahgjgaddaaGreatM28
set_option linter.unusedVariables false
set_option linter.unusedSimpArgs false
set_option linter.unusedSectionVars false
set_option linter.unnecessarySimpa false
namespace Go.Proofs.YtoideahgjgaddaaGreat
open Go Go.RowKit
theorem spot_mem (l : List Int) (d : Int) : decide (spotI l d ≥ 0) = decide (d ∈ l) := by
  induction l with
  | nil => rfl
  | cons x l ih =>
    unfold spotI
    by_cases h : x = d
    · rw [if_pos h, decide_eq_true (by decide : (0 : Int) ≥ 0), decide_eq_true (by rw [h]; exact List.mem_cons_self)]
    · rw [if_neg h]
      by_cases h2 : d ∈ l
      · rw [decide_eq_true h2] at ih
        have := of_decide_eq_true ih
        rw [if_neg (by omega), decide_eq_true (by omega), decide_eq_true (List.mem_cons_of_mem _ h2)]
      · rw [decide_eq_false h2] at ih
        have := of_decide_eq_false ih
        rw [if_pos (by omega), decide_eq_false (by omega), decide_eq_false (by
          intro hm
          rcases List.mem_cons.1 hm with e | e
          · exact h e.symm
          · exact h2 e)]
theorem spot_hasI (m d : Int) : decide (spotI (dI m) d ≥ 0) = L.has m d := by
  have hmem : d ∈ dI m ↔ L.has m d = true := by
    unfold dI dsk
    constructor
    · intro h
      obtain ⟨k, hk, e⟩ := List.mem_map.1 h
      subst e
      exact (List.mem_filter.1 hk).2
    · intro h
      have h8 := L.has_lt m d h
      obtain ⟨k, rfl⟩ := Int.eq_ofNat_of_zero_le h8.1
      exact List.mem_map.2 ⟨k, List.mem_filter.2 ⟨List.mem_range.2 (by omega), h⟩, rfl⟩
  rw [spot_mem, decide_eq_decide.2 hmem]
  exact Bool.decide_coe _
set_option maxRecDepth 20000 in
theorem f9_Look (p : Nat) (N : Nand) (hN : N.Ok) (hR : N.Room) (x y z : Int) : Fn Tryz.prog 100 [.pointer (some ⟨p, 0, none⟩), .agg #[.int .i64 x, .int .i64 y, .int .i64 z]] [NandA p N]
    (fun v As => v = .tuple #[shV (M.look N x y z).1, .int .i64 (M.look N x y z).2] ∧ As = [NandA p N]) := by
  refine Fn.enter [2, 0] Tryz.func100 rfl rfl rfl fun X F hX => ?_
  refine J.r hX tab_ok 400 (fun _ => rfl) fun b1 => ?_
  refine J.r hX tab_ok 400 (fun _ => rfl) fun b2 => ?_
  refine J.ca hX (by kernel_rfl) (n_Read p N hN x y z) [1] 0 rfl rfl rfl rfl rfl rfl (fun _ => rfl) ?_
  rintro v As ⟨rfl, rfl⟩
  refine ⟨_, rfl, trivial, ?_⟩
  have hl0 : ∀ e, N.readE x y z = e → e ≠ 0 → M.look N x y z = if e = 5 then (Sh.zero, 2) else if e = 8 ∨ e = 9 ∨ e = 3 ∨ e = 12 then (Sh.zero, 4) else (Sh.zero, 3) := fun e he h => by
    simp only [M.look]; rw [he, if_neg h]
  have hlk : N.readE x y z = 0 → M.look N x y z = if S.getE (N.readV x y z) ≠ 0 ∨ M.bad (S.getV (N.readV x y z)) x y z = true then (Sh.zero, 3) else (S.getV (N.readV x y z), 1) := fun h1 => by simp only [M.look]; rw [if_pos h1]
  have hvl := readV_len hN x y z
  generalize N.readE x y z = e at hl0 hlk
  refine J.r hX tab_ok 400 (fun _ => rfl) fun b3 => ?_
  refine J.cond rfl (fun h1 => ?_) (fun h1 => ?_)
  · simp only [beq_iff_eq] at h1
    subst h1
    refine J.r hX tab_ok 400 (fun _ => rfl) fun b4 => ?_
    refine J.rt hX tab_ok [1] rfl rfl rfl ?_
    rw [hl0 5 rfl (by decide)]
    exact ⟨rfl, rfl⟩
  have H4 : e = 8 ∨ e = 9 ∨ e = 3 ∨ e = 12 → M.look N x y z = (Sh.zero, 4) := fun h => by
    rw [hl0 e rfl (by omega), if_neg (by omega), if_pos h]
  refine J.r hX tab_ok 400 (fun _ => rfl) fun b5 => ?_
  refine J.cond rfl (fun h2 => ?_) (fun h2 => ?_)
  · rw [h2]
    refine J.r hX tab_ok 400 (fun _ => rfl) fun b6 => ?_
    refine J.cond rfl (fun _ => ?_) (fun h => absurd h (by decide))
    simp only [beq_iff_eq] at h2
    refine J.r hX tab_ok 400 (fun _ => rfl) fun b7 => ?_
    refine J.rt hX tab_ok [1] rfl rfl rfl ?_
    rw [H4 (.inl h2)]
    exact ⟨rfl, rfl⟩
  refine J.r hX tab_ok 400 (fun _ => rfl) fun b8 => ?_
  refine J.cond rfl (fun h3 => ?_) (fun h3 => ?_)
  · rw [h3]
    refine J.r hX tab_ok 400 (fun _ => rfl) fun b9 => ?_
    refine J.cond rfl (fun _ => ?_) (fun h => absurd h (by decide))
    simp only [beq_iff_eq] at h3
    refine J.r hX tab_ok 400 (fun _ => rfl) fun b10 => ?_
    refine J.rt hX tab_ok [1] rfl rfl rfl ?_
    rw [H4 (.inr (.inl h3))]
    exact ⟨rfl, rfl⟩
  refine J.r hX tab_ok 400 (fun _ => rfl) fun b11 => ?_
  refine J.cond rfl (fun h4 => ?_) (fun h4 => ?_)
  · rw [h4]
    refine J.r hX tab_ok 400 (fun _ => rfl) fun b12 => ?_
    refine J.cond rfl (fun _ => ?_) (fun h => absurd h (by decide))
    simp only [beq_iff_eq] at h4
    refine J.r hX tab_ok 400 (fun _ => rfl) fun b13 => ?_
    refine J.rt hX tab_ok [1] rfl rfl rfl ?_
    rw [H4 (.inr (.inr (.inl h4)))]
    exact ⟨rfl, rfl⟩
  refine J.r hX tab_ok 400 (fun _ => rfl) fun b14 => ?_
  refine J.cond rfl (fun h5 => ?_) (fun h5 => ?_)
  · simp only [beq_iff_eq] at h5
    refine J.r hX tab_ok 400 (fun _ => rfl) fun b15 => ?_
    refine J.rt hX tab_ok [1] rfl rfl rfl ?_
    rw [H4 (.inr (.inr (.inr h5)))]
    exact ⟨rfl, rfl⟩
  refine J.r hX tab_ok 400 (fun _ => rfl) fun b16 => ?_
  refine J.cond rfl (fun h6 => ?_) (fun h6 => ?_)
  · simp only [beq_iff_eq] at h6
    have hlk := hlk h6
    refine J.r hX tab_ok 400 (fun _ => rfl) fun b17 => ?_
    refine J.r hX tab_ok 400 (fun _ => rfl) fun b18 => ?_
    refine J.ca hX (by kernel_rfl) (f9_Get (N.readV x y z) hvl) [] 0 rfl rfl rfl rfl rfl rfl (fun _ => rfl) ?_
    rintro v As ⟨rfl, rfl⟩
    refine ⟨_, rfl, trivial, ?_⟩
    refine J.r hX tab_ok 400 (fun _ => rfl) fun b19 => ?_
    refine J.plan (.of [0,5,8,13,16,21,28,33,26,36,40]) [9,10] [1,2,3,4,5] (by rw [hX.hP]; kernel_rfl) (by kernel_rfl) ?_
    refine J.r hX tab_ok 400 (fun _ => rfl) fun b20 => ?_
    refine J.r hX tab_ok 400 (fun _ => rfl) fun b21 => ?_
    refine J.ca hX (by kernel_rfl) (f6_Parity (S.getV (N.readV x y z)).mask (S.getV (N.readV x y z)).block (S.getV (N.readV x y z)).row) [] 0 rfl rfl rfl rfl rfl rfl (fun _ => rfl) ?_
    rintro v As ⟨rfl, rfl⟩
    refine ⟨_, rfl, ⟨rfl, rfl, rfl, rfl, rfl, trivial⟩, ?_⟩
    have hgE : S.getE (N.readV x y z) = if (S.get (N.readV x y z)).isSome then 0 else 1 := rfl
    generalize S.getE (N.readV x y z) = ge at hlk hgE
    generalize (S.get (N.readV x y z)).isSome = gs at hgE
    generalize S.getV (N.readV x y z) = s at hlk
    refine J.r hX tab_ok 400 (fun _ => rfl) fun b22 => ?_
    refine J.gcase hX rfl rfl rfl trivial (fun hb => ?_) (fun hb => ?_)
    · rw [hb]
      refine J.r hX tab_ok 400 (fun _ => rfl) fun b23 => ?_
      refine J.ca hX (by kernel_rfl) (f1_Spot s.mask x) [] 0 rfl rfl rfl rfl rfl rfl (fun _ => rfl) ?_
      rintro v As ⟨rfl, rfl⟩
      refine ⟨_, rfl, trivial, ?_⟩
      have hsp := spot_hasI s.mask x
      refine J.r hX tab_ok 400 (fun _ => rfl) fun b24 => ?_
      rw [hsp]
      simp only [Bool.and_eq_true, beq_iff_eq] at hb
      have hge : ge = 0 := by rw [hgE, if_pos hb.1.1]
      refine J.r hX tab_ok 400 (fun _ => rfl) fun b25 => ?_
      refine J.cond rfl (fun h7 => ?_) (fun h7 => ?_)
      · have hc : ¬(ge ≠ 0 ∨ M.bad s x y z = true) := by
          have : M.bad s x y z = false := by
            unfold M.bad
            simp only [Bool.true_and, Bool.and_eq_true] at h7
            rw [h7.1]
            have h8 := h7.2
            rw [beq_iff_eq] at h8
            rw [h8, hb.1.2, hb.2]
            simp
          rw [this, hge]; simp
        refine J.r hX tab_ok 400 (fun _ => rfl) fun b26 => ?_
        refine J.rt hX tab_ok [1] rfl rfl rfl ?_
        rw [hlk, if_neg hc]
        exact ⟨rfl, rfl⟩
      · have hc : ge ≠ 0 ∨ M.bad s x y z = true := by
          right
          unfold M.bad
          rw [hb.1.2, hb.2]
          cases hh : L.has s.mask x with
          | false => simp
          | true =>
            rw [hh] at h7
            simp only [Bool.true_and] at h7
            rw [beq_eq_false_iff_ne, hb.1.2, hb.2] at h7
            simpa using h7
        refine J.r hX tab_ok 400 (fun _ => rfl) fun b27 => ?_
        refine J.rt hX tab_ok [1] rfl rfl rfl ?_
        rw [hlk, if_pos hc]
        exact ⟨rfl, rfl⟩
    · rw [hb]
      refine J.r hX tab_ok 400 (fun _ => rfl) fun b28 => ?_
      refine J.val hX (.bool false) 0 rfl rfl (fun hg a w he hw => by simp [G.on] at hg) rfl trivial ?_
      have hc : ge ≠ 0 ∨ M.bad s x y z = true := by
        cases gs with
        | false => left; rw [hgE]; decide
        | true =>
          right
          rw [Bool.true_and, Bool.and_eq_false_iff] at hb
          unfold M.bad
          rcases hb with h | h
          · rw [beq_eq_false_iff_ne] at h; simp [h]
          · rw [beq_eq_false_iff_ne] at h; simp [h]
      refine J.r hX tab_ok 400 (fun _ => rfl) fun b29 => ?_
      refine J.cond rfl (fun h7 => ?_) (fun h7 => ?_)
      · simp at h7
      · refine J.r hX tab_ok 400 (fun _ => rfl) fun b30 => ?_
        refine J.rt hX tab_ok [1] rfl rfl rfl ?_
        rw [hlk, if_pos hc]
        exact ⟨rfl, rfl⟩
  simp only [beq_eq_false_iff_ne, ne_eq] at h1 h2 h3 h4 h5 h6
  refine J.r hX tab_ok 400 (fun _ => rfl) fun b31 => ?_
  refine J.rt hX tab_ok [1] rfl rfl rfl ?_
  rw [hl0 e rfl h6, if_neg h1, if_neg (by omega)]
  exact ⟨rfl, rfl⟩
theorem f9_entry (s : Sh) : Fn Tryz.prog 155 [shV s] [] (fun v As => v = enV s.en ∧ As = []) := by
  refine Fn.enter [0] Tryz.func155 rfl rfl rfl fun X F hX => ?_
  refine J.r hX tab_ok 400 (fun _ => rfl) fun b32 => ?_
  refine J.rt hX tab_ok [] rfl rfl rfl ?_
  exact ⟨rfl, rfl⟩
theorem f9_one (p : Nat) (N : Nand) (hN : N.Ok) (hR : N.Room) (b r m d : Int) : Fn Tryz.prog 152 [.pointer (some ⟨p, 0, none⟩), .int .i64 b, .int .i64 r, .int .i64 m, .int .i64 d] [NandA p N]
    (fun v As => v = .tuple #[shV (R.one N b r m d).1, .bool (R.one N b r m d).2] ∧ As = [NandA p N]) := by
  refine Fn.enter [2, 0, 0, 0, 0] Tryz.func152 rfl rfl rfl fun X F hX => ?_
  refine J.r hX tab_ok 400 (fun _ => rfl) fun b33 => ?_
  refine J.r hX tab_ok 400 (fun _ => rfl) fun b34 => ?_
  refine J.ca hX (by kernel_rfl) (f9_Look p N hN hR d b r) [1] 0 rfl rfl rfl rfl rfl rfl (fun _ => rfl) ?_
  rintro v As ⟨rfl, rfl⟩
  refine ⟨_, rfl, trivial, ?_⟩
  refine J.r hX tab_ok 400 (fun _ => rfl) fun b35 => ?_
  refine J.plan (.of [1,4,8,12,16,21,24,28,32,38,40]) [10] [1,3] (by rw [hX.hP]; kernel_rfl) (by kernel_rfl) ?_
  refine J.r hX tab_ok 400 (fun _ => rfl) fun b36 => ?_
  refine J.r hX tab_ok 400 (fun _ => rfl) fun b37 => ?_
  refine J.rt hX tab_ok [1] rfl rfl rfl ?_
  exact ⟨rfl, rfl⟩
end Go.Proofs.YtoideahgjgaddaaGreat
namespace Go.Proofs.YtoideahgjgaddaaGreat
open Go
theorem gD {l : List Int} {i : Nat} (h : i < l.length) : l[i]? = some (l.getD i 0) := by rw [List.getD_eq_getElem?_getD, List.getElem?_eq_getElem h, Option.getD_some]
theorem swp_get (l : List Int) {j : Nat} (h1 : 1 ≤ j) (h : j < l.length) (i : Nat) : (swpI l j).getD i 0 = if i = j - 1 then l.getD j 0 else if i = j then l.getD (j - 1) 0 else l.getD i 0 := by
  unfold swpI
  rw [List.getD_eq_getElem?_getD, List.getElem?_set, List.length_set]
  by_cases e : j - 1 = i
  · rw [if_pos e, if_pos (by omega), if_pos e.symm, Option.getD_some]
  · rw [if_neg e, if_neg (by omega), List.getElem?_set]
    by_cases e2 : j = i
    · rw [if_pos e2, if_pos (by omega), if_pos e2.symm, Option.getD_some]
    · rw [if_neg e2, if_neg (by omega), ← List.getD_eq_getElem?_getD]
theorem mem_gD {l : List Int} {x : Int} : x ∈ l ↔ ∃ i, i < l.length ∧ l.getD i 0 = x := by
  constructor
  · intro h
    obtain ⟨i, hi, e⟩ := List.getElem_of_mem h
    exact ⟨i, hi, by rw [List.getD_eq_getElem?_getD, List.getElem?_eq_getElem hi, Option.getD_some]; exact e⟩
  · rintro ⟨i, hi, e⟩
    exact List.mem_of_getElem? (by rw [gD hi, e])
theorem swp_mem (l : List Int) {j : Nat} (h1 : 1 ≤ j) (h : j < l.length) (x : Int) : x ∈ swpI l j ↔ x ∈ l := by
  rw [mem_gD, mem_gD, swpI_len]
  constructor
  · rintro ⟨i, hi, e⟩
    rw [swp_get l h1 h] at e
    split at e
    · exact ⟨j, h, e⟩
    · split at e
      · exact ⟨j - 1, by omega, e⟩
      · exact ⟨i, hi, e⟩
  · rintro ⟨i, hi, e⟩
    by_cases e1 : i = j
    · exact ⟨j - 1, by omega, by rw [swp_get l h1 h, if_pos rfl, ← e1, e]⟩
    · by_cases e2 : i = j - 1
      · exact ⟨j, h, by rw [swp_get l h1 h, if_neg (by omega), if_pos rfl, ← e2, e]⟩
      · exact ⟨i, hi, by rw [swp_get l h1 h, if_neg e2, if_neg e1, e]⟩
theorem sink_mem : ∀ (j : Nat) (l : List Int) (x : Int), j < l.length → (x ∈ sinkI j l ↔ x ∈ l)
  | 0, _, _, _ => Iff.rfl
  | j + 1, l, x, h => by
    unfold sinkI
    split
    · rw [sink_mem j _ x (by rw [swpI_len]; omega), swp_mem l (by omega) h]
    · exact Iff.rfl
theorem sink_sort : ∀ (j n : Nat) (l : List Int), j ≤ n → n < l.length → (∀ a b, a < b → b ≤ n → a ≠ j → b ≠ j → l.getD a 0 ≤ l.getD b 0) → (∀ b, j < b → b ≤ n → l.getD j 0 ≤ l.getD b 0) → ∀ a b, a < b → b ≤ n → (sinkI j l).getD a 0 ≤ (sinkI j l).getD b 0
  | 0, n, l, _, _, hs, hu => fun a b hab hb => by
    unfold sinkI
    by_cases e : a = 0
    · subst e; exact hu b hab hb
    · exact hs a b hab hb e (by omega)
  | j + 1, n, l, hj, hn, hs, hu => by
    unfold sinkI
    split
    · rename_i hlt
      have g := swp_get l (j := j + 1) (by omega) (by omega)
      simp only [Nat.add_sub_cancel] at g
      refine sink_sort j n (swpI l (j + 1)) (by omega) (by rw [swpI_len]; exact hn) (fun a b hab hb ha hbj => ?_) (fun b hjb hb => ?_)
      · rw [g, g, if_neg ha, if_neg hbj]
        by_cases e1 : a = j + 1
        · rw [if_pos e1, if_neg (by omega)]
          exact hs j b (by omega) hb (by omega) (by omega)
        · rw [if_neg e1]
          by_cases e2 : b = j + 1
          · rw [if_pos e2]
            exact hs a j (by omega) (by omega) e1 (by omega)
          · rw [if_neg e2]
            exact hs a b hab hb e1 e2
      · rw [g, g, if_pos rfl, if_neg (by omega)]
        by_cases e2 : b = j + 1
        · rw [if_pos e2]; omega
        · rw [if_neg e2]
          exact hu b (by omega) hb
    · rename_i hge
      intro a b hab hb
      by_cases e1 : a = j + 1
      · subst e1; exact hu b hab hb
      · by_cases e2 : b = j + 1
        · subst e2
          by_cases e3 : a = j
          · subst e3; omega
          · have := hs a j (by omega) (by omega) e1 (by omega)
            omega
        · exact hs a b hab hb e1 e2
theorem isort_mem (l : List Int) (x : Int) : ∀ k, k < l.length → (x ∈ isortI l k ↔ x ∈ l)
  | 0, _ => Iff.rfl
  | k + 1, h => by
    unfold isortI
    rw [sink_mem _ _ x (by rw [isortI_len]; exact h)]
    exact isort_mem l x k (by omega)
theorem isort_sort (l : List Int) : ∀ k, k < l.length → ∀ a b, a < b → b ≤ k → (isortI l k).getD a 0 ≤ (isortI l k).getD b 0
  | 0, _ => fun a b hab hb => by omega
  | k + 1, h => by
    unfold isortI
    have ih := isort_sort l k (by omega)
    exact sink_sort (k + 1) (k + 1) (isortI l k) (Nat.le_refl _) (by rw [isortI_len]; exact h) (fun a b hab hb ha hbk => ih a b hab (by omega)) (fun b hb1 hb2 => by omega)
theorem isortL_mem (l : List Int) (x : Int) : x ∈ isortL l ↔ x ∈ l := by
  unfold isortL
  cases l with
  | nil => exact Iff.rfl
  | cons y l => exact isort_mem (y :: l) x _ (by simp)
theorem isortL_sort (l : List Int) : (isortL l).Pairwise (· ≤ ·) := by
  rw [List.pairwise_iff_getElem]
  intro i j hi hj hij
  have hl : (isortL l).length = l.length := isortL_len l
  have h := isort_sort l (l.length - 1) (by omega) i j hij (by omega)
  have h1 : (isortL l).getD i 0 ≤ (isortL l).getD j 0 := h
  rwa [List.getD_eq_getElem?_getD, List.getD_eq_getElem?_getD, List.getElem?_eq_getElem hi, List.getElem?_eq_getElem hj] at h1
theorem ded_strict : ∀ (l : List Int) (p : Int), (p :: l).Pairwise (· ≤ ·) → (p :: dedFrom p l).Pairwise (· < ·) ∧ ∀ y, y ∈ p :: dedFrom p l ↔ y ∈ p :: l
  | [], p, _ => ⟨by simp [dedFrom], fun y => by simp [dedFrom]⟩
  | x :: l, p, h => by
    have hpx := List.pairwise_cons.1 h
    have hx := List.pairwise_cons.1 hpx.2
    unfold dedFrom
    by_cases e : x = p
    · rw [if_pos e, e]
      obtain ⟨s1, s2⟩ := ded_strict l p (List.pairwise_cons.2 ⟨fun y hy => hpx.1 y (by simp [hy]), hx.2⟩)
      refine ⟨s1, fun y => ?_⟩
      rw [s2 y]; simp
    · rw [if_neg e]
      obtain ⟨s1, s2⟩ := ded_strict l x hpx.2
      have hlt : p < x := by have := hpx.1 x (by simp); omega
      refine ⟨List.pairwise_cons.2 ⟨fun y hy => ?_, s1⟩, fun y => ?_⟩
      · have hy2 := (s2 y).1 hy
        rcases List.mem_cons.1 hy2 with e2 | e2
        · omega
        · have := hx.1 y e2; omega
      · have := s2 y
        simp only [List.mem_cons] at this ⊢
        constructor
        · rintro (h1 | h1)
          · exact .inl h1
          · exact .inr (this.1 h1)
        · rintro (h1 | h1)
          · exact .inl h1
          · exact .inr (this.2 h1)
theorem compact_strict (l : List Int) (h : l.Pairwise (· ≤ ·)) : (compactI l).Pairwise (· < ·) ∧ ∀ y, y ∈ compactI l ↔ y ∈ l := by
  cases l with
  | nil => exact ⟨List.Pairwise.nil, fun y => Iff.rfl⟩
  | cons p l => exact ded_strict l p h
theorem strict_ext : ∀ (a b : List Int), a.Pairwise (· < ·) → b.Pairwise (· < ·) → (∀ y, y ∈ a ↔ y ∈ b) → a = b
  | [], [], _, _, _ => rfl
  | [], y :: b, _, _, h => by have := (h y).2 (by simp); simp at this
  | x :: a, [], _, _, h => by have := (h x).1 (by simp); simp at this
  | x :: a, y :: b, ha, hb, h => by
    have ha := List.pairwise_cons.1 ha
    have hb := List.pairwise_cons.1 hb
    have e : x = y := by
      have h1 := (h x).1 (by simp)
      have h2 := (h y).2 (by simp)
      rcases List.mem_cons.1 h1 with e | e
      · exact e
      · rcases List.mem_cons.1 h2 with e2 | e2
        · exact e2.symm
        · have := hb.1 x e; have := ha.1 y e2; omega
    subst e
    rw [strict_ext a b ha.2 hb.2 fun z => ?_]
    constructor
    · intro hz
      rcases List.mem_cons.1 ((h z).1 (by simp [hz])) with e | e
      · subst e; have := ha.1 z hz; omega
      · exact e
    · intro hz
      rcases List.mem_cons.1 ((h z).2 (by simp [hz])) with e | e
      · subst e; have := hb.1 z hz; omega
      · exact e
/-- masks as the reference lists them -/
def setL (p : Nat → Bool) (k : Nat) : List Int := ((List.range k).filter p).map fun m : Nat => (m : Int)
theorem setL_succ (p : Nat → Bool) (k : Nat) : setL p (k + 1) = setL p k ++ (if p k then [(k : Int)] else []) := by
  unfold setL
  rw [List.range_succ, List.filter_append, List.map_append]
  congr 1
  cases h : p k <;> simp [h]
theorem setL_len (p : Nat → Bool) (k : Nat) : (setL p k).length ≤ k := by
  unfold setL
  rw [List.length_map]
  exact Nat.le_trans (List.length_filter_le _ _) (by simp)
theorem compact_set (l : List Int) (p : Nat → Bool) (hl : ∀ x ∈ l, 0 ≤ x ∧ x < 256) (hp : ∀ m, m < 256 → (p m = true ↔ (m : Int) ∈ l)) : compactI (isortL l) = setL p 256 := by
  obtain ⟨s1, s2⟩ := compact_strict (isortL l) (isortL_sort l)
  refine strict_ext _ _ s1 ?_ fun y => ?_
  · unfold setL
    rw [List.pairwise_map]
    exact (List.pairwise_lt_range.filter p).imp fun h => by omega
  · rw [s2, isortL_mem]
    unfold setL
    rw [List.mem_map]
    constructor
    · intro hy
      obtain ⟨m, rfl⟩ := Int.eq_ofNat_of_zero_le (hl y hy).1
      have hm := (hl _ hy).2
      exact ⟨m, List.mem_filter.2 ⟨List.mem_range.2 (by omega), (hp m (by omega)).2 hy⟩, rfl⟩
    · rintro ⟨m, hm, rfl⟩
      obtain ⟨h1, h2⟩ := List.mem_filter.1 hm
      exact (hp m (List.mem_range.1 h1)).1 h2
end Go.Proofs.YtoideahgjgaddaaGreat
namespace Go.Proofs.YtoideahgjgaddaaGreat
open Go Go.RowKit
theorem look_mask {N : Nand} {x y z : Int} (h : (M.look N x y z).2 = 1) : 0 ≤ (M.look N x y z).1.mask ∧ (M.look N x y z).1.mask < 256 := by
  unfold M.look at h ⊢
  simp only at h ⊢
  split at h
  · rename_i h1
    rw [if_pos h1]
    split at h
    · cases h
    · rename_i h2
      rw [if_neg h2]
      have hb : M.bad (S.getV (N.readV x y z)) x y z = false := by
        cases hb : M.bad (S.getV (N.readV x y z)) x y z with
        | false => rfl
        | true => exact absurd (.inr hb) h2
      simp only [M.bad, Bool.or_eq_false_iff, Bool.not_eq_false'] at hb
      have := L.has_lt _ _ hb.1.2
      exact this.2.2
  · split at h
    · cases h
    · split at h <;> cases h
theorem mk0_bd (N : Nand) (b r : Int) (k : Nat) : ∀ x ∈ mk0 N b r k, 0 ≤ x ∧ x < 256 := by
  intro x hx
  unfold mk0 at hx
  obtain ⟨y, hy, hm⟩ := List.mem_filterMap.1 hx
  have hy := List.mem_of_mem_take hy
  unfold M.rowN at hy
  obtain ⟨d, _, rfl⟩ := List.mem_map.1 hy
  unfold M.maskOf at hm
  split at hm
  · rename_i h1
    injection hm with hm
    subst hm
    exact look_mask h1
  · cases hm
namespace T2
def tab : Tab := (224, ⟨.arr 256 1, 256, List.replicate 256 (.bool false), 256⟩) :: Go.Proofs.YtoideahgjgaddaaGreat.tab
theorem tab_ok : TabOK Tryz.prog tab := TabOK.mk (by kernel_rfl)
theorem cellsB_set0 (l : List Bool) (k : Nat) (v : Bool) : (cellsB l).set k (.bool v) = cellsB (l.set k v) := by unfold cellsB; rw [List.map_set]
theorem rep_cells : List.replicate 256 (Value.bool false) = cellsB (List.replicate 256 false) := by unfold cellsB; rw [List.map_replicate]
set_option maxRecDepth 20000 in
theorem f9_Masks (p : Nat) (N : Nand) (hN : N.Ok) (hR : N.Room) (b r : Int) : Fn Tryz.prog 98 [.pointer (some ⟨p, 0, none⟩), .int .i64 b, .int .i64 r] [NandA p N]
    (fun v As => ∃ a c, v = slv a (M.masks N b r).length c ∧ As = [NandA p N, ownA 3 1 a (M.masks N b r).length c (cellsI (M.masks N b r))]) := by
  have hbd := hN.bd
  obtain ⟨pp, hpp⟩ : ∃ pp : Nat → Bool, pp = fun (m : Nat) => decide (((m : Nat) : Int) ∈ mk0 N b r N.dies) := ⟨_, rfl⟩
  have hmk : M.masks N b r = setL pp 256 := by
    have e : mk0 N b r N.dies = (M.rowN N b r N.dies).filterMap M.maskOf := by
      unfold mk0
      rw [List.take_of_length_le (by simp [M.rowN])]
    unfold M.masks
    rw [← e]
    exact compact_set _ pp (mk0_bd N b r N.dies) (fun m _ => by rw [hpp]; exact decide_eq_true_iff)
  rw [hmk]
  refine Fn.enter [2, 0, 0] Tryz.func98 rfl rfl rfl fun X F hX => ?_
  refine J.turn1 [] rfl (As := [ownA 3 1 none 0 0 (cellsI (setL pp 0))]) (fun h s => Sep.one ⟨rfl, rfl, rfl⟩) rfl ?_
  refine J.r hX tab_ok 400 (fun _ => rfl) fun bb => ?_
  rw [rep_cells]
  refine J.r hX tab_ok 400 (fun _ => rfl) fun b1 => ?_
  refine J.lo (α := (Nat × List Bool)) (fun z => z.1 ≤ N.dies ∧ z.2.length = 256 ∧ ∀ m, m < 256 → z.2.getD m false = decide (((m : Nat) : Int) ∈ mk0 N b r z.1)) (fun z => [⟨9, .int .i64 z.1, 0, .tt⟩, ⟨8, .pointer (some ⟨bb 0, 0, none⟩), 4, .tt⟩, ⟨7, .slice none 0 0, 0, .tt⟩, ⟨0, .pointer (some ⟨p, 0, none⟩), 2, .tt⟩, ⟨1, .int .i64 b, 0, .tt⟩, ⟨2, .int .i64 r, 0, .tt⟩]) [3] (fun z => [.pt (bb 0) 224 (cellsB z.2)]) (fun z => N.dies - z.1) ((0, List.replicate 256 false)) (⟨Nat.zero_le _, List.length_replicate, fun m hm => by rw [List.getD_eq_getElem?_getD, List.getElem?_replicate, if_pos hm]; simp [mk0]⟩) rfl ?_ (fun _ => rfl) fun z hI => ?_
  · rfl
  obtain ⟨d, Lb⟩ := z
  dsimp only at hI ⊢
  obtain ⟨hd, hl, hv⟩ := hI
  refine J.r hX tab_ok 400 (fun _ => rfl) fun b2 => ?_
  refine J.r hX tab_ok 400 (fun _ => rfl) fun b3 => ?_
  refine J.ca hX (by kernel_rfl) (n_Geo p N) [1] 0 rfl rfl rfl rfl rfl rfl (fun _ => rfl) ?_
  rintro v As ⟨rfl, rfl⟩
  refine ⟨_, rfl, trivial, ?_⟩
  refine J.r hX tab_ok 400 (fun _ => rfl) fun b4 => ?_
  refine J.cond rfl (fun h1 => ?_) (fun h1 => ?_)
  · simp only [decide_eq_true_eq, Int.ofNat_lt] at h1
    have hsc := mk0_succ N b r d h1
    refine J.r hX tab_ok 400 (fun _ => rfl) fun b5 => ?_
    refine J.r hX tab_ok 400 (fun _ => rfl) fun b6 => ?_
    refine J.ca hX (by kernel_rfl) (f9_Look p N hN hR d b r) [1] 0 rfl rfl rfl rfl rfl rfl (fun _ => rfl) ?_
    rintro v As ⟨rfl, rfl⟩
    refine ⟨_, rfl, trivial, ?_⟩
    have hlm := look_mask (N := N) (x := d) (y := b) (z := r)
    generalize M.look N d b r = x at hsc hlm
    obtain ⟨s, w⟩ := x
    dsimp only at hlm
    refine J.r hX tab_ok 400 (fun _ => rfl) fun b7 => ?_
    refine J.cond rfl (fun h2 => ?_) (fun h2 => ?_)
    · simp only [Bool.and_eq_true, beq_iff_eq, decide_eq_true_eq] at h2
      obtain ⟨⟨hw, hm1⟩, hm2⟩ := h2
      obtain ⟨m, hm⟩ := Int.eq_ofNat_of_zero_le hm1
      have hmk2 : mk0 N b r (d + 1) = mk0 N b r d ++ [(m : Int)] := by
        rw [hsc]; unfold M.maskOf; rw [if_pos hw]
        show _ ++ [s.mask] = _
        have : s.mask = (m : Int) := hm
        rw [this]
      refine J.r hX tab_ok 400 (fun _ => rfl) fun b8 => ?_
      refine J.store1 hX tab_ok 3 rfl rfl rfl rfl rfl rfl rfl rfl rfl rfl rfl rfl rfl ?_ (cellsB (Lb.set m true)) ?_ rfl (fun _ => rfl) ⟨trivial, ?_⟩
      · rw [cellsB_len, hl]
        show 0 + (s.mask).toNat * 1 < 256
        have : s.mask = (m : Int) := hm
        omega
      · rw [← cellsB_set0]
        have : s.mask = (m : Int) := hm
        rw [show 0 + ((s, w).fst.mask).toNat * 1 = m from by show 0 + (s.mask).toNat * 1 = m; omega]
      refine J.r hX tab_ok 400 (fun _ => rfl) fun b9 => ?_
      refine J.r hX tab_ok 400 (fun _ => rfl) fun b10 => ?_
      refine J.nS ((d + 1, Lb.set m true)) (⟨by dsimp only; omega, by rw [List.length_set]; exact hl, fun j hj => by
        dsimp only
        rw [List.getD_eq_getElem?_getD, List.getElem?_set, hl, hmk2]
        have hm256 : m < 256 := by
          have : s.mask = (m : Int) := hm
          have h3 : s.mask < 256 := hm2
          omega
        by_cases e : m = j
        · subst e
          rw [if_pos rfl, if_pos hm256]
          simp
        · rw [if_neg e, ← List.getD_eq_getElem?_getD, hv j hj]
          have hne : ¬ (j : Int) = (m : Int) := by omega
          simp [hne]⟩) (by dsimp only; omega) [0, 1, 2, 3] rfl rfl
    · have hw : w ≠ 1 := fun hw => by
        obtain ⟨q1, q2⟩ := hlm hw
        have q1 : s.mask ≥ 0 := q1
        rw [show (s, w).snd = 1 from hw, show (s, w).fst = s from rfl, decide_eq_true q1, decide_eq_true q2] at h2
        simp at h2
      have hmk2 : mk0 N b r (d + 1) = mk0 N b r d := by
        rw [hsc]; unfold M.maskOf; rw [if_neg hw]; simp
      refine J.r hX tab_ok 400 (fun _ => rfl) fun b11 => ?_
      refine J.r hX tab_ok 400 (fun _ => rfl) fun b12 => ?_
      refine J.nS ((d + 1, Lb)) (⟨by dsimp only; omega, hl, fun j hj => by dsimp only; rw [hmk2]; exact hv j hj⟩) (by dsimp only; omega) [0, 1, 2, 3] rfl rfl
  simp only [decide_eq_false_iff_not, Int.ofNat_lt] at h1
  obtain rfl : d = N.dies := by omega
  refine J.r hX tab_ok 400 (fun _ => rfl) fun b13 => ?_
  refine J.r hX tab_ok 400 (fun _ => rfl) fun b14 => ?_
  refine J.lo (α := (Nat × Option Nat × Nat)) (fun z => z.1 ≤ 256) (fun z => [⟨44, .int .i64 z.1, 0, .tt⟩, ⟨8, .pointer (some ⟨bb 0, 0, none⟩), 4, .tt⟩, ⟨7, slv z.2.1 (setL pp z.1).length z.2.2, 0, .tt⟩]) [2] (fun z => [ownA 3 1 z.2.1 (setL pp z.1).length z.2.2 (cellsI (setL pp z.1))]) (fun z => 256 - z.1) ((0, none, 0)) (Nat.zero_le _) rfl ?_ (fun _ => rfl) fun z hI => ?_
  · rfl
  obtain ⟨k, a, c⟩ := z
  dsimp only at hI ⊢
  have hsl := setL_len pp k
  have hss := setL_succ pp k
  refine J.r hX tab_ok 400 (fun _ => rfl) fun b15 => ?_
  refine J.cond rfl (fun h2 => ?_) (fun h2 => ?_)
  · simp only [decide_eq_true_eq] at h2
    have h2 : k < 256 := by omega
    have hvk : Lb.getD k false = pp k := by rw [hv k h2, hpp]
    refine J.r hX tab_ok 400 (fun _ => rfl) fun b16 => ?_
    refine J.val hX (.bool (pp k)) 0 rfl rfl (fun hg a w he hw => load1_run tab_ok rfl rfl he rfl rfl rfl (hw.get (i := 3) rfl) (by rw [show 0 + (k : Int).toNat * 1 = k from by omega, ← hvk]; have := cellsB_at (l := Lb) [] (k := k) (by omega); rwa [List.append_nil] at this)) rfl trivial ?_
    refine J.r hX tab_ok 400 (fun _ => rfl) fun b17 => ?_
    refine J.cond rfl (fun h3 => ?_) (fun h3 => ?_)
    · rw [if_pos h3] at hss
      refine J.r hX tab_ok 400 (fun _ => rfl) fun b18 => ?_
      refine J.append hX tab_ok 2 4 0 rfl rfl rfl rfl rfl rfl rfl rfl rfl rfl rfl rfl rfl rfl rfl rfl ?_ ?_ (fun _ => rfl) fun a4 c4 => ⟨_, (congrArg (fun z => lset _ 2 (ownA _ _ _ _ _ z)) ((cellsI_snoc _ _).symm.trans (congrArg cellsI hss.symm))).trans rfl, trivial, ?_⟩
      · simp only [maxLen]; omega
      · omega
      rw [show (setL pp k).length + 1 = (setL pp (k + 1)).length from by rw [hss]; simp]
      refine J.r hX tab_ok 400 (fun _ => rfl) fun b19 => ?_
      refine J.r hX tab_ok 400 (fun _ => rfl) fun b20 => ?_
      refine J.nS ((k + 1, a4, c4)) (by dsimp only; omega) (by dsimp only; omega) [0, 1, 2, 3] rfl rfl
    · rw [if_neg (by rw [h3]; simp), List.append_nil] at hss
      rw [← hss]
      refine J.r hX tab_ok 400 (fun _ => rfl) fun b21 => ?_
      refine J.r hX tab_ok 400 (fun _ => rfl) fun b22 => ?_
      refine J.nS ((k + 1, a, c)) (by dsimp only; omega) (by dsimp only; omega) [0, 1, 2, 3] rfl rfl
  simp only [decide_eq_false_iff_not] at h2
  obtain rfl : k = 256 := by omega
  refine J.r hX tab_ok 400 (fun _ => rfl) fun b23 => ?_
  refine J.rt hX tab_ok [1, 2] rfl rfl rfl ?_
  exact ⟨a, c, rfl, rfl⟩
end T2
end Go.Proofs.YtoideahgjgaddaaGreat
namespace Go.Proofs.YtoideahgjgaddaaGreat
open Go
structure Nand.Lit (N : Nand) : Prop where
  off : N.off = false
  cuts : N.cuts = false
namespace Nand
theorem Lit.cutB {N : Nand} (h : N.Lit) : N.cutB = false := by unfold Nand.cutB; rw [h.cuts]; rfl
theorem Lit.cutN {N : Nand} (h : N.Lit) : N.cutN.Lit := by
  constructor
  · show (if N.cutB then true else N.off) = false
    rw [h.cutB]; exact h.off
  · show (if N.cutB then false else N.cuts) = false
    rw [h.cutB]; exact h.cuts
theorem Lit.new (d b p : Nat) : (Nand.new d b p).Lit := ⟨rfl, rfl⟩
theorem Lit.prog {N : Nand} (h : N.Lit) (x y z : Int) (pg : List UInt8) : (N.progN x y z pg).Lit := by
  unfold Nand.progN
  split
  · exact h
  · split
    · exact ⟨h.off, h.cuts⟩
    · rw [h.cutB]
      exact ⟨h.cutN.off, h.cutN.cuts⟩
theorem Lit.fault {N : Nand} (h : N.Lit) (kind x y z n xx : Int) : (N.fault kind x y z n xx).2.Lit := by
  unfold Nand.fault
  repeat' split
  all_goals first | exact h | exact ⟨h.off, h.cuts⟩
theorem Lit.erase {N : Nand} (h : N.Lit) (x y : Int) : (N.eraseN x y).Lit := by
  unfold Nand.eraseN
  dsimp only
  rw [h.cutB]
  split
  · exact h
  · rw [if_neg (by decide)]
    split
    · exact ⟨h.cutN.off, h.cutN.cuts⟩
    · exact ⟨h.cutN.off, h.cutN.cuts⟩
end Nand
theorem go_Lit (b r : Int) : ∀ (q : List (Int × Sh)) (N : Nand) (f : Int), N.Lit → (R.go b r q N f).1.Lit
  | [], N, f, h => h
  | (d, s) :: q, N, f, h => by
    rw [R.go]
    split
    · exact go_Lit b r q _ _ (h.prog _ _ _ _)
    · split
      · exact h.prog _ _ _ _
      · exact go_Lit b r q _ _ (h.prog _ _ _ _)
theorem write_Lit {N : Nand} (h : N.Lit) (b r m : Int) (l : List En) : (R.write N b r m l).1.Lit := by
  unfold R.write
  split
  · exact go_Lit _ _ _ _ _ h
  · exact h
end Go.Proofs.YtoideahgjgaddaaGreat
namespace Go.Proofs.YtoideahgjgaddaaGreat
open Go Go.RowKit
theorem flat_get {α : Type} (f : α → List Value) (w : Nat) (hw : ∀ x, (f x).length = w) : ∀ (l : List α) (k : Nat) (x : α), l[k]? = some x → ((l.flatMap f).drop (k * w)).take w = f x
  | [], k, x, h => by simp at h
  | y :: l, 0, x, h => by
    simp at h; subst h
    rw [List.flatMap_cons, Nat.zero_mul, List.drop_zero, List.take_left' (hw y)]
  | y :: l, k + 1, x, h => by
    have ih := flat_get f w hw l k x (by simpa using h)
    rw [List.flatMap_cons, show (k + 1) * w = (f y).length + k * w from by rw [hw y, Nat.add_mul, Nat.one_mul, Nat.add_comm], ← List.drop_drop, List.drop_left' rfl]
    exact ih
theorem next_le {N : Nand} (hN : N.Ok) (x y : Int) : N.next x y ≤ 8 := by
  have hbd := hN.bd
  unfold Nand.next
  split
  · rename_i h
    have := (hN.cells x.toNat y.toNat (by omega) (by omega)).1
    omega
  · omega
theorem max_cast (a b : Nat) : (if (b : Int) > (a : Int) then (b : Int) else (a : Int)) = ((max a b : Nat) : Int) := by
  split <;> omega
/-- a row that is to be written, as it came in -/
structure RowV where
  b : Int
  m : Int
  al : Option Addr
  n : Nat
  c : Nat
  l : List En
def RowV.cells (x : RowV) : List Value := [.int .i64 x.b, .int .i64 x.m, .slice x.al x.n x.c]
structure RowV.Ok (A : Atom) (x : RowV) : Prop where
  rd : Rd A x.al 19 x.n (cellsE x.l)
  len : x.l.length = x.n
  data : ∀ s ∈ x.l, s.data.length = 16
structure FaV where
  at_ : Int
  kind : Int
  x : Int
  y : Int
  z : Int
  n : Int
  xx : Int
def FaV.cells (f : FaV) : List Value := [.int .i64 f.at_, .int .i64 f.kind, .int .i64 f.x, .int .i64 f.y, .int .i64 f.z, .int .i64 f.n, .int .i64 f.xx]
set_option maxRecDepth 20000 in
theorem l11_Flash (g0 g1 g2 : Int) (A : Atom) (ar : Option Addr) (nr cr : Nat) (rows : List RowV) (hAr : Rd A ar 3 nr (rows.flatMap RowV.cells)) (hlr : rows.length = nr) (hrows : ∀ x ∈ rows, x.Ok A)
    (af : Option Addr) (nf cf : Nat) (fs : List FaV) (hAf : Rd A af 7 nf (fs.flatMap FaV.cells)) (hlf : fs.length = nf) (ap : Option Addr) (np cp : Nat) (pgs : List (List UInt8)) (hAp : Rd A ap 32 np (pgs.flatMap pageC)) (hlp : pgs.length = np) (hpg : ∀ p ∈ pgs, p.length = 32) :
    Fn Tryz.prog 14 [.agg #[.int .i64 g0, .int .i64 g1, .int .i64 g2], .slice ar nr cr, .slice af nf cf, .slice ap np cp] [A] (fun v As => ∃ q N, v = .pointer (some ⟨q, 0, none⟩) ∧ (N.Gd 100 12 ∧ N.Lit) ∧ As = [A, NandA q N]) := by
  refine Fn.enter [0, 0, 0, 0] Tryz.func14 rfl rfl rfl fun X F hX => ?_
  refine J.r hX tab_ok 400 (fun _ => rfl) fun bb => ?_
  refine J.r hX tab_ok 400 (fun _ => rfl) fun b1 => ?_
  refine J.ca hX (by kernel_rfl) (l6_Geo g0 g1 g2) [] 0 rfl rfl rfl rfl rfl rfl (fun _ => rfl) ?_
  rintro v As ⟨D, B, P, rfl, hD, hB, hP, rfl⟩
  refine ⟨_, rfl, trivial, ?_⟩
  have hgm : geoMay D B P = true := by simp [geoMay]; omega
  refine J.r hX tab_ok 400 (fun _ => rfl) fun b2 => ?_
  refine J.r hX tab_ok 400 (fun _ => rfl) fun b3 => ?_
  refine J.ca hX (by kernel_rfl) (n_New D B P hgm) [] 0 rfl rfl rfl rfl rfl rfl (fun _ => rfl) ?_
  rintro v As ⟨q, rfl, rfl⟩
  refine ⟨_, rfl, trivial, ?_⟩
  have G0 : (Nand.new D B P).Gd 1000 0 := Nand.Gd.new D B P hgm 1000 (by decide)
  have hpw := pow_bd D hD.2
  refine J.r hX tab_ok 400 (fun _ => rfl) fun b4 => ?_
  refine J.r hX tab_ok 400 (fun _ => rfl) fun b5 => ?_
  refine J.lo (α := (Nat × Nand)) (fun z => z.1 ≤ nr ∧ z.1 ≤ 12 ∧ z.2.Gd (1000 - 9 * z.1) z.1 ∧ z.2.Lit) (fun z => [⟨10, .int .i64 z.1, 0, .tt⟩, ⟨9, .pointer (some ⟨q, 0, none⟩), 0, .tt⟩, ⟨4, .pointer (some ⟨bb 0, 0, none⟩), 3, .tt⟩, ⟨1, .slice ar nr cr, 0, .tt⟩, ⟨2, .slice af nf cf, 0, .tt⟩, ⟨3, .slice ap np cp, 0, .tt⟩]) [3] (fun z => [NandA q z.2]) (fun z => 12 - z.1) ((0, Nand.new D B P)) (⟨Nat.zero_le _, Nat.zero_le _, G0, Nand.Lit.new D B P⟩) rfl ?_ (fun _ => rfl) fun z hI => ?_
  · rfl
  obtain ⟨i, N⟩ := z
  dsimp only at hI ⊢
  obtain ⟨hi1, hi2, hG, hT⟩ := hI
  refine J.r hX tab_ok 400 (fun _ => rfl) fun b6 => ?_
  refine J.cond rfl (fun h1 => ?_) (fun h1 => ?_)
  · simp only [Bool.and_eq_true, decide_eq_true_eq, Int.ofNat_lt] at h1
    obtain ⟨h1, h2⟩ := h1
    have h2 : i < 12 := by omega
    obtain ⟨x, hx⟩ : ∃ x, rows[i]? = some x := ⟨_, List.getElem?_eq_getElem (by omega)⟩
    have hxo := hrows x (List.mem_of_getElem? hx)
    have hb1 := tm_bd x.b B (by omega)
    have hb2 := tm_2 x.b B (by omega)
    refine J.know (p := ∃ g o, ar = some ⟨g, o, none⟩) (fun h' s => Rd.addr (hAr _ (s.get (i := 1) rfl)) (by omega)) fun hk => ?_
    obtain ⟨gm, om, rfl⟩ := hk
    refine J.r hX tab_ok 400 (fun _ => rfl) fun b7 => ?_
    refine J.val hX (.agg #[.int .i64 x.b, .int .i64 x.m, .slice x.al x.n x.c]) 0 rfl rfl (fun hg a w he hw => rdN_run tab_ok rfl rfl he rfl rfl rfl (hAr _ (hw.get (i := 1) rfl)) (by omega) (j := i * 3) (by omega) (flat_get RowV.cells 3 (fun _ => rfl) rows i x hx) rfl) rfl trivial ?_
    refine J.r hX tab_ok 400 (fun _ => rfl) fun br => ?_
    refine J.r hX tab_ok 400 (fun _ => rfl) fun b8 => ?_
    refine J.plan (.of [0,5,8,13,16,20,25,28,32,37,40,44,51]) [10,11,12] [2,4] (by rw [hX.hP]; kernel_rfl) (by kernel_rfl) ?_
    refine J.r hX tab_ok 400 (fun _ => rfl) fun b9 => ?_
    generalize (x.b.tmod B + B).tmod B = yb
    generalize IntKind.i64.wrap ((BitVec.ofInt IntKind.i64.bits x.m &&& BitVec.ofInt IntKind.i64.bits (1 * 2 ^ min (D : Int).toNat IntKind.i64.bits - 1)).toNat : Int) = mk
    refine J.r hX tab_ok 400 (fun _ => rfl) fun b10 => ?_
    refine J.lo (α := (Nat × Nat)) (fun z => z.1 ≤ D ∧ z.2 ≤ 8) (fun z => [⟨13, .int .i64 z.1, 0, .tt⟩, ⟨12, .int .i64 z.2, 0, .tt⟩, ⟨11, .pointer (some ⟨br 0, 0, none⟩), 5, .tt⟩, ⟨10, .int .i64 i, 0, .tt⟩, ⟨9, .pointer (some ⟨q, 0, none⟩), 0, .tt⟩, ⟨4, .pointer (some ⟨bb 0, 0, none⟩), 3, .tt⟩, ⟨1, .slice (some ⟨gm, om, none⟩) nr cr, 0, .tt⟩, ⟨2, .slice af nf cf, 0, .tt⟩, ⟨3, .slice ap np cp, 0, .tt⟩]) [] (fun z => []) (fun z => D - z.1) ((0, 0)) (⟨Nat.zero_le _, Nat.zero_le _⟩) rfl ?_ (fun _ => rfl) fun z hI => ?_
    · rfl
    obtain ⟨d, k⟩ := z
    dsimp only at hI ⊢
    obtain ⟨hd, hk⟩ := hI
    refine J.r hX tab_ok 400 (fun _ => rfl) fun b11 => ?_
    refine J.cond rfl (fun h3 => ?_) (fun h3 => ?_)
    · simp only [decide_eq_true_eq, Int.ofNat_lt] at h3
      have hnx := next_le hG.ok d yb
      refine J.r hX tab_ok 400 (fun _ => rfl) fun b12 => ?_
      refine J.r hX tab_ok 400 (fun _ => rfl) fun b13 => ?_
      refine J.ca hX (by kernel_rfl) (n_Next q N hG.ok d yb) [3] 0 rfl rfl rfl rfl rfl rfl (fun _ => rfl) ?_
      rintro v As ⟨rfl, rfl⟩
      refine ⟨_, rfl, trivial, ?_⟩
      generalize N.next d yb = nx at hnx
      refine J.r hX tab_ok 400 (fun _ => rfl) fun b14 => ?_
      rw [max_cast]
      refine J.r hX tab_ok 400 (fun _ => rfl) fun b15 => ?_
      refine J.nS ((d + 1, max k nx)) (⟨by dsimp only; omega, by dsimp only; omega⟩) (by dsimp only; omega) [0, 1, 2, 3, 4] rfl rfl
    refine J.r hX tab_ok 400 (fun _ => rfl) fun b16 => ?_
    refine J.join (α := {N' : Nand // N'.Gd (1000 - 9 * (i + 1)) i ∧ N'.Lit}) (fun _ => [⟨10, .int .i64 i, 0, .tt⟩, ⟨9, .pointer (some ⟨q, 0, none⟩), 0, .tt⟩, ⟨4, .pointer (some ⟨bb 0, 0, none⟩), 3, .tt⟩, ⟨1, .slice (some ⟨gm, om, none⟩) nr cr, 0, .tt⟩, ⟨2, .slice af nf cf, 0, .tt⟩, ⟨3, .slice ap np cp, 0, .tt⟩]) (fun x => [.hp F, A, .pt (bb 0) 23 [.int .i64 D, .int .i64 B, .int .i64 P], NandA q x.1]) (fun hj => ?_) (fun x => ?_)
    · refine J.r hX tab_ok 400 (fun _ => rfl) fun b17 => ?_
      refine J.cond rfl (fun h4 => ?_) (fun h4 => ?_)
      · refine J.r hX tab_ok 400 (fun _ => rfl) fun b18 => ?_
        refine J.r hX tab_ok 400 (fun _ => rfl) fun b19 => ?_
        refine J.ca hX (by kernel_rfl) (r_Write q N A yb k mk x.al x.n x.c i x.l hxo.rd hxo.len hxo.data (hG.less (by omega) (Nat.le_refl _))) [3, 1] 0 rfl rfl rfl rfl rfl rfl (fun _ => rfl) ?_
        rintro v As ⟨rfl, rfl⟩
        refine ⟨_, rfl, trivial, ?_⟩
        refine J.r hX tab_ok 1 (fun _ => rfl) fun b20 => ?_
        exact J.goto [0, 1, 2, 3] (hj ⟨_, write_Gd hxo.data (hG.less (by omega) (Nat.le_refl _)), write_Lit hT _ _ _ _⟩) ⟨rfl, rfl, rfl, rfl, rfl, rfl, trivial⟩ rfl rfl
      · refine J.r hX tab_ok 1 (fun _ => rfl) fun b21 => ?_
        exact J.goto [0, 1, 2, 3] (hj ⟨N, hG.less (by omega) (Nat.le_refl _), hT⟩) ⟨rfl, rfl, rfl, rfl, rfl, rfl, trivial⟩ rfl rfl
    obtain ⟨N1, hG1, hT1⟩ := x
    dsimp only
    refine J.r hX tab_ok 400 (fun _ => rfl) fun b22 => ?_
    refine J.cond rfl (fun h5 => ?_) (fun h5 => ?_)
    · simp only [decide_eq_true_eq, Int.ofNat_lt] at h5
      obtain ⟨f, hf⟩ : ∃ f, fs[i]? = some f := ⟨_, List.getElem?_eq_getElem (by omega)⟩
      refine J.know (p := ∃ g o, af = some ⟨g, o, none⟩) (fun h' s => Rd.addr (hAf _ (s.get (i := 1) rfl)) (by omega)) fun hk => ?_
      obtain ⟨gf, of, rfl⟩ := hk
      refine J.r hX tab_ok 400 (fun _ => rfl) fun b23 => ?_
      refine J.val hX (.agg #[.int .i64 f.at_, .int .i64 f.kind, .int .i64 f.x, .int .i64 f.y, .int .i64 f.z, .int .i64 f.n, .int .i64 f.xx]) 0 rfl rfl (fun hg a w he hw => rdN_run tab_ok rfl rfl he rfl rfl rfl (hAf _ (hw.get (i := 1) rfl)) (by omega) (j := i * 7) (by omega) (flat_get FaV.cells 7 (fun _ => rfl) fs i f hf) rfl) rfl trivial ?_
      refine J.r hX tab_ok 400 (fun _ => rfl) fun b24 => ?_
      refine J.r hX tab_ok 400 (fun _ => rfl) fun b25 => ?_
      refine J.ca hX (by kernel_rfl) (n_Fault q N1 hG1.ok f.at_ f.kind f.x f.y f.z f.n f.xx) [3] 0 rfl rfl rfl rfl rfl rfl (fun _ => rfl) ?_
      rintro v As ⟨rfl, rfl⟩
      refine ⟨_, rfl, trivial, ?_⟩
      refine J.r hX tab_ok 400 (fun _ => rfl) fun b26 => ?_
      refine J.r hX tab_ok 400 (fun _ => rfl) fun b27 => ?_
      refine J.nS ((i + 1, (N1.fault f.kind f.x f.y f.z f.n f.xx).2)) (⟨by dsimp only; omega, by dsimp only; omega, hG1.fault _ _ _ _ _ _, hT1.fault _ _ _ _ _ _⟩) (by dsimp only; omega) [0, 1, 2, 3] rfl rfl
    · refine J.r hX tab_ok 400 (fun _ => rfl) fun b28 => ?_
      refine J.r hX tab_ok 400 (fun _ => rfl) fun b29 => ?_
      refine J.nS ((i + 1, N1)) (⟨by dsimp only; omega, by dsimp only; omega, hG1.less (Nat.le_refl _) (by omega), hT1⟩) (by dsimp only; omega) [0, 1, 2, 3] rfl rfl
  have hG2 : N.Gd 200 12 := hG.less (by omega) (by omega)
  refine J.r hX tab_ok 400 (fun _ => rfl) fun b30 => ?_
  refine J.r hX tab_ok 400 (fun _ => rfl) fun b31 => ?_
  refine J.lo (α := (Nat × Nand)) (fun z => z.1 ≤ np ∧ z.1 ≤ 6 ∧ z.2.Gd (200 - z.1) 12 ∧ z.2.Lit) (fun z => [⟨14, .int .i64 z.1, 0, .tt⟩, ⟨9, .pointer (some ⟨q, 0, none⟩), 0, .tt⟩, ⟨4, .pointer (some ⟨bb 0, 0, none⟩), 3, .tt⟩, ⟨3, .slice ap np cp, 0, .tt⟩]) [3] (fun z => [NandA q z.2]) (fun z => 6 - z.1) ((0, N)) (⟨Nat.zero_le _, Nat.zero_le _, hG2, hT⟩) rfl ?_ (fun _ => rfl) fun z hI => ?_
  · rfl
  clear hG hG2
  obtain ⟨j, N⟩ := z
  dsimp only at hI ⊢
  obtain ⟨hi1, hi2, hG, hT⟩ := hI
  refine J.r hX tab_ok 400 (fun _ => rfl) fun b32 => ?_
  refine J.cond rfl (fun h6 => ?_) (fun h6 => ?_)
  · simp only [Bool.and_eq_true, decide_eq_true_eq, Int.ofNat_lt] at h6
    obtain ⟨h6, h7⟩ := h6
    have h7 : j < 6 := by omega
    obtain ⟨pg, hx⟩ : ∃ pg, pgs[j]? = some pg := ⟨_, List.getElem?_eq_getElem (by omega)⟩
    have hpgl := hpg pg (List.mem_of_getElem? hx)
    refine J.know (p := ∃ g o, ap = some ⟨g, o, none⟩) (fun h' s => Rd.addr (hAp _ (s.get (i := 1) rfl)) (by omega)) fun hk => ?_
    obtain ⟨gp, op, rfl⟩ := hk
    have ht1 : 0 ≤ (j : Int).tmod D ∧ (j : Int).tmod D < D := ⟨Int.tmod_nonneg _ (by omega), Int.tmod_lt_of_pos _ (by omega)⟩
    have ht2 : 0 ≤ (j : Int).tdiv 2 ∧ (j : Int).tdiv 2 < 6 := by
      rw [show (2 : Int) = ((2 : Nat) : Int) from rfl, ← Int.ofNat_tdiv]; omega
    have ht3 : 0 ≤ ((j : Int).tdiv 2).tmod B ∧ ((j : Int).tdiv 2).tmod B < B := ⟨Int.tmod_nonneg _ (by omega), Int.tmod_lt_of_pos _ (by omega)⟩
    refine J.r hX tab_ok 400 (fun _ => rfl) fun b33 => ?_
    refine J.plan (.of [0,4,9,12,16,20,24,29,32,36,42,47]) [11] [2] (by rw [hX.hP]; kernel_rfl) (by kernel_rfl) ?_
    refine J.r hX tab_ok 400 (fun _ => rfl) fun b34 => ?_
    generalize (j : Int).tmod D = yx
    generalize ((j : Int).tdiv 2).tmod B = yy
    have hnx := next_le hG.ok yx yy
    refine J.r hX tab_ok 400 (fun _ => rfl) fun b35 => ?_
    refine J.ca hX (by kernel_rfl) (n_Next q N hG.ok yx yy) [3] 0 rfl rfl rfl rfl rfl rfl (fun _ => rfl) ?_
    rintro v As ⟨rfl, rfl⟩
    refine ⟨_, rfl, trivial, ?_⟩
    generalize N.next yx yy = nx at hnx
    refine J.r hX tab_ok 400 (fun _ => rfl) fun b36 => ?_
    refine J.r hX tab_ok 400 (fun _ => rfl) fun b37 => ?_
    refine J.plan (.of [0,5,8,12,16,21,26]) [] [1,4] (by rw [hX.hP]; kernel_rfl) (by kernel_rfl) ?_
    refine J.r hX tab_ok 400 (fun _ => rfl) fun b38 => ?_
    refine J.valT hX (pgV pg) 0 rfl rfl (fun hg a w he hC => rdN_run tab_ok rfl rfl he rfl rfl rfl (hAp _ (hC rfl _ (cget_mem (i := 1) rfl))) (by omega) (j := j * 32) (by omega) (flat_get pageC 32 (fun _ => rfl) pgs j pg hx) rfl) rfl ?_
    refine J.r hX tab_ok 400 (fun _ => rfl) fun b39 => ?_
    refine J.r hX tab_ok 400 (fun _ => rfl) fun b40 => ?_
    refine J.ca hX (by kernel_rfl) (n_Program q N hG.ok hG.room yx yy nx pg hpgl) [3] 0 rfl rfl rfl rfl rfl rfl (fun _ => rfl) ?_
    rintro v As ⟨rfl, rfl⟩
    refine ⟨_, rfl, ⟨rfl, rfl, trivial⟩, ?_⟩
    refine J.r hX tab_ok 400 (fun _ => rfl) fun b41 => ?_
    refine J.r hX tab_ok 400 (fun _ => rfl) fun b42 => ?_
    refine J.nS ((j + 1, N.progN yx yy nx pg)) (⟨by dsimp only; omega, by dsimp only; omega, (hG.less (show 200 - (j + 1) + 1 ≤ 200 - j by omega) (Nat.le_refl _)).prog _ _ _ _ hpgl, hT.prog _ _ _ _⟩) (by dsimp only; omega) [0, 1, 2, 3] rfl rfl
  refine J.r hX tab_ok 400 (fun _ => rfl) fun b43 => ?_
  refine J.rt hX tab_ok [1, 3] rfl rfl rfl ?_
  exact ⟨q, N, rfl, ⟨hG.less (by omega) (Nat.le_refl _), hT⟩, rfl⟩
end Go.Proofs.YtoideahgjgaddaaGreat
namespace Go.Proofs.YtoideahgjgaddaaGreat
open Go Go.RowKit
def lvAt : List Lk := [.int .i64, .int .i64, .int .i64, .int .i64, .int .i64, .int .i64]
theorem leavesAt : leaves Tryz.prog 100 52 = some lvAt := by kernel_rfl
theorem fitsAt (a : AtV) : Fits lvAt (atL a) := ⟨rfl, rfl, rfl, rfl, rfl, rfl, trivial⟩
theorem mkAt (zs : List Value) : mkV Tryz.prog 52 zs = .agg zs.toArray := by simp [mkV, Tryz.underlying52]
theorem gdAt : Tryz.prog.eqGuardType Tryz.prog.depth 52 = false := by kernel_rfl
theorem eqAt (x y : AtV) : eqCells (atL x) (atL y) = true ↔ x = y := by
  obtain ⟨a, b, c, d, e, f⟩ := x
  obtain ⟨a', b', c', d', e', f'⟩ := y
  simp [atL, eqCells, cellEq, AtV.mk.injEq]
theorem ne_self (z : Int) : (z != z) = false := by simp
set_option maxRecDepth 20000 in
theorem s_SurveyAgain (g0 g1 g2 : Int) (A : Atom) (ar : Option Addr) (nr cr : Nat) (rows : List RowV) (hAr : Rd A ar 3 nr (rows.flatMap RowV.cells)) (hlr : rows.length = nr) (hrows : ∀ x ∈ rows, x.Ok A)
    (af : Option Addr) (nf cf : Nat) (fs : List FaV) (hAf : Rd A af 7 nf (fs.flatMap FaV.cells)) (hlf : fs.length = nf) :
    Fn Tryz.prog 4 [.agg #[.int .i64 g0, .int .i64 g1, .int .i64 g2], .slice ar nr cr, .slice af nf cf] [A] (fun v As => v = .bool true ∧ As = [A]) := by
  refine Fn.enter [0, 0, 0] Tryz.func4 rfl rfl rfl fun X F hX => ?_
  refine J.r hX tab_ok 400 (fun _ => rfl) fun bb => ?_
  refine J.r hX tab_ok 400 (fun _ => rfl) fun b1 => ?_
  refine J.ca hX (by kernel_rfl) (l16_begun) [] 0 rfl rfl rfl rfl rfl rfl (fun _ => rfl) ?_
  rintro v As ⟨rfl, rfl⟩
  refine ⟨_, rfl, trivial, ?_⟩
  refine J.r hX tab_ok 400 (fun _ => rfl) fun b2 => ?_
  refine J.cond rfl (fun h => absurd h (by decide)) (fun _ => ?_)
  refine J.r hX tab_ok 400 (fun _ => rfl) fun b3 => ?_
  refine J.r hX tab_ok 400 (fun _ => rfl) fun b4 => ?_
  refine J.ca hX (by kernel_rfl) (l11_Flash g0 g1 g2 A ar nr cr rows hAr hlr hrows af nf cf fs hAf hlf none 0 0 [] (fun _ _ => ⟨rfl, fun h => absurd h (Nat.lt_irrefl 0)⟩) rfl (fun p hp => by cases hp)) [1] 0 rfl rfl rfl rfl rfl rfl (fun _ => rfl) ?_
  rintro v As ⟨q, N, rfl, ⟨hG, hT⟩, rfl⟩
  refine ⟨_, rfl, trivial, ?_⟩
  refine J.r hX tab_ok 400 (fun _ => rfl) fun b5 => ?_
  refine J.r hX tab_ok 400 (fun _ => rfl) fun b6 => ?_
  refine J.ca hX (by kernel_rfl) (n_Ops q N) [3] 0 rfl rfl rfl rfl rfl rfl (fun _ => rfl) ?_
  rintro v As ⟨rfl, rfl⟩
  refine ⟨_, rfl, trivial, ?_⟩
  refine J.r hX tab_ok 400 (fun _ => rfl) fun b7 => ?_
  refine J.r hX tab_ok 400 (fun _ => rfl) fun b8 => ?_
  refine J.ca hX (by kernel_rfl) (v_Scan q N hG.ok hG.room hT.off 30) [3] 0 rfl rfl rfl rfl rfl rfl (fun _ => rfl) ?_
  rintro v As ⟨q1, a1, c1, a2, c2, rfl, rfl⟩
  refine ⟨_, rfl, trivial, ?_⟩
  refine J.r hX tab_ok 400 (fun _ => rfl) fun bs => ?_
  refine J.r hX tab_ok 400 (fun _ => rfl) fun b9 => ?_
  refine J.ca hX (by kernel_rfl) (v_Scan q N hG.ok hG.room hT.off 30) [3] 0 rfl rfl rfl rfl rfl rfl (fun _ => rfl) ?_
  rintro v As ⟨q2, a3, c3, a4, c4, rfl, rfl⟩
  refine ⟨_, rfl, trivial, ?_⟩
  generalize V.scan N 30 = S
  refine J.r hX tab_ok 400 (fun _ => rfl) fun bt => ?_
  refine J.r hX tab_ok 400 (fun _ => rfl) fun b10 => ?_
  refine J.plan (.of [0,4,8,12,16,20,24,28,33,36,41,44,48,52,56,61,64,69,72,76,80,84,89,92,96,101,104,108,112,116,120,125,132,137,130,142,144,148,152,156,164,162,168,172]) [] [3,4,7,8,11] (by rw [hX.hP]; kernel_rfl) (by kernel_rfl) ?_
  refine J.r hX tab_ok 12 (fun _ => rfl) fun b11 => ?_
  rw [ne_self S.next]
  refine J.r hX tab_ok 7 (fun _ => rfl) fun b12 => ?_
  rw [ne_self (S.pages : Int)]
  refine J.r hX tab_ok 9 (fun _ => rfl) fun b13 => ?_
  rw [ne_self (S.torn.length : Int)]
  refine J.r hX tab_ok 400 (fun _ => rfl) fun b14 => ?_
  refine J.r hX tab_ok 400 (fun _ => rfl) fun b15 => ?_
  refine J.ca hX (by kernel_rfl) (tb_Len q1 S.tb) [4] 0 rfl rfl rfl rfl rfl rfl (fun _ => rfl) ?_
  rintro v As ⟨rfl, rfl⟩
  refine ⟨_, rfl, (by first | exact trivial | (repeat' (first | exact trivial | refine ⟨rfl, ?_⟩))), ?_⟩
  refine J.r hX tab_ok 400 (fun _ => rfl) fun b16 => ?_
  refine J.r hX tab_ok 400 (fun _ => rfl) fun b17 => ?_
  refine J.ca hX (by kernel_rfl) (tb_Len q2 S.tb) [8] 0 rfl rfl rfl rfl rfl rfl (fun _ => rfl) ?_
  rintro v As ⟨rfl, rfl⟩
  refine ⟨_, rfl, (by first | exact trivial | (repeat' (first | exact trivial | refine ⟨rfl, ?_⟩))), ?_⟩
  refine J.r hX tab_ok 1 (fun _ => rfl) fun b18 => ?_
  rw [ne_self (S.tb.at_.length : Int)]
  refine J.r hX tab_ok 400 (fun _ => rfl) fun b19 => ?_
  refine J.r hX tab_ok 400 (fun _ => rfl) fun b20 => ?_
  refine J.ca hX (by kernel_rfl) (n_Ops q N) [3] 0 rfl rfl rfl rfl rfl rfl (fun _ => rfl) ?_
  rintro v As ⟨rfl, rfl⟩
  refine ⟨_, rfl, (by first | exact trivial | (repeat' (first | exact trivial | refine ⟨rfl, ?_⟩))), ?_⟩
  refine J.r hX tab_ok 2 (fun _ => rfl) fun b21 => ?_
  rw [ne_self N.ops]
  refine J.r hX tab_ok 400 (fun _ => rfl) fun b22 => ?_
  refine J.r hX tab_ok 400 (fun _ => rfl) fun b23 => ?_
  refine J.cond rfl (fun h => absurd h (by decide)) (fun _ => ?_)
  refine J.r hX tab_ok 400 (fun _ => rfl) fun b24 => ?_
  refine J.r hX tab_ok 400 (fun _ => rfl) fun b25 => ?_
  refine J.lo (α := Nat) (fun k => k ≤ 30) (fun k => [⟨14, .int .i64 k, 0, .tt⟩, ⟨10, .pointer (some ⟨bs 0, 0, none⟩), 8, .tt⟩, ⟨12, .pointer (some ⟨bt 0, 0, none⟩), 12, .tt⟩]) [] (fun k => []) (fun k => 30 - k) (0) (Nat.zero_le _) rfl ?_ (fun _ => rfl) fun k hI => ?_
  · rfl
  refine J.r hX tab_ok 400 (fun _ => rfl) fun b26 => ?_
  refine J.cond rfl (fun h1 => ?_) (fun h1 => ?_)
  · simp only [decide_eq_true_eq] at h1
    have h1 : k < 30 := by omega
    refine J.r hX tab_ok 400 (fun _ => rfl) fun b27 => ?_
    refine J.r hX tab_ok 400 (fun _ => rfl) fun b28 => ?_
    refine J.ca hX (by kernel_rfl) (tb_Get q1 S.tb k) [4] 0 rfl rfl rfl rfl rfl rfl (fun _ => rfl) ?_
    rintro v As ⟨rfl, rfl⟩
    refine ⟨_, rfl, trivial, ?_⟩
    refine J.r hX tab_ok 400 (fun _ => rfl) fun b29 => ?_
    refine J.r hX tab_ok 400 (fun _ => rfl) fun b30 => ?_
    refine J.ca hX (by kernel_rfl) (tb_Get q2 S.tb k) [8] 0 rfl rfl rfl rfl rfl rfl (fun _ => rfl) ?_
    rintro v As ⟨rfl, rfl⟩
    refine ⟨_, rfl, trivial, ?_⟩
    generalize (Tb.look S.tb.at_ (k : Int)).getD AtV.zero = a
    generalize (Tb.look S.tb.at_ (k : Int)).isSome = o
    refine J.r hX tab_ok 400 (fun _ => rfl) fun b31 => ?_
    refine J.val hX (.bool false) 0 rfl rfl (fun hg aa w he hw => (neAgg_run (xs := atL a) (ys := atL a) rfl rfl rfl he rfl rfl leavesAt (fitsAt _) (fitsAt _) mkAt gdAt).trans (by rw [(eqAt _ _).2 rfl]; rfl)) rfl trivial ?_
    refine J.r hX tab_ok 4 (fun _ => rfl) fun b32 => ?_
    rw [show (!(o == o)) = false from by cases o <;> rfl]
    refine J.r hX tab_ok 400 (fun _ => rfl) fun b33 => ?_
    refine J.cond rfl (fun h => absurd h (by decide)) (fun _ => ?_)
    refine J.r hX tab_ok 400 (fun _ => rfl) fun b34 => ?_
    refine J.r hX tab_ok 400 (fun _ => rfl) fun b35 => ?_
    refine J.nS (k + 1) (by omega) (by omega) [0, 1, 2, 3, 4, 5, 6, 7, 8, 9, 10, 11] rfl rfl
  refine J.r hX tab_ok 400 (fun _ => rfl) fun b36 => ?_
  refine J.rt hX tab_ok [1] rfl rfl rfl ?_
  exact ⟨rfl, rfl⟩
end Go.Proofs.YtoideahgjgaddaaGreat
