/- Helpers of the proofs about ostrakonlaw11, proved here: RfG, RfH, RfI, PlR, RfJ. No condition. -/
import Derived.Test.YtmohcbniepdncaaGreatM16
import Derived.Test.YtmohcbniepdncaaGreatM21
import Derived.Test.YtmohcbniepdncaaGreatM22
import Derived.Test.YtmohcbniepdncaaGreatM23
import Derived.Test.YtmohcbniepdncaaGreatM25
set_option linter.unusedVariables false
set_option linter.unusedSimpArgs false
set_option linter.unusedSectionVars false
set_option linter.unnecessarySimpa false
namespace Go.Proofs.YtmohcbniepdncaaGreat
open Go Go.RowKit
theorem f9_field (p : List UInt8) (hp : p.length = 32) (fr w : Nat) (h : fr + w ≤ 256) (hw : 1 ≤ w ∧ w ≤ 64) : Fn Tryz.prog 90 [pgV p, .int .i64 fr, .int .i64 w] [] (fun v As => v = .int .u64 (Bt.numAt p fr w) ∧ As = []) := by
  have hnum := Bt.numAt_num p fr w (by omega)
  have hul := Bt.length_unpack p
  refine Fn.enter [0, 0, 0] Tryz.func90 rfl rfl rfl fun X F hX => ?_
  refine J.r hX tab_ok 400 (fun _ => rfl) fun bb => ?_
  refine J.r hX tab_ok 400 (fun _ => rfl) fun b1 => ?_
  refine J.ca hX (by kernel_rfl) (f1_Of (.pt (bb 0) 75 (pageC p)) (some ⟨bb 0, 0, none⟩) 32 32 p (by rw [← pageC_eq p hp]; exact pt_rd _ _ _ 1 32 rfl) hp (by decide)) [1] 0 rfl rfl rfl rfl rfl rfl (fun _ => rfl) ?_
  rintro v As ⟨a, c, rfl, rfl⟩
  refine ⟨_, rfl, trivial, ?_⟩
  refine J.know (fun h' s => own_some (c := (a, c)) (by omega) (s.get (i := 2) rfl)) fun hg => ?_
  obtain ⟨g, rfl⟩ := hg
  refine J.know (p := 32 * 8 ≤ c) (fun h' s => by
    obtain ⟨_, cur, h1, h2, _⟩ := s.get (i := 2) rfl
    exact h2) fun hc => ?_
  have hRd : Rd (ownA 4 1 (some g) (32 * 8) c (cellsB (Bt.unpack p))) (some ⟨g, 0 + fr * 1, none⟩) 1 w (cellsB (((Bt.unpack p).drop fr).take w)) := by
    have := ((own_rd 4 1 (some g) (32 * 8) c (cellsB (Bt.unpack p))).drop fr (by omega)).take w (by omega)
    rw [cellsB_take, cellsB_drop]
    rw [Nat.mul_one] at this ⊢
    rwa [Nat.mul_one] at this
  refine J.r hX tab_ok 400 (fun _ => rfl) fun b2 => ?_
  rw [show ((fr : Int) + (w : Int)).toNat - (fr : Int).toNat = w from by omega, show (fr : Int).toNat = fr from by omega]
  refine J.r hX tab_ok 400 (fun _ => rfl) fun b3 => ?_
  refine J.ca hX (by kernel_rfl) (f1_Num (ownA 4 1 (some g) (32 * 8) c (cellsB (Bt.unpack p))) (some ⟨g, 0 + fr * 1, none⟩) w (c - fr) (((Bt.unpack p).drop fr).take w) hRd (by rw [List.length_take, List.length_drop]; omega) (by omega)) [2] 0 rfl rfl rfl rfl rfl rfl (fun _ => rfl) ?_
  rintro v As ⟨rfl, rfl⟩
  refine ⟨_, rfl, trivial, ?_⟩
  rw [hnum]
  refine J.r hX tab_ok 400 (fun _ => rfl) fun b4 => ?_
  refine J.rt hX tab_ok [] rfl rfl rfl ?_
  exact ⟨rfl, rfl⟩
set_option maxRecDepth 20000 in
theorem f9_Get (p : List UInt8) (hp : p.length = 32) : Fn Tryz.prog 44 [pgV p] [] (fun v As => v = .tuple #[shV (S.getV p), .bool (S.get p).isSome] ∧ As = []) := by
  obtain ⟨r1, r2, r3⟩ := S.field_role p hp
  obtain ⟨r4, r5, r6, r7⟩ := S.field_rest p hp
  have w1 := Bt.numAt_lt p 128 8
  have w2 := Bt.numAt_lt p 136 16
  have w3 := Bt.numAt_lt p 152 40
  have w4 := Bt.numAt_lt p 192 8
  have w5 := Bt.numAt_lt p 200 8
  have w6 := Bt.numAt_lt p 208 8
  have w7 := Bt.numAt_lt p 216 8
  have w8 := Bt.numAt_lt p 224 32
  rw [show (2 : Nat) ^ 8 = 256 from rfl] at w1 w4 w5 w6 w7
  rw [show (2 : Nat) ^ 16 = 65536 from rfl] at w2
  rw [show (2 : Nat) ^ 40 = 1099511627776 from rfl] at w3
  rw [show (2 : Nat) ^ 32 = 4294967296 from rfl] at w8
  refine Fn.enter [0] Tryz.func44 rfl rfl rfl fun X F hX => ?_
  have hpl : (p.take 16).length = 16 := by rw [List.length_take, hp]; rfl
  have hpc : (pageC p).take 16 = dataC (p.take 16) := by rw [pageC_eq p hp, dataC_eq _ hpl, List.map_take]
  have hone : ∀ u ∈ pageC p, u.oneCell' = true := by
    rw [pageC_eq p hp]
    intro u hu
    obtain ⟨b, _, rfl⟩ := List.mem_map.1 hu
    rfl
  have hsum : K.sum (p.take 28) < 4294967296 := K.sum_lt _
  refine J.r hX tab_ok 400 (fun _ => rfl) fun bb => ?_
  refine J.r hX tab_ok 400 (fun _ => rfl) fun b5 => ?_
  refine J.plan (.of [0,4,8,14]) [] [1] (by rw [hX.hP]; kernel_rfl) (by kernel_rfl) ?_
  refine J.r hX tab_ok 400 (fun _ => rfl) fun b6 => ?_
  have hRd : ∀ k, k ≤ 32 → Rd (.pt (bb 0) 75 (pageC p)) (some ⟨bb 0, 0 + 0 * 1, none⟩) 1 k ((pageC p).take k) := fun k hk => by
    have := (pt_rd (bb 0) 75 (pageC p) 1 32 rfl).take k hk
    rwa [Nat.mul_one] at this
  refine J.copy hX tab_ok 3 1 rfl rfl rfl rfl rfl rfl rfl rfl rfl rfl (hRd 16 (by decide)) rfl rfl (dataC (p.take 16)) (by rw [← hpc]; exact List.take_of_length_le (Nat.le_refl _)) (Nat.le_of_ble_eq_true rfl) (fun u hu => hone u (List.mem_of_mem_take hu)) (shL ⟨p.take 16, 0, 0, 0, 0, 0, 0, 0⟩) rfl rfl (fun _ => rfl) ⟨⟨rfl, trivial⟩, ?_⟩
  refine J.r hX tab_ok 400 (fun _ => rfl) fun b7 => ?_
  refine J.plan (.of [1,13,25,6,8,18,20,30,32,36,42,44,50,52,59]) [13,14] [1] (by rw [hX.hP]; kernel_rfl) (by kernel_rfl) ?_
  refine J.r hX tab_ok 400 (fun _ => rfl) fun b8 => ?_
  refine J.r hX tab_ok 400 (fun _ => rfl) fun b9 => ?_
  refine J.ca hX (by kernel_rfl) (f9_field p hp 128 8 (by omega) (by omega)) [] 0 rfl rfl rfl rfl rfl rfl (fun _ => rfl) ?_
  rintro v As ⟨rfl, rfl⟩
  refine ⟨_, rfl, ⟨rfl, trivial⟩, ?_⟩
  refine J.r hX tab_ok 400 (fun _ => rfl) fun b10 => ?_
  refine J.r hX tab_ok 400 (fun _ => rfl) fun b11 => ?_
  refine J.ca hX (by kernel_rfl) (f9_field p hp 136 16 (by omega) (by omega)) [] 0 rfl rfl rfl rfl rfl rfl (fun _ => rfl) ?_
  rintro v As ⟨rfl, rfl⟩
  refine ⟨_, rfl, ⟨rfl, trivial⟩, ?_⟩
  refine J.r hX tab_ok 400 (fun _ => rfl) fun b12 => ?_
  refine J.r hX tab_ok 400 (fun _ => rfl) fun b13 => ?_
  refine J.ca hX (by kernel_rfl) (f9_field p hp 152 40 (by omega) (by omega)) [] 0 rfl rfl rfl rfl rfl rfl (fun _ => rfl) ?_
  rintro v As ⟨rfl, rfl⟩
  refine ⟨_, rfl, ⟨rfl, trivial⟩, ?_⟩
  refine J.r hX tab_ok 400 (fun _ => rfl) fun b14 => ?_
  refine J.plan (.of [1,13,25,37,6,8,18,20,30,32,42,44,48,54,56,62,64,70,72,79]) [18,19] [1] (by rw [hX.hP]; kernel_rfl) (by kernel_rfl) ?_
  refine J.r hX tab_ok 400 (fun _ => rfl) fun b15 => ?_
  refine J.r hX tab_ok 400 (fun _ => rfl) fun b16 => ?_
  refine J.ca hX (by kernel_rfl) (f9_field p hp 192 8 (by omega) (by omega)) [] 0 rfl rfl rfl rfl rfl rfl (fun _ => rfl) ?_
  rintro v As ⟨rfl, rfl⟩
  refine ⟨_, rfl, ⟨rfl, trivial⟩, ?_⟩
  refine J.r hX tab_ok 400 (fun _ => rfl) fun b17 => ?_
  refine J.r hX tab_ok 400 (fun _ => rfl) fun b18 => ?_
  refine J.ca hX (by kernel_rfl) (f9_field p hp 200 8 (by omega) (by omega)) [] 0 rfl rfl rfl rfl rfl rfl (fun _ => rfl) ?_
  rintro v As ⟨rfl, rfl⟩
  refine ⟨_, rfl, ⟨rfl, trivial⟩, ?_⟩
  refine J.r hX tab_ok 400 (fun _ => rfl) fun b19 => ?_
  refine J.r hX tab_ok 400 (fun _ => rfl) fun b20 => ?_
  refine J.ca hX (by kernel_rfl) (f9_field p hp 208 8 (by omega) (by omega)) [] 0 rfl rfl rfl rfl rfl rfl (fun _ => rfl) ?_
  rintro v As ⟨rfl, rfl⟩
  refine ⟨_, rfl, ⟨rfl, trivial⟩, ?_⟩
  refine J.r hX tab_ok 400 (fun _ => rfl) fun b21 => ?_
  refine J.r hX tab_ok 400 (fun _ => rfl) fun b22 => ?_
  refine J.ca hX (by kernel_rfl) (f9_field p hp 216 8 (by omega) (by omega)) [] 0 rfl rfl rfl rfl rfl rfl (fun _ => rfl) ?_
  rintro v As ⟨rfl, rfl⟩
  refine ⟨_, rfl, ⟨rfl, trivial⟩, ?_⟩
  have hsf : (⟨p.take 16, (Bt.numAt p 128 8 : Nat), (Bt.numAt p 136 16 : Nat), (Bt.numAt p 152 40 : Nat), (Bt.numAt p 216 8 : Nat), (Bt.numAt p 192 8 : Nat), (Bt.numAt p 200 8 : Nat), (Bt.numAt p 208 8 : Nat)⟩ : Sh) = S.fields p := by
    rw [← r1, ← r2, ← r3, ← r4, ← r5, ← r6, ← r7]; rfl
  have hmayc := f9_May ⟨p.take 16, (Bt.numAt p 128 8 : Nat), (Bt.numAt p 136 16 : Nat), (Bt.numAt p 152 40 : Nat), (Bt.numAt p 216 8 : Nat), (Bt.numAt p 192 8 : Nat), (Bt.numAt p 200 8 : Nat), (Bt.numAt p 208 8 : Nat)⟩ hpl
  have hget := S.get_some p hp
  refine J.r hX tab_ok 400 (fun _ => rfl) fun b23 => ?_
  refine J.plan (.of [1,12,6,8,18,20,24,29,34,36,40]) [] [1,3] (by rw [hX.hP]; kernel_rfl) (by kernel_rfl) ?_
  refine J.r hX tab_ok 400 (fun _ => rfl) fun b24 => ?_
  refine J.r hX tab_ok 400 (fun _ => rfl) fun b25 => ?_
  refine J.ca hX (by kernel_rfl) (f9_field p hp 224 32 (by omega) (by omega)) [] 0 rfl rfl rfl rfl rfl rfl (fun _ => rfl) ?_
  rintro v As ⟨rfl, rfl⟩
  refine ⟨_, rfl, ⟨rfl, rfl, trivial⟩, ?_⟩
  refine J.r hX tab_ok 400 (fun _ => rfl) fun b26 => ?_
  refine J.r hX tab_ok 400 (fun _ => rfl) fun b27 => ?_
  refine J.ca hX (by kernel_rfl) (f1_Sum (.pt (bb 0) 75 (pageC p)) (some ⟨bb 0, 0 + 0 * 1, none⟩) 28 32 (p.take 28) (by rw [List.map_take, ← pageC_eq p hp]; exact hRd 28 (by decide)) (by rw [List.length_take, hp]; rfl) (by decide)) [1] 0 rfl rfl rfl rfl rfl rfl (fun _ => rfl) ?_
  rintro v As ⟨rfl, rfl⟩
  refine ⟨_, rfl, ⟨rfl, rfl, trivial⟩, ?_⟩
  refine J.r hX tab_ok 400 (fun _ => rfl) fun b28 => ?_
  refine J.gcase hX rfl rfl rfl ⟨rfl, rfl, trivial⟩ (fun hb => ?_) (fun hb => ?_)
  · have hb2 : (((Bt.numAt p 224 32 : Nat) : Int) != ((K.sum (p.take 28) : Nat) : Int)) = false := by simpa using hb
    rw [hb2]
    refine J.r hX tab_ok 400 (fun _ => rfl) fun b29 => ?_
    refine J.ca hX (by kernel_rfl) (hmayc) [] 0 rfl rfl rfl rfl rfl rfl (fun _ => rfl) ?_
    rintro v As ⟨rfl, rfl⟩
    refine ⟨_, rfl, ⟨rfl, rfl, trivial⟩, ?_⟩
    rw [hsf]
    have heq : Bt.numAt p 224 32 = K.sum (p.take 28) := by
      simp only [Bool.not_eq_true', bne_eq_false_iff_eq] at hb
      omega
    refine J.r hX tab_ok 400 (fun _ => rfl) fun b30 => ?_
    refine J.cond rfl (fun h1 => ?_) (fun h1 => ?_)
    · have hg : S.get p = none := by
        rw [hget, if_neg]
        rintro ⟨_, hm⟩
        rw [hm] at h1
        simp at h1
      refine J.r hX tab_ok 400 (fun _ => rfl) fun b31 => ?_
      refine J.rt hX tab_ok [] rfl rfl rfl ?_
      exact ⟨by unfold S.getV; rw [hg]; rfl, rfl⟩
    · have hg : S.get p = some (S.fields p) := by
        rw [hget, if_pos]
        refine ⟨heq, ?_⟩
        cases hm : S.may (S.fields p) with
        | true => rfl
        | false => rw [hm] at h1; simp at h1
      refine J.r hX tab_ok 400 (fun _ => rfl) fun b32 => ?_
      refine J.rt hX tab_ok [] rfl rfl rfl ?_
      exact ⟨by unfold S.getV; rw [hg, Option.getD_some, ← hsf]; rfl, rfl⟩
  · have hb2 : (((Bt.numAt p 224 32 : Nat) : Int) != ((K.sum (p.take 28) : Nat) : Int)) = true := by simpa using hb
    rw [hb2]
    have hne : Bt.numAt p 224 32 ≠ K.sum (p.take 28) := by
      simp only [Bool.not_eq_false', bne_iff_ne, ne_eq] at hb
      omega
    have hg : S.get p = none := by
      rw [hget, if_neg]
      exact fun h => hne h.1
    refine J.r hX tab_ok 400 (fun _ => rfl) fun b33 => ?_
    refine J.valT hX (.bool false) 0 rfl rfl (fun hg a w he hC => by simp [G.on] at hg) rfl ?_
    refine J.r hX tab_ok 400 (fun _ => rfl) fun b34 => ?_
    refine J.cond rfl (fun h1 => ?_) (fun h1 => ?_)
    · refine J.r hX tab_ok 400 (fun _ => rfl) fun b35 => ?_
      refine J.rt hX tab_ok [] rfl rfl rfl ?_
      exact ⟨by unfold S.getV; rw [hg]; rfl, rfl⟩
    · simp at h1
end Go.Proofs.YtmohcbniepdncaaGreat
namespace Go.Proofs.YtmohcbniepdncaaGreat
open Go Go.RowKit
theorem spot_mem (l : List Int) (d : Int) : decide (spotI l d ≥ 0) = decide (d ∈ l) := by
  induction l with
  | nil => rfl
  | cons x l ih =>
    unfold spotI
    by_cases h : x = d
    · rw [if_pos h, decide_eq_true (by decide : (0 : Int) ≥ 0), decide_eq_true (by rw [h]; exact List.mem_cons_self)]
    · rw [if_neg h]
      by_cases h2 : d ∈ l
      · rw [decide_eq_true h2] at ih
        have := of_decide_eq_true ih
        rw [if_neg (by omega), decide_eq_true (by omega), decide_eq_true (List.mem_cons_of_mem _ h2)]
      · rw [decide_eq_false h2] at ih
        have := of_decide_eq_false ih
        rw [if_pos (by omega), decide_eq_false (by omega), decide_eq_false (by
          intro hm
          rcases List.mem_cons.1 hm with e | e
          · exact h e.symm
          · exact h2 e)]
theorem spot_hasI (m d : Int) : decide (spotI (dI m) d ≥ 0) = L.has m d := by
  have hmem : d ∈ dI m ↔ L.has m d = true := by
    unfold dI dsk
    constructor
    · intro h
      obtain ⟨k, hk, e⟩ := List.mem_map.1 h
      subst e
      exact (List.mem_filter.1 hk).2
    · intro h
      have h8 := L.has_lt m d h
      obtain ⟨k, rfl⟩ := Int.eq_ofNat_of_zero_le h8.1
      exact List.mem_map.2 ⟨k, List.mem_filter.2 ⟨List.mem_range.2 (by omega), h⟩, rfl⟩
  rw [spot_mem, decide_eq_decide.2 hmem]
  exact Bool.decide_coe _
set_option maxRecDepth 20000 in
theorem f9_Look (p : Nat) (N : Nand) (hN : N.Ok) (hR : N.Room) (x y z : Int) : Fn Tryz.prog 18 [.pointer (some ⟨p, 0, none⟩), .agg #[.int .i64 x, .int .i64 y, .int .i64 z]] [NandA p N]
    (fun v As => v = .tuple #[shV (M.look N x y z).1, .int .i64 (M.look N x y z).2] ∧ As = [NandA p N]) := by
  refine Fn.enter [2, 0] Tryz.func18 rfl rfl rfl fun X F hX => ?_
  refine J.r hX tab_ok 400 (fun _ => rfl) fun b1 => ?_
  refine J.r hX tab_ok 400 (fun _ => rfl) fun b2 => ?_
  refine J.ca hX (by kernel_rfl) (n_Read p N hN x y z) [1] 0 rfl rfl rfl rfl rfl rfl (fun _ => rfl) ?_
  rintro v As ⟨rfl, rfl⟩
  refine ⟨_, rfl, trivial, ?_⟩
  have hl0 : ∀ e, N.readE x y z = e → e ≠ 0 → M.look N x y z = if e = 5 then (Sh.zero, 2) else if e = 8 ∨ e = 9 ∨ e = 3 ∨ e = 12 then (Sh.zero, 4) else (Sh.zero, 3) := fun e he h => by
    simp only [M.look]; rw [he, if_neg h]
  have hlk : N.readE x y z = 0 → M.look N x y z = if S.getE (N.readV x y z) ≠ 0 ∨ M.bad (S.getV (N.readV x y z)) x y z = true then (Sh.zero, 3) else (S.getV (N.readV x y z), 1) := fun h1 => by simp only [M.look]; rw [if_pos h1]
  have hvl := readV_len hN x y z
  generalize N.readE x y z = e at hl0 hlk
  refine J.r hX tab_ok 400 (fun _ => rfl) fun b3 => ?_
  refine J.cond rfl (fun h1 => ?_) (fun h1 => ?_)
  · simp only [beq_iff_eq] at h1
    subst h1
    refine J.r hX tab_ok 400 (fun _ => rfl) fun b4 => ?_
    refine J.rt hX tab_ok [1] rfl rfl rfl ?_
    rw [hl0 5 rfl (by decide)]
    exact ⟨rfl, rfl⟩
  have H4 : e = 8 ∨ e = 9 ∨ e = 3 ∨ e = 12 → M.look N x y z = (Sh.zero, 4) := fun h => by
    rw [hl0 e rfl (by omega), if_neg (by omega), if_pos h]
  refine J.r hX tab_ok 400 (fun _ => rfl) fun b5 => ?_
  refine J.cond rfl (fun h2 => ?_) (fun h2 => ?_)
  · rw [h2]
    refine J.r hX tab_ok 400 (fun _ => rfl) fun b6 => ?_
    refine J.cond rfl (fun _ => ?_) (fun h => absurd h (by decide))
    simp only [beq_iff_eq] at h2
    refine J.r hX tab_ok 400 (fun _ => rfl) fun b7 => ?_
    refine J.rt hX tab_ok [1] rfl rfl rfl ?_
    rw [H4 (.inl h2)]
    exact ⟨rfl, rfl⟩
  refine J.r hX tab_ok 400 (fun _ => rfl) fun b8 => ?_
  refine J.cond rfl (fun h3 => ?_) (fun h3 => ?_)
  · rw [h3]
    refine J.r hX tab_ok 400 (fun _ => rfl) fun b9 => ?_
    refine J.cond rfl (fun _ => ?_) (fun h => absurd h (by decide))
    simp only [beq_iff_eq] at h3
    refine J.r hX tab_ok 400 (fun _ => rfl) fun b10 => ?_
    refine J.rt hX tab_ok [1] rfl rfl rfl ?_
    rw [H4 (.inr (.inl h3))]
    exact ⟨rfl, rfl⟩
  refine J.r hX tab_ok 400 (fun _ => rfl) fun b11 => ?_
  refine J.cond rfl (fun h4 => ?_) (fun h4 => ?_)
  · rw [h4]
    refine J.r hX tab_ok 400 (fun _ => rfl) fun b12 => ?_
    refine J.cond rfl (fun _ => ?_) (fun h => absurd h (by decide))
    simp only [beq_iff_eq] at h4
    refine J.r hX tab_ok 400 (fun _ => rfl) fun b13 => ?_
    refine J.rt hX tab_ok [1] rfl rfl rfl ?_
    rw [H4 (.inr (.inr (.inl h4)))]
    exact ⟨rfl, rfl⟩
  refine J.r hX tab_ok 400 (fun _ => rfl) fun b14 => ?_
  refine J.cond rfl (fun h5 => ?_) (fun h5 => ?_)
  · simp only [beq_iff_eq] at h5
    refine J.r hX tab_ok 400 (fun _ => rfl) fun b15 => ?_
    refine J.rt hX tab_ok [1] rfl rfl rfl ?_
    rw [H4 (.inr (.inr (.inr h5)))]
    exact ⟨rfl, rfl⟩
  refine J.r hX tab_ok 400 (fun _ => rfl) fun b16 => ?_
  refine J.cond rfl (fun h6 => ?_) (fun h6 => ?_)
  · simp only [beq_iff_eq] at h6
    have hlk := hlk h6
    refine J.r hX tab_ok 400 (fun _ => rfl) fun b17 => ?_
    refine J.r hX tab_ok 400 (fun _ => rfl) fun b18 => ?_
    refine J.ca hX (by kernel_rfl) (f9_Get (N.readV x y z) hvl) [] 0 rfl rfl rfl rfl rfl rfl (fun _ => rfl) ?_
    rintro v As ⟨rfl, rfl⟩
    refine ⟨_, rfl, trivial, ?_⟩
    refine J.r hX tab_ok 400 (fun _ => rfl) fun b19 => ?_
    refine J.plan (.of [0,5,8,13,16,21,28,33,26,36,40]) [9,10] [1,2,3,4,5] (by rw [hX.hP]; kernel_rfl) (by kernel_rfl) ?_
    refine J.r hX tab_ok 400 (fun _ => rfl) fun b20 => ?_
    refine J.r hX tab_ok 400 (fun _ => rfl) fun b21 => ?_
    refine J.ca hX (by kernel_rfl) (f6_Parity (S.getV (N.readV x y z)).mask (S.getV (N.readV x y z)).block (S.getV (N.readV x y z)).row) [] 0 rfl rfl rfl rfl rfl rfl (fun _ => rfl) ?_
    rintro v As ⟨rfl, rfl⟩
    refine ⟨_, rfl, ⟨rfl, rfl, rfl, rfl, rfl, trivial⟩, ?_⟩
    have hgE : S.getE (N.readV x y z) = if (S.get (N.readV x y z)).isSome then 0 else 1 := rfl
    generalize S.getE (N.readV x y z) = ge at hlk hgE
    generalize (S.get (N.readV x y z)).isSome = gs at hgE
    generalize S.getV (N.readV x y z) = s at hlk
    refine J.r hX tab_ok 400 (fun _ => rfl) fun b22 => ?_
    refine J.gcase hX rfl rfl rfl trivial (fun hb => ?_) (fun hb => ?_)
    · rw [hb]
      refine J.r hX tab_ok 400 (fun _ => rfl) fun b23 => ?_
      refine J.ca hX (by kernel_rfl) (f1_Spot s.mask x) [] 0 rfl rfl rfl rfl rfl rfl (fun _ => rfl) ?_
      rintro v As ⟨rfl, rfl⟩
      refine ⟨_, rfl, trivial, ?_⟩
      have hsp := spot_hasI s.mask x
      refine J.r hX tab_ok 400 (fun _ => rfl) fun b24 => ?_
      rw [hsp]
      simp only [Bool.and_eq_true, beq_iff_eq] at hb
      have hge : ge = 0 := by rw [hgE, if_pos hb.1.1]
      refine J.r hX tab_ok 400 (fun _ => rfl) fun b25 => ?_
      refine J.cond rfl (fun h7 => ?_) (fun h7 => ?_)
      · have hc : ¬(ge ≠ 0 ∨ M.bad s x y z = true) := by
          have : M.bad s x y z = false := by
            unfold M.bad
            simp only [Bool.true_and, Bool.and_eq_true] at h7
            rw [h7.1]
            have h8 := h7.2
            rw [beq_iff_eq] at h8
            rw [h8, hb.1.2, hb.2]
            simp
          rw [this, hge]; simp
        refine J.r hX tab_ok 400 (fun _ => rfl) fun b26 => ?_
        refine J.rt hX tab_ok [1] rfl rfl rfl ?_
        rw [hlk, if_neg hc]
        exact ⟨rfl, rfl⟩
      · have hc : ge ≠ 0 ∨ M.bad s x y z = true := by
          right
          unfold M.bad
          rw [hb.1.2, hb.2]
          cases hh : L.has s.mask x with
          | false => simp
          | true =>
            rw [hh] at h7
            simp only [Bool.true_and] at h7
            rw [beq_eq_false_iff_ne, hb.1.2, hb.2] at h7
            simpa using h7
        refine J.r hX tab_ok 400 (fun _ => rfl) fun b27 => ?_
        refine J.rt hX tab_ok [1] rfl rfl rfl ?_
        rw [hlk, if_pos hc]
        exact ⟨rfl, rfl⟩
    · rw [hb]
      refine J.r hX tab_ok 400 (fun _ => rfl) fun b28 => ?_
      refine J.val hX (.bool false) 0 rfl rfl (fun hg a w he hw => by simp [G.on] at hg) rfl trivial ?_
      have hc : ge ≠ 0 ∨ M.bad s x y z = true := by
        cases gs with
        | false => left; rw [hgE]; decide
        | true =>
          right
          rw [Bool.true_and, Bool.and_eq_false_iff] at hb
          unfold M.bad
          rcases hb with h | h
          · rw [beq_eq_false_iff_ne] at h; simp [h]
          · rw [beq_eq_false_iff_ne] at h; simp [h]
      refine J.r hX tab_ok 400 (fun _ => rfl) fun b29 => ?_
      refine J.cond rfl (fun h7 => ?_) (fun h7 => ?_)
      · simp at h7
      · refine J.r hX tab_ok 400 (fun _ => rfl) fun b30 => ?_
        refine J.rt hX tab_ok [1] rfl rfl rfl ?_
        rw [hlk, if_pos hc]
        exact ⟨rfl, rfl⟩
  simp only [beq_eq_false_iff_ne, ne_eq] at h1 h2 h3 h4 h5 h6
  refine J.r hX tab_ok 400 (fun _ => rfl) fun b31 => ?_
  refine J.rt hX tab_ok [1] rfl rfl rfl ?_
  rw [hl0 e rfl h6, if_neg h1, if_neg (by omega)]
  exact ⟨rfl, rfl⟩
theorem f9_entry (s : Sh) : Fn Tryz.prog 76 [shV s] [] (fun v As => v = enV s.en ∧ As = []) := by
  refine Fn.enter [0] Tryz.func76 rfl rfl rfl fun X F hX => ?_
  refine J.r hX tab_ok 400 (fun _ => rfl) fun b32 => ?_
  refine J.rt hX tab_ok [] rfl rfl rfl ?_
  exact ⟨rfl, rfl⟩
theorem f9_one (p : Nat) (N : Nand) (hN : N.Ok) (hR : N.Room) (b r m d : Int) : Fn Tryz.prog 75 [.pointer (some ⟨p, 0, none⟩), .int .i64 b, .int .i64 r, .int .i64 m, .int .i64 d] [NandA p N]
    (fun v As => v = .tuple #[shV (R.one N b r m d).1, .bool (R.one N b r m d).2] ∧ As = [NandA p N]) := by
  refine Fn.enter [2, 0, 0, 0, 0] Tryz.func75 rfl rfl rfl fun X F hX => ?_
  refine J.r hX tab_ok 400 (fun _ => rfl) fun b33 => ?_
  refine J.r hX tab_ok 400 (fun _ => rfl) fun b34 => ?_
  refine J.ca hX (by kernel_rfl) (f9_Look p N hN hR d b r) [1] 0 rfl rfl rfl rfl rfl rfl (fun _ => rfl) ?_
  rintro v As ⟨rfl, rfl⟩
  refine ⟨_, rfl, trivial, ?_⟩
  refine J.r hX tab_ok 400 (fun _ => rfl) fun b35 => ?_
  refine J.plan (.of [1,4,8,12,16,21,24,28,32,38,40]) [10] [1,3] (by rw [hX.hP]; kernel_rfl) (by kernel_rfl) ?_
  refine J.r hX tab_ok 400 (fun _ => rfl) fun b36 => ?_
  refine J.r hX tab_ok 400 (fun _ => rfl) fun b37 => ?_
  refine J.rt hX tab_ok [1] rfl rfl rfl ?_
  exact ⟨rfl, rfl⟩
end Go.Proofs.YtmohcbniepdncaaGreat
namespace Go.Proofs.YtmohcbniepdncaaGreat
open Go Go.RowKit
theorem at_lt8 (m i : Int) : L.at_ m i < 8 := by
  unfold L.at_
  split
  · cases h : (L.dies m)[i.toNat]? with
    | none => decide
    | some d =>
      have hm := List.mem_of_getElem? h
      unfold L.dies at hm
      split at hm
      · have := List.mem_range.1 (List.mem_filter.1 hm).1
        show ((d : Nat) : Int) < 8
        omega
      · simp at hm
  · decide
theorem oth_dec : ∀ m, m < 256 → ∀ p, p < 8 → (dI ((m : Nat) : Int)).filter (fun d => d != ((p : Nat) : Int)) = dI (L.without ((m : Nat) : Int) ((p : Nat) : Int)) := by decide +kernel
def othI (m b r : Int) : List Int := if 0 ≤ G.parity m b r then (dI m).filter (fun d => d != G.parity m b r) else []
theorem oth_len (m b r : Int) : (othI m b r).length ≤ 8 := by
  unfold othI
  split
  · exact Nat.le_trans (List.length_filter_le _ _) (dI_len m)
  · simp
theorem oth_eq {m b r : Int} (h : 0 ≤ G.parity m b r) : othI m b r = dI (L.without m (G.parity m b r)) := by
  have h8 : G.parity m b r < 8 := by
    unfold G.parity at h ⊢
    split
    · decide
    · exact at_lt8 _ _
  have hm : 0 ≤ m ∧ m < 256 := by
    by_cases hh : 0 ≤ m ∧ m < 256
    · exact hh
    · have hc := L.count_no m hh
      unfold G.parity at h
      rw [if_pos (by omega)] at h
      omega
  unfold othI
  rw [if_pos h]
  obtain ⟨p, hp⟩ := Int.eq_ofNat_of_zero_le h
  obtain ⟨M, rfl⟩ := Int.eq_ofNat_of_zero_le hm.1
  rw [hp]
  exact oth_dec M (by omega) p (by omega)
theorem oth_die (m b r s : Int) : (s < 0 ∨ ((othI m b r).length : Int) ≤ s → G.die m b r s = -1) ∧ (∀ k : Nat, s = k → k < (othI m b r).length → (othI m b r)[k]? = some (G.die m b r s)) := by
  by_cases h : 0 ≤ G.parity m b r
  · have he := oth_eq h
    have hd : G.die m b r s = L.at_ (L.without m (G.parity m b r)) s := by unfold G.die; rw [if_neg (by omega)]
    rw [he, hd, dI_count]
    refine ⟨fun hs => L.at_ge _ _ hs, fun k hk hlt => ?_⟩
    subst hk
    exact dI_at _ _ hlt
  · have he : othI m b r = [] := by unfold othI; rw [if_neg h]
    have hd : G.die m b r s = -1 := by unfold G.die; rw [if_pos (by omega)]
    rw [he, hd]
    exact ⟨fun _ => rfl, fun k _ hlt => by simp at hlt⟩
theorem f6_Others (m b r : Int) : Fn Tryz.prog 104 [.int .i64 m, .int .i64 b, .int .i64 r] [] (fun v As => ∃ a c, v = slv a (othI m b r).length c ∧ As = [ownA 3 1 a (othI m b r).length c (cellsI (othI m b r))]) := by
  have hlen := dI_len m
  refine Fn.enter [0, 0, 0] Tryz.func104 rfl rfl rfl fun X F hX => ?_
  refine J.turn1 [] rfl (As := [ownA 3 1 none 0 0 (cellsI (((dI m).take 0).filter fun d => d != G.parity m b r))]) (fun h s => Sep.one ⟨rfl, rfl, rfl⟩) rfl ?_
  refine J.r hX tab_ok 400 (fun _ => rfl) fun b1 => ?_
  refine J.r hX tab_ok 400 (fun _ => rfl) fun b2 => ?_
  refine J.ca hX (by kernel_rfl) (f1_Dies m) [] 0 rfl rfl rfl rfl rfl rfl (fun _ => rfl) ?_
  rintro v As ⟨a, c, rfl, rfl⟩
  refine ⟨_, rfl, trivial, ?_⟩
  refine J.r hX tab_ok 400 (fun _ => rfl) fun b3 => ?_
  refine J.r hX tab_ok 400 (fun _ => rfl) fun b4 => ?_
  refine J.ca hX (by kernel_rfl) (f6_Parity m b r) [] 0 rfl rfl rfl rfl rfl rfl (fun _ => rfl) ?_
  rintro v As ⟨rfl, rfl⟩
  refine ⟨_, rfl, trivial, ?_⟩
  have hoth : othI m b r = if 0 ≤ G.parity m b r then (dI m).filter (fun d => d != G.parity m b r) else [] := rfl
  generalize hpp : G.parity m b r = p at hoth
  refine J.r hX tab_ok 400 (fun _ => rfl) fun b5 => ?_
  refine J.r hX tab_ok 400 (fun _ => rfl) fun b6 => ?_
  refine J.lo (α := (Nat × Option Nat × Nat)) (fun z => z.1 ≤ (dI m).length ∧ (z.1 = 0 ∨ 0 ≤ p)) (fun z => [⟨10, .int .i64 z.1, 0, .tt⟩, ⟨9, .int .i64 p, 0, .tt⟩, ⟨8, slv a (dI m).length c, 0, .tt⟩, ⟨7, slv z.2.1 (((dI m).take z.1).filter fun d => d != p).length z.2.2, 0, .tt⟩]) [1] (fun z => [ownA 3 1 z.2.1 (((dI m).take z.1).filter fun d => d != p).length z.2.2 (cellsI (((dI m).take z.1).filter fun d => d != p))]) (fun z => (dI m).length - z.1) ((0, none, 0)) (⟨Nat.zero_le _, .inl rfl⟩) rfl ?_ (fun _ => rfl) fun z hI => ?_
  · rfl
  obtain ⟨k, o, oc⟩ := z
  dsimp only at hI ⊢
  obtain ⟨hk, hp⟩ := hI
  have hfl := List.length_filter_le (fun d => d != p) ((dI m).take k)
  have htl : ((dI m).take k).length ≤ k := by rw [List.length_take]; omega
  refine J.r hX tab_ok 400 (fun _ => rfl) fun b7 => ?_
  refine J.cond rfl (fun h1 => ?_) (fun h1 => ?_)
  · simp only [Bool.and_eq_true, decide_eq_true_eq, Int.ofNat_lt] at h1
    obtain ⟨h1, h2⟩ := h1
    obtain ⟨x, hx⟩ : ∃ x, (dI m)[k]? = some x := ⟨_, List.getElem?_eq_getElem h1⟩
    have hs : ((dI m).take (k + 1)).filter (fun d => d != p) = ((dI m).take k).filter (fun d => d != p) ++ (if x != p then [x] else []) := by
      rw [List.take_add_one, hx, Option.toList_some, List.filter_append]
      congr 1
      cases hxp : x != p <;> simp [hxp]
    refine J.know (fun h' s => own_some (c := (a, c)) (by omega) (s.get (i := 2) rfl)) fun hg => ?_
    obtain ⟨g, rfl⟩ := hg
    refine J.r hX tab_ok 400 (fun _ => rfl) fun b8 => ?_
    refine J.val hX (.int .i64 x) 0 rfl rfl (fun hg a w he hs => own1_run tab_ok rfl rfl he rfl rfl rfl (hs.get (i := 2) rfl) (by rw [show 0 + (k : Int).toNat * 1 = k from by omega]; exact cellsI_get hx)) rfl trivial ?_
    refine J.r hX tab_ok 400 (fun _ => rfl) fun b9 => ?_
    refine J.cond rfl (fun h3 => ?_) (fun h3 => ?_)
    · rw [if_pos h3] at hs
      have hl : (((dI m).take k).filter fun d => d != p).length + 1 = (((dI m).take (k + 1)).filter fun d => d != p).length := by rw [hs]; simp
      refine J.r hX tab_ok 400 (fun _ => rfl) fun b10 => ?_
      refine J.val hX (.int .i64 x) 0 rfl rfl (fun hg a w he hs => own1_run tab_ok rfl rfl he rfl rfl rfl (hs.get (i := 2) rfl) (by rw [show 0 + (k : Int).toNat * 1 = k from by omega]; exact cellsI_get hx)) rfl trivial ?_
      refine J.r hX tab_ok 400 (fun _ => rfl) fun b11 => ?_
      refine J.append hX tab_ok 1 3 0 rfl rfl rfl rfl rfl rfl rfl rfl rfl rfl rfl rfl rfl rfl rfl rfl ?_ ?_ (fun _ => rfl) fun a4 c4 => ⟨_, (congrArg (fun z => lset _ 1 (ownA _ _ _ _ _ z)) ((cellsI_snoc _ _).symm.trans (congrArg cellsI hs.symm))).trans rfl, trivial, ?_⟩
      · simp only [maxLen]; omega
      · omega
      rw [hl]
      refine J.r hX tab_ok 400 (fun _ => rfl) fun b12 => ?_
      refine J.r hX tab_ok 400 (fun _ => rfl) fun b13 => ?_
      refine J.nS ((k + 1, a4, c4)) (⟨by dsimp only; omega, .inr h2⟩) (by dsimp only; omega) [0, 1, 2] rfl rfl
    · rw [if_neg (by rw [h3]; simp), List.append_nil] at hs
      rw [← hs]
      refine J.r hX tab_ok 400 (fun _ => rfl) fun b14 => ?_
      refine J.r hX tab_ok 400 (fun _ => rfl) fun b15 => ?_
      refine J.nS ((k + 1, o, oc)) (⟨by dsimp only; omega, .inr h2⟩) (by dsimp only; omega) [0, 1, 2] rfl rfl
  · have he : ((dI m).take k).filter (fun d => d != p) = othI m b r := by
      rw [hoth]
      by_cases h0 : 0 ≤ p
      · rw [if_pos h0]
        have hkl : (dI m).length ≤ k := by
          rcases Nat.lt_or_ge k (dI m).length with h | h
          · rw [decide_eq_true (by omega), decide_eq_true (by omega)] at h1
            cases h1
          · exact h
        rw [List.take_of_length_le hkl]
      · rw [if_neg h0]
        obtain rfl : k = 0 := by omega
        simp
    rw [he]
    refine J.r hX tab_ok 400 (fun _ => rfl) fun b16 => ?_
    refine J.rt hX tab_ok [1] rfl rfl rfl ?_
    exact ⟨o, oc, rfl, rfl⟩
theorem f6_Die (m b r s : Int) : Fn Tryz.prog 73 [.int .i64 m, .int .i64 b, .int .i64 r, .int .i64 s] [] (fun v As => v = .int .i64 (G.die m b r s) ∧ As = []) := by
  obtain ⟨d1, d2⟩ := oth_die m b r s
  refine Fn.enter [0, 0, 0, 0] Tryz.func73 rfl rfl rfl fun X F hX => ?_
  refine J.r hX tab_ok 400 (fun _ => rfl) fun b17 => ?_
  refine J.r hX tab_ok 400 (fun _ => rfl) fun b18 => ?_
  refine J.ca hX (by kernel_rfl) (f6_Others m b r) [] 0 rfl rfl rfl rfl rfl rfl (fun _ => rfl) ?_
  rintro v As ⟨a, c, rfl, rfl⟩
  refine ⟨_, rfl, trivial, ?_⟩
  refine J.r hX tab_ok 400 (fun _ => rfl) fun b19 => ?_
  refine J.cond rfl (fun h1 => ?_) (fun h1 => ?_)
  · simp only [Bool.or_eq_true, decide_eq_true_eq] at h1
    refine J.r hX tab_ok 400 (fun _ => rfl) fun b20 => ?_
    refine J.rt hX tab_ok [] rfl rfl rfl ?_
    rw [d1 h1]
    exact ⟨rfl, rfl⟩
  · simp only [Bool.or_eq_false_iff, decide_eq_false_iff_not] at h1
    obtain ⟨k, rfl⟩ := Int.eq_ofNat_of_zero_le (show 0 ≤ s by omega)
    have hk : k < (othI m b r).length := by omega
    have hx := d2 k rfl hk
    refine J.know (fun h' s => own_some (c := (a, c)) (by omega) (s.get (i := 1) rfl)) fun hg => ?_
    obtain ⟨g, rfl⟩ := hg
    refine J.r hX tab_ok 400 (fun _ => rfl) fun b21 => ?_
    refine J.val hX (.int .i64 (G.die m b r k)) 0 rfl rfl (fun hg a w he hs => own1_run tab_ok rfl rfl he rfl rfl rfl (hs.get (i := 1) rfl) (by rw [show 0 + (k : Int).toNat * 1 = k from by omega]; exact cellsI_get hx)) rfl trivial ?_
    refine J.r hX tab_ok 400 (fun _ => rfl) fun b22 => ?_
    refine J.rt hX tab_ok [] rfl rfl rfl ?_
    exact ⟨rfl, rfl⟩
set_option maxRecDepth 20000 in
theorem f6_In (d b p x y z : Int) : Fn Tryz.prog 74 [.agg #[.int .i64 d, .int .i64 b, .int .i64 p], .agg #[.int .i64 x, .int .i64 y, .int .i64 z]] [] (fun v As => v = .bool (geoIn d b p x y z) ∧ As = []) := by
  refine Fn.enter [0, 0] Tryz.func74 rfl rfl rfl fun X F hX => ?_
  refine J.r hX tab_ok 400 (fun _ => rfl) fun b23 => ?_
  refine J.rt hX tab_ok [] rfl rfl rfl ?_
  refine ⟨congrArg Value.bool ?_, rfl⟩
  unfold geoIn
  rw [Bool.eq_iff_iff]
  simp only [Bool.and_eq_true, decide_eq_true_eq]
  omega
end Go.Proofs.YtmohcbniepdncaaGreat
namespace Go.Proofs.YtmohcbniepdncaaGreat
open Go
theorem xor_mul_add (k : Nat) {a b c d : Nat} (hb : b < 2 ^ k) (hd : d < 2 ^ k) : (2 ^ k * a + b) ^^^ (2 ^ k * c + d) = 2 ^ k * (a ^^^ c) + (b ^^^ d) := by
  apply Nat.eq_of_testBit_eq
  intro j
  have hbd : b ^^^ d < 2 ^ k := Nat.xor_lt_two_pow hb hd
  rw [Nat.testBit_xor, Nat.testBit_two_pow_mul_add _ hb, Nat.testBit_two_pow_mul_add _ hd, Nat.testBit_two_pow_mul_add _ hbd]
  split
  · rw [Nat.testBit_xor]
  · rw [Nat.testBit_xor]
theorem xo_nat {a b : Nat} (ha : a < 4611686018427387904) (hb : b < 4611686018427387904) : F9.xo a b = ((a ^^^ b : Nat) : Int) := by
  have h1 : (BitVec.ofInt 64 (a : Int) ^^^ BitVec.ofInt 64 (b : Int)).toNat = a ^^^ b := by
    rw [BitVec.toNat_xor, BitVec.ofInt_natCast, BitVec.ofInt_natCast, BitVec.toNat_ofNat, BitVec.toNat_ofNat, Nat.mod_eq_of_lt (by omega), Nat.mod_eq_of_lt (by omega)]
  have h2 : a ^^^ b < 4611686018427387904 := Nat.xor_lt_two_pow (n := 62) ha hb
  unfold F9.xo
  show IntKind.i64.wrap ((BitVec.ofInt 64 (a : Int) ^^^ BitVec.ofInt 64 (b : Int)).toNat : Int) = _
  rw [h1]
  simp [IntKind.wrap, IntKind.bits, IntKind.signed]
  omega
structure Num9 (s : Sh) : Prop where
  role : 0 ≤ s.role ∧ s.role ≤ 255
  lpn : 0 ≤ s.lpn ∧ s.lpn ≤ 65535
  seq : 0 ≤ s.seq ∧ s.seq ≤ 1099511627775
  data : s.data.length = 16
theorem may_num9 {s : Sh} (h : S.may s = true) (hd : s.data.length = 16) : Num9 s := by
  simp only [S.may, S.numbers, S.inB, Bool.and_eq_true, decide_eq_true_eq] at h
  exact ⟨by omega, by omega, by omega, hd⟩
theorem over_num9 {a b : Sh} (ha : Num9 a) (hb : Num9 b) : Num9 (F9.over a b) ∧ Xo.toX (F9.over a b) = Xo.op (Xo.toX a) (Xo.toX b) := by
  obtain ⟨r1, e1⟩ := Int.eq_ofNat_of_zero_le ha.role.1
  obtain ⟨r2, e2⟩ := Int.eq_ofNat_of_zero_le hb.role.1
  obtain ⟨l1, e3⟩ := Int.eq_ofNat_of_zero_le ha.lpn.1
  obtain ⟨l2, e4⟩ := Int.eq_ofNat_of_zero_le hb.lpn.1
  obtain ⟨s1, e5⟩ := Int.eq_ofNat_of_zero_le ha.seq.1
  obtain ⟨s2, e6⟩ := Int.eq_ofNat_of_zero_le hb.seq.1
  have i1 := ha.role
  have i2 := hb.role
  have i3 := ha.lpn
  have i4 := hb.lpn
  have i5 := ha.seq
  have i6 := hb.seq
  have x1 : F9.xo a.role b.role = ((r1 ^^^ r2 : Nat) : Int) := by rw [e1, e2]; exact xo_nat (by omega) (by omega)
  have x2 : F9.xo a.lpn b.lpn = ((l1 ^^^ l2 : Nat) : Int) := by rw [e3, e4]; exact xo_nat (by omega) (by omega)
  have x3 : F9.xo a.seq b.seq = ((s1 ^^^ s2 : Nat) : Int) := by rw [e5, e6]; exact xo_nat (by omega) (by omega)
  have b1 : r1 ^^^ r2 < 256 := Nat.xor_lt_two_pow (n := 8) (by omega) (by omega)
  have b2 : l1 ^^^ l2 < 65536 := Nat.xor_lt_two_pow (n := 16) (by omega) (by omega)
  have b3 : s1 ^^^ s2 < 1099511627776 := Nat.xor_lt_two_pow (n := 40) (by omega) (by omega)
  refine ⟨⟨?_, ?_, ?_, ?_⟩, ?_⟩
  · show 0 ≤ F9.xo a.role b.role ∧ F9.xo a.role b.role ≤ 255
    rw [x1]; omega
  · show 0 ≤ F9.xo a.lpn b.lpn ∧ F9.xo a.lpn b.lpn ≤ 65535
    rw [x2]; omega
  · show 0 ≤ F9.xo a.seq b.seq ∧ F9.xo a.seq b.seq ≤ 1099511627775
    rw [x3]; omega
  · exact mix_len ha.data hb.data 16 (by omega)
  · unfold Xo.toX Xo.op
    refine Prod.ext ?_ ?_
    · exact Xo.mix_all ha.data hb.data
    · show S.meta_ (F9.xo a.role b.role) (F9.xo a.lpn b.lpn) (F9.xo a.seq b.seq) = S.meta_ a.role a.lpn a.seq ^^^ S.meta_ b.role b.lpn b.seq
      rw [x1, x2, x3, e1, e2, e3, e4, e5, e6]
      have hm : ∀ r l s : Nat, r < 256 → l < 65536 → s < 1099511627776 → S.meta_ (r : Nat) (l : Nat) (s : Nat) = 2 ^ 40 * (2 ^ 16 * r + l) + s := fun r l s h1 h2 h3 => by
        unfold S.meta_; omega
      rw [hm _ _ _ b1 b2 b3, hm r1 l1 s1 (by omega) (by omega) (by omega), hm r2 l2 s2 (by omega) (by omega) (by omega), xor_mul_add 40 (by omega) (by omega), xor_mul_add 16 (by omega) (by omega)]
theorem fold_num9 : ∀ (l : List Sh) (p : Sh), Num9 p → (∀ s ∈ l, Num9 s) → Num9 (l.foldl F9.over p) ∧ Xo.toX (l.foldl F9.over p) = (l.map Xo.toX).foldl Xo.op (Xo.toX p)
  | [], p, h, _ => ⟨h, rfl⟩
  | s :: l, p, h, hl => by
    obtain ⟨h1, h2⟩ := over_num9 h (hl s (by simp))
    obtain ⟨h3, h4⟩ := fold_num9 l (F9.over p s) h1 (fun t ht => hl t (by simp [ht]))
    rw [List.foldl_cons, List.map_cons, List.foldl_cons, ← h2]
    exact ⟨h3, h4⟩
theorem fold_rest : ∀ (l : List Sh) (p : Sh), (l.foldl F9.over p).block = p.block ∧ (l.foldl F9.over p).row = p.row ∧ (l.foldl F9.over p).mask = p.mask
  | [], _ => ⟨rfl, rfl, rfl⟩
  | s :: l, p => by rw [List.foldl_cons]; exact fold_rest l (F9.over p s)
theorem fold_back (p : Sh) (l : List Sh) (hp : Num9 p) (hl : ∀ s ∈ l, Num9 s) : (l.foldl F9.over p).en = W.backS p l := by
  obtain ⟨h1, h2⟩ := fold_num9 l p hp hl
  generalize l.foldl F9.over p = S9 at h1 h2
  have hd : ∀ s ∈ l ++ [p], s.data.length = 16 := fun s hs => by
    rcases List.mem_append.1 hs with h | h
    · exact (hl s h).data
    · rw [List.mem_singleton.1 h]; exact hp.data
  obtain ⟨o1, o2⟩ := Xo.over_all (l ++ [p]) Xo.z hd Xo.z_ok (by decide)
  have hok : ∀ x ∈ l.map Xo.toX, Xo.Ok x := fun x hx => by
    obtain ⟨s, hs, rfl⟩ := List.mem_map.1 hx
    exact (hl s hs).data
  have hpx : Xo.Ok (Xo.toX p) := hp.data
  have e : ((l ++ [p]).map Xo.toX).foldl Xo.op Xo.z = Xo.toX S9 := by
    rw [h2, List.map_append, List.foldl_append, Xo.fold_from (l.map Xo.toX) hok _ hpx]
    exact Xo.op_comm _ _
  rw [e] at o1 o2
  obtain ⟨m1, m2, m3⟩ := S.meta_back S9.role S9.lpn S9.seq h1.role h1.lpn h1.seq
  have ho : W.over (l ++ [p]) = ((Xo.toX S9).1, (((Xo.toX S9).2 : Nat) : Int)) := o1
  unfold W.backS
  simp only [ho, Int.toNat_natCast]
  show (⟨S9.lpn, S9.seq, S9.role, S9.data⟩ : En) = ⟨((S.meta_ S9.role S9.lpn S9.seq / 1099511627776 % 65536 : Nat) : Int), ((S.meta_ S9.role S9.lpn S9.seq % 1099511627776 : Nat) : Int), ((S.meta_ S9.role S9.lpn S9.seq / 72057594037927936 : Nat) : Int), S9.data⟩
  rw [m1, m2, m3]
end Go.Proofs.YtmohcbniepdncaaGreat
namespace Go.Proofs.YtmohcbniepdncaaGreat
open Go Go.RowKit
theorem f6_SlotsG (m : Int) : Fn Tryz.prog 53 [.int .i64 m] [] (fun v As => v = .int .i64 (G.slots m) ∧ As = []) := by
  rw [← slots_dI m]; exact f6_Slots m
/-- what the program and the reference look at first -/
def b9out (p : Sh) (n : Nat) : Bool := (!S.may p || p.kind != 2) || ((n : Int) != G.slots p.mask - 1)
theorem b9out_back {p : Sh} {l : List Sh} {n : Nat} (hl : l.length = n) (h : b9out p n = true) : W.backB p l = false := by
  unfold W.backB
  simp only [b9out, Bool.or_eq_true, Bool.not_eq_true', bne_iff_ne, ne_eq] at h
  rcases h with (h | h) | h
  · rw [h]; simp
  · rw [beq_eq_false_iff_ne.2 h]; simp
  · rw [decide_eq_false (by rw [hl]; exact h)]; simp
def alien9 (p o : Sh) : Bool := (((!S.may o || o.kind != 1) || o.block != p.block) || o.row != p.row) || o.mask != p.mask
theorem alien9_eq (p o : Sh) : alien9 p o = W.alien p o := by
  unfold alien9 W.alien
  cases S.may o <;> cases o.kind != 1 <;> simp
theorem back_no {p : Sh} {l : List Sh} (h : W.backB p l = false) : W.back p l = En.zero := by unfold W.back; rw [h]; rfl
set_option maxRecDepth 20000 in
theorem f9_Back (p : Sh) (hp : p.data.length = 16) (a : Option Nat) (n c : Nat) (l : List Sh) (hl : l.length = n) (hd : ∀ s ∈ l, s.data.length = 16) : Fn Tryz.prog 105 [shV p, slv a n c] [ownA 43 23 a n c (cellsS l)]
    (fun v As => v = .tuple #[enV (W.back p l), .bool (W.backB p l)] ∧ As = [ownA 43 23 a n c (cellsS l)]) := by
  refine Fn.enter [0, 0] Tryz.func105 rfl rfl rfl fun X F hX => ?_
  refine J.r hX tab_ok 400 (fun _ => rfl) fun bb => ?_
  refine J.r hX tab_ok 400 (fun _ => rfl) fun b1 => ?_
  refine J.ca hX (by kernel_rfl) (f9_May p hp) [] 0 rfl rfl rfl rfl rfl rfl (fun _ => rfl) ?_
  rintro v As ⟨rfl, rfl⟩
  refine ⟨_, rfl, trivial, ?_⟩
  have hG := gslots_bd p.mask
  refine J.r hX tab_ok 400 (fun _ => rfl) fun b2 => ?_
  refine J.join (α := Unit) (fun _ => [⟨28, .bool (b9out p n), 0, .tt⟩, ⟨1, slv a n c, 0, .tt⟩, ⟨2, .pointer (some ⟨bb 0, 0, none⟩), 3, .tt⟩, ⟨4, .pointer (some ⟨bb (0 + 1), 0, none⟩), 4, .tt⟩]) (fun _ => [.hp F, ownA 43 23 a n c (cellsS l), .pt (bb 0) 43 (shL p), .pt (bb (0 + 1)) 60 (enL En.zero)]) (fun hj => ?_) (fun _ => ?_)
  · refine J.gcase hX rfl rfl rfl trivial (fun hb => ?_) (fun hb => ?_)
    · have hb2 : (!S.may p || p.kind != 2) = false := by rwa [Bool.not_eq_true'] at hb
      have hC : b9out p n = (false || ((n : Int) != G.slots p.mask - 1)) := by unfold b9out; rw [hb2]
      rw [hb2]
      refine J.r hX tab_ok 400 (fun _ => rfl) fun b3 => ?_
      refine J.ca hX (by kernel_rfl) (f6_SlotsG p.mask) [] 0 rfl rfl rfl rfl rfl rfl (fun _ => rfl) ?_
      rintro v As ⟨rfl, rfl⟩
      refine ⟨_, rfl, trivial, ?_⟩
      refine J.r hX tab_ok 400 (fun _ => rfl) fun b4 => ?_
      exact J.goto [0, 1, 2, 3] (hj ()) ⟨congrArg (fun b => some (Value.bool b)) hC.symm, rfl, rfl, rfl, trivial⟩ rfl rfl
    · have hb2 : (!S.may p || p.kind != 2) = true := by rwa [Bool.not_eq_false'] at hb
      have hC : b9out p n = true := by unfold b9out; rw [hb2]; rfl
      rw [hb2]
      refine J.r hX tab_ok 400 (fun _ => rfl) fun b5 => ?_
      refine J.val hX (.int .i64 0) 0 rfl rfl (fun hg a w he hw => by simp [G.on] at hg) rfl trivial ?_
      refine J.r hX tab_ok 400 (fun _ => rfl) fun b6 => ?_
      exact J.goto [0, 1, 2, 3] (hj ()) ⟨congrArg (fun b => some (Value.bool b)) (show _ = b9out p n from by rw [hC]; rfl), rfl, rfl, rfl, trivial⟩ rfl rfl
  refine J.r hX tab_ok 400 (fun _ => rfl) fun b7 => ?_
  refine J.cond rfl (fun h1 => ?_) (fun h1 => ?_)
  · have hB := b9out_back hl h1
    refine J.r hX tab_ok 400 (fun _ => rfl) fun b8 => ?_
    refine J.rt hX tab_ok [1] rfl rfl rfl ?_
    rw [back_no hB, hB]
    exact ⟨rfl, rfl⟩
  simp only [b9out, Bool.or_eq_false_iff, Bool.not_eq_false', bne_eq_false_iff_eq] at h1
  obtain ⟨⟨hmp, hkp⟩, hln⟩ := h1
  refine J.r hX tab_ok 400 (fun _ => rfl) fun b5 => ?_
  refine J.r hX tab_ok 400 (fun _ => rfl) fun b9 => ?_
  refine J.lo (α := Nat) (fun k => k ≤ n ∧ ∀ o ∈ l.take k, alien9 p o = false) (fun k => [⟨7, .int .i64 k, 0, .tt⟩, ⟨6, .pointer (some ⟨b5 0, 0, none⟩), 5, .tt⟩, ⟨1, slv a n c, 0, .tt⟩, ⟨2, .pointer (some ⟨bb 0, 0, none⟩), 3, .tt⟩, ⟨4, .pointer (some ⟨bb (0 + 1), 0, none⟩), 4, .tt⟩]) [4] (fun k => [.pt (b5 0) 43 (shL ((l.take k).foldl F9.over p))]) (fun k => n - k) (0) (⟨Nat.zero_le _, by simp⟩) rfl ?_ (fun _ => rfl) fun k hI => ?_
  · rfl
  obtain ⟨hk, hal⟩ := hI
  refine J.r hX tab_ok 400 (fun _ => rfl) fun b10 => ?_
  refine J.cond rfl (fun h2 => ?_) (fun h2 => ?_)
  · simp only [decide_eq_true_eq, Int.ofNat_lt] at h2
    obtain ⟨o, ho⟩ : ∃ o, l[k]? = some o := ⟨_, List.getElem?_eq_getElem (by omega)⟩
    have hod := hd o (List.mem_of_getElem? ho)
    refine J.know (fun h' s => own_some (c := (a, c)) (by omega) (s.get (i := 1) rfl)) fun hg => ?_
    obtain ⟨g, rfl⟩ := hg
    have hts : l.take (k + 1) = l.take k ++ [o] := by rw [List.take_add_one, ho]; rfl
    have hfold : (l.take (k + 1)).foldl F9.over p = F9.over ((l.take k).foldl F9.over p) o := by rw [hts, List.foldl_append]; rfl
    have hfl : ((l.take k).foldl F9.over p).data.length = 16 := by
      have : ∀ (l : List Sh) (q : Sh), (∀ s ∈ l, s.data.length = 16) → q.data.length = 16 → (l.foldl F9.over q).data.length = 16 := by
        intro l
        induction l with
        | nil => intro q _ h; exact h
        | cons x l ih => intro q hd h; exact ih _ (fun t ht => hd t (by simp [ht])) (mix_len h (hd x (by simp)) 16 (by omega))
      exact this _ _ (fun s hs => hd s (List.mem_of_mem_take hs)) hp
    generalize (l.take k).foldl F9.over p = q at hfold hfl
    refine J.r hX tab_ok 400 (fun _ => rfl) fun b11 => ?_
    refine J.val hX (shV o) 0 rfl rfl (fun hg a w he hw => ?_) rfl trivial ?_
    · exact ownN_run tab_ok rfl rfl he rfl rfl rfl (hw.get (i := 1) rfl) (by rw [show 0 + (k : Int).toNat * 23 = k * 23 from by omega]; exact cellsS_get ho) rfl
    refine J.r hX tab_ok 400 (fun _ => rfl) fun b12 => ?_
    refine J.r hX tab_ok 400 (fun _ => rfl) fun b13 => ?_
    refine J.ca hX (by kernel_rfl) (f9_May o hod) [] 0 rfl rfl rfl rfl rfl rfl (fun _ => rfl) ?_
    rintro v As ⟨rfl, rfl⟩
    refine ⟨_, rfl, trivial, ?_⟩
    refine J.r hX tab_ok 400 (fun _ => rfl) fun b14 => ?_
    refine J.cond rfl (fun h3 => ?_) (fun h3 => ?_)
    · have hB : W.backB p l = false := by
        have ha : W.alien p o = true := by rw [← alien9_eq]; exact h3
        unfold W.backB
        rw [List.any_eq_true.2 ⟨o, List.mem_of_getElem? ho, ha⟩]; simp
      refine J.r hX tab_ok 400 (fun _ => rfl) fun b15 => ?_
      refine J.rt hX tab_ok [1] rfl rfl rfl ?_
      rw [back_no hB, hB]
      exact ⟨rfl, rfl⟩
    · have h3 : alien9 p o = false := h3
      refine J.r hX tab_ok 400 (fun _ => rfl) fun b16 => ?_
      refine J.r hX tab_ok 400 (fun _ => rfl) fun b17 => ?_
      refine J.ca hX (by kernel_rfl) (f9_over q o hfl hod) [] 0 rfl rfl rfl rfl rfl rfl (fun _ => rfl) ?_
      rintro v As ⟨rfl, rfl⟩
      refine ⟨_, rfl, trivial, ?_⟩
      rw [← hfold]
      refine J.r hX tab_ok 400 (fun _ => rfl) fun b18 => ?_
      refine J.r hX tab_ok 400 (fun _ => rfl) fun b19 => ?_
      refine J.nS (k + 1) (⟨by omega, fun t ht => by
        rw [hts] at ht
        rcases List.mem_append.1 ht with h | h
        · exact hal t h
        · rw [List.mem_singleton.1 h]; exact h3⟩) (by omega) [0, 1, 2, 3, 4] rfl rfl
  simp only [decide_eq_false_iff_not, Int.ofNat_lt] at h2
  have htk : l.take k = l := List.take_of_length_le (by omega)
  rw [htk] at hal ⊢
  have hnum : ∀ s ∈ l, Num9 s := fun s hs => may_num9 (by
    have h := hal s hs
    simp only [alien9, Bool.or_eq_false_iff, Bool.not_eq_false'] at h
    exact h.1.1.1.1) (hd s hs)
  have hq := fold_back p l (may_num9 hmp hp) hnum
  have hqd := (fold_num9 l p (may_num9 hmp hp) hnum).1.data
  have hany : l.any (W.alien p) = false := by
    rw [List.any_eq_false]
    intro o ho
    rw [← alien9_eq, hal o ho]; decide
  have hB : W.backB p l = W.ok p.block p.row p.mask (l.foldl F9.over p).en := by
    unfold W.backB
    rw [hkp, hmp, hany, decide_eq_true (by rw [hl]; exact hln), hq]; simp
  generalize l.foldl F9.over p = q at hq hqd hB
  refine J.r hX tab_ok 400 (fun _ => rfl) fun b20 => ?_
  refine J.r hX tab_ok 400 (fun _ => rfl) fun b21 => ?_
  refine J.ca hX (by kernel_rfl) (f9_Own p.block p.row p.mask q.en hqd) [] 0 rfl rfl rfl rfl rfl rfl (fun _ => rfl) ?_
  rintro v As ⟨rfl, rfl⟩
  refine ⟨_, rfl, trivial, ?_⟩
  rw [← hB]
  refine J.r hX tab_ok 400 (fun _ => rfl) fun b22 => ?_
  refine J.cond rfl (fun h4 => ?_) (fun h4 => ?_)
  · have h4 : W.backB p l = false := by simpa using h4
    refine J.r hX tab_ok 400 (fun _ => rfl) fun b23 => ?_
    refine J.rt hX tab_ok [1] rfl rfl rfl ?_
    rw [back_no h4, h4]
    exact ⟨rfl, rfl⟩
  · have h4 : W.backB p l = true := by simpa using h4
    have hbk : W.back p l = q.en := by unfold W.back; rw [if_pos h4, hq]
    refine J.r hX tab_ok 400 (fun _ => rfl) fun b24 => ?_
    refine J.rt hX tab_ok [1] rfl rfl rfl ?_
    rw [hbk, h4]
    exact ⟨rfl, rfl⟩
end Go.Proofs.YtmohcbniepdncaaGreat
