/- Helpers of the proofs about ostrakonlaw11, proved here: PlC, PlD, PlE, PlZ, PlNw. No condition. -/
import Derived.Test.YtoideahgjgaddaaGreatP17
import Derived.Test.YtoideahgjgaddaaGreatP24
set_option linter.unusedVariables false
set_option linter.unusedSimpArgs false
set_option linter.unusedSectionVars false
set_option linter.unnecessarySimpa false
/- Plain laws: power goes within a row. No program in sight. -/
namespace Go.Proofs.YtoideahgjgaddaaGreat
open Go
theorem Bt.numAt_congr {a b : List UInt8} {k : Nat} : ∀ w, (∀ i, i < w → Bt.bitAt a (k + i) = Bt.bitAt b (k + i)) → Bt.numAt a k w = Bt.numAt b k w
  | 0, _ => rfl
  | w + 1, h => by rw [Bt.numAt, Bt.numAt, Bt.numAt_congr w (fun i hi => h i (by omega)), h w (by omega)]
/-- a page of which so many bytes were written -/
theorem fill_get (K : Nat) (p : List UInt8) (hp : p.length = 32) (hK : K ≤ 32) (i : Nat) : (Nand.fillP K p).getD i 0 = if i < K then p.getD i 0 else if i < 32 then 255 else 0 := by
  unfold Nand.fillP
  simp only [List.getD_eq_getElem?_getD]
  rw [List.getElem?_append, List.length_take, hp]
  by_cases h : i < K
  · rw [if_pos (by omega), if_pos h, List.getElem?_take, if_pos h]
  · rw [if_neg (by omega), if_neg h]
    by_cases h2 : i < 32
    · rw [if_pos h2, List.getElem?_replicate, if_pos (by omega)]; rfl
    · rw [if_neg h2, List.getElem?_replicate, if_neg (by omega)]; rfl
theorem drop_getD (p : List UInt8) (k i : Nat) : (p.drop k).getD i 0 = p.getD (k + i) 0 := by
  simp [List.getD_eq_getElem?_getD]
theorem torn_kind (K : Nat) (p : List UInt8) (hp : p.length = 32) (hK : K < 28) : (S.fields (Nand.fillP K p)).kind = 255 := by
  show ((Bt.numAt ((Nand.fillP K p).drop 16) 88 8 : Nat) : Int) = 255
  rw [Bt.numAt_eq _ 88 8 255 (fun i hi => ?_) 8 (Nat.le_refl 8)]
  · rfl
  · unfold Bt.bitAt
    rw [show (88 + i) / 8 = 11 from by omega, drop_getD, fill_get K p hp (by omega), if_neg (by omega), if_pos (by omega), show 7 - (88 + i) % 8 = 8 - 1 - i from by omega]
    rfl
theorem torn_fields (K : Nat) (p : List UInt8) (hp : p.length = 32) (hK : 28 ≤ K) (hK2 : K ≤ 32) : S.fields (Nand.fillP K p) = S.fields p := by
  have hb : ∀ j, j < 96 → Bt.bitAt ((Nand.fillP K p).drop 16) j = Bt.bitAt (p.drop 16) j := fun j hj => by
    unfold Bt.bitAt
    rw [drop_getD, drop_getD, fill_get K p hp hK2, if_pos (by omega)]
  have h16 : (Nand.fillP K p).take 16 = p.take 16 := by
    unfold Nand.fillP
    rw [List.take_append_of_le_length (by rw [List.length_take, hp]; omega), List.take_take, Nat.min_eq_left (by omega)]
  unfold S.fields
  simp only [h16, Bt.numAt_congr (a := (Nand.fillP K p).drop 16) (b := p.drop 16) (k := 0) 64 (fun i hi => hb _ (by omega)), Bt.numAt_congr (a := (Nand.fillP K p).drop 16) (b := p.drop 16) (k := 88) 8 (fun i hi => hb _ (by omega)),
    Bt.numAt_congr (a := (Nand.fillP K p).drop 16) (b := p.drop 16) (k := 64) 8 (fun i hi => hb _ (by omega)), Bt.numAt_congr (a := (Nand.fillP K p).drop 16) (b := p.drop 16) (k := 72) 8 (fun i hi => hb _ (by omega)), Bt.numAt_congr (a := (Nand.fillP K p).drop 16) (b := p.drop 16) (k := 80) 8 (fun i hi => hb _ (by omega))]
/-- a look at a page of which so many bytes were written -/
theorem look_torn {N : Nand} (hoff : N.off = false) {d b : Int} (hd : 0 ≤ d ∧ d < N.dies) (hdd : N.dead.getD d.toNat false = false) (hb : 0 ≤ b ∧ b < N.blocks) (hp : 0 < N.pages) {s : Sh} {t : Bool} {K : Nat} {rst : List NCell} (hc : (N.blk d.toNat b.toNat).cells = ⟨Nand.fillP K (putP s), false, t⟩ :: rst)
    (hs : s.data.length = 16) (hm : S.may s = true) (hK : K ≤ 32) (hg : (M.look N d b 0).2 = 1) : 28 ≤ K ∧ (M.look N d b 0).1 = s := by
  have hr : N.refuses d b 0 = 0 := by
    unfold Nand.refuses
    rw [hoff, Nand.geoIn_of hd hb ⟨by omega, by omega⟩, hdd]; simp
  have hpa : N.pageAt d b 0 = some ⟨Nand.fillP K (putP s), false, t⟩ := by unfold Nand.pageAt; rw [hc]; rfl
  have hput : putP s = S.put s := by unfold putP; rw [if_pos hm]
  have hpl : (S.put s).length = 32 := S.length_put s hs
  have e1 : N.readE d b 0 = 0 := by unfold Nand.readE; rw [if_neg (by simp [hr]), hpa]; rfl
  have e2 : N.readV d b 0 = Nand.fillP K (S.put s) := by unfold Nand.readV; rw [if_neg (by simp [hr]), hpa]; simpa using congrArg (Nand.fillP K) hput
  unfold M.look at hg ⊢
  simp only at hg ⊢
  rw [if_pos e1, e2] at hg ⊢
  split at hg
  · cases hg
  · rename_i hcond
    rw [if_neg hcond]
    have hE : S.getE (Nand.fillP K (S.put s)) = 0 := by
      by_cases h : S.getE (Nand.fillP K (S.put s)) = 0
      · exact h
      · exact absurd (.inl h) hcond
    have hsome : (S.get (Nand.fillP K (S.put s))).isSome = true := by
      unfold S.getE at hE
      split at hE
      · assumption
      · cases hE
    unfold S.get at hsome
    split at hsome
    · rename_i hmay
      have hk28 : 28 ≤ K := by
        by_cases h : 28 ≤ K
        · exact h
        · have h1 := torn_kind K (S.put s) hpl (by omega)
          have h2 := S.may_bounds _ hmay.1
          omega
      refine ⟨hk28, ?_⟩
      show S.getV _ = s
      unfold S.getV S.get
      rw [if_pos hmay, torn_fields K _ hpl hk28 hK, S.fields_put s hs hm]
      rfl
    · cases hsome
namespace Nand
/-- power goes at operation n -/
structure Doom (N : Nand) (n : Nat) : Prop where
  off : N.off = false
  cuts : N.cuts = true
  left : N.left = (n : Int)
  plan : N.plan = []
  dead : ∀ i, N.dead.getD i false = false
variable {N : Nand} {n : Nat}
theorem Doom.refuses (h : N.Doom n) {x y z : Int} (hg : geoIn N.dies N.blocks N.pages x y z = true) : N.refuses x y z = 0 := by
  unfold Nand.refuses
  rw [h.off, hg, h.dead]; simp
theorem Doom.cutB (h : N.Doom n) : N.cutB = decide (n = 0) := by
  unfold Nand.cutB
  rw [h.cuts, h.left]
  by_cases h0 : n = 0
  · subst h0; rfl
  · rw [decide_eq_false h0, decide_eq_false (by omega)]; rfl
end Nand
/-- what a die's page has -/
def cutC (K n k : Nat) (s : Sh) : List NCell := if k < n then [⟨putP s, false, false⟩] else if k = n then [⟨Nand.fillP K (putP s), false, true⟩] else []
structure Ready (N : Nand) (b : Int) (q : List (Int × Sh)) : Prop where
  nodup : (q.map (·.1)).Nodup
  inn : ∀ x ∈ q, 0 ≤ x.1 ∧ x.1 < N.dies
  blk : 0 ≤ b ∧ b < N.blocks
  pages : 0 < N.pages
  cells : ∀ x ∈ q, (N.blk x.1.toNat b.toNat).cells = [] ∧ (N.blk x.1.toNat b.toNat).met = false
structure Torn (N N' : Nand) (b : Int) (q : List (Int × Sh)) (n : Nat) : Prop where
  off : N'.off = decide (n < q.length)
  dead : ∀ i, N'.dead.getD i false = false
  like : N.Like N'
  cells : ∀ k x, q[k]? = some x → (N'.blk x.1.toNat b.toNat).cells = cutC N.keep.toNat n k x.2
  rest : ∀ i, (∀ x ∈ q, x.1.toNat ≠ i) → (N'.blk i b.toNat).cells = (N.blk i b.toNat).cells
theorem go_cut (b : Int) : ∀ (q : List (Int × Sh)) (N : Nand) (n : Nat), N.Doom n → Ready N b q → ∃ N', R.go b 0 q N 0 = (N', 0, if n < q.length then 9 else 0) ∧ Torn N N' b q n
  | [], N, n, h, _ => ⟨N, rfl, by rw [h.off]; rfl, h.dead, Nand.Like.refl N, by simp, fun _ _ => rfl⟩
  | (d, s) :: q, N, n, h, hr => by
    have hx := hr.inn (d, s) (by simp)
    have hc := hr.cells (d, s) (by simp)
    have hrf := h.refuses (x := d) (y := b) (z := 0) (Nand.geoIn_of hx hr.blk ⟨by omega, by have := hr.pages; omega⟩)
    have hz : (0 : Int) = (N.blk d.toNat b.toNat).cells.length := by rw [hc.1]; rfl
    have hnd := List.nodup_cons.1 hr.nodup
    have hne : ∀ x ∈ q, x.1.toNat ≠ d.toNat := fun x hxq e => by
      have := hr.inn x (by simp [hxq])
      exact hnd.1 (List.mem_map.2 ⟨x, hxq, by show x.1 = d; omega⟩)
    cases n with
    | zero =>
      have hcb : N.cutB = true := h.cutB
      have e1 := progE_cut hrf hz hcb
      have e2 : N.progN d b 0 (putP s) = N.cutN.push d.toNat b.toNat ⟨Nand.fillP N.keep.toNat (putP s), false, true⟩ := by
        unfold Nand.progN
        rw [if_neg (by simp [hrf]), if_neg (by simp [← hz]), if_pos hcb]
      generalize hN1 : N.cutN.push d.toNat b.toNat ⟨Nand.fillP N.keep.toNat (putP s), false, true⟩ = N1 at e2
      have hb : ∀ i j, N1.blk i j = if i = d.toNat ∧ j = b.toNat then { N.blk d.toNat b.toNat with cells := (N.blk d.toNat b.toNat).cells ++ [⟨Nand.fillP N.keep.toNat (putP s), false, true⟩] } else N.blk i j := fun i j => by rw [← hN1]; rfl
      refine ⟨N1, by rw [R.go, if_neg (by rw [e1]; decide), if_pos e1, e2]; rfl, ?_, ?_, ?_, fun k x hk => ?_, fun i hi => ?_⟩
      · rw [← hN1]
        show (if N.cutB then true else N.off) = _
        rw [hcb]; simp
      · rw [← hN1]; exact h.dead
      · rw [← hN1]; exact ⟨rfl, rfl, rfl⟩
      · cases k with
        | zero =>
          simp at hk; subst hk
          rw [hb, if_pos ⟨rfl, rfl⟩]
          show (N.blk d.toNat b.toNat).cells ++ [_] = _
          rw [hc.1]; rfl
        | succ k =>
          have hxq : x ∈ q := List.mem_of_getElem? (by simpa using hk)
          rw [hb, if_neg (by have := hne x hxq; omega), (hr.cells x (by simp [hxq])).1]; rfl
      · rw [hb, if_neg (by have := hi (d, s) (by simp); simp only at this; omega)]
    | succ n =>
      have hcb : N.cutB = false := by rw [h.cutB]; rfl
      have hfl : N.fails d b 0 = false := by unfold Nand.fails; rw [h.plan, hc.2]; rfl
      have e1 : N.progE d b 0 = 0 := by rw [progE_in hrf hz hcb, hfl]; rfl
      have e2 : N.progN d b 0 (putP s) = Nand.push { N.cutN with plan := [] } d.toNat b.toNat ⟨putP s, false, false⟩ := by rw [progN_in hrf hz hcb, hfl, h.plan]; rfl
      generalize hN1 : Nand.push { N.cutN with plan := [] } d.toNat b.toNat ⟨putP s, false, false⟩ = N1 at e2
      have hb : ∀ i j, N1.blk i j = if i = d.toNat ∧ j = b.toNat then { N.blk d.toNat b.toNat with cells := (N.blk d.toNat b.toNat).cells ++ [⟨putP s, false, false⟩] } else N.blk i j := fun i j => by rw [← hN1]; rfl
      have hlike : N.Like N1 := by rw [← hN1]; exact ⟨rfl, rfl, rfl⟩
      have hkeep : N1.keep = N.keep := by rw [← hN1]; rfl
      have hdoom : N1.Doom n := by
        rw [← hN1]
        refine ⟨?_, ?_, ?_, rfl, h.dead⟩
        · show (if N.cutB then true else N.off) = false
          rw [hcb]; exact h.off
        · show (if N.cutB then false else N.cuts) = true
          rw [hcb]; exact h.cuts
        · show (if N.cuts then N.left - 1 else N.left) = _
          rw [h.cuts, h.left, if_pos rfl]; omega
      have hq : ∀ x ∈ q, N1.blk x.1.toNat b.toNat = N.blk x.1.toNat b.toNat := fun x hxq => by rw [hb, if_neg (by have := hne x hxq; omega)]
      obtain ⟨N', g1, g2⟩ := go_cut b q N1 n hdoom ⟨hnd.2, fun x hxq => by rw [hlike.dies]; exact hr.inn x (by simp [hxq]), by rw [hlike.blocks]; exact hr.blk, by rw [hlike.pages]; exact hr.pages, fun x hxq => by rw [hq x hxq]; exact hr.cells x (by simp [hxq])⟩
      refine ⟨N', by rw [R.go, if_pos e1, e2, g1]; simp, by rw [g2.off]; simp, g2.dead, hlike.trans g2.like, fun k x hk => ?_, fun i hi => ?_⟩
      · cases k with
        | zero =>
          simp at hk; subst hk
          rw [g2.rest _ fun y hy => hne y hy, hb, if_pos ⟨rfl, rfl⟩]
          show (N.blk d.toNat b.toNat).cells ++ [_] = _
          rw [hc.1]; unfold cutC; rw [if_pos (by omega)]; rfl
        | succ k =>
          have := g2.cells k x (by simpa using hk)
          rw [this, hkeep]
          unfold cutC
          simp
      · rw [g2.rest i (fun x hxq => hi x (by simp [hxq])), hb, if_neg (by have := hi (d, s) (by simp); simp only at this; omega)]
end Go.Proofs.YtoideahgjgaddaaGreat
/- Plain laws: a row that was cut, as it is found. No program in sight. -/
namespace Go.Proofs.YtoideahgjgaddaaGreat
open Go
theorem same_getD {l : List Int} {m : Int} (h : ∀ x ∈ l, x = m) {i : Nat} (hi : i < l.length) : l.getD i 0 = m := by
  rw [List.getD_eq_getElem?_getD, List.getElem?_eq_getElem hi, Option.getD_some]
  exact h _ (List.getElem_mem hi)
theorem sinkI_same {m : Int} : ∀ (j : Nat) (l : List Int), j < l.length → (∀ x ∈ l, x = m) → sinkI j l = l
  | 0, l, _, _ => rfl
  | j + 1, l, hj, h => by
    unfold sinkI
    rw [same_getD h hj, same_getD h (show j < l.length by omega), if_neg (by omega)]
theorem isortI_same {m : Int} (l : List Int) (h : ∀ x ∈ l, x = m) : ∀ k, k ≤ l.length - 1 → isortI l k = l
  | 0, _ => rfl
  | k + 1, hk => by unfold isortI; rw [isortI_same l h k (by omega), sinkI_same _ l (by omega) h]
theorem ded_same {m : Int} : ∀ (l : List Int), (∀ x ∈ l, x = m) → dedFrom m l = []
  | [], _ => rfl
  | x :: l, h => by
    unfold dedFrom
    rw [h x (by simp), if_pos rfl, ded_same l (fun y hy => h y (by simp [hy]))]
theorem masks_same {m : Int} (l : List Int) (h : ∀ x ∈ l, x = m) : compactI (isortL l) = if l = [] then [] else [m] := by
  unfold isortL
  rw [isortI_same l h _ (Nat.le_refl _)]
  cases l with
  | nil => rfl
  | cons x l =>
    rw [if_neg (by simp)]
    rw [h x (by simp)]
    show m :: dedFrom m l = [m]
    rw [ded_same l (fun y hy => h y (by simp [hy]))]
/-- what a row that was cut has: which of its pages are good -/
structure CutRow (N : Nand) (b m : Int) (l : List En) (g : Nat → Bool) : Prop where
  good : ∀ k x, (R.job b 0 m l)[k]? = some x → g k = true → M.look N x.1 b 0 = (x.2, 1)
  bad : ∀ k x, (R.job b 0 m l)[k]? = some x → g k = false → (M.look N x.1 b 0).2 ≠ 1
  nope : ∀ i : Nat, i < N.dies → (∀ x ∈ R.job b 0 m l, x.1 ≠ i) → (M.look N (i : Nat) b 0).2 ≠ 1
  whole : g l.length = true → ∀ k, k ≤ l.length → g k = true
theorem look_empty {N : Nand} {d b : Int} (hc : (N.blk d.toNat b.toNat).cells = []) : (M.look N d b 0).2 ≠ 1 := by
  have : N.readE d b 0 ≠ 0 := by
    unfold Nand.readE
    split
    · assumption
    · have : N.pageAt d b 0 = none := by unfold Nand.pageAt; rw [hc]; rfl
      rw [this]; decide
  unfold M.look
  simp only
  rw [if_neg this]
  split
  · decide
  · split <;> decide
theorem job_sh {b m : Int} {l : List En} (F : DieFacts m b 0) (hd : ∀ s ∈ l, s.data.length = 16) (hB : W.parB b 0 m l = true) : ∀ x ∈ R.job b 0 m l, x.2.data.length = 16 ∧ S.may x.2 = true ∧ x.2.block = b ∧ x.2.row = 0 ∧ L.has x.2.mask x.1 = true ∧ (G.parity x.2.mask b 0 == x.1) = (x.2.kind == 2) ∧ x.2.mask = m := by
  obtain ⟨p1, p2, p3, p4⟩ := parB_len hB
  intro x hx
  rcases mem_job.1 hx with ⟨k, hk, rfl⟩ | rfl
  · have hmem : l.getD k En.zero ∈ l := by rw [List.getD_eq_getElem?_getD, List.getElem?_eq_getElem hk]; exact List.getElem_mem _
    have hf := F.die k (by omega)
    refine ⟨hd _ hmem, p4 _ hmem, rfl, rfl, hf.1, ?_, rfl⟩
    have : (G.parity m b 0 == G.die m b 0 (k : Nat)) = false := by rw [beq_eq_false_iff_ne]; exact fun e => hf.2.1 e.symm
    show (G.parity m b 0 == G.die m b 0 (k : Nat)) = _
    rw [this]; rfl
  · refine ⟨parS_len hd, parS_may hB, rfl, rfl, F.par.1, ?_, rfl⟩
    show (G.parity m b 0 == G.parity m b 0) = _
    rw [beq_self_eq_true]; rfl
end Go.Proofs.YtoideahgjgaddaaGreat
/- Plain laws: a row that was cut: the sentence. No program in sight. -/
namespace Go.Proofs.YtoideahgjgaddaaGreat
open Go
theorem CutRow.one2 {N : Nand} {b m : Int} {l : List En} {g : Nat → Bool} (h : CutRow N b m l g) (hm : ∀ x ∈ R.job b 0 m l, x.2.mask = m) {k : Nat} {x : Int × Sh} (hk : (R.job b 0 m l)[k]? = some x) : (R.one N b 0 m x.1).2 = g k ∧ (g k = true → (R.one N b 0 m x.1).1 = x.2) := by
  unfold R.one
  cases hg : g k with
  | true =>
    rw [h.good k x hk hg]
    refine ⟨?_, fun _ => rfl⟩
    show ((1 : Int) == 1 && x.2.mask == m) = true
    rw [hm x (List.mem_of_getElem? hk)]; simp
  | false =>
    refine ⟨?_, fun h => by cases h⟩
    have := h.bad k x hk hg
    show ((M.look N x.1 b 0).2 == 1 && _) = false
    rw [beq_eq_false_iff_ne.2 this]; rfl
theorem CutRow.fnd {N : Nand} {b m : Int} {l : List En} {g : Nat → Bool} (h : CutRow N b m l g) (hm : ∀ x ∈ R.job b 0 m l, x.2.mask = m) (hl : (l.length : Int) = G.slots m) {k : Nat} (hk : k < l.length) :
    R.fnd (R.look N b 0 m) b 0 m k = if g k && (l.getD k En.zero).role != 3 then some ⟨l.getD k En.zero, b, 0, k, m, g l.length, false⟩ else none := by
  have hs : (G.slots m).toNat = l.length := by omega
  have hat := job_at b 0 m l k hk
  have hla := job_last b 0 m l
  obtain ⟨o1, o2⟩ := h.one2 hm hat
  obtain ⟨w1, w2⟩ := h.one2 hm hla
  have hgood : (R.look N b 0 m).good.getD k false = g k := by
    unfold R.look R.ones
    simp only [hs, List.getD_eq_getElem?_getD, List.getElem?_map, List.getElem?_range hk, Option.map_some, Option.getD_some]
    exact o1
  have hslot : (R.look N b 0 m).slots.getD k Sh.zero = (R.one N b 0 m (G.die m b 0 (k : Nat))).1 := by
    unfold R.look R.ones
    simp only [hs, List.getD_eq_getElem?_getD, List.getElem?_map, List.getElem?_range hk, Option.map_some, Option.getD_some]
  have hwhole : (R.look N b 0 m).whole = g l.length := w1
  unfold R.fnd R.okAt R.enAt
  rw [hgood, hwhole]
  cases hg : g k with
  | true =>
    rw [hslot, o2 hg]
    rfl
  | false =>
    have hno : g l.length = false := by
      rw [Bool.eq_false_iff]
      intro hw
      rw [h.whole hw k (by omega)] at hg
      cases hg
    have : R.mendB (R.look N b 0 m) k = false := by
      unfold R.mendB
      rw [hwhole, hno]; simp
    rw [this]; rfl
theorem CutRow.allM {N : Nand} {b m : Int} {l : List En} {g : Nat → Bool} (h : CutRow N b m l g) (hm : ∀ x ∈ R.job b 0 m l, x.2.mask = m) (hl : (l.length : Int) = G.slots m) :
    R.allM N b 0 m = (List.range l.length).filterMap fun k => if g k && (l.getD k En.zero).role != 3 then some ⟨l.getD k En.zero, b, 0, k, m, g l.length, false⟩ else none := by
  unfold R.allM
  rw [(look_len N b 0 m).1, show (G.slots m).toNat = l.length from by omega]
  exact filterMap_same fun k hk => h.fnd hm hl (List.mem_range.1 hk)
theorem CutRow.masks {N : Nand} {b m : Int} {l : List En} {g : Nat → Bool} (h : CutRow N b m l g) (hm : ∀ x ∈ R.job b 0 m l, x.2.mask = m) (hin : ∀ x ∈ R.job b 0 m l, 0 ≤ x.1 ∧ x.1 < (N.dies : Int)) :
    (M.masks N b 0 = [] ∨ M.masks N b 0 = [m]) ∧ ((∃ k, k ≤ l.length ∧ g k = true) → M.masks N b 0 = [m]) := by
  have hall : ∀ x ∈ (M.rowN N b 0 N.dies).filterMap M.maskOf, x = m := fun y hy => by
    obtain ⟨z, hz, hy⟩ := List.mem_filterMap.1 hy
    unfold M.rowN at hz
    obtain ⟨i, hi, rfl⟩ := List.mem_map.1 hz
    have hi := List.mem_range.1 hi
    unfold M.maskOf at hy
    split at hy
    · rename_i h1
      injection hy with hy
      subst hy
      by_cases hno : ∀ x ∈ R.job b 0 m l, x.1 ≠ (i : Int)
      · exact absurd h1 (h.nope i hi hno)
      · simp only [Classical.not_forall] at hno
        obtain ⟨x, hx, hxi⟩ := hno
        have hxi : x.1 = (i : Int) := by omega
        obtain ⟨k, hk⟩ := List.getElem?_of_mem hx
        cases hg : g k with
        | true =>
          have := h.good k x hk hg
          rw [hxi] at this
          rw [this]
          exact hm x hx
        | false =>
          have := h.bad k x hk hg
          rw [hxi] at this
          exact absurd h1 this
    · cases hy
  have hmk := masks_same _ hall
  refine ⟨?_, fun ⟨k, hk, hg⟩ => ?_⟩
  · unfold M.masks
    rw [hmk]
    split
    · exact .inl rfl
    · exact .inr rfl
  · unfold M.masks
    rw [hmk, if_neg]
    intro hnil
    have hjl : (R.job b 0 m l).length = l.length + 1 := by simp [R.job]
    obtain ⟨x, hx⟩ : ∃ x, (R.job b 0 m l)[k]? = some x := ⟨_, List.getElem?_eq_getElem (by omega)⟩
    have hxm := List.mem_of_getElem? hx
    have hd := hin x hxm
    have : x.2.mask ∈ (M.rowN N b 0 N.dies).filterMap M.maskOf := by
      refine List.mem_filterMap.2 ⟨(x.2, 1), ?_, rfl⟩
      unfold M.rowN
      refine List.mem_map.2 ⟨x.1.toNat, List.mem_range.2 (by omega), ?_⟩
      rw [show ((x.1.toNat : Nat) : Int) = x.1 from by omega]
      exact h.good k x hx hg
    rw [hnil] at this
    cases this
end Go.Proofs.YtoideahgjgaddaaGreat
/- Plain laws: what a scan finds where each superblock has one row at most. No program in sight. -/
namespace Go.Proofs.YtoideahgjgaddaaGreat
open Go
namespace Nand
/-- nothing that tells of a superblock was changed -/
structure SameB (N N' : Nand) (b : Nat) : Prop where
  like : N.Like N'
  off : N'.off = N.off
  dead : ∀ i, N'.dead.getD i false = N.dead.getD i false
  cells : ∀ i, (N'.blk i b).cells = (N.blk i b).cells
variable {N N' N'' : Nand} {b : Nat}
theorem SameB.refl (N : Nand) (b : Nat) : SameB N N b := ⟨Like.refl N, rfl, fun _ => rfl, fun _ => rfl⟩
theorem SameB.trans (h : SameB N N' b) (k : SameB N' N'' b) : SameB N N'' b := ⟨h.like.trans k.like, k.off.trans h.off, fun i => (k.dead i).trans (h.dead i), fun i => (k.cells i).trans (h.cells i)⟩
theorem SameB.refuses (h : SameB N N' b) (d r : Int) : N'.refuses d b r = N.refuses d b r := by
  unfold Nand.refuses
  rw [h.off, h.like.dies, h.like.blocks, h.like.pages, h.dead]
theorem SameB.pageAt (h : SameB N N' b) (d r : Int) : N'.pageAt d b r = N.pageAt d b r := by
  unfold Nand.pageAt
  rw [Int.toNat_natCast, h.cells]
theorem SameB.readE (h : SameB N N' b) (d r : Int) : N'.readE d b r = N.readE d b r := by
  unfold Nand.readE
  rw [h.refuses, h.pageAt]
theorem SameB.readV (h : SameB N N' b) (d r : Int) : N'.readV d b r = N.readV d b r := by
  unfold Nand.readV
  rw [h.refuses, h.pageAt]
theorem SameB.look (h : SameB N N' b) (d r : Int) : M.look N' d b r = M.look N d b r := by
  unfold M.look
  simp only [h.readE, h.readV]
theorem SameB.all (h : SameB N N' b) (r : Int) : R.all N' b r = R.all N b r := by
  have h1 : M.masks N' b r = M.masks N b r := by
    unfold M.masks M.rowN
    simp only [h.look, h.like.dies]
  have h2 : ∀ m, R.look N' b r m = R.look N b r m := fun m => by
    unfold R.look R.ones R.one
    simp only [h.look]
  have h3 : ∀ m, R.allM N' b r m = R.allM N b r m := fun m => by
    unfold R.allM
    rw [h2]
  unfold R.all
  rw [h1, show R.allM N' b r = R.allM N b r from funext h3]
end Nand
theorem look_blank {N : Nand} {d b r : Int} (h : (N.blk d.toNat b.toNat).cells.length ≤ r.toNat) : (M.look N d b r).2 = 2 ∨ (M.look N d b r).2 = 4 := by
  have hp : N.pageAt d b r = none := List.getElem?_eq_none h
  have hr : N.refuses d b r = 0 ∨ N.refuses d b r = 9 ∨ N.refuses d b r = 3 ∨ N.refuses d b r = 8 := by
    unfold Nand.refuses
    split
    · simp
    · split
      · simp
      · split <;> simp
  have he : N.readE d b r = 5 ∨ N.readE d b r = 9 ∨ N.readE d b r = 3 ∨ N.readE d b r = 8 := by
    unfold Nand.readE
    rw [hp]
    rcases hr with e | e | e | e <;> rw [e] <;> simp
  unfold M.look
  simp only
  rcases he with e | e | e | e <;> rw [e] <;> simp
theorem look_ne4 {N : Nand} {d b r : Int} (h : N.refuses d b r = 0) : (M.look N d b r).2 ≠ 4 := by
  have he : N.readE d b r = 5 ∨ N.readE d b r = 6 ∨ N.readE d b r = 0 := by
    unfold Nand.readE
    rw [h]
    simp only [ne_eq, not_true_eq_false, if_false]
    split
    · simp
    · split <;> simp
  unfold M.look
  simp only
  rcases he with e | e | e <;> rw [e]
  · simp
  · simp
  · rw [if_pos rfl]
    split <;> simp
/-- a superblock with one row at most -/
structure OneRow (N : Nand) (b : Nat) (F : List Fnd) : Prop where
  row0 : R.all N b 0 = F
  blank : ∀ r : Nat, 0 < r → ∀ d : Nat, (M.look N (d : Nat) b (r : Nat)).2 = 2 ∨ (M.look N (d : Nat) b (r : Nat)).2 = 4
theorem all_blank {N : Nand} {b r : Int} (h : ∀ d : Nat, (M.look N (d : Nat) b r).2 ≠ 1) : R.all N b r = [] := by
  have : (M.rowN N b r N.dies).filterMap M.maskOf = [] := by
    refine List.filterMap_eq_nil_iff.2 fun x hx => ?_
    unfold M.rowN at hx
    obtain ⟨d, _, rfl⟩ := List.mem_map.1 hx
    unfold M.maskOf
    rw [if_neg (h d)]
  unfold R.all M.masks
  rw [this]; rfl
theorem OneRow.same {N N' : Nand} {b : Nat} {F : List Fnd} (h : OneRow N b F) (k : N.SameB N' b) : OneRow N' b F :=
  ⟨(k.all 0).trans h.row0, fun r hr d => by rw [k.look]; exact h.blank r hr d⟩
theorem OneRow.blk {N : Nand} {b : Nat} {F : List Fnd} (h : OneRow N b F) (hp : 0 < N.pages) : ((List.range N.pages).flatMap fun r : Nat => R.all N (b : Nat) (r : Nat)) = F := by
  obtain ⟨p, hp⟩ : ∃ p, N.pages = p + 1 := ⟨N.pages - 1, by omega⟩
  have h0 : ∀ r : Nat, R.all N (b : Nat) ((r + 1 : Nat) : Int) = [] := fun r => all_blank fun d => by
    have := h.blank (r + 1) (by omega) d
    omega
  rw [hp, List.range_succ_eq_map, List.flatMap_cons, List.flatMap_map]
  have : ((List.range p).flatMap fun r : Nat => R.all N (b : Nat) ((r.succ : Nat) : Int)) = [] := by
    rw [List.flatMap_eq_nil_iff]
    exact fun r _ => h0 r
  rw [this, List.append_nil]
  exact h.row0
theorem all_rows {N : Nand} (F : Nat → List Fnd) (hp : 0 < N.pages) (h : ∀ b, b < N.blocks → OneRow N b (F b)) : V.all N = (List.range N.blocks).flatMap F := by
  unfold V.all
  rw [List.flatMap_def, List.flatMap_def]
  congr 1
  exact List.map_congr_left fun b hb => (h b (List.mem_range.1 hb)).blk hp
/-- what is found of a row -/
def rowF (b m : Int) (l : List En) (g : Nat → Bool) : List Fnd := (List.range l.length).filterMap fun k => if g k && (l.getD k En.zero).role != 3 then some ⟨l.getD k En.zero, b, 0, k, m, g l.length, false⟩ else none
theorem CutRow.all {N : Nand} {b m : Int} {l : List En} {g : Nat → Bool} (h : CutRow N b m l g) (hm : ∀ x ∈ R.job b 0 m l, x.2.mask = m) (hl : (l.length : Int) = G.slots m) (hin : ∀ x ∈ R.job b 0 m l, 0 ≤ x.1 ∧ x.1 < (N.dies : Int)) : R.all N b 0 = rowF b m l g := by
  obtain ⟨m1, m2⟩ := h.masks hm hin
  unfold R.all
  rcases m1 with m1 | m1
  · rw [m1]
    refine (List.filterMap_eq_nil_iff.2 fun k hk => ?_).symm
    have hk := List.mem_range.1 hk
    cases hg : g k with
    | false => rfl
    | true =>
      have := m2 ⟨k, by omega, hg⟩
      rw [m1] at this
      cases this
  · rw [m1, List.flatMap_cons, List.flatMap_nil, List.append_nil]
    exact h.allM hm hl
theorem one_empty {N : Nand} {b : Nat} (h : ∀ i, (N.blk i b).cells = []) : OneRow N b [] := by
  have h : ∀ (r d : Nat), (M.look N (d : Nat) b (r : Nat)).2 = 2 ∨ (M.look N (d : Nat) b (r : Nat)).2 = 4 := fun r d => look_blank (by rw [Int.toNat_natCast, Int.toNat_natCast, h]; exact Nat.zero_le _)
  exact ⟨all_blank fun d => by have := h 0 d; simp only [Int.natCast_zero] at this; omega, fun r _ d => h r d⟩
/-- a mask that may be -/
structure RowOk (N : Nand) (b : Nat) (m : Int) (l : List En) : Prop where
  six : N.dies ≤ 6
  blk : b < N.blocks
  pages : 0 < N.pages
  mask : 0 ≤ m ∧ m < 2 ^ N.dies
  data : ∀ s ∈ l, s.data.length = 16
  par : W.parB b 0 m l = true
theorem RowOk.facts {N : Nand} {b : Nat} {m : Int} {l : List En} (h : RowOk N b m l) : DieFacts m b 0 ∧ (l.length : Int) = G.slots m ∧ (∀ x ∈ R.job b 0 m l, 0 ≤ x.1 ∧ x.1 < (N.dies : Int)) ∧ ∀ x ∈ R.job b 0 m l, x.2.mask = m := by
  obtain ⟨p1, p2, p3, p4⟩ := parB_len h.par
  have hm64 : m < 64 := by
    have : (2 : Int) ^ N.dies ≤ 2 ^ 6 := by exact_mod_cast Nat.pow_le_pow_right (n := 2) (by omega) h.six
    have := h.mask
    omega
  have hcount : 2 ≤ L.count m := by
    unfold G.slots at p1
    split at p1 <;> omega
  have F := dieFacts m b 0 h.mask.1 hm64 hcount (by omega) (by omega)
  refine ⟨F, p1, fun x hx => ?_, fun x hx => (job_sh F h.data h.par x hx).2.2.2.2.2.2⟩
  obtain ⟨d, e, h6, hh, _⟩ := job_has F p1 x hx
  have := has_lt_pow h.mask.2 hh
  omega
/-- a superblock where nothing is -/
def Fresh (N : Nand) (b : Nat) : Prop := ∀ i, (N.blk i b).cells = [] ∧ (N.blk i b).met = false
theorem RowOk.clean {N : Nand} {b : Nat} {m : Int} {l : List En} (h : RowOk N b m l) (hc : N.Calm) (hf : Fresh N b) : Clean N b (R.job b 0 m l) := by
  obtain ⟨F, p1, hin, _⟩ := h.facts
  exact ⟨hc, job_nodup F p1, hin, ⟨by omega, by have := h.blk; omega⟩, h.pages, fun x _ => by rw [Int.toNat_natCast]; exact hf _⟩
/-- a row that was written to a superblock where nothing was -/
theorem RowOk.write {N : Nand} {b : Nat} {m : Int} {l : List En} (h : RowOk N b m l) (hc : N.Calm) (hf : Fresh N b) :
    ∃ N', R.write N b 0 m l = (N', 0, 0) ∧ N'.Calm ∧ N.Like N' ∧ N'.broken = N.broken ∧ (∀ i j, j ≠ b → N'.blk i j = N.blk i j) ∧ OneRow N' b (rowF b m l fun _ => true) := by
  obtain ⟨F, p1, hin, hmm⟩ := h.facts
  obtain ⟨N', e, W⟩ := write_clean h.par (h.clean hc hf)
  have hsh := job_sh F h.data h.par
  have hrest : ∀ i, (∀ x ∈ R.job b 0 m l, x.1.toNat ≠ i) → (N'.blk i b).cells = [] := fun i hi => by
    rw [W.rest i b (.inr hi)]; exact (hf i).1
  have hC : CutRow N' b m l fun _ => true := by
    refine ⟨fun k x hk _ => ?_, fun k x hk hg => (by cases hg), fun i hi hno => ?_, fun _ _ _ => rfl⟩
    · have hx := List.mem_of_getElem? hk
      obtain ⟨s1, s2, s3, s4, s5, s6, s7⟩ := hsh x hx
      exact look_good W.calm.off (by rw [W.like.dies]; exact hin x hx) (W.calm.dead _) ⟨by omega, by rw [W.like.blocks]; have := h.blk; omega⟩ (by rw [W.like.pages]; exact h.pages) (W.cells x hx) s1 s2 s3 s4 s5 s6
    · refine look_empty ?_
      rw [Int.toNat_natCast, Int.toNat_natCast]
      exact hrest i fun x hx e => hno x hx (by have := hin x hx; omega)
  refine ⟨N', e, W.calm, W.like, W.broken, fun i j hj => W.rest i j (.inl (by rw [Int.toNat_natCast]; exact hj)), hC.all hmm p1 (by rw [W.like.dies]; exact hin), fun r hr d => look_blank ?_⟩
  rw [Int.toNat_natCast, Int.toNat_natCast, Int.toNat_natCast]
  by_cases hx : ∃ x ∈ R.job b 0 m l, x.1.toNat = d
  · obtain ⟨x, hx, rfl⟩ := hx
    have := W.cells x hx
    rw [Int.toNat_natCast] at this
    rw [this]
    simp only [List.length_cons, List.length_nil]
    omega
  · rw [hrest d fun x hx' e => hx ⟨x, hx', e⟩]
    exact Nat.zero_le _
/-- what a row's writing leaves be -/
theorem prog_rest (N : Nand) (x y z : Int) (pg : List UInt8) (i j : Nat) : (j ≠ y.toNat → (N.progN x y z pg).blk i j = N.blk i j) ∧ ((N.progN x y z pg).blk i j).met = (N.blk i j).met ∧ (N.plan = [] → (N.progN x y z pg).plan = []) ∧ (N.progN x y z pg).broken = (if N.refuses x y z = 0 ∧ z ≠ (N.blk x.toNat y.toNat).cells.length then N.broken + 1 else N.broken) := by
  have hpush : ∀ (M : Nand) (c : NCell), (j ≠ y.toNat → (M.push x.toNat y.toNat c).blk i j = M.blk i j) ∧ ((M.push x.toNat y.toNat c).blk i j).met = (M.blk i j).met := fun M c => by
    have e : (M.push x.toNat y.toNat c).blk i j = if i = x.toNat ∧ j = y.toNat then { M.blk x.toNat y.toNat with cells := (M.blk x.toNat y.toNat).cells ++ [c] } else M.blk i j := rfl
    rw [e]
    constructor
    · intro h; rw [if_neg (fun h' => h h'.2)]
    · split
      · rename_i h; rw [h.1, h.2]
      · rfl
  unfold Nand.progN
  by_cases h1 : N.refuses x y z ≠ 0
  · have hx : ¬ (N.refuses x y z = 0 ∧ z ≠ (N.blk x.toNat y.toNat).cells.length) := fun h => h1 h.1
    rw [if_pos h1, if_neg hx]
    exact ⟨fun _ => rfl, rfl, fun h => h, rfl⟩
  · rw [if_neg h1]
    have h1 : N.refuses x y z = 0 := by omega
    by_cases h2 : z ≠ (N.blk x.toNat y.toNat).cells.length
    · rw [if_pos h2, if_pos ⟨h1, h2⟩]
      exact ⟨fun _ => rfl, rfl, fun h => h, rfl⟩
    · have hx : ¬ (N.refuses x y z = 0 ∧ z ≠ (N.blk x.toNat y.toNat).cells.length) := fun h => h2 h.2
      rw [if_neg h2, if_neg hx]
      by_cases h3 : N.cutB = true
      · rw [if_pos h3]
        have := hpush N.cutN ⟨Nand.fillP N.keep.toNat pg, false, true⟩
        exact ⟨this.1, this.2, fun h => h, rfl⟩
      · rw [if_neg h3]
        have := hpush { N.cutN with plan := N.plan.erase (x, y, z) } ⟨pg, N.fails x y z, false⟩
        refine ⟨this.1, this.2, fun h => ?_, rfl⟩
        show N.plan.erase (x, y, z) = []
        rw [h]; rfl
theorem go_rest (b r : Int) : ∀ (q : List (Int × Sh)) (N : Nand) (f : Int) (i j : Nat), (j ≠ b.toNat → (R.go b r q N f).1.blk i j = N.blk i j) ∧ ((R.go b r q N f).1.blk i j).met = (N.blk i j).met ∧ (N.plan = [] → (R.go b r q N f).1.plan = [])
  | [], N, f, i, j => ⟨fun _ => rfl, rfl, fun h => h⟩
  | (d, s) :: q, N, f, i, j => by
    have hp := prog_rest N d b r (putP s) i j
    have key : ∀ f, (j ≠ b.toNat → (R.go b r q (N.progN d b r (putP s)) f).1.blk i j = N.blk i j) ∧ ((R.go b r q (N.progN d b r (putP s)) f).1.blk i j).met = (N.blk i j).met ∧ (N.plan = [] → (R.go b r q (N.progN d b r (putP s)) f).1.plan = []) := fun f => by
      have hg := go_rest b r q (N.progN d b r (putP s)) f i j
      exact ⟨fun h => (hg.1 h).trans (hp.1 h), hg.2.1.trans hp.2.1, fun h => hg.2.2 (hp.2.2.1 h)⟩
    rw [R.go]
    split
    · exact key f
    · split
      · exact ⟨hp.1, hp.2.1, hp.2.2.1⟩
      · exact key _
/-- a row within which power goes -/
theorem RowOk.cut {N : Nand} {b n K : Nat} {m : Int} {l : List En} (h : RowOk N b m l) (hD : N.Doom n) (hf : Fresh N b) (hkeep : N.keep.toNat = K) (hK : K < 28) :
    ∃ N', R.write N b 0 m l = (N', 0, if n ≤ l.length then 9 else 0) ∧ N.Like N' ∧ N'.onN.Calm ∧ (∀ i j, j ≠ b → N'.blk i j = N.blk i j) ∧ OneRow N'.onN b (rowF b m l fun k => decide (k < n)) := by
  obtain ⟨F, p1, hin, hmm⟩ := h.facts
  have hsh := job_sh F h.data h.par
  have hql : (R.job b 0 m l).length = l.length + 1 := by simp [R.job]
  have ready : Ready N b (R.job b 0 m l) := ⟨job_nodup F p1, hin, ⟨by omega, by have := h.blk; omega⟩, h.pages, fun x _ => by rw [Int.toNat_natCast]; exact hf _⟩
  obtain ⟨N', e, T⟩ := go_cut b (R.job b 0 m l) N n hD ready
  have hgr := fun i j => go_rest b 0 (R.job b 0 m l) N 0 i j
  rw [e] at hgr
  have hW : R.write N b 0 m l = (N', 0, if n ≤ l.length then 9 else 0) := by
    rw [R.write, if_pos h.par, e, hql]
    by_cases hn : n ≤ l.length
    · rw [if_pos hn, if_pos (by omega)]
    · rw [if_neg hn, if_neg (by omega)]
  have hcells := T.cells
  rw [hkeep] at hcells
  have hplan : N'.plan = [] := (hgr 0 0).2.2 hD.plan
  have hdies : N'.onN.dies = N.dies := T.like.dies
  have hbb : 0 ≤ (b : Int) ∧ (b : Int) < N'.onN.blocks := by
    have : N'.onN.blocks = N.blocks := T.like.blocks
    rw [this]; have := h.blk; omega
  have hpp : 0 < N'.onN.pages := by
    have : N'.onN.pages = N.pages := T.like.pages
    rw [this]; exact h.pages
  have hcalm : N'.onN.Calm := ⟨rfl, rfl, hplan, T.dead⟩
  refine ⟨N', hW, T.like, hcalm, fun i j hj => (hgr i j).1 (by rw [Int.toNat_natCast]; exact hj), ?_⟩
  have hcells : ∀ k x, (R.job b 0 m l)[k]? = some x → (N'.onN.blk x.1.toNat (b : Int).toNat).cells = cutC K n k x.2 := hcells
  have hrest : ∀ i : Nat, (∀ x ∈ R.job b 0 m l, x.1.toNat ≠ i) → (N'.onN.blk i b).cells = [] := fun i hi => (T.rest i hi).trans (by rw [Int.toNat_natCast]; exact (hf i).1)
  generalize N'.onN = N2 at hcalm hcells hrest hdies hbb hpp ⊢
  have hC : CutRow N2 b m l fun k => decide (k < n) := by
    refine ⟨fun k x hk hg => ?_, fun k x hk hg => ?_, fun i hi hno => ?_, fun hg k hk => ?_⟩
    · have hx := List.mem_of_getElem? hk
      obtain ⟨s1, s2, s3, s4, s5, s6, s7⟩ := hsh x hx
      have hc := hcells k x hk
      unfold cutC at hc
      rw [if_pos (of_decide_eq_true hg)] at hc
      exact look_good hcalm.off (by rw [hdies]; exact hin x hx) (hcalm.dead _) hbb hpp hc s1 s2 s3 s4 s5 s6
    · have hx := List.mem_of_getElem? hk
      obtain ⟨s1, s2, s3, s4, s5, s6, s7⟩ := hsh x hx
      have hc := hcells k x hk
      have hg := of_decide_eq_false hg
      unfold cutC at hc
      rw [if_neg hg] at hc
      by_cases hkn : k = n
      · rw [if_pos hkn] at hc
        intro h1
        have := (look_torn hcalm.off (by rw [hdies]; exact hin x hx) (hcalm.dead _) hbb hpp hc s1 s2 (by omega) h1).1
        omega
      · rw [if_neg hkn] at hc
        exact look_empty hc
    · refine look_empty ?_
      rw [Int.toNat_natCast, Int.toNat_natCast]
      exact hrest i fun x hx e => hno x hx (by have := hin x hx; omega)
    · have := of_decide_eq_true hg
      exact decide_eq_true (by omega)
  refine ⟨hC.all hmm p1 (by rw [hdies]; exact hin), fun r hr d => look_blank ?_⟩
  rw [Int.toNat_natCast, Int.toNat_natCast, Int.toNat_natCast]
  by_cases hx : ∃ x ∈ R.job b 0 m l, x.1.toNat = d
  · obtain ⟨x, hx, rfl⟩ := hx
    obtain ⟨k, hk⟩ := List.getElem?_of_mem hx
    have := hcells k x hk
    rw [Int.toNat_natCast] at this
    rw [this]
    unfold cutC
    split
    · simp only [List.length_cons, List.length_nil]; omega
    · split
      · simp only [List.length_cons, List.length_nil]; omega
      · exact Nat.zero_le _
  · rw [hrest d fun x hx' e => hx ⟨x, hx', e⟩]
    exact Nat.zero_le _
theorem Nand.Calm.same {N N' : Nand} (h : N.Calm) (h' : N'.Calm) (hl : N.Like N') {b : Nat} (hb : ∀ i, N'.blk i b = N.blk i b) : N.SameB N' b :=
  ⟨hl, h'.off.trans h.off.symm, fun i => (h'.dead i).trans (h.dead i).symm, fun i => by rw [hb]⟩
theorem Nand.Calm.doom {N : Nand} (h : N.Calm) (n : Nat) (k : Int) : (N.setCut n k).Doom n ∧ (N.setCut n k).keep = min (max k 0) 32 ∧ N.Like (N.setCut n k) ∧ ∀ i j, (N.setCut n k).blk i j = N.blk i j := by
  unfold Nand.setCut
  rw [h.off]
  rw [if_neg Bool.false_ne_true]
  refine ⟨⟨?_, ?_, rfl, h.plan, h.dead⟩, rfl, ⟨rfl, rfl, rfl⟩, fun _ _ => rfl⟩
  · show decide ((n : Int) < 0) = false
    exact decide_eq_false (by omega)
  · show decide ((0 : Int) ≤ (n : Int)) = true
    exact decide_eq_true (by omega)
theorem Nand.Calm.on {N : Nand} (h : N.Calm) : N.onN.Calm ∧ N.Like N.onN ∧ ∀ i j, N.onN.blk i j = N.blk i j := ⟨⟨rfl, rfl, h.plan, h.dead⟩, ⟨rfl, rfl, rfl⟩, fun _ _ => rfl⟩
namespace V
/-- a scan's second half, where each torn one is its block's last -/
def stepT (L : List Fnd) (s : Sst) (k : Nat) : Sst :=
  if (standOf (of L k)).2 = true then
    if (standOf (of L k)).1.whole = true then { s with tb := s.tb.put (standOf (of L k)).1.en (standOf (of L k)).1.block (standOf (of L k)).1.row (standOf (of L k)).1.slot (standOf (of L k)).1.mask }
    else ⟨s.tb.put (standOf (of L k)).1.en (standOf (of L k)).1.block (standOf (of L k)).1.row (standOf (of L k)).1.slot (standOf (of L k)).1.mask, s.torn ++ [(standOf (of L k)).1.en], s.held ++ holds (of L k), s.others⟩
  else s
def goT (L : List Fnd) (n : Int) (k : Nat) : Sst := (List.range k).foldl (stepT L) ⟨Tb.new n, [], [], []⟩
theorem goT_same {N : Nand} {L : List Fnd} (h : ∀ f ∈ L, f.whole = false → last N f = true) (n : Int) (k : Nat) : goS N L n k = goT L n k := by
  have hs : step N L = stepT L := by
    funext s k
    unfold step stepT
    split
    · rename_i h2
      split
      · rfl
      · rename_i h3
        have hm : (standOf (of L k)).1 ∈ L := (List.mem_filter.1 (standOf_mem h2)).1
        rw [if_pos (h _ hm (by simpa using h3))]
    · rfl
  unfold goS goT
  rw [hs]
/-- a torn row that is the last of its superblock, on a calm flash -/
theorem last_one {N : Nand} {b : Nat} {F : List Fnd} (hN : N.Calm) (h : OneRow N b F) (hb : b < N.blocks) (hp : 0 < N.pages) {f : Fnd} (hf : f.block = b) (hr : f.row = 0) (hd : 0 ≤ G.parity f.mask b 0 ∧ G.parity f.mask b 0 < N.dies) : last N f = true := by
  unfold last
  rw [hr, hf, Bool.and_eq_true]
  refine ⟨?_, ?_⟩
  · rw [List.all_eq_true]
    intro r _
    rw [Bool.or_eq_true]
    by_cases h0 : r = 0
    · left; rw [h0]; rfl
    · right
      unfold blankRow
      rw [List.all_eq_true]
      intro x hx
      unfold M.rowN at hx
      obtain ⟨d, _, rfl⟩ := List.mem_map.1 hx
      rcases h.blank r (by omega) d with e | e <;> rw [e] <;> rfl
  · have := look_ne4 (N := N) (d := G.parity f.mask b 0) (b := b) (r := 0) (hN.refuses (Nand.geoIn_of hd ⟨by omega, by omega⟩ ⟨by omega, by omega⟩))
    simpa using this
end V
end Go.Proofs.YtoideahgjgaddaaGreat
/- Plain laws: versions of one page over many superblocks: the newest one stands. No program in sight. -/
namespace Go.Proofs.YtoideahgjgaddaaGreat
open Go
/-- an entry of a page -/
def u8 (x : Int) : UInt8 := UInt8.ofNat (x % 256).toNat
def enE (k s : Int) : En := ⟨k, s, 1, [u8 k, u8 s, 0, 0, 0, 0, 0, 0, 0, 0, 0, 0, 0, 0, 0, 0]⟩
def padE : En := ⟨0, 0, 3, zeros16⟩
/-- with pads behind them -/
def padL (n : Nat) (l : List En) : List En := l ++ List.replicate (n - l.length) padE
theorem padL_len {n : Nat} {l : List En} (h : l.length ≤ n) : (padL n l).length = n := by
  unfold padL; rw [List.length_append, List.length_replicate]; omega
def geoAll (D b : Nat) : Bool := (!(decide (3 ≤ D))) || (decide (2 ≤ L.count (mAll D)) && G.slots (mAll D) == (D : Int) - 1 && decide (0 ≤ G.parity (mAll D) b 0) && decide (G.parity (mAll D) b 0 < D))
theorem geoAll_all : ∀ D, D < 7 → ∀ b, b < 16 → geoAll D b = true := by decide +kernel
theorem all_facts {D b : Nat} (h : 3 ≤ D ∧ D ≤ 6) (hb : b < 16) : 2 ≤ L.count (mAll D) ∧ G.slots (mAll D) = (D : Int) - 1 ∧ 0 ≤ G.parity (mAll D) b 0 ∧ G.parity (mAll D) b 0 < D := by
  have := geoAll_all D (by omega) b hb
  unfold geoAll at this
  rw [decide_eq_true h.1] at this
  simp only [Bool.not_true, Bool.false_or, Bool.and_eq_true, decide_eq_true_eq, beq_iff_eq] at this
  exact ⟨this.1.1.1, this.1.1.2, this.1.2, this.2⟩
theorem mAll_bd (D : Nat) : 0 ≤ mAll D ∧ mAll D < 2 ^ D := by
  unfold mAll
  have h : 1 ≤ 2 ^ D := Nat.one_le_two_pow
  have e : ((2 ^ D : Nat) : Int) = 2 ^ D := by simp
  rw [← e]
  omega
/-- entries that may lie in a row -/
def FitE (e : En) : Prop := (0 ≤ e.lpn ∧ e.lpn ≤ 65535) ∧ (0 ≤ e.seq ∧ e.seq ≤ 1099511627775) ∧ (e.role = 1 ∨ e = padE) ∧ e.data.length = 16
theorem FitE.ok {b : Nat} {m : Int} {e : En} (h : FitE e) (hb : b < 16) (hm : 2 ≤ L.count m) : W.ok b 0 m e = true := by
  obtain ⟨h1, h2, h3, h4⟩ := h
  have h5 : S.entry (W.sh b 0 m e) = true := by
    rcases h3 with h3 | h3
    · unfold S.entry
      rw [if_pos (show (W.sh b 0 m e).role = 1 from h3)]
    · rw [h3]; rfl
  have h6 : 0 ≤ e.role ∧ e.role ≤ 255 := by
    rcases h3 with h3 | h3
    · omega
    · rw [h3]; decide
  have h7 : S.place (W.sh b 0 m e) = true := by
    unfold S.place S.inB
    rw [decide_eq_true (show 2 ≤ L.count (W.sh b 0 m e).mask from hm), decide_eq_true (show 0 ≤ (W.sh b 0 m e).block from Int.natCast_nonneg b), decide_eq_true (show (W.sh b 0 m e).block ≤ 15 from by show (b : Int) ≤ 15; omega)]
    rfl
  have h8 : S.numbers (W.sh b 0 m e) = true := by
    unfold S.numbers S.inB
    rw [decide_eq_true (show 0 ≤ (W.sh b 0 m e).seq from h2.1), decide_eq_true (show (W.sh b 0 m e).seq ≤ 1099511627775 from h2.2), decide_eq_true (show 0 ≤ (W.sh b 0 m e).lpn from h1.1), decide_eq_true (show (W.sh b 0 m e).lpn ≤ 65535 from h1.2), decide_eq_true (show 0 ≤ (W.sh b 0 m e).role from h6.1), decide_eq_true (show (W.sh b 0 m e).role ≤ 255 from h6.2)]
    rfl
  unfold W.ok S.may
  rw [h5, h7, h8]
  rfl
theorem FitE.pad : FitE padE := ⟨by decide, by decide, .inr rfl, rfl⟩
theorem FitE.mk' {k s : Int} (h1 : 0 ≤ k ∧ k ≤ 65535) (h2 : 0 ≤ s ∧ s ≤ 1099511627775) : FitE (enE k s) := ⟨h1, h2, .inl rfl, rfl⟩
theorem padL_fit {n : Nat} {l : List En} (h : ∀ e ∈ l, FitE e) : ∀ e ∈ padL n l, FitE e := by
  intro e he
  rcases List.mem_append.1 he with he | he
  · exact h e he
  · rw [List.eq_of_mem_replicate he]; exact FitE.pad
theorem two_fit {a b : En} (ha : FitE a) (hb : FitE b) : ∀ e ∈ [a, b], FitE e := by
  intro e he
  simp only [List.mem_cons, List.not_mem_nil, or_false] at he
  rcases he with rfl | rfl
  · exact ha
  · exact hb
theorem one_fit {a : En} (ha : FitE a) : ∀ e ∈ [a], FitE e := by
  intro e he
  simp only [List.mem_singleton] at he
  rw [he]; exact ha
/-- a whole row over all dies -/
theorem rowOk_all {N : Nand} {b : Nat} {l : List En} (hD : 3 ≤ N.dies ∧ N.dies ≤ 6) (hB : N.blocks ≤ 16) (hb : b < N.blocks) (hp : 0 < N.pages) (hl : ∀ e ∈ l, FitE e) (hlen : l.length ≤ N.dies - 1) : RowOk N b (mAll N.dies) (padL (N.dies - 1) l) := by
  obtain ⟨f1, f2, f3, f4⟩ := all_facts hD (show b < 16 by omega)
  have hf := padL_fit (n := N.dies - 1) hl
  refine ⟨hD.2, hb, hp, mAll_bd _, fun s hs => (hf s hs).2.2.2, ?_⟩
  unfold W.parB
  rw [padL_len hlen, f2, Bool.and_eq_true, Bool.and_eq_true]
  refine ⟨⟨decide_eq_true (by omega), ?_⟩, List.all_eq_true.2 fun e he => (hf e he).ok (by omega) f1⟩
  have : (padL (N.dies - 1) l).length = N.dies - 1 := padL_len hlen
  cases hx : padL (N.dies - 1) l with
  | nil => rw [hx] at this; simp at this; omega
  | cons x y => rfl
/-- versions of one page -/
def nwN (N : Nand) (f : Nat → Int) : Nat → Nand
  | 0 => N
  | i + 1 => (R.write (nwN N f i) (i : Nat) 0 (mAll N.dies) (padL (N.dies - 1) [enE 2 (f i)])).1
def nwF (D : Nat) (f : Nat → Int) (i : Nat) : Fnd := ⟨enE 2 (f i), i, 0, 0, mAll D, true, false⟩
theorem nw_row {D : Nat} (hD : 3 ≤ D ∧ D ≤ 6) (f : Nat → Int) (i : Nat) : rowF i (mAll D) (padL (D - 1) [enE 2 (f i)]) (fun _ => true) = [nwF D f i] := by
  have : D = 3 ∨ D = 4 ∨ D = 5 ∨ D = 6 := by omega
  rcases this with rfl | rfl | rfl | rfl <;> rfl
structure NwI (N0 : Nand) (f : Nat → Int) (i : Nat) (N : Nand) : Prop where
  calm : N.Calm
  like : N0.Like N
  fresh : ∀ b, i ≤ b → Fresh N b
  rows : ∀ b, b < i → OneRow N b [nwF N0.dies f b]
theorem nw_inv {N0 : Nand} (hc : N0.Calm) (hf : ∀ b, Fresh N0 b) (hD : 3 ≤ N0.dies ∧ N0.dies ≤ 6) (hB : N0.blocks ≤ 16) (hp : 0 < N0.pages) (f : Nat → Int) (hs : ∀ i, 0 ≤ f i ∧ f i ≤ 1099511627775) : ∀ i, i ≤ N0.blocks → NwI N0 f i (nwN N0 f i) ∧ (i < N0.blocks → (R.write (nwN N0 f i) (i : Nat) 0 (mAll N0.dies) (padL (N0.dies - 1) [enE 2 (f i)])).2.2 = 0)
  | 0, h => by
    have hI : NwI N0 f 0 N0 := ⟨hc, Nand.Like.refl _, fun b _ => hf b, fun b hb => by omega⟩
    refine ⟨hI, fun hi => ?_⟩
    have hr : RowOk N0 0 (mAll N0.dies) (padL (N0.dies - 1) [enE 2 (f 0)]) := rowOk_all hD hB hi hp (fun e he => by simp only [List.mem_singleton] at he; rw [he]; exact FitE.mk' (by decide) (hs 0)) (by simp; omega)
    obtain ⟨N', e, _⟩ := hr.write hc (hf 0)
    have e0 : nwN N0 f 0 = N0 := rfl
    rw [e0, e]
  | i + 1, h => by
    obtain ⟨ih, _⟩ := nw_inv hc hf hD hB hp f hs i (by omega)
    have hrow : ∀ (M : Nand) (j : Nat), N0.Like M → j < N0.blocks → RowOk M j (mAll N0.dies) (padL (N0.dies - 1) [enE 2 (f j)]) := fun M j hl hj => by
      have := rowOk_all (N := M) (b := j) (l := [enE 2 (f j)]) (by rw [hl.dies]; exact hD) (by rw [hl.blocks]; exact hB) (by rw [hl.blocks]; exact hj) (by rw [hl.pages]; exact hp) (fun e he => by simp only [List.mem_singleton] at he; rw [he]; exact FitE.mk' (by decide) (hs j)) (by rw [hl.dies]; simp; omega)
      rwa [hl.dies] at this
    obtain ⟨N', e, c', l', _, r', o'⟩ := (hrow (nwN N0 f i) i ih.like (by omega)).write ih.calm (ih.fresh i (Nat.le_refl _))
    have hN : nwN N0 f (i + 1) = N' := by
      show (R.write (nwN N0 f i) (i : Nat) 0 (mAll N0.dies) _).1 = N'
      rw [e]
    have hI : NwI N0 f (i + 1) N' := by
      refine ⟨c', ih.like.trans l', fun b hb => fun k => ?_, fun b hb => ?_⟩
      · rw [r' k b (by omega)]
        exact ih.fresh b (by omega) k
      · by_cases hbi : b = i
        · subst hbi
          rw [nw_row hD f b] at o'
          exact o'
        · exact (ih.rows b (by omega)).same (ih.calm.same c' l' fun k => r' k b hbi)
    rw [hN]
    refine ⟨hI, fun hi => ?_⟩
    obtain ⟨N'', e2, _⟩ := (hrow N' (i + 1) hI.like hi).write hI.calm (hI.fresh (i + 1) (Nat.le_refl _))
    rw [e2]
theorem flat_some (F : Nat → Fnd) (n : Nat) : ∀ B, n ≤ B → ((List.range B).flatMap fun b => if b < n then [F b] else []) = (List.range n).map F := by
  intro B
  induction B with
  | zero => intro h; obtain rfl : n = 0 := by omega
            rfl
  | succ B ih =>
    intro h
    rw [List.range_succ, List.flatMap_append, List.flatMap_cons, List.flatMap_nil, List.append_nil]
    by_cases hn : n = B + 1
    · subst hn
      rw [if_pos (by omega), List.range_succ, List.map_append]
      congr 1
      have : ∀ k, k ≤ B → ((List.range k).flatMap fun b => if b < B + 1 then [F b] else []) = (List.range k).map F := by
        intro k
        induction k with
        | zero => intro _; rfl
        | succ k ihk => intro hk; rw [List.range_succ, List.flatMap_append, List.map_append, ihk (by omega), List.flatMap_cons, List.flatMap_nil, List.append_nil, if_pos (by omega)]; rfl
      exact this B (Nat.le_refl _)
    · rw [if_neg (by omega), List.append_nil]
      exact ih (by omega)
theorem nw_all {N0 : Nand} {f : Nat → Int} {n : Nat} {N : Nand} (h : NwI N0 f n N) (hn : n ≤ N0.blocks) (hp : 0 < N0.pages) : V.all N = (List.range n).map (nwF N0.dies f) := by
  rw [all_rows (fun b => if b < n then [nwF N0.dies f b] else []) (by rw [h.like.pages]; exact hp) fun b hb => ?_, flat_some _ _ _ (by rw [h.like.blocks]; exact hn)]
  by_cases hbn : b < n
  · simp only [if_pos hbn]; exact h.rows b hbn
  · simp only [if_neg hbn]; exact one_empty fun i => (h.fresh b (by omega) i).1
/-- the newest one, where it lies -/
def nwTop (f : Nat → Int) : Nat → Int × Int
  | 0 => (0, 0)
  | i + 1 => if f i > (nwTop f i).1 then (f i, (i : Nat)) else nwTop f i
theorem nw_top {D : Nat} {f : Nat → Int} (hs : ∀ i, 1 ≤ f i) : ∀ n, 0 ≤ (nwTop f n).1 ∧ V.nextOf ((List.range n).map (nwF D f)) = (nwTop f n).1 + 1 ∧
    (if n = 0 then (nwTop f n).1 = 0 ∧ V.standOf ((List.range n).map (nwF D f)) = (Fnd.zero, false) else 0 < (nwTop f n).1 ∧ V.standOf ((List.range n).map (nwF D f)) = (⟨enE 2 (nwTop f n).1, (nwTop f n).2, 0, 0, mAll D, true, false⟩, true))
  | 0 => ⟨Int.le_refl _, rfl, by rw [if_pos rfl]; exact ⟨rfl, rfl⟩⟩
  | n + 1 => by
    obtain ⟨h0, h1, h2⟩ := nw_top (D := D) hs n
    have hn := hs n
    rw [List.range_succ, List.map_append, List.map_cons, List.map_nil, V.nextOf_snoc, V.standOf_snoc, h1, if_neg (by omega)]
    show 0 ≤ (if f n > (nwTop f n).1 then (f n, ((n : Nat) : Int)) else nwTop f n).1 ∧ max ((nwTop f n).1 + 1) (f n + 1) = (if f n > (nwTop f n).1 then (f n, ((n : Nat) : Int)) else nwTop f n).1 + 1 ∧ 0 < (if f n > (nwTop f n).1 then (f n, ((n : Nat) : Int)) else nwTop f n).1 ∧ _ = ((⟨enE 2 (if f n > (nwTop f n).1 then (f n, ((n : Nat) : Int)) else nwTop f n).1, (if f n > (nwTop f n).1 then (f n, ((n : Nat) : Int)) else nwTop f n).2, 0, 0, mAll D, true, false⟩ : Fnd), true)
    by_cases hz : n = 0
    · rw [if_pos hz] at h2
      obtain ⟨h3, h4⟩ := h2
      rw [h4, if_pos (Or.inl rfl), if_pos (by omega)]
      subst hz
      refine ⟨by omega, by dsimp only; omega, by dsimp only; omega, rfl⟩
    · rw [if_neg hz] at h2
      obtain ⟨h3, h4⟩ := h2
      rw [h4]
      have hb : V.behind (⟨enE 2 (nwTop f n).1, (nwTop f n).2, 0, 0, mAll D, true, false⟩ : Fnd) (nwF D f n) = decide ((nwTop f n).1 < f n) := V.behind_whole rfl rfl
      have hc : (((⟨enE 2 (nwTop f n).1, (nwTop f n).2, 0, 0, mAll D, true, false⟩ : Fnd), true).2 = false ∨ V.behind ((⟨enE 2 (nwTop f n).1, (nwTop f n).2, 0, 0, mAll D, true, false⟩ : Fnd), true).1 (nwF D f n) = true) ↔ f n > (nwTop f n).1 := by
        rw [show V.behind ((⟨enE 2 (nwTop f n).1, (nwTop f n).2, 0, 0, mAll D, true, false⟩ : Fnd), true).1 (nwF D f n) = decide ((nwTop f n).1 < f n) from hb, decide_eq_true_eq]
        constructor
        · rintro (h | h)
          · cases h
          · exact h
        · exact fun h => Or.inr h
      by_cases hlt : f n > (nwTop f n).1
      · rw [if_pos (hc.2 hlt), if_pos hlt]
        exact ⟨by omega, by dsimp only; omega, by dsimp only; omega, rfl⟩
      · rw [if_neg (fun h => hlt (hc.1 h)), if_neg hlt]
        exact ⟨by omega, by omega, by omega, rfl⟩
theorem nw_of {D : Nat} {f : Nat → Int} (n : Nat) (k : Int) : V.of ((List.range n).map (nwF D f)) k = if k = 2 then (List.range n).map (nwF D f) else [] := by
  unfold V.of
  by_cases h : k = 2
  · rw [if_pos h, List.filter_eq_self]
    intro x hx
    obtain ⟨i, _, rfl⟩ := List.mem_map.1 hx
    rw [h]; rfl
  · rw [if_neg h, List.filter_eq_nil_iff]
    intro x hx
    obtain ⟨i, _, rfl⟩ := List.mem_map.1 hx
    show ¬ (((2 : Int) == k) = true)
    rw [beq_iff_eq]; omega
/-- the sentence, plain -/
theorem nw_law {N0 : Nand} {f : Nat → Int} {n : Nat} {N : Nand} (h : NwI N0 f n N) (hn : n ≤ N0.blocks) (hp : 0 < N0.pages) (hs : ∀ i, 1 ≤ f i) :
    (V.scan N 5).next = (nwTop f n).1 + 1 ∧ (V.scan N 5).torn = [] ∧ (V.scan N 5).held = [] ∧
    Tb.look (V.scan N 5).tb.at_ 2 = if n = 0 then none else some ⟨(nwTop f n).2, 0, 0, mAll N0.dies, (nwTop f n).1, 1⟩ := by
  have hL := nw_all h hn hp
  obtain ⟨t0, t1, t2⟩ := nw_top (D := N0.dies) hs n
  have hsz : V.size 5 = 5 := rfl
  have hw : ∀ g ∈ V.all N, g.whole = false → V.last N g = true := fun g hg => by
    rw [hL] at hg
    obtain ⟨i, _, rfl⟩ := List.mem_map.1 hg
    intro h; cases h
  unfold V.scan V.scanOf
  rw [V.goT_same hw, hsz]
  rw [hL]
  have hof := nw_of (D := N0.dies) (f := f) n
  have e0 : ∀ (s : Sst) (k : Nat), k ≠ 2 → V.stepT ((List.range n).map (nwF N0.dies f)) s k = s := fun s k hk => by
    have h0 : V.of ((List.range n).map (nwF N0.dies f)) (k : Int) = [] := by rw [hof, if_neg (show ¬ ((k : Int) = 2) by omega)]
    unfold V.stepT
    rw [h0]
    rfl
  have hgo : V.goT ((List.range n).map (nwF N0.dies f)) 5 5 = V.stepT ((List.range n).map (nwF N0.dies f)) ⟨Tb.new 5, [], [], []⟩ 2 := by
    show V.stepT _ (V.stepT _ (V.stepT _ (V.stepT _ (V.stepT _ _ 0) 1) 2) 3) 4 = _
    rw [e0 _ 4 (by decide), e0 _ 3 (by decide), e0 _ 1 (by decide), e0 _ 0 (by decide)]
  have h2 : V.of ((List.range n).map (nwF N0.dies f)) ((2 : Nat) : Int) = (List.range n).map (nwF N0.dies f) := by rw [hof]; rfl
  have hst : V.stepT ((List.range n).map (nwF N0.dies f)) ⟨Tb.new 5, [], [], []⟩ 2 = if n = 0 then ⟨Tb.new 5, [], [], []⟩ else ⟨(Tb.new 5).put (enE 2 (nwTop f n).1) (nwTop f n).2 0 0 (mAll N0.dies), [], [], []⟩ := by
    unfold V.stepT
    rw [h2]
    by_cases hz : n = 0
    · rw [if_pos hz] at t2
      rw [t2.2, if_pos hz]
      rfl
    · rw [if_neg hz] at t2
      rw [t2.2, if_neg hz]
      rfl
  rw [hgo, hst]
  refine ⟨t1, ?_⟩
  by_cases hz : n = 0
  · rw [if_pos hz, if_pos hz]
    exact ⟨rfl, normI_nil, rfl⟩
  · rw [if_neg hz, if_neg hz]
    exact ⟨rfl, normI_nil, rfl⟩
end Go.Proofs.YtoideahgjgaddaaGreat
