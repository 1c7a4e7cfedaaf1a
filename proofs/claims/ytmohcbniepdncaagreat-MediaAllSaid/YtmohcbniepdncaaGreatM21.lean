/- Helpers of the proofs about ostrakonlaw11, proved here: PlC, PlD, PlE, RfA, RfB. No condition. -/
import Derived.Test.YtmohcbniepdncaaGreatM06
import Derived.Test.YtmohcbniepdncaaGreatM14
import Derived.Test.YtmohcbniepdncaaGreatM15
import Derived.Test.YtmohcbniepdncaaGreatM17
import Derived.Test.YtmohcbniepdncaaGreatM19
set_option linter.unusedVariables false
set_option linter.unusedSimpArgs false
set_option linter.unusedSectionVars false
set_option linter.unnecessarySimpa false
namespace Go.Proofs.YtmohcbniepdncaaGreat
open Go
theorem Bt.numAt_congr {a b : List UInt8} {k : Nat} : ∀ w, (∀ i, i < w → Bt.bitAt a (k + i) = Bt.bitAt b (k + i)) → Bt.numAt a k w = Bt.numAt b k w
  | 0, _ => rfl
  | w + 1, h => by rw [Bt.numAt, Bt.numAt, Bt.numAt_congr w (fun i hi => h i (by omega)), h w (by omega)]
/-- a page of which so many bytes were written -/
theorem fill_get (K : Nat) (p : List UInt8) (hp : p.length = 32) (hK : K ≤ 32) (i : Nat) : (Nand.fillP K p).getD i 0 = if i < K then p.getD i 0 else if i < 32 then 255 else 0 := by
  unfold Nand.fillP
  simp only [List.getD_eq_getElem?_getD]
  rw [List.getElem?_append, List.length_take, hp]
  by_cases h : i < K
  · rw [if_pos (by omega), if_pos h, List.getElem?_take, if_pos h]
  · rw [if_neg (by omega), if_neg h]
    by_cases h2 : i < 32
    · rw [if_pos h2, List.getElem?_replicate, if_pos (by omega)]; rfl
    · rw [if_neg h2, List.getElem?_replicate, if_neg (by omega)]; rfl
theorem fill_len (K : Nat) (p : List UInt8) (hp : p.length = 32) (hK : K ≤ 32) : (Nand.fillP K p).length = 32 := by simp [Nand.fillP, hp]; omega
theorem drop_getD (p : List UInt8) (k i : Nat) : (p.drop k).getD i 0 = p.getD (k + i) 0 := by
  simp [List.getD_eq_getElem?_getD]
theorem torn_kind (K : Nat) (p : List UInt8) (hp : p.length = 32) (hK : K < 28) : (S.fields (Nand.fillP K p)).kind = 255 := by
  show ((Bt.numAt ((Nand.fillP K p).drop 16) 88 8 : Nat) : Int) = 255
  rw [Bt.numAt_eq _ 88 8 255 (fun i hi => ?_) 8 (Nat.le_refl 8)]
  · rfl
  · unfold Bt.bitAt
    rw [show (88 + i) / 8 = 11 from by omega, drop_getD, fill_get K p hp (by omega), if_neg (by omega), if_pos (by omega), show 7 - (88 + i) % 8 = 8 - 1 - i from by omega]
    rfl
theorem torn_fields (K : Nat) (p : List UInt8) (hp : p.length = 32) (hK : 28 ≤ K) (hK2 : K ≤ 32) : S.fields (Nand.fillP K p) = S.fields p := by
  have hb : ∀ j, j < 96 → Bt.bitAt ((Nand.fillP K p).drop 16) j = Bt.bitAt (p.drop 16) j := fun j hj => by
    unfold Bt.bitAt
    rw [drop_getD, drop_getD, fill_get K p hp hK2, if_pos (by omega)]
  have h16 : (Nand.fillP K p).take 16 = p.take 16 := by
    unfold Nand.fillP
    rw [List.take_append_of_le_length (by rw [List.length_take, hp]; omega), List.take_take, Nat.min_eq_left (by omega)]
  unfold S.fields
  simp only [h16, Bt.numAt_congr (a := (Nand.fillP K p).drop 16) (b := p.drop 16) (k := 0) 64 (fun i hi => hb _ (by omega)), Bt.numAt_congr (a := (Nand.fillP K p).drop 16) (b := p.drop 16) (k := 88) 8 (fun i hi => hb _ (by omega)),
    Bt.numAt_congr (a := (Nand.fillP K p).drop 16) (b := p.drop 16) (k := 64) 8 (fun i hi => hb _ (by omega)), Bt.numAt_congr (a := (Nand.fillP K p).drop 16) (b := p.drop 16) (k := 72) 8 (fun i hi => hb _ (by omega)), Bt.numAt_congr (a := (Nand.fillP K p).drop 16) (b := p.drop 16) (k := 80) 8 (fun i hi => hb _ (by omega))]
/-- a look at a page of which so many bytes were written -/
theorem look_torn {N : Nand} (hoff : N.off = false) {d b : Int} (hd : 0 ≤ d ∧ d < N.dies) (hdd : N.dead.getD d.toNat false = false) (hb : 0 ≤ b ∧ b < N.blocks) (hp : 0 < N.pages) {s : Sh} {t : Bool} {K : Nat} {rst : List NCell} (hc : (N.blk d.toNat b.toNat).cells = ⟨Nand.fillP K (putP s), false, t⟩ :: rst)
    (hs : s.data.length = 16) (hm : S.may s = true) (hK : K ≤ 32) (hg : (M.look N d b 0).2 = 1) : 28 ≤ K ∧ (M.look N d b 0).1 = s := by
  have hr : N.refuses d b 0 = 0 := by
    unfold Nand.refuses
    rw [hoff, Nand.geoIn_of hd hb ⟨by omega, by omega⟩, hdd]; simp
  have hpa : N.pageAt d b 0 = some ⟨Nand.fillP K (putP s), false, t⟩ := by unfold Nand.pageAt; rw [hc]; rfl
  have hput : putP s = S.put s := by unfold putP; rw [if_pos hm]
  have hpl : (S.put s).length = 32 := S.length_put s hs
  have e1 : N.readE d b 0 = 0 := by unfold Nand.readE; rw [if_neg (by simp [hr]), hpa]; rfl
  have e2 : N.readV d b 0 = Nand.fillP K (S.put s) := by unfold Nand.readV; rw [if_neg (by simp [hr]), hpa]; simpa using congrArg (Nand.fillP K) hput
  unfold M.look at hg ⊢
  simp only at hg ⊢
  rw [if_pos e1, e2] at hg ⊢
  split at hg
  · cases hg
  · rename_i hcond
    rw [if_neg hcond]
    have hE : S.getE (Nand.fillP K (S.put s)) = 0 := by
      by_cases h : S.getE (Nand.fillP K (S.put s)) = 0
      · exact h
      · exact absurd (.inl h) hcond
    have hsome : (S.get (Nand.fillP K (S.put s))).isSome = true := by
      unfold S.getE at hE
      split at hE
      · assumption
      · cases hE
    unfold S.get at hsome
    split at hsome
    · rename_i hmay
      have hk28 : 28 ≤ K := by
        by_cases h : 28 ≤ K
        · exact h
        · have h1 := torn_kind K (S.put s) hpl (by omega)
          have h2 := S.may_bounds _ hmay.1
          omega
      refine ⟨hk28, ?_⟩
      show S.getV _ = s
      unfold S.getV S.get
      rw [if_pos hmay, torn_fields K _ hpl hk28 hK, S.fields_put s hs hm]
      rfl
    · cases hsome
namespace Nand
/-- power goes at operation n -/
structure Doom (N : Nand) (n : Nat) : Prop where
  off : N.off = false
  cuts : N.cuts = true
  left : N.left = (n : Int)
  plan : N.plan = []
  dead : ∀ i, N.dead.getD i false = false
variable {N : Nand} {n : Nat}
theorem Doom.refuses (h : N.Doom n) {x y z : Int} (hg : geoIn N.dies N.blocks N.pages x y z = true) : N.refuses x y z = 0 := by
  unfold Nand.refuses
  rw [h.off, hg, h.dead]; simp
theorem Doom.cutB (h : N.Doom n) : N.cutB = decide (n = 0) := by
  unfold Nand.cutB
  rw [h.cuts, h.left]
  by_cases h0 : n = 0
  · subst h0; rfl
  · rw [decide_eq_false h0, decide_eq_false (by omega)]; rfl
end Nand
/-- what a die's page has -/
def cutC (K n k : Nat) (s : Sh) : List NCell := if k < n then [⟨putP s, false, false⟩] else if k = n then [⟨Nand.fillP K (putP s), false, true⟩] else []
structure Ready (N : Nand) (b : Int) (q : List (Int × Sh)) : Prop where
  nodup : (q.map (·.1)).Nodup
  inn : ∀ x ∈ q, 0 ≤ x.1 ∧ x.1 < N.dies
  blk : 0 ≤ b ∧ b < N.blocks
  pages : 0 < N.pages
  cells : ∀ x ∈ q, (N.blk x.1.toNat b.toNat).cells = [] ∧ (N.blk x.1.toNat b.toNat).met = false
structure Torn (N N' : Nand) (b : Int) (q : List (Int × Sh)) (n : Nat) : Prop where
  off : N'.off = decide (n < q.length)
  dead : ∀ i, N'.dead.getD i false = false
  like : N.Like N'
  cells : ∀ k x, q[k]? = some x → (N'.blk x.1.toNat b.toNat).cells = cutC N.keep.toNat n k x.2
  rest : ∀ i, (∀ x ∈ q, x.1.toNat ≠ i) → (N'.blk i b.toNat).cells = (N.blk i b.toNat).cells
theorem go_cut (b : Int) : ∀ (q : List (Int × Sh)) (N : Nand) (n : Nat), N.Doom n → Ready N b q → ∃ N', R.go b 0 q N 0 = (N', 0, if n < q.length then 9 else 0) ∧ Torn N N' b q n
  | [], N, n, h, _ => ⟨N, rfl, by rw [h.off]; rfl, h.dead, Nand.Like.refl N, by simp, fun _ _ => rfl⟩
  | (d, s) :: q, N, n, h, hr => by
    have hx := hr.inn (d, s) (by simp)
    have hc := hr.cells (d, s) (by simp)
    have hrf := h.refuses (x := d) (y := b) (z := 0) (Nand.geoIn_of hx hr.blk ⟨by omega, by have := hr.pages; omega⟩)
    have hz : (0 : Int) = (N.blk d.toNat b.toNat).cells.length := by rw [hc.1]; rfl
    have hnd := List.nodup_cons.1 hr.nodup
    have hne : ∀ x ∈ q, x.1.toNat ≠ d.toNat := fun x hxq e => by
      have := hr.inn x (by simp [hxq])
      exact hnd.1 (List.mem_map.2 ⟨x, hxq, by show x.1 = d; omega⟩)
    cases n with
    | zero =>
      have hcb : N.cutB = true := h.cutB
      have e1 := progE_cut hrf hz hcb
      have e2 : N.progN d b 0 (putP s) = N.cutN.push d.toNat b.toNat ⟨Nand.fillP N.keep.toNat (putP s), false, true⟩ := by
        unfold Nand.progN
        rw [if_neg (by simp [hrf]), if_neg (by simp [← hz]), if_pos hcb]
      generalize hN1 : N.cutN.push d.toNat b.toNat ⟨Nand.fillP N.keep.toNat (putP s), false, true⟩ = N1 at e2
      have hb : ∀ i j, N1.blk i j = if i = d.toNat ∧ j = b.toNat then { N.blk d.toNat b.toNat with cells := (N.blk d.toNat b.toNat).cells ++ [⟨Nand.fillP N.keep.toNat (putP s), false, true⟩] } else N.blk i j := fun i j => by rw [← hN1]; rfl
      refine ⟨N1, by rw [R.go, if_neg (by rw [e1]; decide), if_pos e1, e2]; rfl, ?_, ?_, ?_, fun k x hk => ?_, fun i hi => ?_⟩
      · rw [← hN1]
        show (if N.cutB then true else N.off) = _
        rw [hcb]; simp
      · rw [← hN1]; exact h.dead
      · rw [← hN1]; exact ⟨rfl, rfl, rfl⟩
      · cases k with
        | zero =>
          simp at hk; subst hk
          rw [hb, if_pos ⟨rfl, rfl⟩]
          show (N.blk d.toNat b.toNat).cells ++ [_] = _
          rw [hc.1]; rfl
        | succ k =>
          have hxq : x ∈ q := List.mem_of_getElem? (by simpa using hk)
          rw [hb, if_neg (by have := hne x hxq; omega), (hr.cells x (by simp [hxq])).1]; rfl
      · rw [hb, if_neg (by have := hi (d, s) (by simp); simp only at this; omega)]
    | succ n =>
      have hcb : N.cutB = false := by rw [h.cutB]; rfl
      have hfl : N.fails d b 0 = false := by unfold Nand.fails; rw [h.plan, hc.2]; rfl
      have e1 : N.progE d b 0 = 0 := by rw [progE_in hrf hz hcb, hfl]; rfl
      have e2 : N.progN d b 0 (putP s) = Nand.push { N.cutN with plan := [] } d.toNat b.toNat ⟨putP s, false, false⟩ := by rw [progN_in hrf hz hcb, hfl, h.plan]; rfl
      generalize hN1 : Nand.push { N.cutN with plan := [] } d.toNat b.toNat ⟨putP s, false, false⟩ = N1 at e2
      have hb : ∀ i j, N1.blk i j = if i = d.toNat ∧ j = b.toNat then { N.blk d.toNat b.toNat with cells := (N.blk d.toNat b.toNat).cells ++ [⟨putP s, false, false⟩] } else N.blk i j := fun i j => by rw [← hN1]; rfl
      have hlike : N.Like N1 := by rw [← hN1]; exact ⟨rfl, rfl, rfl⟩
      have hkeep : N1.keep = N.keep := by rw [← hN1]; rfl
      have hdoom : N1.Doom n := by
        rw [← hN1]
        refine ⟨?_, ?_, ?_, rfl, h.dead⟩
        · show (if N.cutB then true else N.off) = false
          rw [hcb]; exact h.off
        · show (if N.cutB then false else N.cuts) = true
          rw [hcb]; exact h.cuts
        · show (if N.cuts then N.left - 1 else N.left) = _
          rw [h.cuts, h.left, if_pos rfl]; omega
      have hq : ∀ x ∈ q, N1.blk x.1.toNat b.toNat = N.blk x.1.toNat b.toNat := fun x hxq => by rw [hb, if_neg (by have := hne x hxq; omega)]
      obtain ⟨N', g1, g2⟩ := go_cut b q N1 n hdoom ⟨hnd.2, fun x hxq => by rw [hlike.dies]; exact hr.inn x (by simp [hxq]), by rw [hlike.blocks]; exact hr.blk, by rw [hlike.pages]; exact hr.pages, fun x hxq => by rw [hq x hxq]; exact hr.cells x (by simp [hxq])⟩
      refine ⟨N', by rw [R.go, if_pos e1, e2, g1]; simp, by rw [g2.off]; simp, g2.dead, hlike.trans g2.like, fun k x hk => ?_, fun i hi => ?_⟩
      · cases k with
        | zero =>
          simp at hk; subst hk
          rw [g2.rest _ fun y hy => hne y hy, hb, if_pos ⟨rfl, rfl⟩]
          show (N.blk d.toNat b.toNat).cells ++ [_] = _
          rw [hc.1]; unfold cutC; rw [if_pos (by omega)]; rfl
        | succ k =>
          have := g2.cells k x (by simpa using hk)
          rw [this, hkeep]
          unfold cutC
          simp
      · rw [g2.rest i (fun x hxq => hi x (by simp [hxq])), hb, if_neg (by have := hi (d, s) (by simp); simp only at this; omega)]
end Go.Proofs.YtmohcbniepdncaaGreat
namespace Go.Proofs.YtmohcbniepdncaaGreat
open Go
theorem same_getD {l : List Int} {m : Int} (h : ∀ x ∈ l, x = m) {i : Nat} (hi : i < l.length) : l.getD i 0 = m := by
  rw [List.getD_eq_getElem?_getD, List.getElem?_eq_getElem hi, Option.getD_some]
  exact h _ (List.getElem_mem hi)
theorem sinkI_same {m : Int} : ∀ (j : Nat) (l : List Int), j < l.length → (∀ x ∈ l, x = m) → sinkI j l = l
  | 0, l, _, _ => rfl
  | j + 1, l, hj, h => by
    unfold sinkI
    rw [same_getD h hj, same_getD h (show j < l.length by omega), if_neg (by omega)]
theorem isortI_same {m : Int} (l : List Int) (h : ∀ x ∈ l, x = m) : ∀ k, k ≤ l.length - 1 → isortI l k = l
  | 0, _ => rfl
  | k + 1, hk => by unfold isortI; rw [isortI_same l h k (by omega), sinkI_same _ l (by omega) h]
theorem ded_same {m : Int} : ∀ (l : List Int), (∀ x ∈ l, x = m) → dedFrom m l = []
  | [], _ => rfl
  | x :: l, h => by
    unfold dedFrom
    rw [h x (by simp), if_pos rfl, ded_same l (fun y hy => h y (by simp [hy]))]
theorem masks_same {m : Int} (l : List Int) (h : ∀ x ∈ l, x = m) : compactI (isortL l) = if l = [] then [] else [m] := by
  unfold isortL
  rw [isortI_same l h _ (Nat.le_refl _)]
  cases l with
  | nil => rfl
  | cons x l =>
    rw [if_neg (by simp)]
    rw [h x (by simp)]
    show m :: dedFrom m l = [m]
    rw [ded_same l (fun y hy => h y (by simp [hy]))]
/-- a flash with a row that was cut at operation n, by K bytes -/
def cuN0 (D B P n K : Nat) : Nand := (Nand.new D B P).setCut n K
def cuN1 (D B P b n K : Nat) (m : Int) (l : List En) : Nand := (R.write (cuN0 D B P n K) b 0 m l).1
def cuN2 (D B P b n K : Nat) (m : Int) (l : List En) : Nand := (cuN1 D B P b n K m l).onN
/-- what a row that was cut has: which of its pages are good -/
structure CutRow (N : Nand) (b m : Int) (l : List En) (g : Nat → Bool) : Prop where
  good : ∀ k x, (R.job b 0 m l)[k]? = some x → g k = true → M.look N x.1 b 0 = (x.2, 1)
  bad : ∀ k x, (R.job b 0 m l)[k]? = some x → g k = false → (M.look N x.1 b 0).2 ≠ 1
  nope : ∀ i : Nat, i < N.dies → (∀ x ∈ R.job b 0 m l, x.1 ≠ i) → (M.look N (i : Nat) b 0).2 ≠ 1
  whole : g l.length = true → ∀ k, k ≤ l.length → g k = true
theorem doom0 (D B P n K : Nat) : (cuN0 D B P n K).Doom n := by
  unfold cuN0 Nand.setCut
  rw [if_neg (by show ¬ (false = true); decide)]
  refine ⟨?_, ?_, rfl, rfl, (new_calm D B P).dead⟩
  · show decide ((n : Int) < 0) = false
    exact decide_eq_false (by omega)
  · show decide ((0 : Int) ≤ (n : Int)) = true
    exact decide_eq_true (by omega)
theorem look_empty {N : Nand} {d b : Int} (hc : (N.blk d.toNat b.toNat).cells = []) : (M.look N d b 0).2 ≠ 1 := by
  have : N.readE d b 0 ≠ 0 := by
    unfold Nand.readE
    split
    · assumption
    · have : N.pageAt d b 0 = none := by unfold Nand.pageAt; rw [hc]; rfl
      rw [this]; decide
  unfold M.look
  simp only
  rw [if_neg this]
  split
  · decide
  · split <;> decide
theorem job_sh {b m : Int} {l : List En} (F : DieFacts m b 0) (hd : ∀ s ∈ l, s.data.length = 16) (hB : W.parB b 0 m l = true) : ∀ x ∈ R.job b 0 m l, x.2.data.length = 16 ∧ S.may x.2 = true ∧ x.2.block = b ∧ x.2.row = 0 ∧ L.has x.2.mask x.1 = true ∧ (G.parity x.2.mask b 0 == x.1) = (x.2.kind == 2) ∧ x.2.mask = m := by
  obtain ⟨p1, p2, p3, p4⟩ := parB_len hB
  intro x hx
  rcases mem_job.1 hx with ⟨k, hk, rfl⟩ | rfl
  · have hmem : l.getD k En.zero ∈ l := by rw [List.getD_eq_getElem?_getD, List.getElem?_eq_getElem hk]; exact List.getElem_mem _
    have hf := F.die k (by omega)
    refine ⟨hd _ hmem, p4 _ hmem, rfl, rfl, hf.1, ?_, rfl⟩
    have : (G.parity m b 0 == G.die m b 0 (k : Nat)) = false := by rw [beq_eq_false_iff_ne]; exact fun e => hf.2.1 e.symm
    show (G.parity m b 0 == G.die m b 0 (k : Nat)) = _
    rw [this]; rfl
  · refine ⟨parS_len hd, parS_may hB, rfl, rfl, F.par.1, ?_, rfl⟩
    show (G.parity m b 0 == G.parity m b 0) = _
    rw [beq_self_eq_true]; rfl
def gAt (N : Nand) (b m : Int) (l : List En) (k : Nat) : Bool := match (R.job b 0 m l)[k]? with
  | some x => (M.look N x.1 b 0).2 == 1
  | none => false
theorem gAt_some {N : Nand} {b m : Int} {l : List En} {k : Nat} {x : Int × Sh} (h : (R.job b 0 m l)[k]? = some x) : gAt N b m l k = ((M.look N x.1 b 0).2 == 1) := by unfold gAt; rw [h]
theorem gAt_none {N : Nand} {b m : Int} {l : List En} {k : Nat} (h : (R.job b 0 m l)[k]? = none) : gAt N b m l k = false := by unfold gAt; rw [h]
theorem cut_row {D B P b n K : Nat} {m : Int} {l : List En} (h1 : 3 ≤ D ∧ D ≤ 6) (h2 : 8 ≤ B ∧ B ≤ 16) (h3 : 2 ≤ P ∧ P ≤ 8) (hb : b < B) (hm : 0 ≤ m ∧ m < 2 ^ D) (hd : ∀ s ∈ l, s.data.length = 16) (hB : W.parB b 0 m l = true) (hK : K ≤ 32) :
    ∃ g : Nat → Bool, CutRow (cuN2 D B P b n K m l) b m l g ∧ (∀ k, k < n → k ≤ l.length → g k = true) ∧ (∀ k, n < k → g k = false) ∧ (K < 28 → g n = false) ∧
      (R.write (cuN0 D B P n K) b 0 m l).2.2 = (if n < l.length + 1 then 9 else 0) ∧ (cuN2 D B P b n K m l).dies = D := by
  obtain ⟨p1, p2, p3, p4⟩ := parB_len hB
  have hm64 : m < 64 := by
    have : (2 : Int) ^ D ≤ 2 ^ 6 := by exact_mod_cast Nat.pow_le_pow_right (n := 2) (by omega) h1.2
    omega
  have hcount : 2 ≤ L.count m := by
    unfold G.slots at p1
    split at p1 <;> omega
  have F := dieFacts m b 0 hm.1 hm64 hcount (by omega) (by omega)
  have hsh := job_sh F hd hB
  have hql : (R.job b 0 m l).length = l.length + 1 := by simp [R.job]
  have hin : ∀ x ∈ R.job b 0 m l, 0 ≤ x.1 ∧ x.1 < (D : Int) := fun x hx => by
    obtain ⟨d, e, h6, hh, _⟩ := job_has F p1 x hx
    have := has_lt_pow hm.2 hh
    omega
  have ready : Ready (cuN0 D B P n K) b (R.job b 0 m l) := ⟨job_nodup F p1, hin, ⟨by omega, by show (b : Int) < (B : Int); omega⟩, by show 0 < P; omega, fun x _ => ⟨rfl, rfl⟩⟩
  obtain ⟨N', e, T⟩ := go_cut b (R.job b 0 m l) (cuN0 D B P n K) n (doom0 D B P n K) ready
  have hW : R.write (cuN0 D B P n K) b 0 m l = (N', 0, if n < (R.job b 0 m l).length then 9 else 0) := by rw [R.write, if_pos hB, e]
  have hN2 : cuN2 D B P b n K m l = N'.onN := by unfold cuN2 cuN1; rw [hW]
  have hkeep : (cuN0 D B P n K).keep.toNat = K := by
    show (min (max (K : Int) 0) 32).toNat = K
    omega
  have hcells := T.cells
  rw [hkeep] at hcells
  have hdies : N'.onN.dies = D := T.like.dies
  have hblocks : N'.onN.blocks = B := T.like.blocks
  have hpages : N'.onN.pages = P := T.like.pages
  have hbb : 0 ≤ (b : Int) ∧ (b : Int) < N'.onN.blocks := by rw [hblocks]; omega
  have hpp : 0 < N'.onN.pages := by rw [hpages]; omega
  rw [hN2]
  have hoff2 : N'.onN.off = false := rfl
  have hdead2 : ∀ i, N'.onN.dead.getD i false = false := T.dead
  have hcells : ∀ k x, (R.job b 0 m l)[k]? = some x → (N'.onN.blk x.1.toNat (b : Int).toNat).cells = cutC K n k x.2 := hcells
  have hrest : ∀ i : Nat, (∀ x ∈ R.job b 0 m l, x.1.toNat ≠ i) → (N'.onN.blk i (b : Int).toNat).cells = [] := fun i hi => T.rest i hi
  generalize N'.onN = N2 at hoff2 hdead2 hcells hrest hdies hblocks hpages hbb hpp ⊢
  have hgood : ∀ k x, (R.job b 0 m l)[k]? = some x → k < n → M.look N2 x.1 b 0 = (x.2, 1) := fun k x hk hkn => by
    have hx := List.mem_of_getElem? hk
    obtain ⟨s1, s2, s3, s4, s5, s6, s7⟩ := hsh x hx
    have hc := hcells k x hk
    unfold cutC at hc
    rw [if_pos hkn] at hc
    exact look_good hoff2 (by rw [hdies]; exact hin x hx) (hdead2 _) hbb hpp hc s1 s2 s3 s4 s5 s6
  have htorn : ∀ x, (R.job b 0 m l)[n]? = some x → (M.look N2 x.1 b 0).2 = 1 → 28 ≤ K ∧ (M.look N2 x.1 b 0).1 = x.2 := fun x hk hg => by
    have hx := List.mem_of_getElem? hk
    obtain ⟨s1, s2, s3, s4, s5, s6, s7⟩ := hsh x hx
    have hc := hcells n x hk
    unfold cutC at hc
    rw [if_neg (by omega), if_pos rfl] at hc
    exact look_torn hoff2 (by rw [hdies]; exact hin x hx) (hdead2 _) hbb hpp hc s1 s2 hK hg
  have hlate : ∀ k x, (R.job b 0 m l)[k]? = some x → n < k → (M.look N2 x.1 b 0).2 ≠ 1 := fun k x hk hkn => by
    have hc := hcells k x hk
    unfold cutC at hc
    rw [if_neg (by omega), if_neg (by omega)] at hc
    exact look_empty hc
  have hG : ∀ (k : Nat) (x : Int × Sh), (R.job b 0 m l)[k]? = some x → gAt N2 b m l k = ((M.look N2 x.1 b 0).2 == 1) := fun k x hk => gAt_some hk
  have hat : ∀ k, k ≤ l.length → ∃ x, (R.job b 0 m l)[k]? = some x := fun k hk => ⟨_, List.getElem?_eq_getElem (by omega)⟩
  have hbefore : ∀ k, k < n → k ≤ l.length → gAt N2 b m l k = true := fun k hkn hk => by
    obtain ⟨x, hx⟩ := hat k hk
    rw [hG k x hx, hgood k x hx hkn]; rfl
  have hafter : ∀ k, n < k → gAt N2 b m l k = false := fun k hkn => by
    cases hk : (R.job b 0 m l)[k]? with
    | none => exact gAt_none hk
    | some x =>
      rw [gAt_some hk, beq_eq_false_iff_ne]
      exact hlate k x hk hkn
  refine ⟨gAt N2 b m l, ⟨fun k x hk hg => ?_, fun k x hk hg => ?_, fun i hi hno => ?_, fun hg k hk => ?_⟩, hbefore, hafter, fun h28 => ?_, ?_, hdies⟩
  · rw [hG k x hk, beq_iff_eq] at hg
    rcases Nat.lt_trichotomy k n with h | h | h
    · exact hgood k x hk h
    · subst h
      exact Prod.ext (htorn x hk hg).2 hg
    · exact absurd hg (hlate k x hk h)
  · rw [hG k x hk, beq_eq_false_iff_ne] at hg
    exact hg
  · refine look_empty ?_
    rw [Int.toNat_natCast]
    exact hrest i (fun x hx e => hno x hx (by have := hin x hx; omega))
  · have hn : l.length ≤ n := by
      rcases Nat.lt_or_ge n l.length with h | h
      · rw [hafter l.length h] at hg; cases hg
      · exact h
    rcases Nat.lt_or_ge k n with h | h
    · exact hbefore k h hk
    · obtain rfl : k = l.length := by omega
      exact hg
  · cases hk : (R.job b 0 m l)[n]? with
    | none => exact gAt_none hk
    | some x =>
      rw [gAt_some hk, beq_eq_false_iff_ne]
      intro h
      have := (htorn x hk h).1
      omega
  · rw [hW, hql]
end Go.Proofs.YtmohcbniepdncaaGreat
namespace Go.Proofs.YtmohcbniepdncaaGreat
open Go
theorem CutRow.one2 {N : Nand} {b m : Int} {l : List En} {g : Nat → Bool} (h : CutRow N b m l g) (hm : ∀ x ∈ R.job b 0 m l, x.2.mask = m) {k : Nat} {x : Int × Sh} (hk : (R.job b 0 m l)[k]? = some x) : (R.one N b 0 m x.1).2 = g k ∧ (g k = true → (R.one N b 0 m x.1).1 = x.2) := by
  unfold R.one
  cases hg : g k with
  | true =>
    rw [h.good k x hk hg]
    refine ⟨?_, fun _ => rfl⟩
    show ((1 : Int) == 1 && x.2.mask == m) = true
    rw [hm x (List.mem_of_getElem? hk)]; simp
  | false =>
    refine ⟨?_, fun h => by cases h⟩
    have := h.bad k x hk hg
    show ((M.look N x.1 b 0).2 == 1 && _) = false
    rw [beq_eq_false_iff_ne.2 this]; rfl
theorem CutRow.fnd {N : Nand} {b m : Int} {l : List En} {g : Nat → Bool} (h : CutRow N b m l g) (hm : ∀ x ∈ R.job b 0 m l, x.2.mask = m) (hl : (l.length : Int) = G.slots m) {k : Nat} (hk : k < l.length) :
    R.fnd (R.look N b 0 m) b 0 m k = if g k && (l.getD k En.zero).role != 3 then some ⟨l.getD k En.zero, b, 0, k, m, g l.length, false⟩ else none := by
  have hs : (G.slots m).toNat = l.length := by omega
  have hat := job_at b 0 m l k hk
  have hla := job_last b 0 m l
  obtain ⟨o1, o2⟩ := h.one2 hm hat
  obtain ⟨w1, w2⟩ := h.one2 hm hla
  have hgood : (R.look N b 0 m).good.getD k false = g k := by
    unfold R.look R.ones
    simp only [hs, List.getD_eq_getElem?_getD, List.getElem?_map, List.getElem?_range hk, Option.map_some, Option.getD_some]
    exact o1
  have hslot : (R.look N b 0 m).slots.getD k Sh.zero = (R.one N b 0 m (G.die m b 0 (k : Nat))).1 := by
    unfold R.look R.ones
    simp only [hs, List.getD_eq_getElem?_getD, List.getElem?_map, List.getElem?_range hk, Option.map_some, Option.getD_some]
  have hwhole : (R.look N b 0 m).whole = g l.length := w1
  unfold R.fnd R.okAt R.enAt
  rw [hgood, hwhole]
  cases hg : g k with
  | true =>
    rw [hslot, o2 hg]
    rfl
  | false =>
    have hno : g l.length = false := by
      rw [Bool.eq_false_iff]
      intro hw
      rw [h.whole hw k (by omega)] at hg
      cases hg
    have : R.mendB (R.look N b 0 m) k = false := by
      unfold R.mendB
      rw [hwhole, hno]; simp
    rw [this]; rfl
theorem CutRow.allM {N : Nand} {b m : Int} {l : List En} {g : Nat → Bool} (h : CutRow N b m l g) (hm : ∀ x ∈ R.job b 0 m l, x.2.mask = m) (hl : (l.length : Int) = G.slots m) :
    R.allM N b 0 m = (List.range l.length).filterMap fun k => if g k && (l.getD k En.zero).role != 3 then some ⟨l.getD k En.zero, b, 0, k, m, g l.length, false⟩ else none := by
  unfold R.allM
  rw [(look_len N b 0 m).1, show (G.slots m).toNat = l.length from by omega]
  exact filterMap_same fun k hk => h.fnd hm hl (List.mem_range.1 hk)
theorem CutRow.masks {N : Nand} {b m : Int} {l : List En} {g : Nat → Bool} (h : CutRow N b m l g) (hm : ∀ x ∈ R.job b 0 m l, x.2.mask = m) (hin : ∀ x ∈ R.job b 0 m l, 0 ≤ x.1 ∧ x.1 < (N.dies : Int)) :
    (M.masks N b 0 = [] ∨ M.masks N b 0 = [m]) ∧ ((∃ k, k ≤ l.length ∧ g k = true) → M.masks N b 0 = [m]) := by
  have hall : ∀ x ∈ (M.rowN N b 0 N.dies).filterMap M.maskOf, x = m := fun y hy => by
    obtain ⟨z, hz, hy⟩ := List.mem_filterMap.1 hy
    unfold M.rowN at hz
    obtain ⟨i, hi, rfl⟩ := List.mem_map.1 hz
    have hi := List.mem_range.1 hi
    unfold M.maskOf at hy
    split at hy
    · rename_i h1
      injection hy with hy
      subst hy
      by_cases hno : ∀ x ∈ R.job b 0 m l, x.1 ≠ (i : Int)
      · exact absurd h1 (h.nope i hi hno)
      · simp only [Classical.not_forall] at hno
        obtain ⟨x, hx, hxi⟩ := hno
        have hxi : x.1 = (i : Int) := by omega
        obtain ⟨k, hk⟩ := List.getElem?_of_mem hx
        cases hg : g k with
        | true =>
          have := h.good k x hk hg
          rw [hxi] at this
          rw [this]
          exact hm x hx
        | false =>
          have := h.bad k x hk hg
          rw [hxi] at this
          exact absurd h1 this
    · cases hy
  have hmk := masks_same _ hall
  refine ⟨?_, fun ⟨k, hk, hg⟩ => ?_⟩
  · unfold M.masks
    rw [hmk]
    split
    · exact .inl rfl
    · exact .inr rfl
  · unfold M.masks
    rw [hmk, if_neg]
    intro hnil
    have hjl : (R.job b 0 m l).length = l.length + 1 := by simp [R.job]
    obtain ⟨x, hx⟩ : ∃ x, (R.job b 0 m l)[k]? = some x := ⟨_, List.getElem?_eq_getElem (by omega)⟩
    have hxm := List.mem_of_getElem? hx
    have hd := hin x hxm
    have : x.2.mask ∈ (M.rowN N b 0 N.dies).filterMap M.maskOf := by
      refine List.mem_filterMap.2 ⟨(x.2, 1), ?_, rfl⟩
      unfold M.rowN
      refine List.mem_map.2 ⟨x.1.toNat, List.mem_range.2 (by omega), ?_⟩
      rw [show ((x.1.toNat : Nat) : Int) = x.1 from by omega]
      exact h.good k x hx hg
    rw [hnil] at this
    cases this
/-- how many are found at least -/
theorem found_many {b m : Int} {w : Bool} {g : Nat → Bool} (l : List En) (c : Nat) (hc : c ≤ l.length) (hg : ∀ k, k < c → g k = true) :
    ((l.take c).filter fun e => e.role != 3).length ≤ ((List.range l.length).filterMap fun k => if g k && (l.getD k En.zero).role != 3 then some (⟨l.getD k En.zero, b, 0, k, m, w, false⟩ : Fnd) else none).length := by
  have h1 : ∀ n, n ≤ c → ((l.take n).filter fun e => e.role != 3).length = ((List.range n).filterMap fun k => if g k && (l.getD k En.zero).role != 3 then some (⟨l.getD k En.zero, b, 0, k, m, w, false⟩ : Fnd) else none).length := by
    intro n
    induction n with
    | zero => intro _; rfl
    | succ n ih =>
      intro hn
      have he : l[n]? = some (l.getD n En.zero) := by rw [List.getD_eq_getElem?_getD, List.getElem?_eq_getElem (by omega), Option.getD_some]
      rw [List.range_succ, List.filterMap_append, List.length_append, List.take_add_one, he, Option.toList_some, List.filter_append, List.length_append, ih (by omega)]
      simp only [List.filterMap_cons, List.filterMap_nil, hg n (by omega), Bool.true_and, List.filter_cons, List.filter_nil]
      cases (l.getD n En.zero).role != 3 <;> rfl
  rw [h1 c (Nat.le_refl c), show l.length = c + (l.length - c) from by omega, List.range_add, List.filterMap_append, List.length_append]
  omega
/-- the sentence, plain -/
theorem cut_law {D B P b n K : Nat} {m : Int} {l : List En} (h1 : 3 ≤ D ∧ D ≤ 6) (h2 : 8 ≤ B ∧ B ≤ 16) (h3 : 2 ≤ P ∧ P ≤ 8) (hb : b < B) (hm : 0 ≤ m ∧ m < 2 ^ D) (hd : ∀ s ∈ l, s.data.length = 16) (hB : W.parB b 0 m l = true) (hK : K ≤ 32) :
    (R.write (cuN0 D B P n K) b 0 m l).2.2 = (if n ≤ l.length then 9 else 0) ∧
    (∀ x ∈ R.all (cuN2 D B P b n K m l) b 0, (K < 28 → x.whole = decide (l.length < n)) ∧ ∃ k : Nat, x.slot = k ∧ k ≤ n ∧ l[k]? = some x.en) ∧
    ((l.take (min n l.length)).filter fun e => e.role != 3).length ≤ (R.all (cuN2 D B P b n K m l) b 0).length := by
  obtain ⟨g, C, gb, ga, g28, hw, hdies⟩ := cut_row (n := n) h1 h2 h3 hb hm hd hB hK
  obtain ⟨p1, p2, p3, p4⟩ := parB_len hB
  have hm64 : m < 64 := by
    have : (2 : Int) ^ D ≤ 2 ^ 6 := by exact_mod_cast Nat.pow_le_pow_right (n := 2) (by omega) h1.2
    omega
  have hcount : 2 ≤ L.count m := by
    unfold G.slots at p1
    split at p1 <;> omega
  have F := dieFacts m b 0 hm.1 hm64 hcount (by omega) (by omega)
  have hmm : ∀ x ∈ R.job b 0 m l, x.2.mask = m := fun x hx => (job_sh F hd hB x hx).2.2.2.2.2.2
  generalize cuN2 D B P b n K m l = N2 at C hdies
  have hin : ∀ x ∈ R.job b 0 m l, 0 ≤ x.1 ∧ x.1 < (N2.dies : Int) := fun x hx => by
    obtain ⟨d, e, h6, hh, _⟩ := job_has F p1 x hx
    have := has_lt_pow hm.2 hh
    omega
  have hall := C.allM hmm p1
  obtain ⟨m1, m2⟩ := C.masks hmm hin
  refine ⟨?_, fun x hx => ?_, ?_⟩
  · rw [hw]
    by_cases h : n ≤ l.length
    · rw [if_pos h, if_pos (by omega)]
    · rw [if_neg h, if_neg (by omega)]
  · have hx : x ∈ R.allM N2 b 0 m := by
      unfold R.all at hx
      rcases m1 with m1 | m1
      · rw [m1] at hx; cases hx
      · rw [m1] at hx; simpa using hx
    rw [hall, List.mem_filterMap] at hx
    obtain ⟨k, hk, hx⟩ := hx
    have hk := List.mem_range.1 hk
    split at hx
    · rename_i hc
      injection hx with hx
      subst hx
      have hgk : g k = true := by
        simp only [Bool.and_eq_true] at hc
        exact hc.1
      refine ⟨fun h28 => ?_, k, rfl, ?_, by rw [List.getD_eq_getElem?_getD, List.getElem?_eq_getElem hk, Option.getD_some]⟩
      · show g l.length = _
        rcases Nat.lt_trichotomy l.length n with h | h | h
        · rw [gb _ h (Nat.le_refl _), decide_eq_true h]
        · rw [h, g28 h28]; simp
        · rw [ga _ h, decide_eq_false (by omega)]
      · rcases Nat.lt_or_ge n k with h | h
        · rw [ga k h] at hgk; cases hgk
        · exact h
    · cases hx
  · rcases Nat.eq_zero_or_pos n with h0 | h0
    · subst h0
      simp
    · have hmk := m2 ⟨0, by omega, gb 0 h0 (by omega)⟩
      have : R.all N2 b 0 = R.allM N2 b 0 m := by unfold R.all; rw [hmk]; simp
      rw [this, hall]
      exact found_many l (min n l.length) (by omega) (fun k hk => gb k (by omega) (by omega))
end Go.Proofs.YtmohcbniepdncaaGreat
namespace Go.Proofs.YtmohcbniepdncaaGreat
open Go Go.RowKit
theorem pow_step (k : Nat) (h : k < 63) : ((2 ^ k : Nat) : Int) * 2 = ((2 ^ (k + 1) : Nat) : Int) ∧ 0 < ((2 ^ k : Nat) : Int) ∧ ((2 ^ k : Nat) : Int) * 2 < 18446744073709551616 := by
  have h1 : 2 ^ (k + 1) ≤ 2 ^ 63 := Nat.pow_le_pow_right (by omega) (by omega)
  have h2 : 0 < 2 ^ k := Nat.two_pow_pos k
  have h3 : (2 : Nat) ^ (k + 1) = 2 ^ k * 2 := Nat.pow_succ 2 k
  omega
theorem f1_pow (n : Nat) (hn : n ≤ 63) : Fn Tryz.prog 102 [.int .i64 n] [] (fun v As => v = .int .u64 ((2 ^ n : Nat) : Int) ∧ As = []) := by
  refine Fn.enter [0] Tryz.func102 rfl rfl rfl fun X F hX => ?_
  refine J.r hX tab_ok 400 (fun _ => rfl) fun b1 => ?_
  refine J.r hX tab_ok 400 (fun _ => rfl) fun b2 => ?_
  refine J.lo (α := (Nat × Int)) (fun z => z.1 ≤ n ∧ z.2 = ((2 ^ z.1 : Nat) : Int)) (fun z => [⟨4, .int .i64 z.1, 0, .tt⟩, ⟨3, .int .u64 z.2, 0, .tt⟩, ⟨0, .int .i64 n, 0, .tt⟩]) [] (fun z => []) (fun z => n - z.1) ((0, 1)) (⟨Nat.zero_le _, rfl⟩) rfl ?_ (fun _ => rfl) fun z hI => ?_
  · rfl
  obtain ⟨k, x⟩ := z
  dsimp only at hI ⊢
  obtain ⟨hk, hx⟩ := hI
  refine J.r hX tab_ok 400 (fun _ => rfl) fun b3 => ?_
  refine J.cond rfl (fun h1 => ?_) (fun h1 => ?_)
  · simp only [decide_eq_true_eq, Int.ofNat_lt] at h1
    have hp := pow_step k (by omega)
    rw [← hx] at hp
    refine J.r hX tab_ok 400 (fun _ => rfl) fun b4 => ?_
    refine J.nS ((k + 1, x * 2)) (⟨by dsimp only; omega, hp.1⟩) (by dsimp only; omega) [0] rfl rfl
  · simp only [decide_eq_false_iff_not, Int.ofNat_lt] at h1
    obtain rfl : k = n := by omega
    subst hx
    refine J.r hX tab_ok 400 (fun _ => rfl) fun b5 => ?_
    refine J.rt hX tab_ok [] rfl rfl rfl ?_
    exact ⟨rfl, rfl⟩
def dsk (m : Int) (k : Nat) : List Int := ((List.range k).filter (fun d : Nat => L.has m d)).map (fun d : Nat => (d : Int))
theorem dsk_succ (m : Int) (k : Nat) : dsk m (k + 1) = dsk m k ++ (if L.has m k then [(k : Int)] else []) := by
  unfold dsk
  rw [List.range_succ, List.filter_append, List.map_append]
  cases h : L.has m k <;> simp [h]
theorem dsk_len (m : Int) (k : Nat) : (dsk m k).length ≤ k := by
  unfold dsk
  rw [List.length_map]
  exact Nat.le_trans (List.length_filter_le _ _) (by simp)
theorem dsk_no (m : Int) (k : Nat) (h : ¬ (0 ≤ m ∧ m < 256)) : dsk m k = [] := by simp [dsk, L.has_no m _ h]
/-- the dies of a set -/
def dI (m : Int) : List Int := dsk m 8
theorem dI_len (m : Int) : (dI m).length ≤ 8 := dsk_len m 8
theorem bit_eq (m d : Nat) (hm : m < 256) (hd : d < 8) : (((m : Int).tdiv ((2 ^ d : Nat) : Int)).tmod 2 == 1) = L.has (m : Int) (d : Int) := by
  rw [← Int.ofNat_tdiv, show (2 : Int) = ((2 : Nat) : Int) from rfl, ← Int.ofNat_tmod]
  have : L.has (m : Int) (d : Int) = m.testBit d := by
    simp only [L.has, L.set, Int.toNat_natCast]
    rw [decide_eq_true (show (0 : Int) ≤ (m : Int) by omega), decide_eq_true (show (m : Int) < 256 by omega), decide_eq_true (show (0 : Int) ≤ (d : Int) by omega), decide_eq_true (show (d : Int) < 8 by omega)]
    rfl
  rw [this, Nat.testBit_eq_decide_div_mod_eq]
  by_cases h : m / 2 ^ d % 2 = 1
  · simp [h]
  · rw [decide_eq_false h, beq_eq_false_iff_ne]; omega
theorem quo_bd (m d : Nat) (hm : m < 256) : (0 ≤ (m : Int).tdiv ((2 ^ d : Nat) : Int) ∧ (m : Int).tdiv ((2 ^ d : Nat) : Int) < 256) ∧ (0 ≤ ((m : Int).tdiv ((2 ^ d : Nat) : Int)).tmod 2 ∧ ((m : Int).tdiv ((2 ^ d : Nat) : Int)).tmod 2 < 2) := by
  rw [← Int.ofNat_tdiv, show (2 : Int) = ((2 : Nat) : Int) from rfl, ← Int.ofNat_tmod]
  have := Nat.div_le_self m (2 ^ d)
  generalize m / 2 ^ d = q at this ⊢
  omega
theorem f1_Dies (m : Int) : Fn Tryz.prog 62 [.int .i64 m] [] (fun v As => ∃ a c, v = slv a (dI m).length c ∧ As = [ownA 3 1 a (dI m).length c (cellsI (dI m))]) := by
  refine Fn.enter [0] Tryz.func62 rfl rfl rfl fun X F hX => ?_
  refine J.turn1 [] rfl (As := [ownA 3 1 none 0 0 (cellsI (dsk m 0))]) (fun h s => Sep.one ⟨rfl, rfl, rfl⟩) rfl ?_
  refine J.r hX tab_ok 400 (fun _ => rfl) fun b6 => ?_
  refine J.r hX tab_ok 400 (fun _ => rfl) fun b7 => ?_
  refine J.lo (α := (Nat × Option Nat × Nat)) (fun z => z.1 ≤ 8) (fun z => [⟨4, .int .i64 z.1, 0, .tt⟩, ⟨3, slv z.2.1 (dsk m z.1).length z.2.2, 0, .tt⟩, ⟨0, .int .i64 m, 0, .tt⟩]) [1] (fun z => [ownA 3 1 z.2.1 (dsk m z.1).length z.2.2 (cellsI (dsk m z.1))]) (fun z => 8 - z.1) ((0, none, 0)) (Nat.zero_le _) rfl ?_ (fun _ => rfl) fun z hI => ?_
  · rfl
  obtain ⟨k, a, c⟩ := z
  dsimp only at hI ⊢
  have hml := dsk_len m k
  refine J.r hX tab_ok 400 (fun _ => rfl) fun b8 => ?_
  refine J.cond rfl (fun h1 => ?_) (fun h1 => ?_)
  · simp only [Bool.and_eq_true, decide_eq_true_eq] at h1
    obtain ⟨⟨h1, h2⟩, h3⟩ := h1
    obtain ⟨m, rfl⟩ := Int.eq_ofNat_of_zero_le h2
    have hk : k < 8 := by omega
    have hp := pow_step k (by omega)
    have hq1 := quo_bd m k (by omega)
    have hbit := bit_eq m k (by omega) hk
    refine J.r hX tab_ok 400 (fun _ => rfl) fun b9 => ?_
    refine J.r hX tab_ok 400 (fun _ => rfl) fun b10 => ?_
    refine J.ca hX (by kernel_rfl) (f1_pow k (by omega)) [] 0 rfl rfl rfl rfl rfl rfl (fun _ => rfl) ?_
    rintro v As ⟨rfl, rfl⟩
    refine ⟨_, rfl, trivial, ?_⟩
    refine J.r hX tab_ok 400 (fun _ => rfl) fun b11 => ?_
    refine J.cond rfl (fun h4 => ?_) (fun h4 => ?_)
    · rw [hbit] at h4
      have hs : dsk m (k + 1) = dsk m k ++ [(k : Int)] := by rw [dsk_succ, if_pos h4]
      have hl : (dsk m k).length + 1 = (dsk m (k + 1)).length := by rw [hs]; simp
      refine J.r hX tab_ok 400 (fun _ => rfl) fun b12 => ?_
      refine J.append hX tab_ok 1 2 0 rfl rfl rfl rfl rfl rfl rfl rfl rfl rfl rfl rfl rfl rfl rfl rfl ?_ ?_ (fun _ => rfl) fun a4 c4 => ⟨_, (congrArg (fun z => lset _ 1 (ownA _ _ _ _ _ z)) ((cellsI_snoc _ _).symm.trans (congrArg cellsI hs.symm))).trans rfl, trivial, ?_⟩
      · simp only [maxLen]; omega
      · omega
      rw [hl]
      refine J.r hX tab_ok 400 (fun _ => rfl) fun b13 => ?_
      refine J.nS ((k + 1, a4, c4)) (by dsimp only; omega) (by dsimp only; omega) [0, 1] rfl rfl
    · rw [hbit] at h4
      have hs : dsk m k = dsk m (k + 1) := by rw [dsk_succ, h4]; simp
      rw [hs]
      refine J.r hX tab_ok 400 (fun _ => rfl) fun b14 => ?_
      refine J.nS ((k + 1, a, c)) (by dsimp only; omega) (by dsimp only; omega) [0, 1] rfl rfl
  · have he : dsk m k = dI m := by
      by_cases hm : 0 ≤ m ∧ m < 256
      · simp only [Bool.and_eq_false_iff, decide_eq_false_iff_not] at h1
        obtain rfl : k = 8 := by omega
        rfl
      · rw [dsk_no m k hm, dI, dsk_no m 8 hm]
    rw [he]
    refine J.r hX tab_ok 400 (fun _ => rfl) fun b15 => ?_
    refine J.rt hX tab_ok [1] rfl rfl rfl ?_
    exact ⟨a, c, rfl, rfl⟩
/-- where a die stands in a list -/
def spotI : List Int → Int → Int
  | [], _ => -1
  | x :: r, d => if x = d then 0 else if spotI r d < 0 then -1 else spotI r d + 1
theorem spotI_at : ∀ (l : List Int) (d : Int) (k : Nat), (∀ j, j < k → l[j]? ≠ some d) → l[k]? = some d → spotI l d = k
  | [], d, k, _, h => by simp at h
  | x :: r, d, 0, _, h => by simp at h; simp [spotI, h]
  | x :: r, d, k + 1, h1, h => by
    have h0 : x ≠ d := fun e => h1 0 (by omega) (by simp [e])
    have := spotI_at r d k (fun j hj => by have := h1 (j + 1) (by omega); simpa using this) (by simpa using h)
    rw [spotI, if_neg h0, this, if_neg (by omega)]
    omega
theorem spotI_no : ∀ (l : List Int) (d : Int), (∀ j, j < l.length → l[j]? ≠ some d) → spotI l d = -1
  | [], _, _ => rfl
  | x :: r, d, h => by
    have h0 : x ≠ d := fun e => h 0 (by simp) (by simp [e])
    have := spotI_no r d (fun j hj => by have := h (j + 1) (by simpa using hj); simpa using this)
    rw [spotI, if_neg h0, this, if_pos (by omega)]
theorem f1_Spot (m d : Int) : Fn Tryz.prog 26 [.int .i64 m, .int .i64 d] [] (fun v As => v = .int .i64 (spotI (dI m) d) ∧ As = []) := by
  have hlen := dI_len m
  refine Fn.enter [0, 0] Tryz.func26 rfl rfl rfl fun X F hX => ?_
  refine J.r hX tab_ok 400 (fun _ => rfl) fun b16 => ?_
  refine J.r hX tab_ok 400 (fun _ => rfl) fun b17 => ?_
  refine J.ca hX (by kernel_rfl) (f1_Dies m) [] 0 rfl rfl rfl rfl rfl rfl (fun _ => rfl) ?_
  rintro v As ⟨a, c, rfl, rfl⟩
  refine ⟨_, rfl, trivial, ?_⟩
  refine J.r hX tab_ok 400 (fun _ => rfl) fun b18 => ?_
  refine J.r hX tab_ok 400 (fun _ => rfl) fun b19 => ?_
  refine J.lo (α := Nat) (fun k => k ≤ (dI m).length ∧ ∀ j, j < k → (dI m)[j]? ≠ some d) (fun k => [⟨6, .int .i64 k, 0, .tt⟩, ⟨5, slv a (dI m).length c, 0, .tt⟩, ⟨1, .int .i64 d, 0, .tt⟩]) [] (fun k => []) (fun k => (dI m).length - k) (0) (⟨Nat.zero_le _, fun j hj => absurd hj (Nat.not_lt_zero j)⟩) rfl ?_ (fun _ => rfl) fun k hI => ?_
  · rfl
  obtain ⟨hk, hno⟩ := hI
  refine J.r hX tab_ok 400 (fun _ => rfl) fun b20 => ?_
  refine J.cond rfl (fun h1 => ?_) (fun h1 => ?_)
  · simp only [decide_eq_true_eq, Int.ofNat_lt] at h1
    refine J.know (fun h' s => own_some (c := (a, c)) (by omega) (s.get (i := 1) rfl)) fun hg => ?_
    obtain ⟨g1, rfl⟩ := hg
    obtain ⟨x, hx⟩ : ∃ x, (dI m)[k]? = some x := ⟨_, List.getElem?_eq_getElem h1⟩
    refine J.r hX tab_ok 400 (fun _ => rfl) fun b21 => ?_
    refine J.val hX (.int .i64 x) 0 rfl rfl (fun hg a w he hs => ?_) rfl trivial ?_
    · exact own1_run tab_ok rfl rfl he rfl rfl rfl (hs.get (i := 1) rfl) (by rw [show 0 + (k : Int).toNat * 1 = k from by omega]; exact cellsI_get hx)
    refine J.r hX tab_ok 400 (fun _ => rfl) fun b22 => ?_
    refine J.cond rfl (fun h2 => ?_) (fun h2 => ?_)
    · simp only [beq_iff_eq] at h2
      subst h2
      rw [show (k : Int) = spotI (dI m) x from (spotI_at _ _ k hno hx).symm]
      refine J.r hX tab_ok 400 (fun _ => rfl) fun b23 => ?_
      refine J.rt hX tab_ok [] rfl rfl rfl ?_
      exact ⟨rfl, rfl⟩
    · simp only [beq_eq_false_iff_ne, ne_eq] at h2
      refine J.r hX tab_ok 400 (fun _ => rfl) fun b24 => ?_
      refine J.nS ((k + 1)) (⟨by omega, fun j hj => by rcases Nat.lt_succ_iff_lt_or_eq.1 hj with h | rfl; exact hno j h; rw [hx]; simpa using h2⟩) (by omega) [0, 1] rfl rfl
  · simp only [decide_eq_false_iff_not, Int.ofNat_lt] at h1
    refine J.r hX tab_ok 400 (fun _ => rfl) fun b25 => ?_
    refine J.rt hX tab_ok [] rfl rfl rfl ?_
    exact ⟨by rw [spotI_no _ _ (fun j hj => hno j (by omega))], rfl⟩
theorem f6_Slots (m : Int) : Fn Tryz.prog 53 [.int .i64 m] [] (fun v As => v = .int .i64 (if 2 ≤ (dI m).length then ((dI m).length : Int) - 1 else 0) ∧ As = []) := by
  have hlen := dI_len m
  refine Fn.enter [0] Tryz.func53 rfl rfl rfl fun X F hX => ?_
  refine J.r hX tab_ok 400 (fun _ => rfl) fun b26 => ?_
  refine J.r hX tab_ok 400 (fun _ => rfl) fun b27 => ?_
  refine J.ca hX (by kernel_rfl) (f1_Dies m) [] 0 rfl rfl rfl rfl rfl rfl (fun _ => rfl) ?_
  rintro v As ⟨a, c, rfl, rfl⟩
  refine ⟨_, rfl, trivial, ?_⟩
  refine J.r hX tab_ok 400 (fun _ => rfl) fun b28 => ?_
  refine J.cond rfl (fun h1 => ?_) (fun h1 => ?_)
  · simp only [decide_eq_true_eq] at h1
    refine J.r hX tab_ok 400 (fun _ => rfl) fun b29 => ?_
    refine J.rt hX tab_ok [] rfl rfl rfl ?_
    exact ⟨by rw [if_pos (by omega)], rfl⟩
  · simp only [decide_eq_false_iff_not] at h1
    refine J.r hX tab_ok 400 (fun _ => rfl) fun b30 => ?_
    refine J.rt hX tab_ok [] rfl rfl rfl ?_
    exact ⟨by rw [if_neg (by omega)], rfl⟩
end Go.Proofs.YtmohcbniepdncaaGreat
namespace Go.Proofs.YtmohcbniepdncaaGreat
open Go Go.RowKit
theorem dI_count (m : Int) : (dI m).length = L.count m := by
  rw [← L.below_eight m, dI, dsk, List.length_map, L.below]
  refine congrArg List.length (List.filter_congr fun d hd => ?_)
  rw [List.mem_range] at hd
  simp [hd]
theorem leavesD : leaves Tryz.prog 100 41 = some lvD := by kernel_rfl
theorem mkD (zs : List Value) : mkV Tryz.prog 41 zs = .agg zs.toArray := by simp [mkV, Tryz.underlying41]
theorem gdD : Tryz.prog.eqGuardType Tryz.prog.depth 41 = false := by kernel_rfl
/-- what the reference lets -/
def f9out (s : Sh) : Bool := ((((((((((s.kind != 1) && (s.kind != 2)) || decide (s.block < 0)) || decide (s.block ≥ 16)) || decide (s.row < 0)) || decide (s.row ≥ 8)) || decide ((L.count s.mask : Int) < 2)) || decide (s.seq < 0)) || decide (s.seq > 1099511627775)) || decide (s.lpn < 0)) || decide (s.lpn > 65535)
theorem may_out (s : Sh) (h : f9out s = true) : S.may s = false := by
  rw [Bool.eq_false_iff]
  intro hm
  simp only [S.may, S.place, S.numbers, S.inB, Bool.and_eq_true, Bool.or_eq_true, decide_eq_true_eq] at hm
  simp only [f9out, Bool.and_eq_true, Bool.or_eq_true, decide_eq_true_eq, bne_iff_ne, ne_eq] at h
  omega
theorem may_par (s : Sh) (h : f9out s = false) (hk : s.kind = 2) : S.may s = (decide (s.role ≥ 0) && decide (s.role ≤ 255)) := by
  simp only [f9out, Bool.and_eq_false_iff, Bool.or_eq_false_iff, decide_eq_false_iff_not, bne_eq_false_iff_eq] at h
  simp only [S.may, S.place, S.numbers, S.inB]
  rw [decide_eq_true (show 0 ≤ s.block by omega), decide_eq_true (show s.block ≤ 15 by omega), decide_eq_true (show 0 ≤ s.row by omega), decide_eq_true (show s.row ≤ 7 by omega), decide_eq_true (show 2 ≤ L.count s.mask by omega), decide_eq_true (show 0 ≤ s.seq by omega), decide_eq_true (show s.seq ≤ 1099511627775 by omega), decide_eq_true (show 0 ≤ s.lpn by omega), decide_eq_true (show s.lpn ≤ 65535 by omega), decide_eq_true hk]
  simp
theorem may_own (s : Sh) (h : f9out s = false) (hk : s.kind ≠ 2) : S.may s = S.entry s := by
  simp only [f9out, Bool.and_eq_false_iff, Bool.or_eq_false_iff, decide_eq_false_iff_not, bne_eq_false_iff_eq] at h
  have h1 : s.kind = 1 := by omega
  have hr : S.entry s = true → 0 ≤ s.role ∧ s.role ≤ 255 := by
    intro he
    unfold S.entry at he
    split at he
    · omega
    · split at he
      · omega
      · split at he
        · omega
        · cases he
  simp only [S.may, S.place, S.numbers, S.inB]
  rw [decide_eq_true (show 0 ≤ s.block by omega), decide_eq_true (show s.block ≤ 15 by omega), decide_eq_true (show 0 ≤ s.row by omega), decide_eq_true (show s.row ≤ 7 by omega), decide_eq_true (show 2 ≤ L.count s.mask by omega), decide_eq_true (show 0 ≤ s.seq by omega), decide_eq_true (show s.seq ≤ 1099511627775 by omega), decide_eq_true (show 0 ≤ s.lpn by omega), decide_eq_true (show s.lpn ≤ 65535 by omega), decide_eq_true h1, decide_eq_false hk]
  cases he : S.entry s
  · simp
  · have := hr he
    rw [decide_eq_true this.1, decide_eq_true this.2]; rfl
theorem f9_May (s : Sh) (h : s.data.length = 16) : Fn Tryz.prog 63 [shV s] [] (fun v As => v = .bool (S.may s) ∧ As = []) := by
  refine Fn.enter [0] Tryz.func63 rfl rfl rfl fun X F hX => ?_
  refine J.run hX tab_ok 400 (fun b1 => rfl) (fun b1 => ?_) (fun b1 => ?_)
  · (repeat' (first | exact Conj.nil | refine Conj.cons ?_ ?_ | exact rfl | exact hq | (rw [hq]; rfl) | (rw [(Bool.not_eq_true' _).mp hq]) | intro hq | omega | (simp; done)))
  refine J.gcase hX rfl rfl rfl trivial (fun hb => ?_) (fun hb => ?_)
  · have hb2 := (Bool.not_eq_true' _).mp hb
    rw [hb2]
    refine J.r hX tab_ok 400 (fun _ => rfl) fun b2 => ?_
    refine J.ca hX (by kernel_rfl) (f1_Dies s.mask) [] 0 rfl rfl rfl rfl rfl rfl (fun _ => rfl) ?_
    rintro v As ⟨a, c, rfl, rfl⟩
    refine ⟨_, rfl, trivial, ?_⟩
    rw [dI_count]
    refine J.run hX tab_ok 400 (fun b3 => rfl) (fun b3 => ?_) (fun b3 => ?_)
    · (repeat' (first | exact Conj.nil | refine Conj.cons ?_ ?_ | exact rfl | exact hq | (rw [hq]; rfl) | (rw [(Bool.not_eq_true' _).mp hq]) | intro hq | omega | (simp; done)))
    refine J.r hX tab_ok 400 (fun _ => rfl) fun b4 => ?_
    refine J.cond rfl (fun h3 => ?_) (fun h3 => ?_)
    · have ho : f9out s = true := by unfold f9out; rw [hb2]; exact h3
      refine J.r hX tab_ok 400 (fun _ => rfl) fun b5 => ?_
      refine J.rt hX tab_ok [] rfl rfl rfl ?_
      exact ⟨by rw [may_out s ho], rfl⟩
    have ho : f9out s = false := by unfold f9out; rw [hb2]; exact h3
    refine J.r hX tab_ok 400 (fun _ => rfl) fun b6 => ?_
    refine J.cond rfl (fun h4 => ?_) (fun h4 => ?_)
    · simp only [beq_iff_eq] at h4
      refine J.r hX tab_ok 400 (fun _ => rfl) fun b7 => ?_
      refine J.rt hX tab_ok [] rfl rfl rfl ?_
      exact ⟨by rw [may_par s ho h4], rfl⟩
    simp only [beq_eq_false_iff_ne, ne_eq] at h4
    have key : ∀ b, S.entry s = b → S.may s = b := fun b hb => (may_own s ho h4).trans hb
    refine J.r hX tab_ok 400 (fun _ => rfl) fun b8 => ?_
    refine J.val hX (.bool (decide (s.data = zeros16))) 0 rfl rfl (fun hg a w he hs => ?_) rfl trivial ?_
    · rw [← eqD s.data zeros16 h rfl]
      exact eqAgg_run (xs := dataC s.data) (ys := dataC zeros16) rfl rfl rfl he rfl rfl leavesD (fitsD _) (fitsD _) mkD gdD
    refine J.r hX tab_ok 400 (fun _ => rfl) fun b9 => ?_
    refine J.cond rfl (fun h5 => ?_) (fun h5 => ?_)
    · simp only [beq_iff_eq] at h5
      refine J.r hX tab_ok 400 (fun _ => rfl) fun b10 => ?_
      refine J.rt hX tab_ok [] rfl rfl rfl ?_
      exact ⟨by rw [key true (by unfold S.entry; rw [if_pos h5])], rfl⟩
    simp only [beq_eq_false_iff_ne, ne_eq] at h5
    have k2 : s.role = 2 ∨ s.role = 4 → S.may s = decide (s.data = zeros16) := fun hr => key _ (by unfold S.entry; rw [if_neg h5, if_pos hr])
    refine J.r hX tab_ok 400 (fun _ => rfl) fun b11 => ?_
    refine J.cond rfl (fun h6 => ?_) (fun h6 => ?_)
    · have h6' := h6
      simp only [beq_iff_eq] at h6'
      rw [h6]
      refine J.r hX tab_ok 400 (fun _ => rfl) fun b12 => ?_
      refine J.cond rfl (fun _ => ?_) (fun h => by simp at h)
      refine J.r hX tab_ok 400 (fun _ => rfl) fun b13 => ?_
      refine J.rt hX tab_ok [] rfl rfl rfl ?_
      exact ⟨by rw [k2 (.inl h6')], rfl⟩
    · have h6' := h6
      simp only [beq_eq_false_iff_ne, ne_eq] at h6'
      refine J.r hX tab_ok 400 (fun _ => rfl) fun b14 => ?_
      refine J.cond rfl (fun h7 => ?_) (fun h7 => ?_)
      · have h7' := h7
        simp only [beq_iff_eq] at h7'
        refine J.r hX tab_ok 400 (fun _ => rfl) fun b15 => ?_
        refine J.rt hX tab_ok [] rfl rfl rfl ?_
        exact ⟨by rw [k2 (.inr h7')], rfl⟩
      have h7' := h7
      simp only [beq_eq_false_iff_ne, ne_eq] at h7'
      refine J.r hX tab_ok 400 (fun _ => rfl) fun b16 => ?_
      refine J.cond rfl (fun h8 => ?_) (fun h8 => ?_)
      · have h8' := h8
        simp only [beq_iff_eq] at h8'
        refine J.run hX tab_ok 400 (fun b17 => rfl) (fun b17 => ?_) (fun b17 => ?_)
        · (repeat' (first | exact Conj.nil | refine Conj.cons ?_ ?_ | exact rfl | exact hq | (rw [hq]; rfl) | (rw [(Bool.not_eq_true' _).mp hq]) | intro hq | omega | (simp; done)))
        refine J.r hX tab_ok 400 (fun _ => rfl) fun b18 => ?_
        refine J.rt hX tab_ok [] rfl rfl rfl ?_
        exact ⟨by rw [key _ (by unfold S.entry; rw [if_neg h5, if_neg (by omega), if_pos h8'])]; rfl, rfl⟩
      · have h8' := h8
        simp only [beq_eq_false_iff_ne, ne_eq] at h8'
        refine J.r hX tab_ok 400 (fun _ => rfl) fun b19 => ?_
        refine J.rt hX tab_ok [] rfl rfl rfl ?_
        exact ⟨by rw [key false (by unfold S.entry; rw [if_neg h5, if_neg (by omega), if_neg h8'])], rfl⟩
  · have hb2 := (Bool.not_eq_false' _).mp hb
    rw [hb2]
    refine J.r hX tab_ok 400 (fun _ => rfl) fun b20 => ?_
    refine J.val hX (.int .i64 0) 0 rfl rfl (fun hg a w he hw => by simp [G.on] at hg) rfl trivial ?_
    refine J.run hX tab_ok 400 (fun b21 => rfl) (fun b21 => ?_) (fun b21 => ?_)
    · (repeat' (first | exact Conj.nil | refine Conj.cons ?_ ?_ | exact rfl | exact hq | (exact Bool.noConfusion hq) | (rw [hq]; rfl) | (rw [(Bool.not_eq_true' _).mp hq]) | intro hq | omega | (simp; done)))
    refine J.r hX tab_ok 400 (fun _ => rfl) fun b22 => ?_
    refine J.cond rfl (fun _ => ?_) (fun h => by simp at h)
    have ho : f9out s = true := by unfold f9out; rw [hb2]; rfl
    refine J.r hX tab_ok 400 (fun _ => rfl) fun b23 => ?_
    refine J.rt hX tab_ok [] rfl rfl rfl ?_
    exact ⟨by rw [may_out s ho], rfl⟩
end Go.Proofs.YtmohcbniepdncaaGreat
