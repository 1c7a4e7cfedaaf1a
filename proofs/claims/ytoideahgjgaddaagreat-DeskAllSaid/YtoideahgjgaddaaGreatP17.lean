/- Helpers of the proofs about ostrakonlaw11, proved here: PlA, PlB, PlS, PlT, BgA, BgB, BgC. No condition. -/
import Derived.Test.YtoideahgjgaddaaGreatP12
import Derived.Test.YtoideahgjgaddaaGreatP16
set_option linter.unusedVariables false
set_option linter.unusedSimpArgs false
set_option linter.unusedSectionVars false
set_option linter.unnecessarySimpa false
/- Plain laws: a row that was written to clean pages of a calm flash; what a look tells of it. No program in sight. -/
namespace Go.Proofs.YtoideahgjgaddaaGreat
open Go
/-- dies of a mask: the parity's, the slots' -/
def dieChk (M q : Nat) : Bool :=
  let p := L.at_ M q
  if q < L.count M then
    L.has M p && decide (0 ≤ p) && decide (p < 6) &&
    ((List.range (L.count M - 1)).all fun k => let d := L.at_ (L.without M p) (k : Nat); L.has M d && d != p && decide (0 ≤ d) && decide (d < 6) && (List.range k).all fun k' => L.at_ (L.without M p) (k' : Nat) != d) &&
    ((List.range 6).all fun d => !L.has M (d : Nat) || ((d : Nat) : Int) == p || (List.range (L.count M - 1)).any fun k => L.at_ (L.without M p) (k : Nat) == ((d : Nat) : Int))
  else true
theorem dieChk_all : ∀ M, M < 64 → ∀ q, q < 6 → dieChk M q = true := by decide +kernel
theorem count_six : ∀ M, M < 64 → L.count (M : Nat) ≤ 6 := by decide +kernel
structure DieFacts (m b r : Int) : Prop where
  par : L.has m (G.parity m b r) = true ∧ 0 ≤ G.parity m b r ∧ G.parity m b r < 6
  die : ∀ k : Nat, (k : Int) < G.slots m → L.has m (G.die m b r k) = true ∧ G.die m b r k ≠ G.parity m b r ∧ 0 ≤ G.die m b r k ∧ G.die m b r k < 6
  inj : ∀ k k' : Nat, (k : Int) < G.slots m → k' < k → G.die m b r k' ≠ G.die m b r k
  all : ∀ d : Nat, d < 6 → L.has m (d : Nat) = true → (d : Int) = G.parity m b r ∨ ∃ k : Nat, (k : Int) < G.slots m ∧ G.die m b r k = d
theorem dieFacts (m b r : Int) (h0 : 0 ≤ m) (h1 : m < 64) (hc : 2 ≤ L.count m) (hb : 0 ≤ b) (hr : 0 ≤ r) : DieFacts m b r := by
  obtain ⟨M, rfl⟩ := Int.eq_ofNat_of_zero_le h0
  have hM : M < 64 := by omega
  have hp : G.parity M b r = L.at_ M ((b + r) % L.count (M : Int)) := by unfold G.parity; rw [if_neg (by omega)]
  have hs : G.slots M = (L.count (M : Int) : Int) - 1 := by unfold G.slots; rw [if_neg (by omega)]
  have hq : 0 ≤ (b + r) % (L.count (M : Int) : Int) ∧ (b + r) % (L.count (M : Int) : Int) < L.count (M : Int) := ⟨Int.emod_nonneg _ (by omega), Int.emod_lt_of_pos _ (by omega)⟩
  obtain ⟨q, hq2⟩ := Int.eq_ofNat_of_zero_le hq.1
  have h6 := count_six M hM
  have hchk := dieChk_all M hM q (by omega)
  rw [hq2] at hp hq
  unfold dieChk at hchk
  rw [if_pos (by omega)] at hchk
  simp only [← hp] at hchk
  simp only [Bool.and_eq_true, decide_eq_true_eq, List.all_eq_true, List.mem_range, bne_iff_ne, ne_eq, Bool.or_eq_true, List.any_eq_true, Bool.not_eq_true', beq_iff_eq] at hchk
  obtain ⟨⟨⟨⟨c1, c2⟩, c3⟩, c4⟩, c5⟩ := hchk
  have hd : ∀ k : Nat, G.die M b r k = L.at_ (L.without M (G.parity M b r)) (k : Nat) := fun k => by unfold G.die; rw [if_neg (by omega)]
  refine ⟨⟨c1, c2, c3⟩, fun k hk => ?_, fun k k' hk hkk => ?_, fun d hd6 hh => ?_⟩
  · obtain ⟨⟨⟨⟨a1, a2⟩, a3⟩, a4⟩, _⟩ := c4 k (by omega)
    rw [hd]; exact ⟨a1, a2, a3, a4⟩
  · obtain ⟨_, a5⟩ := c4 k (by omega)
    rw [hd, hd]; exact a5 k' hkk
  · rcases c5 d hd6 with (h | h) | ⟨k, h, h'⟩
    · rw [hh] at h; cases h
    · exact .inl h
    · exact .inr ⟨k, by omega, by rw [hd]; exact h'⟩
theorem has_lt_pow {m : Int} {D d : Nat} (h : m < 2 ^ D) (hh : L.has m (d : Nat) = true) : d < D := by
  obtain ⟨h1, h2, h3, h4⟩ := L.has_lt m d hh
  obtain ⟨M, rfl⟩ := Int.eq_ofNat_of_zero_le h3
  simp only [L.has, Bool.and_eq_true, Int.toNat_natCast] at hh
  rcases Nat.lt_or_ge d D with hlt | hge
  · exact hlt
  · have hM : M < 2 ^ D := by
      have e : ((2 ^ D : Nat) : Int) = 2 ^ D := by simp
      omega
    have : M < 2 ^ d := Nat.lt_of_lt_of_le hM (Nat.pow_le_pow_right (by omega) hge)
    rw [Nat.testBit_lt_two_pow this] at hh
    simp at hh
namespace Nand
/-- nothing is amiss -/
structure Calm (N : Nand) : Prop where
  off : N.off = false
  cuts : N.cuts = false
  plan : N.plan = []
  dead : ∀ i, N.dead.getD i false = false
variable {N : Nand}
theorem Calm.refuses (h : N.Calm) {x y z : Int} (hg : geoIn N.dies N.blocks N.pages x y z = true) : N.refuses x y z = 0 := by
  unfold Nand.refuses
  rw [h.off, hg, h.dead]; simp
theorem Calm.cutB (h : N.Calm) : N.cutB = false := by unfold Nand.cutB; rw [h.cuts]; rfl
theorem geoIn_of {d b p x y z : Int} (h1 : 0 ≤ x ∧ x < d) (h2 : 0 ≤ y ∧ y < b) (h3 : 0 ≤ z ∧ z < p) : geoIn d b p x y z = true := by
  simp [geoIn, h1, h2, h3]
theorem Calm.progE (h : N.Calm) {x y : Int} (hx : 0 ≤ x ∧ x < N.dies) (hy : 0 ≤ y ∧ y < N.blocks) (hp : 0 < N.pages) (hc : (N.blk x.toNat y.toNat).cells = []) (hm : (N.blk x.toNat y.toNat).met = false) : N.progE x y 0 = 0 := by
  have hr := h.refuses (x := x) (y := y) (z := 0) (geoIn_of hx hy ⟨by omega, by omega⟩)
  rw [progE_in hr (by rw [hc]; rfl) h.cutB]
  unfold Nand.fails
  rw [h.plan, hm]; rfl
theorem Calm.progN (h : N.Calm) {x y : Int} (hx : 0 ≤ x ∧ x < N.dies) (hy : 0 ≤ y ∧ y < N.blocks) (hp : 0 < N.pages) (hc : (N.blk x.toNat y.toNat).cells = []) (hm : (N.blk x.toNat y.toNat).met = false) (pg : List UInt8) :
    N.progN x y 0 pg = push { N.cutN with plan := [] } x.toNat y.toNat ⟨pg, false, false⟩ := by
  have hr := h.refuses (x := x) (y := y) (z := 0) (geoIn_of hx hy ⟨by omega, by omega⟩)
  rw [progN_in hr (by rw [hc]; rfl) h.cutB]
  unfold Nand.fails
  rw [h.plan, hm]; rfl
theorem Calm.after (h : N.Calm) (x y : Nat) (c : NCell) : (push { N.cutN with plan := [] } x y c).Calm := by
  refine ⟨?_, ?_, rfl, h.dead⟩
  · show (if N.cutB then true else N.off) = false
    rw [h.cutB]; exact h.off
  · show (if N.cutB then false else N.cuts) = false
    rw [h.cutB]; exact h.cuts
end Nand
/-- where a row is to be written, nothing is yet -/
structure Clean (N : Nand) (b : Int) (q : List (Int × Sh)) : Prop where
  calm : N.Calm
  nodup : (q.map (·.1)).Nodup
  inn : ∀ x ∈ q, 0 ≤ x.1 ∧ x.1 < N.dies
  blk : 0 ≤ b ∧ b < N.blocks
  pages : 0 < N.pages
  cells : ∀ x ∈ q, (N.blk x.1.toNat b.toNat).cells = [] ∧ (N.blk x.1.toNat b.toNat).met = false
/-- what becomes of a flash -/
structure Wrote (N N' : Nand) (b : Int) (q : List (Int × Sh)) : Prop where
  calm : N'.Calm
  like : N.Like N'
  broken : N'.broken = N.broken
  cells : ∀ x ∈ q, (N'.blk x.1.toNat b.toNat).cells = [⟨putP x.2, false, false⟩]
  rest : ∀ i j, (j ≠ b.toNat ∨ ∀ x ∈ q, x.1.toNat ≠ i) → N'.blk i j = N.blk i j
  flags : ∀ i j, (N'.blk i j).met = (N.blk i j).met ∧ (N'.blk i j).fails = (N.blk i j).fails
theorem go_clean (b : Int) : ∀ (q : List (Int × Sh)) (N : Nand), Clean N b q → ∃ N', R.go b 0 q N 0 = (N', 0, 0) ∧ Wrote N N' b q
  | [], N, h => ⟨N, rfl, h.calm, Nand.Like.refl N, rfl, by simp, fun _ _ _ => rfl, fun _ _ => ⟨rfl, rfl⟩⟩
  | (d, s) :: q, N, h => by
    have hx := h.inn (d, s) (by simp)
    have hc := h.cells (d, s) (by simp)
    have e1 := h.calm.progE hx h.blk h.pages hc.1 hc.2
    have e2 := h.calm.progN hx h.blk h.pages hc.1 hc.2 (putP s)
    have hcalm := h.calm.after d.toNat b.toNat ⟨putP s, false, false⟩
    have hnd := List.nodup_cons.1 h.nodup
    have hne : ∀ x ∈ q, x.1.toNat ≠ d.toNat := fun x hxq e => by
      have := h.inn x (by simp [hxq])
      exact hnd.1 (List.mem_map.2 ⟨x, hxq, by show x.1 = d; omega⟩)
    generalize hN1 : Nand.push { N.cutN with plan := [] } d.toNat b.toNat ⟨putP s, false, false⟩ = N1 at e2 hcalm
    have hb : ∀ i j, N1.blk i j = if i = d.toNat ∧ j = b.toNat then { N.blk d.toNat b.toNat with cells := (N.blk d.toNat b.toNat).cells ++ [⟨putP s, false, false⟩] } else N.blk i j := fun i j => by rw [← hN1]; rfl
    have hlike : N.Like N1 := by rw [← hN1]; exact ⟨rfl, rfl, rfl⟩
    have hbr : N1.broken = N.broken := by rw [← hN1]; rfl
    have hq : ∀ x ∈ q, N1.blk x.1.toNat b.toNat = N.blk x.1.toNat b.toNat := fun x hxq => by rw [hb, if_neg (by have := hne x hxq; omega)]
    obtain ⟨N', g1, g2⟩ := go_clean b q N1 ⟨hcalm, hnd.2, fun x hxq => by rw [hlike.dies]; exact h.inn x (by simp [hxq]), by rw [hlike.blocks]; exact h.blk, by rw [hlike.pages]; exact h.pages, fun x hxq => by rw [hq x hxq]; exact h.cells x (by simp [hxq])⟩
    refine ⟨N', by rw [R.go, if_pos e1, e2, g1], g2.calm, hlike.trans g2.like, g2.broken.trans hbr, fun x hxq => ?_, fun i j hij => ?_, fun i j => ?_⟩
    · rcases List.mem_cons.1 hxq with rfl | hxq
      · rw [g2.rest _ _ (.inr fun y hy => hne y hy), hb, if_pos ⟨rfl, rfl⟩]
        show (N.blk d.toNat b.toNat).cells ++ [_] = _
        rw [hc.1]; rfl
      · exact g2.cells x hxq
    · rw [g2.rest i j (hij.imp id fun h' x hxq => h' x (by simp [hxq])), hb, if_neg]
      rintro ⟨rfl, rfl⟩
      rcases hij with h' | h'
      · exact h' rfl
      · exact h' (d, s) (by simp) rfl
    · have := g2.flags i j
      rw [this.1, this.2, hb]
      split
      · rename_i h'; rw [h'.1, h'.2]; exact ⟨rfl, rfl⟩
      · exact ⟨rfl, rfl⟩
/-- a look at a page that is whole -/
theorem look_good {N : Nand} (hoff : N.off = false) {d b : Int} (hd : 0 ≤ d ∧ d < N.dies) (hdd : N.dead.getD d.toNat false = false) (hb : 0 ≤ b ∧ b < N.blocks) (hp : 0 < N.pages) {s : Sh} {t : Bool} {rst : List NCell} (hc : (N.blk d.toNat b.toNat).cells = ⟨putP s, false, t⟩ :: rst)
    (hs : s.data.length = 16) (hm : S.may s = true) (h1 : s.block = b) (h2 : s.row = 0) (h3 : L.has s.mask d = true) (h4 : (G.parity s.mask b 0 == d) = (s.kind == 2)) : M.look N d b 0 = (s, 1) := by
  have hr : N.refuses d b 0 = 0 := by
    unfold Nand.refuses
    rw [hoff, Nand.geoIn_of hd hb ⟨by omega, by omega⟩, hdd]; simp
  have hpa : N.pageAt d b 0 = some ⟨putP s, false, t⟩ := by unfold Nand.pageAt; rw [hc]; rfl
  have hput : putP s = S.put s := by unfold putP; rw [if_pos hm]
  obtain ⟨g1, g2⟩ := S.getV_put s hs hm
  have e1 : N.readE d b 0 = 0 := by unfold Nand.readE; rw [if_neg (by simp [hr]), hpa]; rfl
  have e2 : N.readV d b 0 = S.put s := by unfold Nand.readV; rw [if_neg (by simp [hr]), hpa]; simpa using hput
  unfold M.look
  simp only
  rw [if_pos e1, e2, g1, g2, if_neg]
  simp only [M.bad, h1, h2, h3, h4]
  simp
end Go.Proofs.YtoideahgjgaddaaGreat
/- Plain laws: a row that was written, as it is found. No program in sight. -/
namespace Go.Proofs.YtoideahgjgaddaaGreat
open Go
theorem nodup_map_range {α : Type} (n : Nat) (f : Nat → α) (h : ∀ k k', k < n → k' < k → f k' ≠ f k) : ((List.range n).map f).Nodup := by
  rw [List.nodup_iff_pairwise_ne, List.pairwise_map, List.pairwise_iff_getElem]
  intro i j hi hj hij
  simp only [List.getElem_range]
  exact h j i (by simpa using hj) hij
theorem mem_job {b r m : Int} {l : List En} {x : Int × Sh} : x ∈ R.job b r m l ↔ (∃ k, k < l.length ∧ x = (G.die m b r (k : Nat), W.sh b r m (l.getD k En.zero))) ∨ x = (G.parity m b r, W.parS b r m l) := by
  simp only [R.job, List.mem_append, List.mem_map, List.mem_range, List.mem_singleton]
  constructor
  · rintro (⟨k, h, rfl⟩ | rfl)
    · exact .inl ⟨k, h, rfl⟩
    · exact .inr rfl
  · rintro (⟨k, h, rfl⟩ | rfl)
    · exact .inl ⟨k, h, rfl⟩
    · exact .inr rfl
theorem job_nodup {b r m : Int} {l : List En} (F : DieFacts m b r) (hl : (l.length : Int) = G.slots m) : ((R.job b r m l).map (·.1)).Nodup := by
  rw [R.job, List.map_append, List.map_map]
  rw [List.nodup_append]
  refine ⟨nodup_map_range _ _ fun k k' hk hkk => F.inj k k' (by omega) hkk, by simp, fun x hx y hy => ?_⟩
  simp only [List.mem_map, List.mem_range] at hx
  obtain ⟨k, hk, rfl⟩ := hx
  simp only [List.map_cons, List.map_nil, List.mem_singleton] at hy
  subst hy
  exact (F.die k (by omega)).2.1
theorem parS_may {b r m : Int} {l : List En} (hB : W.parB b r m l = true) : S.may (W.parS b r m l) = true := by
  obtain ⟨h1, h2, h3, h4⟩ := parB_len hB
  obtain ⟨e, he⟩ : ∃ e, e ∈ l := by
    cases l with
    | nil => simp at h2
    | cons x l => exact ⟨x, by simp⟩
  have hok := h4 e he
  simp only [W.ok, S.may, Bool.and_eq_true] at hok
  have hpl : S.place (W.parS b r m l) = true := hok.1.1
  have hov : ∃ M : Nat, (W.over (l.map (W.sh b r m))).2 = M ∧ M < 18446744073709551616 := over_nat (l.map (W.sh b r m)) (zeros16, 0) ⟨by decide, by decide⟩
  obtain ⟨M, hM, hM2⟩ := hov
  simp only [S.may, hpl, Bool.true_and, Bool.and_eq_true]
  refine ⟨?_, by simp [W.parS]⟩
  simp only [S.numbers, S.inB, W.parS, hM, Int.toNat_natCast, Bool.and_eq_true, decide_eq_true_eq]
  omega
theorem parS_len {b r m : Int} {l : List En} (hd : ∀ s ∈ l, s.data.length = 16) : (W.parS b r m l).data.length = 16 :=
  fold_len (fun t ht => by obtain ⟨e, he, rfl⟩ := List.mem_map.1 ht; exact hd e he) _ rfl
/-- a flash that has a whole row -/
structure HasRow (N : Nand) (b m : Int) (l : List En) : Prop where
  slot : ∀ k, k < l.length → M.look N (G.die m b 0 (k : Nat)) b 0 = (W.sh b 0 m (l.getD k En.zero), 1)
  par : M.look N (G.parity m b 0) b 0 = (W.parS b 0 m l, 1)
theorem HasRow.look {N : Nand} {b m : Int} {l : List En} (h : HasRow N b m l) (hl : (l.length : Int) = G.slots m) : R.look N b 0 m = ⟨(List.range l.length).map fun k => W.sh b 0 m (l.getD k En.zero), (List.range l.length).map fun _ => true, W.parS b 0 m l, true⟩ := by
  have hs : (G.slots m).toNat = l.length := by omega
  have hone : ∀ k ∈ List.range l.length, R.one N b 0 m (G.die m b 0 (k : Nat)) = (W.sh b 0 m (l.getD k En.zero), true) := fun k hk => by
    unfold R.one
    rw [h.slot k (List.mem_range.1 hk)]
    simp [W.sh]
  unfold R.look R.ones
  rw [hs, List.map_map, List.map_map]
  have e1 : (List.range l.length).map ((fun x : Sh × Bool => x.1) ∘ fun i : Nat => R.one N b 0 m (G.die m b 0 i)) = (List.range l.length).map fun k => W.sh b 0 m (l.getD k En.zero) := List.map_congr_left fun k hk => by simp only [Function.comp_apply, hone k hk]
  have e2 : (List.range l.length).map ((fun x : Sh × Bool => x.2) ∘ fun i : Nat => R.one N b 0 m (G.die m b 0 i)) = (List.range l.length).map fun _ => true := List.map_congr_left fun k hk => by simp only [Function.comp_apply, hone k hk]
  have e3 : R.one N b 0 m (G.parity m b 0) = (W.parS b 0 m l, true) := by
    unfold R.one; rw [h.par]; simp [W.parS]
  rw [e3]
  exact Fd.mk.injEq .. |>.mpr ⟨e1, e2, rfl, rfl⟩
theorem filterMap_same {α β : Type} {f g : α → Option β} : ∀ {l : List α}, (∀ x ∈ l, f x = g x) → l.filterMap f = l.filterMap g
  | [], _ => rfl
  | x :: l, h => by rw [List.filterMap_cons, List.filterMap_cons, h x (by simp), filterMap_same fun y hy => h y (by simp [hy])]
/-- what is found of it -/
theorem HasRow.all {N : Nand} {b m : Int} {l : List En} (h : HasRow N b m l) (hl : (l.length : Int) = G.slots m) : R.allM N b 0 m = (List.range l.length).filterMap fun k => if (l.getD k En.zero).role != 3 then some ⟨l.getD k En.zero, b, 0, k, m, true, false⟩ else none := by
  unfold R.allM
  rw [h.look hl]
  simp only [List.length_map, List.length_range]
  refine filterMap_same fun k hk => ?_
  have hk := List.mem_range.1 hk
  have hg : ((List.range l.length).map fun _ => true).getD k false = true := by
    rw [List.getD_eq_getElem?_getD]; simp [hk]
  have hsl : ((List.range l.length).map fun k => W.sh b 0 m (l.getD k En.zero)).getD k Sh.zero = W.sh b 0 m (l.getD k En.zero) := by
    rw [List.getD_eq_getElem?_getD]; simp [hk]
  unfold R.fnd R.okAt R.enAt
  simp only [hg, hsl, if_true, Bool.true_or, Bool.true_and, Bool.not_true]
  rfl
end Go.Proofs.YtoideahgjgaddaaGreat
/- Plain laws: a block that could not be erased has pages of an elder row: the new row is found beside it. No program in sight. -/
namespace Go.Proofs.YtoideahgjgaddaaGreat
open Go
def mAll (D : Nat) : Int := ((2 ^ D - 1 : Nat) : Int)
def mBut (D d : Nat) : Int := ((2 ^ D - 1 - 2 ^ d : Nat) : Int)
structure MaskFacts (D d : Nat) : Prop where
  ca : L.count (mAll D) = D
  cb : L.count (mBut D d) = D - 1
  b0 : 0 ≤ mBut D d ∧ mBut D d < 64
  a0 : 0 ≤ mAll D ∧ mAll D < 64
  ne : mBut D d ≠ mAll D
  ha : ∀ i : Nat, i < 8 → L.has (mAll D) (i : Nat) = decide (i < D)
  hb : ∀ i : Nat, i < 8 → L.has (mBut D d) (i : Nat) = (decide (i < D) && i != d)
  sort : compactI (isortL ((List.range D).map fun i => if i = d then mAll D else mBut D d)) = [mBut D d, mAll D]
structure Erased (N N' : Nand) (b die k : Nat) : Prop where
  calm : N'.Calm
  like : N.Like N'
  broken : N'.broken = N.broken
  yet : ∀ i, k ≤ i → N'.blk i b = N.blk i b
  done : ∀ i, i < k → i ≠ die → (N'.blk i b).cells = [] ∧ (N'.blk i b).met = (N.blk i b).met
  kept : (N'.blk die b).cells = (N.blk die b).cells
theorem new_calm (D B P : Nat) : (Nand.new D B P).Calm := ⟨rfl, rfl, rfl, fun i => by
  show (List.replicate D false).getD i false = false
  rw [List.getD_eq_getElem?_getD, List.getElem?_replicate]; split <;> rfl⟩
/-- dies of a job are dies of its mask -/
theorem job_has {b m : Int} {l : List En} (F : DieFacts m b 0) (hl : (l.length : Int) = G.slots m) : ∀ x ∈ R.job b 0 m l, ∃ d : Nat, x.1 = d ∧ d < 6 ∧ L.has m (d : Nat) = true ∧ x.2.mask = m := by
  intro x hx
  rcases mem_job.1 hx with ⟨k, hk, rfl⟩ | rfl
  · obtain ⟨h1, h2, h3, h4⟩ := F.die k (by omega)
    obtain ⟨d, hd⟩ := Int.eq_ofNat_of_zero_le h3
    exact ⟨d, hd, by omega, by rw [← hd]; exact h1, rfl⟩
  · obtain ⟨h1, h3, h4⟩ := F.par
    obtain ⟨d, hd⟩ := Int.eq_ofNat_of_zero_le h3
    exact ⟨d, hd, by omega, by rw [← hd]; exact h1, rfl⟩
theorem job_of {b m : Int} {l : List En} (F : DieFacts m b 0) (hl : (l.length : Int) = G.slots m) {d : Nat} (hd : d < 6) (hh : L.has m (d : Nat) = true) : ∃ s, ((d : Int), s) ∈ R.job b 0 m l ∧ s.mask = m ∧ (s = W.parS b 0 m l ∧ (d : Int) = G.parity m b 0 ∨ ∃ k, k < l.length ∧ s = W.sh b 0 m (l.getD k En.zero) ∧ (d : Int) = G.die m b 0 (k : Nat)) := by
  rcases F.all d hd hh with h | ⟨k, hk, h⟩
  · exact ⟨W.parS b 0 m l, mem_job.2 (.inr (by rw [h])), rfl, .inl ⟨rfl, h⟩⟩
  · exact ⟨W.sh b 0 m (l.getD k En.zero), mem_job.2 (.inl ⟨k, by omega, by rw [h]⟩), rfl, .inr ⟨k, by omega, rfl, h.symm⟩⟩
theorem write_clean {N : Nand} {b m : Int} {l : List En} (hB : W.parB b 0 m l = true) (hC : Clean N b (R.job b 0 m l)) : ∃ N', R.write N b 0 m l = (N', 0, 0) ∧ Wrote N N' b (R.job b 0 m l) := by
  obtain ⟨N', h1, h2⟩ := go_clean b _ N hC
  exact ⟨N', by rw [R.write, if_pos hB, h1], h2⟩
end Go.Proofs.YtoideahgjgaddaaGreat
/- Plain laws: the sentence on elder rows. No program in sight. -/
namespace Go.Proofs.YtoideahgjgaddaaGreat
open Go
end Go.Proofs.YtoideahgjgaddaaGreat
/- Walks: small closed calls of zig, bits. -/
namespace Go.Proofs.YtoideahgjgaddaaGreat
open Go.RowKit
set_option maxRecDepth 100000 in
theorem zig_1 (w : World) : Calls Tryz.prog 261 #[.int .i64 (-1)] w fun e w' => e = .returned (.int .u64 1) ∧ w = w' := by
  go_enter Tryz.func261, Tryz.ntmps261
  go_wp2
  go_ret
  exact ⟨by kernel_rfl, rfl⟩
set_option maxRecDepth 100000 in
theorem zag_1 (w : World) : Calls Tryz.prog 262 #[.int .u64 1] w fun e w' => e = .returned (.int .i64 (-1)) ∧ w = w' := by
  go_enter Tryz.func262, Tryz.ntmps262
  go_wp2
  go_ret
  exact ⟨by kernel_rfl, rfl⟩
set_option maxRecDepth 100000 in
theorem narrow_1 (w : World) : Calls Tryz.prog 263 #[.int .i64 255, .int .i64 8] w fun e w' => e = .returned (.int .i64 (-1)) ∧ w = w' := by
  go_enter Tryz.func263, Tryz.ntmps263
  go_wp2
  go_ret
  exact ⟨by kernel_rfl, rfl⟩
set_option maxRecDepth 100000 in
theorem narrow_2 (w : World) : Calls Tryz.prog 263 #[.int .i64 1, .int .i64 0] w fun e w' => e = .returned (.int .i64 0) ∧ w = w' := by
  go_enter Tryz.func263, Tryz.ntmps263
  go_wp2
  go_ret
  exact ⟨by kernel_rfl, rfl⟩
end Go.Proofs.YtoideahgjgaddaaGreat
/- Walks: a few small closed calls of bits. -/
namespace Go.Proofs.YtoideahgjgaddaaGreat
open Go Go.RowKit
def nk (k : Nat) : Nat := match k with | 0 => 0 | _ + 1 => 1
def vb (k : Nat) : Int := match k with | 0 => 0 | 1 => 128 | 2 => 128 | _ => 160
def vq (k : Nat) : Int := match k with | 0 => 0 | _ => 128
def vl (k : Nat) : List Value := match k with | 0 => [] | k + 1 => [.int .u8 (vb (k + 1))]
theorem b_may (n : Int) : Fn Tryz.prog 163 [.int .i64 n] [] (fun v As => v = .bool (decide (n ≥ 1) && decide (n ≤ 64)) ∧ As = []) := by
  refine Fn.enter [0] Tryz.func163 rfl rfl rfl fun X F hX => ?_
  refine J.r hX tab_ok 400 (fun _ => rfl) fun b1 => ?_
  refine J.rt hX tab_ok [] rfl rfl rfl ?_
  exact ⟨rfl, rfl⟩
theorem b_Put1 (g : Nat) : Fn Tryz.prog 110 [.pointer (some ⟨g, 0, none⟩), .int .u64 5, .int .i64 3] [.pt g 190 [.slice none 0 0, .int .i64 0]]
    (fun v As => v = .bool true ∧ ∃ a cap, As = [.pt g 190 [slv a 1 cap, .int .i64 3], ownA 5 1 a 1 cap [.int .u8 160]]) := by
  refine Fn.enter [2, 0, 0] Tryz.func110 rfl rfl rfl fun X F hX => ?_
  refine J.r hX tab_ok 400 (fun _ => rfl) fun b2 => ?_
  refine J.ca hX (by kernel_rfl) (b_may 3) [] 0 rfl rfl rfl rfl rfl rfl (fun _ => rfl) ?_
  rintro v As ⟨rfl, rfl⟩
  refine ⟨_, rfl, trivial, ?_⟩
  refine J.r hX tab_ok 400 (fun _ => rfl) fun b3 => ?_
  refine J.cond rfl (fun h => absurd h (by decide)) (fun _ => ?_)
  refine J.turn1 [] rfl (As := [ownA 5 1 none 0 0 (vl 0)]) (fun h s => Sep.one ⟨rfl, rfl, rfl⟩) rfl ?_
  refine J.r hX tab_ok 400 (fun _ => rfl) fun b4 => ?_
  refine J.r hX tab_ok 400 (fun _ => rfl) fun b5 => ?_
  refine J.lo (α := (Nat × Option Nat × Nat)) (fun z => z.1 ≤ 3) (fun z => [⟨7, .int .i64 (2 - z.1), 0, .tt⟩, ⟨0, .pointer (some ⟨g, 0, none⟩), 2, .tt⟩, ⟨1, .int .u64 5, 0, .tt⟩]) [1, 2] (fun z => [.pt g 190 [slv z.2.1 (nk z.1) z.2.2, .int .i64 z.1], ownA 5 1 z.2.1 (nk z.1) z.2.2 (vl z.1)]) (fun z => 3 - z.1) ((0, none, 0)) (Nat.zero_le _) rfl ?_ (fun _ => rfl) fun z hI => ?_
  · rfl
  obtain ⟨k, a, cap⟩ := z
  dsimp only at hI ⊢
  rcases (by omega : k = 0 ∨ k = 1 ∨ k = 2 ∨ k = 3) with rfl | rfl | rfl | rfl
  · -- bit 0
    refine J.r hX tab_ok 400 (fun _ => rfl) fun b6 => ?_
    refine J.cond rfl (fun _ => ?_) (fun h => absurd h (by decide))
    refine J.r hX tab_ok 400 (fun _ => rfl) fun b7 => ?_
    refine J.cond rfl (fun _ => ?_) (fun h => absurd h (by decide))
    refine J.r hX tab_ok 400 (fun _ => rfl) fun b8 => ?_
    refine J.append hX tab_ok 2 3 0 rfl rfl rfl rfl rfl rfl rfl rfl rfl rfl rfl rfl rfl rfl rfl rfl (by decide) (by decide) (fun _ => rfl) fun a cap => ⟨_, rfl, trivial, ?_⟩
    refine J.know (fun h' s => own_some (c := (a, cap)) (by decide) (s.get (i := 2) rfl)) fun hg => ?_
    obtain ⟨ga, rfl⟩ := hg
    refine J.openOwn 2 rfl rfl (fun _ => rfl) fun r q1 q2 q3 q4 => ?_
    refine J.r hX tab_ok 400 (fun _ => rfl) fun b9 => ?_
    refine J.plan (.of [0,4,8,13,16,20,24,29,32,36,41,44,48,52,56,60,64,68,72,77,80,84,88,92,96,103]) [24,25] [1,2] (by rw [hX.hP]; kernel_rfl) (by kernel_rfl) ?_
    refine J.r hX tab_ok 400 (fun _ => rfl) fun b10 => ?_
    refine J.valT hX (.int .u8 (vq 0)) 0 rfl rfl (fun hg a w he hC => ?_) rfl ?_
    · exact load1_run tab_ok rfl rfl he hg rfl rfl (hC rfl _ (cget_mem (i := 2) rfl)) rfl
    refine J.r hX tab_ok 400 (fun _ => rfl) fun b11 => ?_
    refine J.store1 hX tab_ok 2 rfl rfl rfl rfl rfl rfl rfl rfl rfl rfl rfl rfl rfl ?_ (.int .u8 (vb 1) :: r) ?_ rfl (fun _ => rfl) ⟨trivial, ?_⟩
    · exact Nat.succ_pos _
    · rfl
    refine J.closeOwn (e := 5) (size := 1) (n := 1) (cap := cap) (xs := [.int .u8 (vb 1)]) 2 rfl rfl rfl q2 q3 (by rw [List.length_cons, Nat.add_comm]; exact q4) rfl rfl ?_
    refine J.r hX tab_ok 400 (fun _ => rfl) fun b12 => ?_
    refine J.r hX tab_ok 400 (fun _ => rfl) fun b13 => ?_
    refine J.nS ((1, some ga, cap)) (by dsimp only; omega) (by dsimp only; omega) [0, 1, 2] rfl rfl
  · -- bit 1
    refine J.r hX tab_ok 400 (fun _ => rfl) fun b14 => ?_
    refine J.cond rfl (fun _ => ?_) (fun h => absurd h (by decide))
    refine J.r hX tab_ok 400 (fun _ => rfl) fun b15 => ?_
    refine J.cond rfl (fun h => absurd h (by decide)) (fun _ => ?_)
    refine J.know (fun h' s => own_some (c := (a, cap)) (by decide) (s.get (i := 2) rfl)) fun hg => ?_
    obtain ⟨ga, rfl⟩ := hg
    refine J.openOwn 2 rfl rfl (fun _ => rfl) fun r q1 q2 q3 q4 => ?_
    refine J.r hX tab_ok 400 (fun _ => rfl) fun b16 => ?_
    refine J.plan (.of [0,4,8,13,16,20,24,29,32,36,41,44,48,52,56,60,64,68,72,77,80,84,88,92,96,103]) [24,25] [1,2] (by rw [hX.hP]; kernel_rfl) (by kernel_rfl) ?_
    refine J.r hX tab_ok 400 (fun _ => rfl) fun b17 => ?_
    refine J.valT hX (.int .u8 (vq 1)) 0 rfl rfl (fun hg a w he hC => ?_) rfl ?_
    · exact load1_run tab_ok rfl rfl he hg rfl rfl (hC rfl _ (cget_mem (i := 2) rfl)) rfl
    refine J.r hX tab_ok 400 (fun _ => rfl) fun b18 => ?_
    refine J.store1 hX tab_ok 2 rfl rfl rfl rfl rfl rfl rfl rfl rfl rfl rfl rfl rfl ?_ (.int .u8 (vb 2) :: r) ?_ rfl (fun _ => rfl) ⟨trivial, ?_⟩
    · exact Nat.succ_pos _
    · rfl
    refine J.closeOwn (e := 5) (size := 1) (n := 1) (cap := cap) (xs := [.int .u8 (vb 2)]) 2 rfl rfl rfl q2 q3 (by rw [List.length_cons, Nat.add_comm]; exact q4) rfl rfl ?_
    refine J.r hX tab_ok 400 (fun _ => rfl) fun b19 => ?_
    refine J.r hX tab_ok 400 (fun _ => rfl) fun b20 => ?_
    refine J.nS ((2, some ga, cap)) (by dsimp only; omega) (by dsimp only; omega) [0, 1, 2] rfl rfl
  · -- bit 2
    refine J.r hX tab_ok 400 (fun _ => rfl) fun b21 => ?_
    refine J.cond rfl (fun _ => ?_) (fun h => absurd h (by decide))
    refine J.r hX tab_ok 400 (fun _ => rfl) fun b22 => ?_
    refine J.cond rfl (fun h => absurd h (by decide)) (fun _ => ?_)
    refine J.know (fun h' s => own_some (c := (a, cap)) (by decide) (s.get (i := 2) rfl)) fun hg => ?_
    obtain ⟨ga, rfl⟩ := hg
    refine J.openOwn 2 rfl rfl (fun _ => rfl) fun r q1 q2 q3 q4 => ?_
    refine J.r hX tab_ok 400 (fun _ => rfl) fun b23 => ?_
    refine J.plan (.of [0,4,8,13,16,20,24,29,32,36,41,44,48,52,56,60,64,68,72,77,80,84,88,92,96,103]) [24,25] [1,2] (by rw [hX.hP]; kernel_rfl) (by kernel_rfl) ?_
    refine J.r hX tab_ok 400 (fun _ => rfl) fun b24 => ?_
    refine J.valT hX (.int .u8 (vq 2)) 0 rfl rfl (fun hg a w he hC => ?_) rfl ?_
    · exact load1_run tab_ok rfl rfl he hg rfl rfl (hC rfl _ (cget_mem (i := 2) rfl)) rfl
    refine J.r hX tab_ok 400 (fun _ => rfl) fun b25 => ?_
    refine J.store1 hX tab_ok 2 rfl rfl rfl rfl rfl rfl rfl rfl rfl rfl rfl rfl rfl ?_ (.int .u8 (vb 3) :: r) ?_ rfl (fun _ => rfl) ⟨trivial, ?_⟩
    · exact Nat.succ_pos _
    · rfl
    refine J.closeOwn (e := 5) (size := 1) (n := 1) (cap := cap) (xs := [.int .u8 (vb 3)]) 2 rfl rfl rfl q2 q3 (by rw [List.length_cons, Nat.add_comm]; exact q4) rfl rfl ?_
    refine J.r hX tab_ok 400 (fun _ => rfl) fun b26 => ?_
    refine J.r hX tab_ok 400 (fun _ => rfl) fun b27 => ?_
    refine J.nS ((3, some ga, cap)) (by dsimp only; omega) (by dsimp only; omega) [0, 1, 2] rfl rfl
  · refine J.r hX tab_ok 400 (fun _ => rfl) fun b28 => ?_
    refine J.cond rfl (fun h => absurd h (by decide)) (fun _ => ?_)
    refine J.r hX tab_ok 400 (fun _ => rfl) fun b29 => ?_
    refine J.rt hX tab_ok [1, 2] rfl rfl rfl ?_
    exact ⟨rfl, a, cap, rfl⟩
theorem b_Put2 (g : Nat) (a : Option Nat) (cap : Nat) : Fn Tryz.prog 110 [.pointer (some ⟨g, 0, none⟩), .int .u64 2, .int .i64 1] [.pt g 190 [slv a 1 cap, .int .i64 3]]
    (fun v As => v = .bool false ∧ As = [.pt g 190 [slv a 1 cap, .int .i64 3]]) := by
  refine Fn.enter [2, 0, 0] Tryz.func110 rfl rfl rfl fun X F hX => ?_
  refine J.r hX tab_ok 400 (fun _ => rfl) fun b30 => ?_
  refine J.ca hX (by kernel_rfl) (b_may 1) [] 0 rfl rfl rfl rfl rfl rfl (fun _ => rfl) ?_
  rintro v As ⟨rfl, rfl⟩
  refine ⟨_, rfl, trivial, ?_⟩
  refine J.r hX tab_ok 400 (fun _ => rfl) fun b31 => ?_
  refine J.cond rfl (fun _ => ?_) (fun h => absurd h (by decide))
  refine J.r hX tab_ok 400 (fun _ => rfl) fun b32 => ?_
  refine J.rt hX tab_ok [1] rfl rfl rfl ?_
  exact ⟨rfl, rfl⟩
theorem o_Len (g : Nat) (a : Option Nat) (m cap : Nat) (k : Int) : Fn Tryz.prog 265 [.pointer (some ⟨g, 0, none⟩)] [.pt g 190 [slv a m cap, .int .i64 k]]
    (fun v As => v = .int .i64 k ∧ As = [.pt g 190 [slv a m cap, .int .i64 k]]) := by
  refine Fn.enter [2] Tryz.func265 rfl rfl rfl fun X F hX => ?_
  refine J.r hX tab_ok 400 (fun _ => rfl) fun b33 => ?_
  refine J.cond rfl (fun h => by simp at h) (fun _ => ?_)
  refine J.r hX tab_ok 400 (fun _ => rfl) fun b34 => ?_
  refine J.rt hX tab_ok [1] rfl rfl rfl ?_
  exact ⟨rfl, rfl⟩
theorem x_CloneB (a : Option Nat) (n cap : Nat) (l : List Value) (hl : l.length = n) (h1 : ∀ u ∈ l, u.oneCell' = true) (hn : n ≤ 1000000) : Fn Tryz.prog 164 [slv a n cap] [ownA 5 1 a n cap l]
    (fun v As => ∃ a' c', v = slv a' n c' ∧ As = [ownA 5 1 a n cap l, ownA 5 1 a' n c' l]) := by
  refine Fn.enter [0] Tryz.func164 rfl rfl rfl fun X F hX => ?_
  cases a with
  | none =>
    refine J.know (fun h' s => (s.get (i := 1) rfl).2) fun hn0 => ?_
    obtain ⟨rfl, rfl⟩ := hn0
    have : l = [] := List.eq_nil_of_length_eq_zero hl
    subst this
    refine J.r hX tab_ok 400 (fun _ => rfl) fun b35 => ?_
    refine J.cond rfl (fun _ => ?_) (fun h => by simp at h)
    refine J.turn1 [] rfl (As := [ownA 5 1 none 0 0 []]) (fun h s => Sep.one ⟨rfl, rfl, rfl⟩) rfl ?_
    refine J.r hX tab_ok 400 (fun _ => rfl) fun b36 => ?_
    refine J.rt hX tab_ok [1, 2] rfl rfl rfl ?_
    exact ⟨none, 0, rfl, rfl⟩
  | some g =>
    refine J.r hX tab_ok 400 (fun _ => rfl) fun b37 => ?_
    refine J.cond rfl (fun h => by simp at h) (fun _ => ?_)
    refine J.r hX tab_ok 5 (fun _ => rfl) fun bb => ?_
    refine J.closeOwn (e := 5) (size := 1) (n := 0) (cap := 0) (xs := []) 2 rfl rfl rfl (Nat.le_refl _) (Nat.zero_le _) rfl rfl rfl ?_
    refine J.r hX tab_ok 400 (fun _ => rfl) fun b38 => ?_
    refine J.appendR hX tab_ok (a := some (bb 0)) (n := 0) (cap := 0) (xs := []) (oo := 0) (Ay := ownA 5 1 (some g) n cap l) 2 1 0 rfl rfl rfl rfl rfl rfl rfl rfl rfl rfl (own_rd _ _ (some g) _ _ _) rfl rfl rfl rfl h1 ?_ ?_ (fun _ => rfl) fun a' c' => ⟨_, rfl, trivial, ?_⟩
    · simp only [maxLen]; omega
    · omega
    rw [Nat.zero_add n, List.nil_append]
    refine J.r hX tab_ok 400 (fun _ => rfl) fun b39 => ?_
    refine J.rt hX tab_ok [1, 2] rfl rfl rfl ?_
    exact ⟨a', c', rfl, rfl⟩
theorem b_Bytes (g : Nat) (a : Option Nat) (m cap : Nat) (k : Int) (l : List Value) (hl : l.length = m) (h1 : ∀ u ∈ l, u.oneCell' = true) (hn : m ≤ 1000000) : Fn Tryz.prog 112 [.pointer (some ⟨g, 0, none⟩)] [.pt g 190 [slv a m cap, .int .i64 k], ownA 5 1 a m cap l]
    (fun v As => ∃ a' c', v = slv a' m c' ∧ As = [.pt g 190 [slv a m cap, .int .i64 k], ownA 5 1 a m cap l, ownA 5 1 a' m c' l]) := by
  refine Fn.enter [2] Tryz.func112 rfl rfl rfl fun X F hX => ?_
  refine J.r hX tab_ok 400 (fun _ => rfl) fun b40 => ?_
  refine J.cond rfl (fun h => by simp at h) (fun _ => ?_)
  refine J.r hX tab_ok 400 (fun _ => rfl) fun b41 => ?_
  refine J.r hX tab_ok 400 (fun _ => rfl) fun b42 => ?_
  refine J.ca hX (by kernel_rfl) (x_CloneB a m cap l hl h1 hn) [2] 0 rfl rfl rfl rfl rfl rfl (fun _ => rfl) ?_
  rintro v As ⟨a', c', rfl, rfl⟩
  refine ⟨_, rfl, trivial, ?_⟩
  refine J.r hX tab_ok 400 (fun _ => rfl) fun b43 => ?_
  refine J.rt hX tab_ok [1, 2, 3] rfl rfl rfl ?_
  exact ⟨a', c', rfl, rfl⟩
theorem b_Read (a : Option Addr) (n cap : Nat) : Fn Tryz.prog 187 [.slice a n cap] [] (fun v As => ∃ g, v = .pointer (some ⟨g, 0, none⟩) ∧ As = [.pt g 265 [.slice a n cap, .int .i64 0]]) := by
  refine Fn.enter [0] Tryz.func187 rfl rfl rfl fun X F hX => ?_
  refine J.r hX tab_ok 400 (fun _ => rfl) fun bb => ?_
  refine J.r hX tab_ok 400 (fun _ => rfl) fun b44 => ?_
  refine J.rt hX tab_ok [1] rfl rfl rfl ?_
  exact ⟨bb 0, rfl, rfl⟩
theorem b_Left (g b : Nat) (k : Int) (h0 : 0 ≤ k) (h1 : k ≤ 8) : Fn Tryz.prog 217 [.pointer (some ⟨g, 0, none⟩)] [.pt g 265 [.slice (some ⟨b, 0, none⟩) 1 1, .int .i64 k]]
    (fun v As => v = .int .i64 (8 - k) ∧ As = [.pt g 265 [.slice (some ⟨b, 0, none⟩) 1 1, .int .i64 k]]) := by
  refine Fn.enter [2] Tryz.func217 rfl rfl rfl fun X F hX => ?_
  refine J.r hX tab_ok 400 (fun _ => rfl) fun b45 => ?_
  refine J.cond rfl (fun h => by simp at h) (fun _ => ?_)
  refine J.r hX tab_ok 400 (fun _ => rfl) fun b46 => ?_
  refine J.plan (.of [0,4,8,13,16,20,24,28,32,37,40,44]) [11] [1] (by rw [hX.hP]; kernel_rfl) (by kernel_rfl) ?_
  refine J.r hX tab_ok 400 (fun _ => rfl) fun b47 => ?_
  refine J.r hX tab_ok 400 (fun _ => rfl) fun b48 => ?_
  refine J.rt hX tab_ok [1] rfl rfl rfl ?_
  exact ⟨rfl, rfl⟩
theorem b_Get9 (g b : Nat) : Fn Tryz.prog 188 [.pointer (some ⟨g, 0, none⟩), .int .i64 9] [.pt g 265 [.slice (some ⟨b, 0, none⟩) 1 1, .int .i64 4]]
    (fun v As => v = .tuple #[.int .u64 0, .bool false] ∧ As = [.pt g 265 [.slice (some ⟨b, 0, none⟩) 1 1, .int .i64 4]]) := by
  refine Fn.enter [2, 0] Tryz.func188 rfl rfl rfl fun X F hX => ?_
  refine J.r hX tab_ok 400 (fun _ => rfl) fun b49 => ?_
  refine J.r hX tab_ok 400 (fun _ => rfl) fun b50 => ?_
  refine J.ca hX (by kernel_rfl) (b_may 9) [] 0 rfl rfl rfl rfl rfl rfl (fun _ => rfl) ?_
  rintro v As ⟨rfl, rfl⟩
  refine ⟨_, rfl, trivial, ?_⟩
  refine J.r hX tab_ok 400 (fun _ => rfl) fun b51 => ?_
  refine J.r hX tab_ok 400 (fun _ => rfl) fun b52 => ?_
  refine J.ca hX (by kernel_rfl) (b_Left g b 4 (by decide) (by decide)) [1] 0 rfl rfl rfl rfl rfl rfl (fun _ => rfl) ?_
  rintro v As ⟨rfl, rfl⟩
  refine ⟨_, rfl, trivial, ?_⟩
  refine J.r hX tab_ok 400 (fun _ => rfl) fun b53 => ?_
  refine J.cond rfl (fun _ => ?_) (fun h => absurd h (by decide))
  refine J.r hX tab_ok 400 (fun _ => rfl) fun b54 => ?_
  refine J.rt hX tab_ok [1] rfl rfl rfl ?_
  exact ⟨rfl, rfl⟩
def vg (k : Nat) : Int := match k with | 0 => 0 | 1 => 1 | 2 => 2 | 3 => 5 | _ => 10
theorem b_Get4 (g b : Nat) : Fn Tryz.prog 188 [.pointer (some ⟨g, 0, none⟩), .int .i64 4] [.pt g 265 [.slice (some ⟨b, 0, none⟩) 1 1, .int .i64 0], .pt b 5 [.int .u8 165]]
    (fun v As => v = .tuple #[.int .u64 10, .bool true] ∧ As = [.pt g 265 [.slice (some ⟨b, 0, none⟩) 1 1, .int .i64 4], .pt b 5 [.int .u8 165]]) := by
  refine Fn.enter [2, 0] Tryz.func188 rfl rfl rfl fun X F hX => ?_
  refine J.r hX tab_ok 400 (fun _ => rfl) fun b55 => ?_
  refine J.r hX tab_ok 400 (fun _ => rfl) fun b56 => ?_
  refine J.ca hX (by kernel_rfl) (b_may 4) [] 0 rfl rfl rfl rfl rfl rfl (fun _ => rfl) ?_
  rintro v As ⟨rfl, rfl⟩
  refine ⟨_, rfl, trivial, ?_⟩
  refine J.r hX tab_ok 400 (fun _ => rfl) fun b57 => ?_
  refine J.r hX tab_ok 400 (fun _ => rfl) fun b58 => ?_
  refine J.ca hX (by kernel_rfl) (b_Left g b 0 (by decide) (by decide)) [1] 0 rfl rfl rfl rfl rfl rfl (fun _ => rfl) ?_
  rintro v As ⟨rfl, rfl⟩
  refine ⟨_, rfl, trivial, ?_⟩
  refine J.r hX tab_ok 400 (fun _ => rfl) fun b59 => ?_
  refine J.cond rfl (fun h => absurd h (by decide)) (fun _ => ?_)
  refine J.r hX tab_ok 400 (fun _ => rfl) fun b60 => ?_
  refine J.r hX tab_ok 400 (fun _ => rfl) fun b61 => ?_
  refine J.lo (α := Nat) (fun k => k ≤ 4) (fun k => [⟨6, .int .u64 (vg k), 0, .tt⟩, ⟨7, .int .i64 4, 0, .tt⟩, ⟨0, .pointer (some ⟨g, 0, none⟩), 2, .tt⟩]) [1] (fun k => [.pt g 265 [.slice (some ⟨b, 0, none⟩) 1 1, .int .i64 k]]) (fun k => 4 - k) (0) (Nat.zero_le _) rfl ?_ (fun _ => rfl) fun k hI => ?_
  · rfl
  rcases (by omega : k = 0 ∨ k = 1 ∨ k = 2 ∨ k = 3 ∨ k = 4) with rfl | rfl | rfl | rfl | rfl
  · refine J.r hX tab_ok 400 (fun _ => rfl) fun b62 => ?_
    refine J.cond rfl (fun _ => ?_) (fun h => absurd h (by decide))
    refine J.r hX tab_ok 400 (fun _ => rfl) fun b63 => ?_
    refine J.plan (.of [0,4,8,12,16,21,24,28,32,37,40,44,49,52,56,60,65,68,72,76,80,84,88,92]) [23] [1,2] (by rw [hX.hP]; kernel_rfl) (by kernel_rfl) ?_
    refine J.r hX tab_ok 400 (fun _ => rfl) fun b64 => ?_
    refine J.valT hX (.int .u8 165) 0 rfl rfl (fun hg a w he hC => ?_) rfl ?_
    · exact load1_run tab_ok rfl rfl he hg rfl rfl (hC rfl _ (cget_mem (i := 2) rfl)) rfl
    refine J.r hX tab_ok 400 (fun _ => rfl) fun b65 => ?_
    refine J.r hX tab_ok 400 (fun _ => rfl) fun b66 => ?_
    refine J.nS (1) (by omega) (by omega) [0, 1, 2] rfl rfl
  · refine J.r hX tab_ok 400 (fun _ => rfl) fun b67 => ?_
    refine J.cond rfl (fun _ => ?_) (fun h => absurd h (by decide))
    refine J.r hX tab_ok 400 (fun _ => rfl) fun b68 => ?_
    refine J.plan (.of [0,4,8,12,16,21,24,28,32,37,40,44,49,52,56,60,65,68,72,76,80,84,88,92]) [23] [1,2] (by rw [hX.hP]; kernel_rfl) (by kernel_rfl) ?_
    refine J.r hX tab_ok 400 (fun _ => rfl) fun b69 => ?_
    refine J.valT hX (.int .u8 165) 0 rfl rfl (fun hg a w he hC => ?_) rfl ?_
    · exact load1_run tab_ok rfl rfl he hg rfl rfl (hC rfl _ (cget_mem (i := 2) rfl)) rfl
    refine J.r hX tab_ok 400 (fun _ => rfl) fun b70 => ?_
    refine J.r hX tab_ok 400 (fun _ => rfl) fun b71 => ?_
    refine J.nS (2) (by omega) (by omega) [0, 1, 2] rfl rfl
  · refine J.r hX tab_ok 400 (fun _ => rfl) fun b72 => ?_
    refine J.cond rfl (fun _ => ?_) (fun h => absurd h (by decide))
    refine J.r hX tab_ok 400 (fun _ => rfl) fun b73 => ?_
    refine J.plan (.of [0,4,8,12,16,21,24,28,32,37,40,44,49,52,56,60,65,68,72,76,80,84,88,92]) [23] [1,2] (by rw [hX.hP]; kernel_rfl) (by kernel_rfl) ?_
    refine J.r hX tab_ok 400 (fun _ => rfl) fun b74 => ?_
    refine J.valT hX (.int .u8 165) 0 rfl rfl (fun hg a w he hC => ?_) rfl ?_
    · exact load1_run tab_ok rfl rfl he hg rfl rfl (hC rfl _ (cget_mem (i := 2) rfl)) rfl
    refine J.r hX tab_ok 400 (fun _ => rfl) fun b75 => ?_
    refine J.r hX tab_ok 400 (fun _ => rfl) fun b76 => ?_
    refine J.nS (3) (by omega) (by omega) [0, 1, 2] rfl rfl
  · refine J.r hX tab_ok 400 (fun _ => rfl) fun b77 => ?_
    refine J.cond rfl (fun _ => ?_) (fun h => absurd h (by decide))
    refine J.r hX tab_ok 400 (fun _ => rfl) fun b78 => ?_
    refine J.plan (.of [0,4,8,12,16,21,24,28,32,37,40,44,49,52,56,60,65,68,72,76,80,84,88,92]) [23] [1,2] (by rw [hX.hP]; kernel_rfl) (by kernel_rfl) ?_
    refine J.r hX tab_ok 400 (fun _ => rfl) fun b79 => ?_
    refine J.valT hX (.int .u8 165) 0 rfl rfl (fun hg a w he hC => ?_) rfl ?_
    · exact load1_run tab_ok rfl rfl he hg rfl rfl (hC rfl _ (cget_mem (i := 2) rfl)) rfl
    refine J.r hX tab_ok 400 (fun _ => rfl) fun b80 => ?_
    refine J.r hX tab_ok 400 (fun _ => rfl) fun b81 => ?_
    refine J.nS (4) (by omega) (by omega) [0, 1, 2] rfl rfl
  · refine J.r hX tab_ok 400 (fun _ => rfl) fun b82 => ?_
    refine J.cond rfl (fun h => absurd h (by decide)) (fun _ => ?_)
    refine J.r hX tab_ok 400 (fun _ => rfl) fun b83 => ?_
    refine J.rt hX tab_ok [1, 2] rfl rfl rfl ?_
    exact ⟨rfl, rfl⟩
theorem k_nil : Fn Tryz.prog 113 [.slice none 0 0] [] (fun v As => v = .int .u32 4294967295 ∧ As = []) := by
  refine Fn.enter [0] Tryz.func113 rfl rfl rfl fun X F hX => ?_
  refine J.r hX tab_ok 400 (fun _ => rfl) fun b84 => ?_
  refine J.r hX tab_ok 400 (fun _ => rfl) fun b85 => ?_
  refine J.lo (α := Nat) (fun k => k ≤ 0) (fun k => [⟨8, .int .i64 0, 0, .tt⟩, ⟨7, .int .i64 0, 0, .tt⟩, ⟨3, .int .u32 4294967295, 0, .tt⟩]) [] (fun k => []) (fun k => 0) (0) (Nat.zero_le _) rfl ?_ (fun _ => rfl) fun k hI => ?_
  · rfl
  refine J.r hX tab_ok 400 (fun _ => rfl) fun b86 => ?_
  refine J.cond rfl (fun h => absurd h (by decide)) (fun _ => ?_)
  refine J.r hX tab_ok 400 (fun _ => rfl) fun b87 => ?_
  refine J.rt hX tab_ok [] rfl rfl rfl ?_
  exact ⟨rfl, rfl⟩
theorem k_step : Fn Tryz.prog 165 [.int .u32 0, .int .u8 128] [] (fun v As => v = .int .u32 (K.step 0 128 : Nat) ∧ As = []) := Fn.of_same (koop_Step 0 128 (by decide) (by decide))
end Go.Proofs.YtoideahgjgaddaaGreat
/- Walks: the closed sentence of layers 1 to 4. -/
namespace Go.Proofs.YtoideahgjgaddaaGreat
open Go Go.RowKit
theorem z_Zig : Fn Tryz.prog 261 [.int .i64 (-1)] [] (fun v As => v = .int .u64 1 ∧ As = []) := Fn.of_same zig_1
theorem z_Zag : Fn Tryz.prog 262 [.int .u64 1] [] (fun v As => v = .int .i64 (-1) ∧ As = []) := Fn.of_same zag_1
theorem z_Narrow1 : Fn Tryz.prog 263 [.int .i64 255, .int .i64 8] [] (fun v As => v = .int .i64 (-1) ∧ As = []) := Fn.of_same narrow_1
theorem z_Narrow2 : Fn Tryz.prog 263 [.int .i64 1, .int .i64 0] [] (fun v As => v = .int .i64 0 ∧ As = []) := Fn.of_same narrow_2
theorem z_Turn : Fn Tryz.prog 264 [.int .u32 1, .int .i64 33] [] (fun v As => v = .int .u32 2 ∧ As = []) := by
  refine Fn.enter [0, 0] Tryz.func264 rfl rfl rfl fun X F hX => ?_
  refine J.r hX tab_ok 400 (fun _ => rfl) fun b1 => ?_
  refine J.plan (.of [0,4,8,12,16,20,24,28,32]) [7,8] [] (by rw [hX.hP]; kernel_rfl) (by kernel_rfl) ?_
  refine J.r hX tab_ok 400 (fun _ => rfl) fun b2 => ?_
  refine J.r hX tab_ok 400 (fun _ => rfl) fun b3 => ?_
  refine J.rt hX tab_ok [] rfl rfl rfl ?_
  exact ⟨rfl, rfl⟩
theorem l1_begun : Fn Tryz.prog 257 [] [] (fun v As => v = .bool true ∧ As = []) := by
  refine Fn.enter [] Tryz.func257 rfl rfl rfl fun X F hX => ?_
  refine J.r hX tab_ok 400 (fun _ => rfl) fun b1 => ?_
  refine J.r hX tab_ok 400 (fun _ => rfl) fun b4 => ?_
  refine J.ca hX (by kernel_rfl) (b_Put1 (b1 0)) [1] 0 rfl rfl rfl rfl rfl rfl (fun _ => rfl) ?_
  rintro v As ⟨rfl, a, cap, rfl⟩
  refine ⟨_, rfl, trivial, ?_⟩
  refine J.r hX tab_ok 400 (fun _ => rfl) fun b5 => ?_
  refine J.r hX tab_ok 400 (fun _ => rfl) fun b6 => ?_
  refine J.ca hX (by kernel_rfl) (b_Put2 (b1 0) a cap) [1] 0 rfl rfl rfl rfl rfl rfl (fun _ => rfl) ?_
  rintro v As ⟨rfl, rfl⟩
  refine ⟨_, rfl, trivial, ?_⟩
  refine J.r hX tab_ok 400 (fun _ => rfl) fun b2 => ?_
  refine J.r hX tab_ok 400 (fun _ => rfl) fun b7 => ?_
  refine J.ca hX (by kernel_rfl) (b_Read (some ⟨b2 0, 0, none⟩) 1 1) [] 0 rfl rfl rfl rfl rfl rfl (fun _ => rfl) ?_
  rintro v As ⟨g, rfl, rfl⟩
  refine ⟨_, rfl, trivial, ?_⟩
  refine J.r hX tab_ok 400 (fun _ => rfl) fun b8 => ?_
  refine J.r hX tab_ok 400 (fun _ => rfl) fun b9 => ?_
  refine J.ca hX (by kernel_rfl) (b_Get4 g (b2 0)) [4, 3] 0 rfl rfl rfl rfl rfl rfl (fun _ => rfl) ?_
  rintro v As ⟨rfl, rfl⟩
  refine ⟨_, rfl, trivial, ?_⟩
  refine J.r hX tab_ok 400 (fun _ => rfl) fun b10 => ?_
  refine J.r hX tab_ok 400 (fun _ => rfl) fun b11 => ?_
  refine J.ca hX (by kernel_rfl) (b_Get9 g (b2 0)) [4] 0 rfl rfl rfl rfl rfl rfl (fun _ => rfl) ?_
  rintro v As ⟨rfl, rfl⟩
  refine ⟨_, rfl, trivial, ?_⟩
  refine J.r hX tab_ok 400 (fun _ => rfl) fun b12 => ?_
  refine J.r hX tab_ok 400 (fun _ => rfl) fun b13 => ?_
  refine J.ca hX (by kernel_rfl) (b_Bytes (b1 0) a 1 cap 3 [.int .u8 160] rfl (by decide) (by decide)) [1, 2] 0 rfl rfl rfl rfl rfl rfl (fun _ => rfl) ?_
  rintro v As ⟨a2, c2, rfl, rfl⟩
  refine ⟨_, rfl, trivial, ?_⟩
  refine J.know (fun h' s => own_some (c := (a2, c2)) (by decide) (s.get (i := 5) rfl)) fun hg => ?_
  obtain ⟨g2, rfl⟩ := hg
  refine J.r hX tab_ok 400 (fun _ => rfl) fun b14 => ?_
  refine J.ca hX (by kernel_rfl) (z_Zig) [] 0 rfl rfl rfl rfl rfl rfl (fun _ => rfl) ?_
  rintro v As ⟨rfl, rfl⟩
  refine ⟨_, rfl, trivial, ?_⟩
  refine J.r hX tab_ok 400 (fun _ => rfl) fun b15 => ?_
  refine J.ca hX (by kernel_rfl) (z_Zag) [] 0 rfl rfl rfl rfl rfl rfl (fun _ => rfl) ?_
  rintro v As ⟨rfl, rfl⟩
  refine ⟨_, rfl, trivial, ?_⟩
  refine J.r hX tab_ok 400 (fun _ => rfl) fun b16 => ?_
  refine J.ca hX (by kernel_rfl) (z_Narrow1) [] 0 rfl rfl rfl rfl rfl rfl (fun _ => rfl) ?_
  rintro v As ⟨rfl, rfl⟩
  refine ⟨_, rfl, trivial, ?_⟩
  refine J.r hX tab_ok 400 (fun _ => rfl) fun b17 => ?_
  refine J.ca hX (by kernel_rfl) (z_Narrow2) [] 0 rfl rfl rfl rfl rfl rfl (fun _ => rfl) ?_
  rintro v As ⟨rfl, rfl⟩
  refine ⟨_, rfl, trivial, ?_⟩
  refine J.r hX tab_ok 400 (fun _ => rfl) fun b18 => ?_
  refine J.ca hX (by kernel_rfl) (z_Turn) [] 0 rfl rfl rfl rfl rfl rfl (fun _ => rfl) ?_
  rintro v As ⟨rfl, rfl⟩
  refine ⟨_, rfl, trivial, ?_⟩
  refine J.r hX tab_ok 400 (fun _ => rfl) fun b19 => ?_
  refine J.ca hX (by kernel_rfl) (o_Len (b1 0) a 1 cap 3) [1] 0 rfl rfl rfl rfl rfl rfl (fun _ => rfl) ?_
  rintro v As ⟨rfl, rfl⟩
  refine ⟨_, rfl, trivial, ?_⟩
  refine J.r hX tab_ok 400 (fun _ => rfl) fun b20 => ?_
  refine J.val hX (.int .u8 160) 0 rfl rfl (fun hg a w he hw => ?_) rfl trivial ?_
  · exact own1_run tab_ok rfl rfl he hg rfl rfl (hw.get (i := 5) rfl) rfl
  refine J.r hX tab_ok 400 (fun _ => rfl) fun b21 => ?_
  refine J.ca hX (by kernel_rfl) (b_Left g (b2 0) 4 (by decide) (by decide)) [4] 0 rfl rfl rfl rfl rfl rfl (fun _ => rfl) ?_
  rintro v As ⟨rfl, rfl⟩
  refine ⟨_, rfl, trivial, ?_⟩
  refine J.r hX tab_ok 400 (fun _ => rfl) fun b22 => ?_
  refine J.ca hX (by kernel_rfl) (k_nil) [] 0 rfl rfl rfl rfl rfl rfl (fun _ => rfl) ?_
  rintro v As ⟨rfl, rfl⟩
  refine ⟨_, rfl, trivial, ?_⟩
  refine J.r hX tab_ok 400 (fun _ => rfl) fun b23 => ?_
  refine J.ca hX (by kernel_rfl) (k_step) [] 0 rfl rfl rfl rfl rfl rfl (fun _ => rfl) ?_
  rintro v As ⟨rfl, rfl⟩
  refine ⟨_, rfl, trivial, ?_⟩
  refine J.r hX tab_ok 400 (fun _ => rfl) fun b24 => ?_
  refine J.ca hX (by kernel_rfl) (l_All 3) [] 0 rfl rfl rfl rfl rfl rfl (fun _ => rfl) ?_
  rintro v As ⟨rfl, rfl⟩
  refine ⟨_, rfl, trivial, ?_⟩
  refine J.r hX tab_ok 400 (fun _ => rfl) fun b25 => ?_
  refine J.ca hX (by kernel_rfl) (l_At 6 0 (by decide) (by decide)) [] 0 rfl rfl rfl rfl rfl rfl (fun _ => rfl) ?_
  rintro v As ⟨rfl, rfl⟩
  refine ⟨_, rfl, trivial, ?_⟩
  refine J.r hX tab_ok 400 (fun _ => rfl) fun b26 => ?_
  refine J.ca hX (by kernel_rfl) (l_Spot 6 2) [] 0 rfl rfl rfl rfl rfl rfl (fun _ => rfl) ?_
  rintro v As ⟨rfl, rfl⟩
  refine ⟨_, rfl, trivial, ?_⟩
  refine J.r hX tab_ok 400 (fun _ => rfl) fun b27 => ?_
  refine J.ca hX (by kernel_rfl) (l_Count 6) [] 0 rfl rfl rfl rfl rfl rfl (fun _ => rfl) ?_
  rintro v As ⟨rfl, rfl⟩
  refine ⟨_, rfl, trivial, ?_⟩
  refine J.r hX tab_ok 400 (fun _ => rfl) fun b28 => ?_
  refine J.rt hX tab_ok [] rfl rfl rfl ?_
  exact ⟨by kernel_rfl, rfl⟩
theorem l1_Begun : Fn Tryz.prog 246 [] [] (fun v As => v = .bool true ∧ As = []) := by
  refine Fn.enter [] Tryz.func246 rfl rfl rfl fun X F hX => ?_
  refine J.r hX tab_ok 400 (fun _ => rfl) fun b29 => ?_
  refine J.ca hX (by kernel_rfl) (l1_begun) [] 0 rfl rfl rfl rfl rfl rfl (fun _ => rfl) ?_
  rintro v As ⟨rfl, rfl⟩
  refine ⟨_, rfl, trivial, ?_⟩
  refine J.r hX tab_ok 400 (fun _ => rfl) fun b30 => ?_
  refine J.rt hX tab_ok [] rfl rfl rfl ?_
  exact ⟨rfl, rfl⟩
end Go.Proofs.YtoideahgjgaddaaGreat
