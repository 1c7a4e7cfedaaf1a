/- Helpers of the proofs about ostrakonlaw11, proved here: Rt, PlA, PlB, PlS, PlT, Ls. No condition. -/
import Derived.Test.YtoideahgjgaddaaGreatM07
import Derived.Test.YtoideahgjgaddaaGreatM21
set_option linter.unusedVariables false
set_option linter.unusedSimpArgs false
set_option linter.unusedSectionVars false
set_option linter.unnecessarySimpa false
namespace Go.Proofs.YtoideahgjgaddaaGreat
namespace Bt
theorem byte_bit : ∀ b0 b1 b2 b3 b4 b5 b6 b7 : Bool, ∀ i : Fin 8, (b0.toNat * 128 + b1.toNat * 64 + b2.toNat * 32 + b3.toNat * 16 + b4.toNat * 8 + b5.toNat * 4 + b6.toNat * 2 + b7.toNat).testBit (7 - i.1) = [b0, b1, b2, b3, b4, b5, b6, b7].getD i.1 false := by decide +kernel
theorem byte_bit2 (b0 b1 b2 b3 b4 b5 b6 b7 : Bool) (i : Nat) (hi : i < 8) : (b0.toNat * 128 + b1.toNat * 64 + b2.toNat * 32 + b3.toNat * 16 + b4.toNat * 8 + b5.toNat * 4 + b6.toNat * 2 + b7.toNat).testBit (7 - i) = [b0, b1, b2, b3, b4, b5, b6, b7].getD i false := byte_bit b0 b1 b2 b3 b4 b5 b6 b7 ⟨i, hi⟩
theorem byteAt_bit (l : List Bool) (q i : Nat) (hi : i < 8) : (byteAt l q).testBit (7 - i) = l.getD (q + i) false := by
  unfold byteAt
  rw [byte_bit2 _ _ _ _ _ _ _ _ i hi]
  match i, hi with
  | 0, _ => rfl
  | 1, _ => rfl
  | 2, _ => rfl
  | 3, _ => rfl
  | 4, _ => rfl
  | 5, _ => rfl
  | 6, _ => rfl
  | 7, _ => rfl
theorem bitAt_pack (l : List Bool) (j : Nat) (h : j < l.length) : bitAt (pack l) j = l.getD j false := by
  have h1 : (pack l).getD (j / 8) 0 = UInt8.ofNat (byteAt l (8 * (j / 8))) := by
    rw [List.getD_eq_getElem?_getD, pack_get l (j / 8) (by omega)]; rfl
  have h2 : (UInt8.ofNat (byteAt l (8 * (j / 8)))).toNat = byteAt l (8 * (j / 8)) := by
    rw [UInt8.toNat_ofNat', Nat.mod_eq_of_lt (byteAt_lt l _)]
  unfold bitAt
  rw [h1, h2, byteAt_bit l _ _ (Nat.mod_lt _ (by omega)), Nat.div_add_mod]
theorem numAt_eq (b : List UInt8) (k w u : Nat) (h : ∀ i < w, bitAt b (k + i) = u.testBit (w - 1 - i)) : ∀ v, v ≤ w → numAt b k v = u / 2 ^ (w - v) % 2 ^ v
  | 0, _ => by simp [numAt, Nat.mod_one]
  | v + 1, hv => by
    rw [numAt, numAt_eq b k w u h v (by omega), h v (by omega), Nat.testBit_eq_decide_div_mod_eq]
    have e1 : w - v = (w - 1 - v) + 1 := by omega
    have e2 : w - (v + 1) = w - 1 - v := by omega
    rw [e1, e2, Nat.pow_succ, ← Nat.div_div_eq_div_mul, Nat.pow_succ 2 v, Nat.mul_comm (2 ^ v) 2, Nat.mod_mul]
    generalize u / 2 ^ (w - 1 - v) = x
    rcases Nat.mod_two_eq_zero_or_one x with hx | hx
    · rw [hx]; simp
    · rw [hx]; simp [Nat.add_comm]
theorem numAt_pack (A B : List Bool) (u w k : Nat) (hk : A.length = k) : numAt (pack (A ++ (bits u w ++ B))) k w = u % 2 ^ w := by
  have := numAt_eq (pack (A ++ (bits u w ++ B))) k w u (fun i hi => by
    have hb : (bits u w).length = w := length_bits u w
    rw [bitAt_pack _ _ (by simp [hb]; omega), List.getD_eq_getElem?_getD, List.getElem?_append_right (by omega), hk, Nat.add_sub_cancel_left, List.getElem?_append_left (by omega)]
    simp [bits, hi]) w (Nat.le_refl _)
  rw [this, Nat.sub_self, Nat.pow_zero, Nat.div_one]
end Bt
namespace S
def hdL (M b r m k c : Nat) : List Bool := Bt.bits M 64 ++ (Bt.bits b 8 ++ (Bt.bits r 8 ++ (Bt.bits m 8 ++ (Bt.bits k 8 ++ Bt.bits c 32))))
theorem hdL_eq (s : Sh) (c : Nat) : head s ++ Bt.bits c 32 = hdL (meta_ s.role s.lpn s.seq) s.block.toNat s.row.toNat s.mask.toNat s.kind.toNat c := by
  unfold head hdL
  generalize meta_ s.role s.lpn s.seq = M
  simp only [List.append_assoc]
theorem hd1 (M b r m k c : Nat) : Bt.numAt (Bt.pack (hdL M b r m k c)) 0 64 = M % 2 ^ 64 := Bt.numAt_pack [] _ M 64 0 rfl
theorem hd2 (M b r m k c : Nat) : Bt.numAt (Bt.pack (hdL M b r m k c)) 64 8 = b % 2 ^ 8 := Bt.numAt_pack (Bt.bits M 64) _ b 8 64 (Bt.length_bits _ _)
theorem hd3 (M b r m k c : Nat) : Bt.numAt (Bt.pack (hdL M b r m k c)) 72 8 = r % 2 ^ 8 := by
  have := Bt.numAt_pack (Bt.bits M 64 ++ Bt.bits b 8) (Bt.bits m 8 ++ (Bt.bits k 8 ++ Bt.bits c 32)) r 8 72 (by rw [List.length_append, Bt.length_bits, Bt.length_bits])
  rw [← this, List.append_assoc]; rfl
theorem hd4 (M b r m k c : Nat) : Bt.numAt (Bt.pack (hdL M b r m k c)) 80 8 = m % 2 ^ 8 := by
  have := Bt.numAt_pack (Bt.bits M 64 ++ (Bt.bits b 8 ++ Bt.bits r 8)) (Bt.bits k 8 ++ Bt.bits c 32) m 8 80 (by rw [List.length_append, List.length_append, Bt.length_bits, Bt.length_bits, Bt.length_bits])
  rw [← this, List.append_assoc, List.append_assoc]; rfl
theorem hd5 (M b r m k c : Nat) : Bt.numAt (Bt.pack (hdL M b r m k c)) 88 8 = k % 2 ^ 8 := by
  have := Bt.numAt_pack (Bt.bits M 64 ++ (Bt.bits b 8 ++ (Bt.bits r 8 ++ Bt.bits m 8))) (Bt.bits c 32) k 8 88 (by rw [List.length_append, List.length_append, List.length_append, Bt.length_bits, Bt.length_bits, Bt.length_bits, Bt.length_bits])
  rw [← this, List.append_assoc, List.append_assoc, List.append_assoc]; rfl
theorem meta_back (role lpn seq : Int) (h1 : 0 ≤ role ∧ role ≤ 255) (h2 : 0 ≤ lpn ∧ lpn ≤ 65535) (h3 : 0 ≤ seq ∧ seq ≤ 1099511627775) : ((meta_ role lpn seq / 72057594037927936 : Nat) : Int) = role ∧ ((meta_ role lpn seq / 1099511627776 % 65536 : Nat) : Int) = lpn ∧ ((meta_ role lpn seq % 1099511627776 : Nat) : Int) = seq := by
  unfold meta_
  refine ⟨?_, ?_, ?_⟩ <;> omega
theorem fields_put (s : Sh) (hd : s.data.length = 16) (h : may s = true) : fields (put s) = s := by
  obtain ⟨hb, hr, hm, hk⟩ := may_bounds s h
  have hn : (0 ≤ s.seq ∧ s.seq ≤ 1099511627775) ∧ (0 ≤ s.lpn ∧ s.lpn ≤ 65535) ∧ (0 ≤ s.role ∧ s.role ≤ 255) := by
    simp only [may, numbers, inB, Bool.and_eq_true, decide_eq_true_eq] at h
    omega
  obtain ⟨k1, k2, k3⟩ := meta_back s.role s.lpn s.seq hn.2.2 hn.2.1 hn.1
  have hM := meta_lt s.role s.lpn s.seq
  obtain ⟨M, hMe⟩ : ∃ M, meta_ s.role s.lpn s.seq = M := ⟨_, rfl⟩
  obtain ⟨c, hc⟩ : ∃ c, K.sum (s.data ++ Bt.pack (head s)) = c := ⟨_, rfl⟩
  have hp : put s = s.data ++ Bt.pack (hdL M s.block.toNat s.row.toNat s.mask.toNat s.kind.toNat c) := by rw [put, hc, hdL_eq, hMe]
  rw [hMe] at k1 k2 k3 hM
  have e1 : (put s).take 16 = s.data := by rw [hp, ← hd, List.take_left]
  have e2 : (put s).drop 16 = Bt.pack (hdL M s.block.toNat s.row.toNat s.mask.toNat s.kind.toNat c) := by rw [hp, ← hd, List.drop_left]
  have m1 := hd1 M s.block.toNat s.row.toNat s.mask.toNat s.kind.toNat c
  have m2 := hd2 M s.block.toNat s.row.toNat s.mask.toNat s.kind.toNat c
  have m3 := hd3 M s.block.toNat s.row.toNat s.mask.toNat s.kind.toNat c
  have m4 := hd4 M s.block.toNat s.row.toNat s.mask.toNat s.kind.toNat c
  have m5 := hd5 M s.block.toNat s.row.toNat s.mask.toNat s.kind.toNat c
  have f : ∀ x : Int, 0 ≤ x ∧ x ≤ 255 → ((x.toNat % 2 ^ 8 : Nat) : Int) = x := fun x hx => by
    rw [Nat.mod_eq_of_lt (by omega)]; omega
  rw [Nat.mod_eq_of_lt (show M < 2 ^ 64 from hM)] at m1
  have f1 := f s.block ⟨hb.1, by omega⟩
  have f2 := f s.row ⟨hr.1, by omega⟩
  have f3 := f s.mask hm
  have f4 := f s.kind ⟨by omega, by omega⟩
  unfold fields
  simp only [e1, e2, m1, m2, m3, m4, m5, k1, k2, k3, f1, f2, f3, f4]
theorem get_put (s : Sh) (hd : s.data.length = 16) (h : may s = true) : get (put s) = some s := by
  unfold get
  rw [fields_put s hd h, if_pos ⟨h, rfl⟩]
theorem getV_put (s : Sh) (hd : s.data.length = 16) (h : may s = true) : getV (put s) = s ∧ getE (put s) = 0 := by
  unfold getV getE
  rw [get_put s hd h]
  exact ⟨rfl, rfl⟩
end S
end Go.Proofs.YtoideahgjgaddaaGreat
namespace Go.Proofs.YtoideahgjgaddaaGreat
open Go
/-- dies of a mask: the parity's, the slots' -/
def dieChk (M q : Nat) : Bool :=
  let p := L.at_ M q
  if q < L.count M then
    L.has M p && decide (0 ≤ p) && decide (p < 6) &&
    ((List.range (L.count M - 1)).all fun k => let d := L.at_ (L.without M p) (k : Nat); L.has M d && d != p && decide (0 ≤ d) && decide (d < 6) && (List.range k).all fun k' => L.at_ (L.without M p) (k' : Nat) != d) &&
    ((List.range 6).all fun d => !L.has M (d : Nat) || ((d : Nat) : Int) == p || (List.range (L.count M - 1)).any fun k => L.at_ (L.without M p) (k : Nat) == ((d : Nat) : Int))
  else true
theorem dieChk_all : ∀ M, M < 64 → ∀ q, q < 6 → dieChk M q = true := by decide +kernel
theorem count_six : ∀ M, M < 64 → L.count (M : Nat) ≤ 6 := by decide +kernel
structure DieFacts (m b r : Int) : Prop where
  par : L.has m (G.parity m b r) = true ∧ 0 ≤ G.parity m b r ∧ G.parity m b r < 6
  die : ∀ k : Nat, (k : Int) < G.slots m → L.has m (G.die m b r k) = true ∧ G.die m b r k ≠ G.parity m b r ∧ 0 ≤ G.die m b r k ∧ G.die m b r k < 6
  inj : ∀ k k' : Nat, (k : Int) < G.slots m → k' < k → G.die m b r k' ≠ G.die m b r k
  all : ∀ d : Nat, d < 6 → L.has m (d : Nat) = true → (d : Int) = G.parity m b r ∨ ∃ k : Nat, (k : Int) < G.slots m ∧ G.die m b r k = d
theorem dieFacts (m b r : Int) (h0 : 0 ≤ m) (h1 : m < 64) (hc : 2 ≤ L.count m) (hb : 0 ≤ b) (hr : 0 ≤ r) : DieFacts m b r := by
  obtain ⟨M, rfl⟩ := Int.eq_ofNat_of_zero_le h0
  have hM : M < 64 := by omega
  have hp : G.parity M b r = L.at_ M ((b + r) % L.count (M : Int)) := by unfold G.parity; rw [if_neg (by omega)]
  have hs : G.slots M = (L.count (M : Int) : Int) - 1 := by unfold G.slots; rw [if_neg (by omega)]
  have hq : 0 ≤ (b + r) % (L.count (M : Int) : Int) ∧ (b + r) % (L.count (M : Int) : Int) < L.count (M : Int) := ⟨Int.emod_nonneg _ (by omega), Int.emod_lt_of_pos _ (by omega)⟩
  obtain ⟨q, hq2⟩ := Int.eq_ofNat_of_zero_le hq.1
  have h6 := count_six M hM
  have hchk := dieChk_all M hM q (by omega)
  rw [hq2] at hp hq
  unfold dieChk at hchk
  rw [if_pos (by omega)] at hchk
  simp only [← hp] at hchk
  simp only [Bool.and_eq_true, decide_eq_true_eq, List.all_eq_true, List.mem_range, bne_iff_ne, ne_eq, Bool.or_eq_true, List.any_eq_true, Bool.not_eq_true', beq_iff_eq] at hchk
  obtain ⟨⟨⟨⟨c1, c2⟩, c3⟩, c4⟩, c5⟩ := hchk
  have hd : ∀ k : Nat, G.die M b r k = L.at_ (L.without M (G.parity M b r)) (k : Nat) := fun k => by unfold G.die; rw [if_neg (by omega)]
  refine ⟨⟨c1, c2, c3⟩, fun k hk => ?_, fun k k' hk hkk => ?_, fun d hd6 hh => ?_⟩
  · obtain ⟨⟨⟨⟨a1, a2⟩, a3⟩, a4⟩, _⟩ := c4 k (by omega)
    rw [hd]; exact ⟨a1, a2, a3, a4⟩
  · obtain ⟨_, a5⟩ := c4 k (by omega)
    rw [hd, hd]; exact a5 k' hkk
  · rcases c5 d hd6 with (h | h) | ⟨k, h, h'⟩
    · rw [hh] at h; cases h
    · exact .inl h
    · exact .inr ⟨k, by omega, by rw [hd]; exact h'⟩
theorem has_lt_pow {m : Int} {D d : Nat} (h : m < 2 ^ D) (hh : L.has m (d : Nat) = true) : d < D := by
  obtain ⟨h1, h2, h3, h4⟩ := L.has_lt m d hh
  obtain ⟨M, rfl⟩ := Int.eq_ofNat_of_zero_le h3
  simp only [L.has, Bool.and_eq_true, Int.toNat_natCast] at hh
  rcases Nat.lt_or_ge d D with hlt | hge
  · exact hlt
  · have hM : M < 2 ^ D := by
      have e : ((2 ^ D : Nat) : Int) = 2 ^ D := by simp
      omega
    have : M < 2 ^ d := Nat.lt_of_lt_of_le hM (Nat.pow_le_pow_right (by omega) hge)
    rw [Nat.testBit_lt_two_pow this] at hh
    simp at hh
namespace Nand
/-- nothing is amiss -/
structure Calm (N : Nand) : Prop where
  off : N.off = false
  cuts : N.cuts = false
  plan : N.plan = []
  dead : ∀ i, N.dead.getD i false = false
variable {N : Nand}
theorem Calm.refuses (h : N.Calm) {x y z : Int} (hg : geoIn N.dies N.blocks N.pages x y z = true) : N.refuses x y z = 0 := by
  unfold Nand.refuses
  rw [h.off, hg, h.dead]; simp
theorem Calm.cutB (h : N.Calm) : N.cutB = false := by unfold Nand.cutB; rw [h.cuts]; rfl
theorem geoIn_of {d b p x y z : Int} (h1 : 0 ≤ x ∧ x < d) (h2 : 0 ≤ y ∧ y < b) (h3 : 0 ≤ z ∧ z < p) : geoIn d b p x y z = true := by
  simp [geoIn, h1, h2, h3]
theorem Calm.progE (h : N.Calm) {x y : Int} (hx : 0 ≤ x ∧ x < N.dies) (hy : 0 ≤ y ∧ y < N.blocks) (hp : 0 < N.pages) (hc : (N.blk x.toNat y.toNat).cells = []) (hm : (N.blk x.toNat y.toNat).met = false) : N.progE x y 0 = 0 := by
  have hr := h.refuses (x := x) (y := y) (z := 0) (geoIn_of hx hy ⟨by omega, by omega⟩)
  rw [progE_in hr (by rw [hc]; rfl) h.cutB]
  unfold Nand.fails
  rw [h.plan, hm]; rfl
theorem Calm.progN (h : N.Calm) {x y : Int} (hx : 0 ≤ x ∧ x < N.dies) (hy : 0 ≤ y ∧ y < N.blocks) (hp : 0 < N.pages) (hc : (N.blk x.toNat y.toNat).cells = []) (hm : (N.blk x.toNat y.toNat).met = false) (pg : List UInt8) :
    N.progN x y 0 pg = push { N.cutN with plan := [] } x.toNat y.toNat ⟨pg, false, false⟩ := by
  have hr := h.refuses (x := x) (y := y) (z := 0) (geoIn_of hx hy ⟨by omega, by omega⟩)
  rw [progN_in hr (by rw [hc]; rfl) h.cutB]
  unfold Nand.fails
  rw [h.plan, hm]; rfl
theorem Calm.after (h : N.Calm) (x y : Nat) (c : NCell) : (push { N.cutN with plan := [] } x y c).Calm := by
  refine ⟨?_, ?_, rfl, h.dead⟩
  · show (if N.cutB then true else N.off) = false
    rw [h.cutB]; exact h.off
  · show (if N.cutB then false else N.cuts) = false
    rw [h.cutB]; exact h.cuts
end Nand
/-- where a row is to be written, nothing is yet -/
structure Clean (N : Nand) (b : Int) (q : List (Int × Sh)) : Prop where
  calm : N.Calm
  nodup : (q.map (·.1)).Nodup
  inn : ∀ x ∈ q, 0 ≤ x.1 ∧ x.1 < N.dies
  blk : 0 ≤ b ∧ b < N.blocks
  pages : 0 < N.pages
  cells : ∀ x ∈ q, (N.blk x.1.toNat b.toNat).cells = [] ∧ (N.blk x.1.toNat b.toNat).met = false
/-- what becomes of a flash -/
structure Wrote (N N' : Nand) (b : Int) (q : List (Int × Sh)) : Prop where
  calm : N'.Calm
  like : N.Like N'
  broken : N'.broken = N.broken
  cells : ∀ x ∈ q, (N'.blk x.1.toNat b.toNat).cells = [⟨putP x.2, false, false⟩]
  rest : ∀ i j, (j ≠ b.toNat ∨ ∀ x ∈ q, x.1.toNat ≠ i) → N'.blk i j = N.blk i j
  flags : ∀ i j, (N'.blk i j).met = (N.blk i j).met ∧ (N'.blk i j).fails = (N.blk i j).fails
theorem go_clean (b : Int) : ∀ (q : List (Int × Sh)) (N : Nand), Clean N b q → ∃ N', R.go b 0 q N 0 = (N', 0, 0) ∧ Wrote N N' b q
  | [], N, h => ⟨N, rfl, h.calm, Nand.Like.refl N, rfl, by simp, fun _ _ _ => rfl, fun _ _ => ⟨rfl, rfl⟩⟩
  | (d, s) :: q, N, h => by
    have hx := h.inn (d, s) (by simp)
    have hc := h.cells (d, s) (by simp)
    have e1 := h.calm.progE hx h.blk h.pages hc.1 hc.2
    have e2 := h.calm.progN hx h.blk h.pages hc.1 hc.2 (putP s)
    have hcalm := h.calm.after d.toNat b.toNat ⟨putP s, false, false⟩
    have hnd := List.nodup_cons.1 h.nodup
    have hne : ∀ x ∈ q, x.1.toNat ≠ d.toNat := fun x hxq e => by
      have := h.inn x (by simp [hxq])
      exact hnd.1 (List.mem_map.2 ⟨x, hxq, by show x.1 = d; omega⟩)
    generalize hN1 : Nand.push { N.cutN with plan := [] } d.toNat b.toNat ⟨putP s, false, false⟩ = N1 at e2 hcalm
    have hb : ∀ i j, N1.blk i j = if i = d.toNat ∧ j = b.toNat then { N.blk d.toNat b.toNat with cells := (N.blk d.toNat b.toNat).cells ++ [⟨putP s, false, false⟩] } else N.blk i j := fun i j => by rw [← hN1]; rfl
    have hlike : N.Like N1 := by rw [← hN1]; exact ⟨rfl, rfl, rfl⟩
    have hbr : N1.broken = N.broken := by rw [← hN1]; rfl
    have hq : ∀ x ∈ q, N1.blk x.1.toNat b.toNat = N.blk x.1.toNat b.toNat := fun x hxq => by rw [hb, if_neg (by have := hne x hxq; omega)]
    obtain ⟨N', g1, g2⟩ := go_clean b q N1 ⟨hcalm, hnd.2, fun x hxq => by rw [hlike.dies]; exact h.inn x (by simp [hxq]), by rw [hlike.blocks]; exact h.blk, by rw [hlike.pages]; exact h.pages, fun x hxq => by rw [hq x hxq]; exact h.cells x (by simp [hxq])⟩
    refine ⟨N', by rw [R.go, if_pos e1, e2, g1], g2.calm, hlike.trans g2.like, g2.broken.trans hbr, fun x hxq => ?_, fun i j hij => ?_, fun i j => ?_⟩
    · rcases List.mem_cons.1 hxq with rfl | hxq
      · rw [g2.rest _ _ (.inr fun y hy => hne y hy), hb, if_pos ⟨rfl, rfl⟩]
        show (N.blk d.toNat b.toNat).cells ++ [_] = _
        rw [hc.1]; rfl
      · exact g2.cells x hxq
    · rw [g2.rest i j (hij.imp id fun h' x hxq => h' x (by simp [hxq])), hb, if_neg]
      rintro ⟨rfl, rfl⟩
      rcases hij with h' | h'
      · exact h' rfl
      · exact h' (d, s) (by simp) rfl
    · have := g2.flags i j
      rw [this.1, this.2, hb]
      split
      · rename_i h'; rw [h'.1, h'.2]; exact ⟨rfl, rfl⟩
      · exact ⟨rfl, rfl⟩
/-- a look at a page that is whole -/
theorem look_good {N : Nand} (hoff : N.off = false) {d b : Int} (hd : 0 ≤ d ∧ d < N.dies) (hdd : N.dead.getD d.toNat false = false) (hb : 0 ≤ b ∧ b < N.blocks) (hp : 0 < N.pages) {s : Sh} {t : Bool} {rst : List NCell} (hc : (N.blk d.toNat b.toNat).cells = ⟨putP s, false, t⟩ :: rst)
    (hs : s.data.length = 16) (hm : S.may s = true) (h1 : s.block = b) (h2 : s.row = 0) (h3 : L.has s.mask d = true) (h4 : (G.parity s.mask b 0 == d) = (s.kind == 2)) : M.look N d b 0 = (s, 1) := by
  have hr : N.refuses d b 0 = 0 := by
    unfold Nand.refuses
    rw [hoff, Nand.geoIn_of hd hb ⟨by omega, by omega⟩, hdd]; simp
  have hpa : N.pageAt d b 0 = some ⟨putP s, false, t⟩ := by unfold Nand.pageAt; rw [hc]; rfl
  have hput : putP s = S.put s := by unfold putP; rw [if_pos hm]
  obtain ⟨g1, g2⟩ := S.getV_put s hs hm
  have e1 : N.readE d b 0 = 0 := by unfold Nand.readE; rw [if_neg (by simp [hr]), hpa]; rfl
  have e2 : N.readV d b 0 = S.put s := by unfold Nand.readV; rw [if_neg (by simp [hr]), hpa]; simpa using hput
  unfold M.look
  simp only
  rw [if_pos e1, e2, g1, g2, if_neg]
  simp only [M.bad, h1, h2, h3, h4]
  simp
end Go.Proofs.YtoideahgjgaddaaGreat
namespace Go.Proofs.YtoideahgjgaddaaGreat
open Go
theorem nodup_map_range {α : Type} (n : Nat) (f : Nat → α) (h : ∀ k k', k < n → k' < k → f k' ≠ f k) : ((List.range n).map f).Nodup := by
  rw [List.nodup_iff_pairwise_ne, List.pairwise_map, List.pairwise_iff_getElem]
  intro i j hi hj hij
  simp only [List.getElem_range]
  exact h j i (by simpa using hj) hij
theorem mem_job {b r m : Int} {l : List En} {x : Int × Sh} : x ∈ R.job b r m l ↔ (∃ k, k < l.length ∧ x = (G.die m b r (k : Nat), W.sh b r m (l.getD k En.zero))) ∨ x = (G.parity m b r, W.parS b r m l) := by
  simp only [R.job, List.mem_append, List.mem_map, List.mem_range, List.mem_singleton]
  constructor
  · rintro (⟨k, h, rfl⟩ | rfl)
    · exact .inl ⟨k, h, rfl⟩
    · exact .inr rfl
  · rintro (⟨k, h, rfl⟩ | rfl)
    · exact .inl ⟨k, h, rfl⟩
    · exact .inr rfl
theorem job_nodup {b r m : Int} {l : List En} (F : DieFacts m b r) (hl : (l.length : Int) = G.slots m) : ((R.job b r m l).map (·.1)).Nodup := by
  rw [R.job, List.map_append, List.map_map]
  rw [List.nodup_append]
  refine ⟨nodup_map_range _ _ fun k k' hk hkk => F.inj k k' (by omega) hkk, by simp, fun x hx y hy => ?_⟩
  simp only [List.mem_map, List.mem_range] at hx
  obtain ⟨k, hk, rfl⟩ := hx
  simp only [List.map_cons, List.map_nil, List.mem_singleton] at hy
  subst hy
  exact (F.die k (by omega)).2.1
theorem parS_may {b r m : Int} {l : List En} (hB : W.parB b r m l = true) : S.may (W.parS b r m l) = true := by
  obtain ⟨h1, h2, h3, h4⟩ := parB_len hB
  obtain ⟨e, he⟩ : ∃ e, e ∈ l := by
    cases l with
    | nil => simp at h2
    | cons x l => exact ⟨x, by simp⟩
  have hok := h4 e he
  simp only [W.ok, S.may, Bool.and_eq_true] at hok
  have hpl : S.place (W.parS b r m l) = true := hok.1.1
  have hov : ∃ M : Nat, (W.over (l.map (W.sh b r m))).2 = M ∧ M < 18446744073709551616 := over_nat (l.map (W.sh b r m)) (zeros16, 0) ⟨by decide, by decide⟩
  obtain ⟨M, hM, hM2⟩ := hov
  simp only [S.may, hpl, Bool.true_and, Bool.and_eq_true]
  refine ⟨?_, by simp [W.parS]⟩
  simp only [S.numbers, S.inB, W.parS, hM, Int.toNat_natCast, Bool.and_eq_true, decide_eq_true_eq]
  omega
theorem parS_len {b r m : Int} {l : List En} (hd : ∀ s ∈ l, s.data.length = 16) : (W.parS b r m l).data.length = 16 :=
  fold_len (fun t ht => by obtain ⟨e, he, rfl⟩ := List.mem_map.1 ht; exact hd e he) _ rfl
/-- a flash that has a whole row -/
structure HasRow (N : Nand) (b m : Int) (l : List En) : Prop where
  slot : ∀ k, k < l.length → M.look N (G.die m b 0 (k : Nat)) b 0 = (W.sh b 0 m (l.getD k En.zero), 1)
  par : M.look N (G.parity m b 0) b 0 = (W.parS b 0 m l, 1)
theorem hasRow_of {N N' : Nand} {b m : Int} {l : List En} (hd : ∀ s ∈ l, s.data.length = 16) (hB : W.parB b 0 m l = true) (F : DieFacts m b 0) (hb : 0 ≤ b ∧ b < N.blocks) (hp : 0 < N.pages) (hin : ∀ x ∈ R.job b 0 m l, 0 ≤ x.1 ∧ x.1 < N.dies) (hl : N.Like N') (hoff : N'.off = false) (hdead : ∀ i, N'.dead.getD i false = false)
    (hc : ∀ x ∈ R.job b 0 m l, (N'.blk x.1.toNat b.toNat).cells = [⟨putP x.2, false, false⟩]) : HasRow N' b m l := by
  obtain ⟨h1, h2, h3, h4⟩ := parB_len hB
  have hb' : 0 ≤ b ∧ b < N'.blocks := by rw [hl.blocks]; exact hb
  have hp' : 0 < N'.pages := by rw [hl.pages]; exact hp
  have hin' : ∀ x ∈ R.job b 0 m l, 0 ≤ x.1 ∧ x.1 < N'.dies := fun x hx => by rw [hl.dies]; exact hin x hx
  refine ⟨fun k hk => ?_, ?_⟩
  · have hx : (G.die m b 0 (k : Nat), W.sh b 0 m (l.getD k En.zero)) ∈ R.job b 0 m l := mem_job.2 (.inl ⟨k, hk, rfl⟩)
    have hmem : l.getD k En.zero ∈ l := by rw [List.getD_eq_getElem?_getD, List.getElem?_eq_getElem hk]; exact List.getElem_mem _
    have hf := F.die k (by omega)
    refine look_good hoff (hin' _ hx) (hdead _) hb' hp' (hc _ hx) (hd _ hmem) (h4 _ hmem) rfl rfl hf.1 ?_
    have : (G.parity m b 0 == G.die m b 0 (k : Nat)) = false := by rw [beq_eq_false_iff_ne]; exact fun e => hf.2.1 e.symm
    show (G.parity m b 0 == G.die m b 0 (k : Nat)) = _
    rw [this]; rfl
  · have hx : (G.parity m b 0, W.parS b 0 m l) ∈ R.job b 0 m l := mem_job.2 (.inr rfl)
    refine look_good hoff (hin' _ hx) (hdead _) hb' hp' (hc _ hx) (parS_len hd) (parS_may hB) rfl rfl F.par.1 ?_
    show (G.parity m b 0 == G.parity m b 0) = _
    rw [beq_self_eq_true]; rfl
theorem HasRow.look {N : Nand} {b m : Int} {l : List En} (h : HasRow N b m l) (hl : (l.length : Int) = G.slots m) : R.look N b 0 m = ⟨(List.range l.length).map fun k => W.sh b 0 m (l.getD k En.zero), (List.range l.length).map fun _ => true, W.parS b 0 m l, true⟩ := by
  have hs : (G.slots m).toNat = l.length := by omega
  have hone : ∀ k ∈ List.range l.length, R.one N b 0 m (G.die m b 0 (k : Nat)) = (W.sh b 0 m (l.getD k En.zero), true) := fun k hk => by
    unfold R.one
    rw [h.slot k (List.mem_range.1 hk)]
    simp [W.sh]
  unfold R.look R.ones
  rw [hs, List.map_map, List.map_map]
  have e1 : (List.range l.length).map ((fun x : Sh × Bool => x.1) ∘ fun i : Nat => R.one N b 0 m (G.die m b 0 i)) = (List.range l.length).map fun k => W.sh b 0 m (l.getD k En.zero) := List.map_congr_left fun k hk => by simp only [Function.comp_apply, hone k hk]
  have e2 : (List.range l.length).map ((fun x : Sh × Bool => x.2) ∘ fun i : Nat => R.one N b 0 m (G.die m b 0 i)) = (List.range l.length).map fun _ => true := List.map_congr_left fun k hk => by simp only [Function.comp_apply, hone k hk]
  have e3 : R.one N b 0 m (G.parity m b 0) = (W.parS b 0 m l, true) := by
    unfold R.one; rw [h.par]; simp [W.parS]
  rw [e3]
  exact Fd.mk.injEq .. |>.mpr ⟨e1, e2, rfl, rfl⟩
theorem filterMap_same {α β : Type} {f g : α → Option β} : ∀ {l : List α}, (∀ x ∈ l, f x = g x) → l.filterMap f = l.filterMap g
  | [], _ => rfl
  | x :: l, h => by rw [List.filterMap_cons, List.filterMap_cons, h x (by simp), filterMap_same fun y hy => h y (by simp [hy])]
/-- what is found of it -/
theorem HasRow.all {N : Nand} {b m : Int} {l : List En} (h : HasRow N b m l) (hl : (l.length : Int) = G.slots m) : R.allM N b 0 m = (List.range l.length).filterMap fun k => if (l.getD k En.zero).role != 3 then some ⟨l.getD k En.zero, b, 0, k, m, true, false⟩ else none := by
  unfold R.allM
  rw [h.look hl]
  simp only [List.length_map, List.length_range]
  refine filterMap_same fun k hk => ?_
  have hk := List.mem_range.1 hk
  have hg : ((List.range l.length).map fun _ => true).getD k false = true := by
    rw [List.getD_eq_getElem?_getD]; simp [hk]
  have hsl : ((List.range l.length).map fun k => W.sh b 0 m (l.getD k En.zero)).getD k Sh.zero = W.sh b 0 m (l.getD k En.zero) := by
    rw [List.getD_eq_getElem?_getD]; simp [hk]
  unfold R.fnd R.okAt R.enAt
  simp only [hg, hsl, if_true, Bool.true_or, Bool.true_and, Bool.not_true]
  rfl
end Go.Proofs.YtoideahgjgaddaaGreat
namespace Go.Proofs.YtoideahgjgaddaaGreat
open Go
def mAll (D : Nat) : Int := ((2 ^ D - 1 : Nat) : Int)
def mBut (D d : Nat) : Int := ((2 ^ D - 1 - 2 ^ d : Nat) : Int)
def maskChk (D d : Nat) : Bool := if 3 ≤ D ∧ d < D then
    L.count (mAll D) == D && L.count (mBut D d) == D - 1 && decide (0 ≤ mBut D d) && decide (mBut D d < 64) && decide (mAll D < 64) && decide (0 ≤ mAll D) && decide (mBut D d ≠ mAll D) &&
    ((List.range 8).all fun i => (L.has (mAll D) (i : Nat) == decide (i < D)) && (L.has (mBut D d) (i : Nat) == (decide (i < D) && i != d))) &&
    compactI (isortL ((List.range D).map fun i => if i = d then mAll D else mBut D d)) == [mBut D d, mAll D]
  else true
theorem maskChk_all : ∀ D, D < 7 → ∀ d, d < 7 → maskChk D d = true := by decide +kernel
structure MaskFacts (D d : Nat) : Prop where
  ca : L.count (mAll D) = D
  cb : L.count (mBut D d) = D - 1
  b0 : 0 ≤ mBut D d ∧ mBut D d < 64
  a0 : 0 ≤ mAll D ∧ mAll D < 64
  ne : mBut D d ≠ mAll D
  ha : ∀ i : Nat, i < 8 → L.has (mAll D) (i : Nat) = decide (i < D)
  hb : ∀ i : Nat, i < 8 → L.has (mBut D d) (i : Nat) = (decide (i < D) && i != d)
  sort : compactI (isortL ((List.range D).map fun i => if i = d then mAll D else mBut D d)) = [mBut D d, mAll D]
theorem maskFacts {D d : Nat} (h1 : 3 ≤ D) (h2 : D ≤ 6) (h3 : d < D) : MaskFacts D d := by
  have h := maskChk_all D (by omega) d (by omega)
  unfold maskChk at h
  rw [if_pos ⟨h1, h3⟩] at h
  simp only [Bool.and_eq_true, beq_iff_eq, decide_eq_true_eq, List.all_eq_true, List.mem_range] at h
  obtain ⟨⟨⟨⟨⟨⟨⟨⟨c1, c2⟩, c3⟩, c4⟩, c5⟩, c6⟩, c7⟩, c8⟩, c9⟩ := h
  exact ⟨c1, c2, ⟨c3, c4⟩, ⟨c6, c5⟩, c7, fun i hi => (c8 i hi).1, fun i hi => (c8 i hi).2, c9⟩
def erN (N : Nand) (b : Int) (k : Nat) : Nand := (List.range k).foldl (fun N d => N.eraseN (d : Nat) b) N
theorem erN_succ (N : Nand) (b : Int) (k : Nat) : erN N b (k + 1) = (erN N b k).eraseN (k : Nat) b := by simp [erN, List.range_succ]
theorem erN_zero (N : Nand) (b : Int) : erN N b 0 = N := rfl
theorem er_Gd (N : Nand) (b : Int) (mm : Nat) : ∀ k j, N.Gd (k + j) mm → (erN N b k).Gd j mm
  | 0, j, h => h.less (by omega) (Nat.le_refl _)
  | k + 1, j, h => by rw [erN_succ]; exact (er_Gd N b mm k (j + 1) (h.less (by omega) (Nat.le_refl _))).erase _ _
structure Erased (N N' : Nand) (b die k : Nat) : Prop where
  calm : N'.Calm
  like : N.Like N'
  broken : N'.broken = N.broken
  yet : ∀ i, k ≤ i → N'.blk i b = N.blk i b
  done : ∀ i, i < k → i ≠ die → (N'.blk i b).cells = [] ∧ (N'.blk i b).met = (N.blk i b).met
  kept : (N'.blk die b).cells = (N.blk die b).cells
theorem er_facts (N : Nand) (b die : Nat) (hc : N.Calm) (hb : b < N.blocks) (hp : 0 < N.pages) (hf : ∀ i, i < N.dies → (N.blk i b).fails = decide (i = die)) : ∀ k, k ≤ N.dies → Erased N (erN N b k) b die k
  | 0, _ => ⟨hc, Nand.Like.refl N, rfl, fun _ _ => rfl, fun _ h => by omega, rfl⟩
  | k + 1, hk => by
    have ih := er_facts N b die hc hb hp hf k (by omega)
    rw [erN_succ]
    generalize erN N b k = M at ih
    have hr : M.refuses (k : Nat) (b : Nat) 0 = 0 := ih.calm.refuses (Nand.geoIn_of (by rw [ih.like.dies]; omega) (by rw [ih.like.blocks]; omega) (by rw [ih.like.pages]; omega))
    have hcut := ih.calm.cutB
    have hbk := ih.yet k (Nat.le_refl _)
    have hcoff : M.cutN.off = false := by show (if M.cutB then true else M.off) = false; rw [hcut]; exact ih.calm.off
    have hccut : M.cutN.cuts = false := by show (if M.cutB then false else M.cuts) = false; rw [hcut]; exact ih.calm.cuts
    by_cases hd : k = die
    · subst hd
      have e := eraseN_fail hr hcut (by rw [Int.toNat_natCast, Int.toNat_natCast, hbk, hf k (by omega)]; simp)
      simp only [Int.toNat_natCast] at e
      have hblk : ∀ i j, (M.eraseN (k : Nat) (b : Nat)).blk i j = if i = k ∧ j = b then { M.blk k b with met := true } else M.blk i j := fun i j => by rw [e]; rfl
      refine ⟨⟨by rw [e]; exact hcoff, by rw [e]; exact hccut, by rw [e]; exact ih.calm.plan, fun i => by rw [e]; exact ih.calm.dead i⟩, ih.like.trans (Nand.like_erase _ _ _), by rw [e]; exact ih.broken, fun i hi => ?_, fun i hi hne => ?_, ?_⟩
      · rw [hblk, if_neg (by omega)]; exact ih.yet i (by omega)
      · rw [hblk, if_neg (by omega)]; exact ih.done i (by omega) hne
      · rw [hblk, if_pos ⟨rfl, rfl⟩]; exact ih.kept
    · have e := eraseN_ok hr hcut (by rw [Int.toNat_natCast, Int.toNat_natCast, hbk, hf k (by omega)]; simp [hd])
      simp only [Int.toNat_natCast] at e
      have hblk : ∀ i j, (M.eraseN (k : Nat) (b : Nat)).blk i j = if i = k ∧ j = b then { M.blk k b with cells := [], worn := (M.blk k b).worn + 1 } else M.blk i j := fun i j => by rw [e]; rfl
      refine ⟨⟨by rw [e]; exact hcoff, by rw [e]; exact hccut, by rw [e]; show M.plan.filter _ = []; rw [ih.calm.plan]; rfl, fun i => by rw [e]; exact ih.calm.dead i⟩, ih.like.trans (Nand.like_erase _ _ _), by rw [e]; exact ih.broken, fun i hi => ?_, fun i hi hne => ?_, ?_⟩
      · rw [hblk, if_neg (by omega)]; exact ih.yet i (by omega)
      · rw [hblk]
        by_cases hik : i = k
        · subst hik
          rw [if_pos ⟨rfl, rfl⟩]
          exact ⟨rfl, by rw [← hbk]⟩
        · rw [if_neg (by omega)]; exact ih.done i (by omega) hne
      · rw [hblk, if_neg (by omega)]; exact ih.kept
theorem new_calm (D B P : Nat) : (Nand.new D B P).Calm := ⟨rfl, rfl, rfl, fun i => by
  show (List.replicate D false).getD i false = false
  rw [List.getD_eq_getElem?_getD, List.getElem?_replicate]; split <;> rfl⟩
/-- dies of a job are dies of its mask -/
theorem job_has {b m : Int} {l : List En} (F : DieFacts m b 0) (hl : (l.length : Int) = G.slots m) : ∀ x ∈ R.job b 0 m l, ∃ d : Nat, x.1 = d ∧ d < 6 ∧ L.has m (d : Nat) = true ∧ x.2.mask = m := by
  intro x hx
  rcases mem_job.1 hx with ⟨k, hk, rfl⟩ | rfl
  · obtain ⟨h1, h2, h3, h4⟩ := F.die k (by omega)
    obtain ⟨d, hd⟩ := Int.eq_ofNat_of_zero_le h3
    exact ⟨d, hd, by omega, by rw [← hd]; exact h1, rfl⟩
  · obtain ⟨h1, h3, h4⟩ := F.par
    obtain ⟨d, hd⟩ := Int.eq_ofNat_of_zero_le h3
    exact ⟨d, hd, by omega, by rw [← hd]; exact h1, rfl⟩
theorem job_of {b m : Int} {l : List En} (F : DieFacts m b 0) (hl : (l.length : Int) = G.slots m) {d : Nat} (hd : d < 6) (hh : L.has m (d : Nat) = true) : ∃ s, ((d : Int), s) ∈ R.job b 0 m l ∧ s.mask = m ∧ (s = W.parS b 0 m l ∧ (d : Int) = G.parity m b 0 ∨ ∃ k, k < l.length ∧ s = W.sh b 0 m (l.getD k En.zero) ∧ (d : Int) = G.die m b 0 (k : Nat)) := by
  rcases F.all d hd hh with h | ⟨k, hk, h⟩
  · exact ⟨W.parS b 0 m l, mem_job.2 (.inr (by rw [h])), rfl, .inl ⟨rfl, h⟩⟩
  · exact ⟨W.sh b 0 m (l.getD k En.zero), mem_job.2 (.inl ⟨k, by omega, by rw [h]⟩), rfl, .inr ⟨k, by omega, rfl, h.symm⟩⟩
theorem write_err {N : Nand} {b m : Int} {l : List En} (h : (R.write N b 0 m l).2.2 = 0) : W.parB b 0 m l = true := by
  unfold R.write at h
  cases hB : W.parB b 0 m l with
  | true => rfl
  | false => rw [hB] at h; simp at h
theorem write_clean {N : Nand} {b m : Int} {l : List En} (hB : W.parB b 0 m l = true) (hC : Clean N b (R.job b 0 m l)) : ∃ N', R.write N b 0 m l = (N', 0, 0) ∧ Wrote N N' b (R.job b 0 m l) := by
  obtain ⟨N', h1, h2⟩ := go_clean b _ N hC
  exact ⟨N', by rw [R.write, if_pos hB, h1], h2⟩
end Go.Proofs.YtoideahgjgaddaaGreat
namespace Go.Proofs.YtoideahgjgaddaaGreat
open Go
def stN1 (D B P b : Nat) (l : List En) : Nand := (R.write (Nand.new D B P) b 0 (mAll D) l).1
def stN2 (D B P b d : Nat) (l : List En) : Nand := ((stN1 D B P b l).fault 2 d b 0 0 0).2
def stN3 (D B P b d : Nat) (l : List En) : Nand := erN (stN2 D B P b d l) b D
def stN4 (D B P b d : Nat) (l m : List En) : Nand := (R.write (stN3 D B P b d l) b 0 (mBut D d) m).1
theorem st_row {D B P b d : Nat} {l m : List En} (h1 : 3 ≤ D ∧ D ≤ 6) (h2 : 8 ≤ B ∧ B ≤ 16) (h3 : 2 ≤ P ∧ P ≤ 8) (hb : b < B) (hd : d < D) (hl : ∀ s ∈ l, s.data.length = 16) (hm : ∀ s ∈ m, s.data.length = 16)
    (w1 : (R.write (Nand.new D B P) b 0 (mAll D) l).2.2 = 0) (w2 : (R.write (stN3 D B P b d l) b 0 (mBut D d) m).2.2 = 0) :
    HasRow (stN4 D B P b d l m) b (mBut D d) m ∧ (m.length : Int) = G.slots (mBut D d) ∧ M.masks (stN4 D B P b d l m) b 0 = [mBut D d, mAll D] ∧ (stN4 D B P b d l m).broken = 0 := by
  have MF := maskFacts h1.1 h1.2 hd
  have B1 := write_err w1
  have B2 := write_err w2
  obtain ⟨p1, p2, p3, p4⟩ := parB_len B1
  obtain ⟨q1, q2, q3, q4⟩ := parB_len B2
  have F1 := dieFacts (mAll D) b 0 MF.a0.1 MF.a0.2 (by rw [MF.ca]; omega) (by omega) (by omega)
  have F2 := dieFacts (mBut D d) b 0 MF.b0.1 MF.b0.2 (by rw [MF.cb]; omega) (by omega) (by omega)
  -- the elder row
  have hin1 : ∀ x ∈ R.job b 0 (mAll D) l, 0 ≤ x.1 ∧ x.1 < (Nand.new D B P).dies := fun x hx => by
    obtain ⟨i, e, h6, hh, _⟩ := job_has F1 p1 x hx
    rw [MF.ha i (by omega)] at hh
    have := of_decide_eq_true hh
    exact ⟨by omega, by show x.1 < (D : Int); omega⟩
  obtain ⟨N1, e1, W1⟩ := write_clean B1 ⟨new_calm D B P, job_nodup F1 p1, hin1, ⟨by omega, by show (b : Int) < (B : Int); omega⟩, by show 0 < P; omega, fun x _ => ⟨rfl, rfl⟩⟩
  have hN1 : stN1 D B P b l = N1 := by unfold stN1; rw [e1]
  -- the fault
  have hg : geoIn N1.dies N1.blocks N1.pages d b 0 = true := Nand.geoIn_of (by rw [W1.like.dies]; show _ ∧ (d : Int) < (D : Int); omega) (by rw [W1.like.blocks]; show _ ∧ (b : Int) < (B : Int); omega) (by rw [W1.like.pages]; show _ ∧ (0 : Int) < (P : Int); omega)
  have hN2 : stN2 D B P b d l = N1.setBlk d b { N1.blk d b with fails := true } := by
    unfold stN2; rw [hN1, fault_2 hg]; rfl
  have hblk2 : ∀ i j, (N1.setBlk d b { N1.blk d b with fails := true }).blk i j = if i = d ∧ j = b then { N1.blk d b with fails := true } else N1.blk i j := fun i j => rfl
  generalize hM2 : N1.setBlk d b { N1.blk d b with fails := true } = N2 at hN2 hblk2
  have calm2 : N2.Calm := by rw [← hM2]; exact ⟨W1.calm.off, W1.calm.cuts, W1.calm.plan, W1.calm.dead⟩
  have like2 : (Nand.new D B P).Like N2 := W1.like.trans (by rw [← hM2]; exact ⟨rfl, rfl, rfl⟩)
  have br2 : N2.broken = 0 := by rw [← hM2]; exact W1.broken
  have hd2 : N2.dies = D := like2.dies
  have hb2 : N2.blocks = B := like2.blocks
  have hp2 : N2.pages = P := like2.pages
  have hf2 : ∀ i, i < N2.dies → (N2.blk i b).fails = decide (i = d) := fun i _ => by
    rw [hblk2]
    by_cases hid : i = d
    · subst hid; rw [if_pos ⟨rfl, rfl⟩]; simp
    · rw [if_neg (by omega), (W1.flags i b).2]; simp [hid]; rfl
  have hmet2 : ∀ i, (N2.blk i b).met = false := fun i => by
    rw [hblk2]
    split
    · exact (W1.flags d b).1
    · exact (W1.flags i b).1
  have hcd2 : (N2.blk d b).cells = (N1.blk d b).cells := by rw [hblk2, if_pos ⟨rfl, rfl⟩]
  -- erased
  have E3 := er_facts N2 b d calm2 (by omega) (by omega) hf2 D (by omega)
  have hN3 : stN3 D B P b d l = erN N2 b D := by unfold stN3; rw [hN2]
  generalize erN N2 b D = N3 at hN3 E3
  have hd3 : N3.dies = D := E3.like.dies.trans hd2
  have hb3 : N3.blocks = B := E3.like.blocks.trans hb2
  have hp3 : N3.pages = P := E3.like.pages.trans hp2
  -- the new row
  have hin2 : ∀ x ∈ R.job b 0 (mBut D d) m, ∃ i : Nat, x.1 = i ∧ i < D ∧ i ≠ d := fun x hx => by
    obtain ⟨i, e, h6, hh, _⟩ := job_has F2 q1 x hx
    rw [MF.hb i (by omega)] at hh
    simp only [Bool.and_eq_true, decide_eq_true_eq, bne_iff_ne, ne_eq] at hh
    exact ⟨i, e, hh.1, hh.2⟩
  have hin2' : ∀ x ∈ R.job b 0 (mBut D d) m, 0 ≤ x.1 ∧ x.1 < N3.dies := fun x hx => by
    obtain ⟨i, e, h, _⟩ := hin2 x hx
    rw [hd3]; omega
  rw [hN3] at w2
  have hclean : Clean N3 b (R.job b 0 (mBut D d) m) := ⟨E3.calm, job_nodup F2 q1, hin2', ⟨by omega, by rw [hb3]; omega⟩, by omega, fun x hx => by
    obtain ⟨i, e, h, hne⟩ := hin2 x hx
    rw [e, Int.toNat_natCast, Int.toNat_natCast]
    have := E3.done i h hne
    exact ⟨this.1, this.2.trans (hmet2 i)⟩⟩
  obtain ⟨N4, e4, W4⟩ := write_clean B2 hclean
  have hN4 : stN4 D B P b d l m = N4 := by unfold stN4; rw [hN3, e4]
  rw [hN4]
  have hd4 : N4.dies = D := W4.like.dies.trans hd3
  have row4 : HasRow N4 b (mBut D d) m := hasRow_of hm B2 F2 ⟨by omega, by rw [hb3]; omega⟩ (by omega) hin2' W4.like W4.calm.off W4.calm.dead W4.cells
  refine ⟨row4, q1, ?_, ?_⟩
  · -- masks
    have hold : ∃ s, M.look N4 (d : Nat) b 0 = (s, 1) ∧ s.mask = mAll D := by
      obtain ⟨s, hs, hsm, hcase⟩ := job_of F1 p1 (d := d) (by omega) (by rw [MF.ha d (by omega)]; simpa using hd)
      have hc : (N4.blk d b).cells = [⟨putP s, false, false⟩] := by
        have hr := W4.rest d b (.inr fun x hx => by
          obtain ⟨i, e, _, hne⟩ := hin2 x hx
          rw [e]; exact fun h => hne (by simpa using h))
        rw [hr, E3.kept, hcd2]
        have := W1.cells _ hs
        simpa using this
      have hslen : s.data.length = 16 ∧ S.may s = true ∧ s.block = b ∧ s.row = 0 ∧ (G.parity s.mask b 0 == (d : Int)) = (s.kind == 2) := by
        rcases hcase with ⟨rfl, hpar⟩ | ⟨k, hk, rfl, hpar⟩
        · refine ⟨parS_len hl, parS_may B1, rfl, rfl, ?_⟩
          show (G.parity (mAll D) b 0 == (d : Int)) = _
          rw [hpar, beq_self_eq_true]; rfl
        · have hmem : l.getD k En.zero ∈ l := by rw [List.getD_eq_getElem?_getD, List.getElem?_eq_getElem hk]; exact List.getElem_mem _
          refine ⟨hl _ hmem, p4 _ hmem, rfl, rfl, ?_⟩
          show (G.parity (mAll D) b 0 == (d : Int)) = _
          have hne := (F1.die k (by omega)).2.1
          rw [hpar, beq_eq_false_iff_ne.2 (fun e => hne e.symm)]; rfl
      refine ⟨s, look_good W4.calm.off ⟨by omega, by rw [hd4]; omega⟩ (W4.calm.dead _) ⟨by omega, by rw [W4.like.blocks, hb3]; omega⟩ (by rw [W4.like.pages, hp3]; omega) (t := false) (rst := []) (by simpa using hc) hslen.1 hslen.2.1 hslen.2.2.1 hslen.2.2.2.1 ?_ hslen.2.2.2.2, hsm⟩
      rw [hsm, MF.ha d (by omega)]; simpa using hd
    have hlook : ∀ i ∈ List.range D, M.maskOf (M.look N4 (i : Nat) b 0) = some (if i = d then mAll D else mBut D d) := fun i hi => by
      have hi := List.mem_range.1 hi
      by_cases hid : i = d
      · subst hid
        obtain ⟨s, hs, hsm⟩ := hold
        rw [hs, if_pos rfl]; simp [M.maskOf, hsm]
      · rw [if_neg hid]
        obtain ⟨s, hs, hsm, hcase⟩ := job_of F2 q1 (d := i) (by omega) (by rw [MF.hb i (by omega)]; simp [hi, hid])
        rcases hcase with ⟨rfl, hpar⟩ | ⟨k, hk, rfl, hpar⟩
        · rw [hpar, row4.par]
          show (if (1 : Int) = 1 then some (W.parS b 0 (mBut D d) m).mask else none) = _
          rw [if_pos rfl, hsm]
        · rw [hpar, row4.slot k hk]
          show (if (1 : Int) = 1 then some (W.sh b 0 (mBut D d) (m.getD k En.zero)).mask else none) = _
          rw [if_pos rfl, hsm]
    have hfm : (M.rowN N4 b 0 D).filterMap M.maskOf = (List.range D).map fun i => if i = d then mAll D else mBut D d := by
      unfold M.rowN
      rw [List.filterMap_map]
      refine (filterMap_same (g := fun i => some (if i = d then mAll D else mBut D d)) fun i hi => hlook i hi).trans ?_
      exact congrFun List.filterMap_eq_map' _
    unfold M.masks
    rw [hd4, hfm]
    exact MF.sort
  · rw [W4.broken, E3.broken, br2]
theorem st_pads (b : Int) (mk : Int) (m : List En) : (((List.range m.length).filterMap fun k => if (m.getD k En.zero).role != 3 then some (⟨m.getD k En.zero, b, 0, k, mk, true, false⟩ : Fnd) else none).length + (m.filter fun e => e.role == 3).length) = m.length := by
  have key : ∀ n, n ≤ m.length → ((List.range n).filterMap fun k => if (m.getD k En.zero).role != 3 then some (⟨m.getD k En.zero, b, 0, k, mk, true, false⟩ : Fnd) else none).length + ((m.take n).filter fun e => e.role == 3).length = n := by
    intro n
    induction n with
    | zero => intro _; rfl
    | succ n ih =>
      intro hn
      have hg : m[n]? = some (m.getD n En.zero) := by rw [List.getD_eq_getElem?_getD, List.getElem?_eq_getElem (by omega), Option.getD_some]
      have := ih (by omega)
      rw [List.range_succ, List.filterMap_append, List.length_append, List.take_add_one, hg, Option.toList_some, List.filter_append, List.length_append]
      by_cases h : (m.getD n En.zero).role = 3
      · have h1 : ((m.getD n En.zero).role != 3) = false := bne_eq_false_iff_eq.2 h
        have h2 : ((m.getD n En.zero).role == 3) = true := beq_iff_eq.2 h
        simp only [List.filterMap_cons, List.filterMap_nil, h1, Bool.false_eq_true, if_false, List.filter_cons, List.filter_nil, h2, if_true, List.length_cons, List.length_nil]
        omega
      · have h1 : ((m.getD n En.zero).role != 3) = true := bne_iff_ne.2 h
        have h2 : ((m.getD n En.zero).role == 3) = false := beq_eq_false_iff_ne.2 h
        simp only [List.filterMap_cons, List.filterMap_nil, h1, Bool.false_eq_true, if_false, List.filter_cons, List.filter_nil, h2, if_true, List.length_cons, List.length_nil]
        omega
  have := key m.length (Nat.le_refl _)
  rwa [List.take_length] at this
/-- the sentence, plain -/
theorem stale_law {D B P b d : Nat} {l m : List En} (h1 : 3 ≤ D ∧ D ≤ 6) (h2 : 8 ≤ B ∧ B ≤ 16) (h3 : 2 ≤ P ∧ P ≤ 8) (hb : b < B) (hd : d < D) (hl : ∀ s ∈ l, s.data.length = 16) (hm : ∀ s ∈ m, s.data.length = 16)
    (w1 : (R.write (Nand.new D B P) b 0 (mAll D) l).2.2 = 0) (w2 : (R.write (stN3 D B P b d l) b 0 (mBut D d) m).2.2 = 0) :
    (∀ x ∈ R.all (stN4 D B P b d l m) b 0, x.mask ≠ mAll D → x.whole = true ∧ ∃ k : Nat, x.slot = k ∧ m[k]? = some x.en) ∧
    ((R.all (stN4 D B P b d l m) b 0).filter fun x => x.mask != mAll D).length + (m.filter fun e => e.role == 3).length = m.length ∧ (stN4 D B P b d l m).broken = 0 := by
  obtain ⟨row, q1, hmask, hbr⟩ := st_row h1 h2 h3 hb hd hl hm w1 w2
  have MF := maskFacts h1.1 h1.2 hd
  generalize stN4 D B P b d l m = N4 at row hmask hbr
  have hall := row.all q1
  have hA : ∀ x ∈ R.allM N4 b 0 (mBut D d), x.mask = mBut D d ∧ x.whole = true ∧ ∃ k : Nat, x.slot = k ∧ m[k]? = some x.en := fun x hx => by
    rw [hall, List.mem_filterMap] at hx
    obtain ⟨k, hk, hx⟩ := hx
    have hk := List.mem_range.1 hk
    split at hx
    · injection hx with hx
      subst hx
      exact ⟨rfl, rfl, k, rfl, by rw [List.getD_eq_getElem?_getD, List.getElem?_eq_getElem hk, Option.getD_some]⟩
    · cases hx
  have hO : ∀ x ∈ R.allM N4 b 0 (mAll D), x.mask = mAll D := fun x hx => by
    unfold R.allM at hx
    rw [List.mem_filterMap] at hx
    obtain ⟨k, _, hx⟩ := hx
    unfold R.fnd at hx
    split at hx
    · simp only [Option.some.injEq] at hx
      rw [← hx]
    · cases hx
  have hR : R.all N4 b 0 = R.allM N4 b 0 (mBut D d) ++ R.allM N4 b 0 (mAll D) := by
    unfold R.all; rw [hmask]; simp
  refine ⟨fun x hx hne => ?_, ?_, hbr⟩
  · rw [hR, List.mem_append] at hx
    rcases hx with hx | hx
    · exact (hA x hx).2
    · exact absurd (hO x hx) hne
  · rw [hR, List.filter_append, List.filter_eq_self.2 (fun x hx => by rw [(hA x hx).1]; simpa using MF.ne), List.filter_eq_nil_iff.2 (fun x hx => by rw [hO x hx]; simp), List.append_nil, hall]
    exact st_pads b (mBut D d) m
end Go.Proofs.YtoideahgjgaddaaGreat
namespace Go.Proofs.YtoideahgjgaddaaGreat
open Go Go.RowKit
theorem tm_bd (a : Int) (n : Int) (hn : 0 < n) : -n < a.tmod n ∧ a.tmod n < n := by
  refine ⟨?_, Int.tmod_lt_of_pos a hn⟩
  obtain ⟨k, rfl | rfl⟩ := Int.eq_nat_or_neg a
  · have := Int.tmod_nonneg (a := (k : Int)) n (by omega); omega
  · rw [Int.neg_tmod]
    have := Int.tmod_lt_of_pos (k : Int) hn
    omega
theorem tm_2 (a : Int) (n : Int) (hn : 0 < n) : 0 ≤ (a.tmod n + n).tmod n ∧ (a.tmod n + n).tmod n < n := by
  have := tm_bd a n hn
  exact ⟨Int.tmod_nonneg _ (by omega), Int.tmod_lt_of_pos _ hn⟩
theorem l6_Geo (a b c : Int) : Fn Tryz.prog 21 [.int .i64 a, .int .i64 b, .int .i64 c] [] (fun v As => ∃ D B P : Nat, v = .agg #[.int .i64 D, .int .i64 B, .int .i64 P] ∧ (3 ≤ D ∧ D ≤ 6) ∧ (8 ≤ B ∧ B ≤ 16) ∧ (2 ≤ P ∧ P ≤ 8) ∧ As = []) := by
  have a1 := tm_bd a 4 (by decide)
  have a2 := tm_2 a 4 (by decide)
  have b1 := tm_bd b 9 (by decide)
  have b2 := tm_2 b 9 (by decide)
  have c1 := tm_bd c 7 (by decide)
  have c2 := tm_2 c 7 (by decide)
  refine Fn.enter [0, 0, 0] Tryz.func21 rfl rfl rfl fun X F hX => ?_
  refine J.r hX tab_ok 400 (fun _ => rfl) fun b1 => ?_
  refine J.rt hX tab_ok [] rfl rfl rfl ?_
  obtain ⟨D, hD⟩ := Int.eq_ofNat_of_zero_le a2.1
  obtain ⟨B, hB⟩ := Int.eq_ofNat_of_zero_le b2.1
  obtain ⟨P, hP⟩ := Int.eq_ofNat_of_zero_le c2.1
  refine ⟨3 + D, 8 + B, 2 + P, ?_, by omega, by omega, by omega, rfl⟩
  rw [hD, hB, hP, Int.natCast_add, Int.natCast_add, Int.natCast_add]
  rfl
theorem cellsE_take (l : List En) : ∀ k, (cellsE l).take (k * 19) = cellsE (l.take k) := by
  induction l with
  | nil => intro k; simp [cellsE]
  | cons x l ih =>
    intro k
    cases k with
    | zero => rfl
    | succ k =>
      have := ih k
      simp only [cellsE, List.flatMap_cons, List.take_succ_cons] at this ⊢
      rw [show (k + 1) * 19 = (enL x).length + k * 19 from by rw [enL_len]; omega, List.take_length_add_append, this]
/-- a slice that came in, cut to a few -/
theorem cut_run {E : Env} {n : Nat} {ac : Act} {w : World} {o : Oper} {x y : Operand} {k1 k2 t1 t2 : Nat} {g1 g2 : G} {a : Option Addr} {m c h : Nat} {kk : IntKind} (hop : o.op = .slice 31 x none (some y) none) (hx : ev E x = some ⟨k1, .slice a m c, t1, g1⟩) (hy : ev E y = some ⟨k2, .int kk h, t2, g2⟩) (he : EnvOK n E ac) (v1 : g1.on = true) (v2 : g2.on = true) (hc : h ≤ c) :
    (execOp ac.eval o).run Tryz.prog w = .ok (.value (.slice a h c)) w := by
  have e1 := ev_spec he hx
  have e2 := ev_spec he hy
  simp only [Slot.val, v1, v2] at e1 e2
  obtain ⟨d, f, zv, ok⟩ := tiOf_spec (tab_ok.get (t := 31) rfl)
  obtain ⟨fe, rfl, g1, g2⟩ := ok.slice rfl
  have h0 : ∀ ad : Addr, ad.add 0 = ad := fun ad => by unfold Addr.add; rw [if_pos rfl]
  cases a with
  | none =>
    simp only [execOp, hop, Option.map_some, Option.map_none, e1, e2, Instr.sliceAt, Instr.slice, Instr.sliceBounds, Instr.sliceBound, asIntOf, Sem.run_bind, Sem.run_pure, Result.andThen_ok, underlying_run ok.hd, sizeOf_run g1, g2]
    simp [hc, h0]
  | some ad =>
    simp only [execOp, hop, Option.map_some, Option.map_none, e1, e2, Instr.sliceAt, Instr.slice, Instr.sliceBounds, Instr.sliceBound, asIntOf, Sem.run_bind, Sem.run_pure, Result.andThen_ok, underlying_run ok.hd, sizeOf_run g1, g2]
    simp [hc, h0]
theorem pow_bd (D : Nat) (h : D ≤ 6) : (2 : Int) ^ (min (D : Int).toNat IntKind.i64.bits) = ((2 ^ D : Nat) : Int) ∧ (1 : Int) ≤ ((2 ^ D : Nat) : Int) ∧ ((2 ^ D : Nat) : Int) ≤ 64 := by
  have : ∀ D : Nat, D < 7 → (2 : Int) ^ (min (D : Int).toNat IntKind.i64.bits) = ((2 ^ D : Nat) : Int) ∧ (1 : Int) ≤ ((2 ^ D : Nat) : Int) ∧ ((2 ^ D : Nat) : Int) ≤ 64 := by decide
  exact this D (by omega)
theorem andNot_mask {D d : Nat} (h : D ≤ 6) (hd : d < D) : IntKind.i64.wrap ((BitVec.ofInt IntKind.i64.bits (mAll D) &&& ~~~BitVec.ofInt IntKind.i64.bits ((2 ^ d : Nat) : Int)).toNat : Int) = mBut D d := by
  have : ∀ D : Nat, D < 7 → ∀ d : Nat, d < 7 → d < D → IntKind.i64.wrap ((BitVec.ofInt IntKind.i64.bits (mAll D) &&& ~~~BitVec.ofInt IntKind.i64.bits ((2 ^ d : Nat) : Int)).toNat : Int) = mBut D d := by decide
  exact this D (by omega) d (by omega) hd
theorem cellsF_cell : ∀ {l : List Fnd} {k : Nat} {x : Fnd}, l[k]? = some x → ∀ j, j < 25 → (cellsF l)[k * 25 + j]? = (fnL x)[j]? := by
  intro l k x h j hj
  have h1 := cellsF_get h
  rw [← h1, List.getElem?_take, if_pos hj, List.getElem?_drop]
theorem cellsF_en {l : List Fnd} {k : Nat} {x : Fnd} (h : l[k]? = some x) : ((cellsF l).drop (k * 25)).take 19 = enL x.en := by
  have h1 := congrArg (List.take 19) (cellsF_get h)
  rw [List.take_take] at h1
  exact h1
theorem cellsE_get {l : List En} {k : Nat} {x : En} (h : l[k]? = some x) : ((cellsE l).drop (k * 19)).take 19 = enL x := by
  have := cellsE_at l [] k x h; rwa [List.append_nil] at this
theorem cellsE_cell {l : List En} {k : Nat} {x : En} (h : l[k]? = some x) (j : Nat) (hj : j < 19) : (cellsE l)[k * 19 + j]? = (enL x)[j]? := by
  rw [← cellsE_get h, List.getElem?_take, if_pos hj, List.getElem?_drop]
theorem filter_succ {α : Type} (p : α → Bool) (l : List α) (k : Nat) (x : α) (h : l[k]? = some x) : ((l.take (k + 1)).filter p).length = ((l.take k).filter p).length + (if p x then 1 else 0) := by
  rw [List.take_add_one, h, Option.toList_some, List.filter_append, List.length_append]
  cases hp : p x <;> simp [hp]
end Go.Proofs.YtoideahgjgaddaaGreat
