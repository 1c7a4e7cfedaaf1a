/- Helpers, proved here. No condition. -/
import Derived.Test.YtdocmcapegcoeaaGreatV02
import Derived.Test.YtdocmcapegcoeaaGreatV06
import Derived.Test.YtdocmcapegcoeaaGreatV12
import Derived.Test.YtdocmcapegcoeaaGreatV16
import Derived.Test.YtdocmcapegcoeaaGreatV21
import Derived.Test.YtdocmcapegcoeaaGreatV23
set_option maxRecDepth 20000
set_option linter.all false
namespace Go.Proofs.YtdocmcapegcoeaaGreat
open Go
namespace Bt
theorem num_snoc (l : List Bool) (x : Bool) : num (l ++ [x]) = num l * 2 + x.toNat := by
 unfold num; rw [List.foldl_append]; rfl
theorem num_take_succ (l : List Bool) (k : Nat) (x : Bool) (h : l[k]? = some x) : num (l.take (k + 1)) = num (l.take k) * 2 + x.toNat := by
 rw [List.take_add_one, h, Option.toList_some, num_snoc]
theorem num_take_lt (l : List Bool) : ∀ k, num (l.take k) < 2 ^ k
 | 0 => by simp [num]
 | k + 1 => by
  have ih := num_take_lt l k
  rw [Nat.pow_succ]
  cases h : l[k]? with
  | none => rw [List.take_add_one, h, Option.toList_none, List.append_nil]; omega
  | some x => rw [num_take_succ l k x h]; have := Bool.toNat_le x; omega
theorem bits_at (u w i : Nat) (h : i < w) : (bits u w)[i]? = some (u.testBit (w - 1 - i)) := by simp [bits, h]
theorem num_bits_take (u w : Nat) : ∀ k, k ≤ w → num ((bits u w).take k) = u / 2 ^ (w - k) % 2 ^ k
 | 0, _ => by simp [num, Nat.mod_one]
 | v + 1, hv => by
  rw [num_take_succ _ _ _ (bits_at u w v (by omega)), num_bits_take u w v (by omega), Nat.testBit_eq_decide_div_mod_eq]
  have e1 : w - v = (w - 1 - v) + 1 := by omega
  have e2 : w - (v + 1) = w - 1 - v := by omega
  rw [e1, e2, Nat.pow_succ, ← Nat.div_div_eq_div_mul, Nat.pow_succ 2 v, Nat.mul_comm (2 ^ v) 2, Nat.mod_mul, Nat.mul_comm _ 2]
  generalize u / 2 ^ (w - 1 - v) = x
  rcases Nat.mod_two_eq_zero_or_one x with hx | hx
  ·rw [hx]; simp
  ·rw [hx]; simp [Nat.add_comm]
theorem num_bits (u w : Nat) (h : u < 2 ^ w) : num (bits u w) = u := by
 have := num_bits_take u w w (Nat.le_refl _)
 rw [List.take_of_length_le (by rw [length_bits]; exact Nat.le_refl _), Nat.sub_self, Nat.pow_zero, Nat.div_one, Nat.mod_eq_of_lt h] at this
 exact this
theorem length_unpack (b : List UInt8) : (unpack b).length = 8 * b.length := by
 induction b with
 | nil => rfl
 | cons x b ih =>
  unfold unpack at ih ⊢
  rw [List.flatMap_cons, List.length_append, length_bits, ih, List.length_cons]; omega
theorem unpack_get : ∀ (b : List UInt8) (j : Nat), j < 8 * b.length → (unpack b)[j]? = some (bitAt b j)
 | [], j, h => by simp at h
 | x :: b, j, h => by
  have ih := unpack_get b (j - 8)
  unfold unpack at ih ⊢
  rw [List.flatMap_cons]
  by_cases h8 : j < 8
  ·rw [List.getElem?_append_left (by rw [length_bits]; exact h8), bits_at _ _ _ h8]
   unfold bitAt
   rw [show j / 8 = 0 from by omega, show j % 8 = j from by omega]; rfl
  ·rw [List.getElem?_append_right (by rw [length_bits]; omega), length_bits, ih (by rw [List.length_cons] at h; omega)]
   unfold bitAt
   rw [show j / 8 = (j - 8) / 8 + 1 from by omega, show (j - 8) % 8 = j % 8 from by omega]; rfl
theorem unpack_snoc (b : List UInt8) (x : UInt8) : unpack (b ++ [x]) = unpack b ++ bits x.toNat 8 := by
 unfold unpack; rw [List.flatMap_append]; simp
theorem numAt_num (b : List UInt8) (k : Nat) : ∀ w, k + w ≤ 8 * b.length → num (((unpack b).drop k).take w) = numAt b k w
 | 0, _ => by simp [num, numAt]
 | w + 1, h => by
  rw [num_take_succ _ _ (bitAt b (k + w)) (by rw [List.getElem?_drop]; exact unpack_get b _ (by omega)), numAt_num b k w (by omega), numAt, Nat.mul_comm]
theorem ext_bits {l m : List Bool} (n : Nat) (h1 : l.length = n) (h2 : m.length = n) (h : ∀ i, i < n → l.getD i false = m.getD i false) : l = m := by
 apply List.ext_getElem (by omega)
 intro i a b
 have := h i (by omega)
 rwa [List.getD_eq_getElem?_getD, List.getD_eq_getElem?_getD, List.getElem?_eq_getElem a, List.getElem?_eq_getElem b, Option.getD_some, Option.getD_some] at this
theorem bits_getD (u w i : Nat) (h : i < w) : (bits u w).getD i false = u.testBit (w - 1 - i) := by
 rw [List.getD_eq_getElem?_getD, bits_at u w i h]; rfl
theorem bits_xor (a b w i : Nat) (h : i < w) : (bits (a ^^^ b) w).getD i false = ((bits a w).getD i false != (bits b w).getD i false) := by
 rw [bits_getD _ _ _ h, bits_getD _ _ _ h, bits_getD _ _ _ h, Nat.testBit_xor]
theorem bits_shift (a i : Nat) (h : i < 32) : (bits (a * 2 % 4294967296) 32).getD i false = if i = 31 then false else (bits a 32).getD (i + 1) false := by
 rw [bits_getD _ _ _ h, show (4294967296 : Nat) = 2 ^ 32 from rfl, Nat.testBit_mod_two_pow, decide_eq_true (by omega), Bool.true_and]
 by_cases e : i = 31
 ·subst e
  rw [if_pos rfl]
  simp
 ·rw [if_neg e, bits_getD _ _ _ (by omega), show 32 - 1 - i = (32 - 1 - (i + 1)) + 1 from by omega, Nat.testBit_succ, Nat.mul_div_cancel _ (by omega)]
theorem bits_top (x i : Nat) (hx : x < 256) (h : i < 32) : (bits (x * 16777216) 32).getD i false = if i < 8 then (bits x 8).getD i false else false := by
 rw [bits_getD _ _ _ h, show (16777216 : Nat) = 2 ^ 24 from rfl, Nat.testBit_mul_two_pow]
 by_cases e : i < 8
 ·rw [if_pos e, bits_getD _ _ _ e, decide_eq_true (by omega), Bool.true_and]
  congr 1; omega
 ·rw [if_neg e, decide_eq_false (by omega), Bool.false_and]
theorem bits_high (a : Nat) (h : a < 4294967296) : (bits a 32).getD 0 false = decide (2147483648 ≤ a) := by
 rw [bits_getD _ _ _ (by omega), Nat.testBit_eq_decide_div_mod_eq]
 show decide (a / 2147483648 % 2 = 1) = _
 by_cases h2 : 2147483648 ≤ a
 ·rw [decide_eq_true h2, decide_eq_true (by omega)]
 ·rw [decide_eq_false h2, decide_eq_false (by omega)]
theorem unpack_append (a b : List UInt8) : unpack (a ++ b) = unpack a ++ unpack b := by unfold unpack; rw [List.flatMap_append]
theorem unpack_take (c : List UInt8) (n : Nat) (h : n ≤ c.length) : unpack (c.take n) = (unpack c).take (8 * n) := by
 have h1 := unpack_append (c.take n) (c.drop n)
 rw [List.take_append_drop] at h1
 rw [h1, List.take_left' (by rw [length_unpack, List.length_take, Nat.min_eq_left h])]
theorem unpack_drop (c : List UInt8) (n : Nat) (h : n ≤ c.length) : unpack (c.drop n) = (unpack c).drop (8 * n) := by
 have h1 := unpack_append (c.take n) (c.drop n)
 rw [List.take_append_drop] at h1
 rw [h1, List.drop_left' (by rw [length_unpack, List.length_take, Nat.min_eq_left h])]
theorem pack_byte (x : UInt8) : pack (bits x.toNat 8) = [x] := by
 have key : ∀ n, n < 256 → pack (bits n 8) = [UInt8.ofNat n] := by decide +kernel
 rw [key _ x.toNat_lt, UInt8.ofNat_toNat]
theorem pack_unpack (c : List UInt8) : pack (unpack c) = c := by
 induction c with
 | nil => rfl
 | cons x c ih =>
  have h1 : unpack (x :: c) = bits x.toNat 8 ++ unpack c := by unfold unpack; rw [List.flatMap_cons]
  rw [h1, pack_append _ _ 1 (length_bits _ _), pack_byte, ih]; rfl
theorem numAt_bit (b : List UInt8) (k : Nat) : ∀ w i, i < w → (numAt b k w).testBit (w - 1 - i) = bitAt b (k + i)
 | 0, i, h => by omega
 | w + 1, i, h => by
  rw [numAt]
  have hb := Bool.toNat_le (bitAt b (k + w))
  by_cases e : i = w
  ·subst e
   rw [show i + 1 - 1 - i = 0 from by omega, Nat.testBit_zero]
   cases bitAt b (k + i) <;> simp <;> omega
  ·rw [show w + 1 - 1 - i = (w - 1 - i) + 1 from by omega, Nat.testBit_succ, show (2 * numAt b k w + (bitAt b (k + w)).toNat) / 2 = numAt b k w from by omega]
   exact numAt_bit b k w i (by omega)
theorem bits_numAt (b : List UInt8) (k w : Nat) (h : k + w ≤ 8 * b.length) : bits (numAt b k w) w = ((unpack b).drop k).take w := by
 refine ext_bits w (length_bits _ _) (by rw [List.length_take, List.length_drop, length_unpack]; omega) fun i hi => ?_
 rw [bits_getD _ _ _ hi, numAt_bit b k w i hi, List.getD_eq_getElem?_getD, List.getElem?_take, if_pos hi, List.getElem?_drop, unpack_get b _ (by omega)]
 rfl
end Bt
namespace K
theorem round_bits (a : Nat) (h : a < 4294967296) (i : Nat) (hi : i < 32) : (Bt.bits (round a) 32).getD i false = ((if i = 31 then false else (Bt.bits a 32).getD (i + 1) false) != ((Bt.bits a 32).getD 0 false && (Bt.bits 1947962583 32).getD i false)) := by
 rw [Bt.bits_high a h, ← Bt.bits_shift a i hi]
 unfold round
 split
 ·rename_i h2
  rw [decide_eq_false (by omega), Bool.false_and, Bool.bne_false, Nat.mod_eq_of_lt (by omega)]
 ·rename_i h2
  rw [decide_eq_true (by omega), Bool.true_and, Bt.bits_xor _ _ _ _ hi]
theorem step_bits (s x : Nat) (hx : x < 256) (i : Nat) (hi : i < 32) : (Bt.bits (s ^^^ (x * 16777216)) 32).getD i false = if i < 8 then ((Bt.bits s 32).getD i false != (Bt.bits x 8).getD i false) else (Bt.bits s 32).getD i false := by
 rw [Bt.bits_xor _ _ _ _ hi, Bt.bits_top x i hx hi]
 split
 ·rfl
 ·rw [Bool.bne_false]
end K
namespace S
theorem head_fields (p : List UInt8) (hp : p.length = 32) : head (fields p) = Bt.unpack ((p.drop 16).take 12) := by
 have hl : (p.drop 16).length = 16 := by rw [List.length_drop, hp]
 rw [Bt.unpack_take _ _ (by omega)]
 have hm := Bt.numAt_lt (p.drop 16) 0 64
 have hmeta : meta_ (fields p).role (fields p).lpn (fields p).seq = Bt.numAt (p.drop 16) 0 64 := by
  show meta_ ((Bt.numAt (p.drop 16) 0 64 / 72057594037927936 : Nat) : Int) ((Bt.numAt (p.drop 16) 0 64 / 1099511627776 % 65536 : Nat) : Int) ((Bt.numAt (p.drop 16) 0 64 % 1099511627776 : Nat) : Int) = _
  generalize Bt.numAt (p.drop 16) 0 64 = m at hm
  have hm2 : m < 18446744073709551616 := hm
  unfold meta_
  omega
 unfold head
 rw [hmeta]
 show Bt.bits (Bt.numAt (p.drop 16) 0 64) 64 ++ Bt.bits ((Bt.numAt (p.drop 16) 64 8 : Nat) : Int).toNat 8 ++ Bt.bits ((Bt.numAt (p.drop 16) 72 8 : Nat) : Int).toNat 8 ++ Bt.bits ((Bt.numAt (p.drop 16) 80 8 : Nat) : Int).toNat 8 ++ Bt.bits ((Bt.numAt (p.drop 16) 88 8 : Nat) : Int).toNat 8 = _
 rw [Int.toNat_natCast, Int.toNat_natCast, Int.toNat_natCast, Int.toNat_natCast, Bt.bits_numAt _ _ _ (by omega), Bt.bits_numAt _ _ _ (by omega), Bt.bits_numAt _ _ _ (by omega), Bt.bits_numAt _ _ _ (by omega), Bt.bits_numAt _ _ _ (by omega)]
 generalize Bt.unpack (p.drop 16) = U
 rw [show 8 * 12 = 64 + 8 + 8 + 8 + 8 from rfl, List.take_add, List.take_add, List.take_add, List.take_add, List.drop_zero]
theorem put_eq (p : List UInt8) (hp : p.length = 32) : put (fields p) = p.take 28 ++ Bt.pack (Bt.bits (K.sum (p.take 28)) 32) := by
 have hd : (fields p).data = p.take 16 := rfl
 have h28 : p.take 16 ++ (p.drop 16).take 12 = p.take 28 := by rw [show 28 = 16 + 12 from rfl, List.take_add]
 unfold put
 rw [head_fields p hp, hd, Bt.pack_append _ _ 12 (by rw [Bt.length_unpack, List.length_take, List.length_drop, hp]; rfl), Bt.pack_unpack, ← List.append_assoc, h28]
theorem put_fields (p : List UInt8) (hp : p.length = 32) : put (fields p) = p ↔ Bt.numAt p 224 32 = K.sum (p.take 28) := by
 rw [put_eq p hp]
 have h1 : Bt.pack (Bt.bits (Bt.numAt p 224 32) 32) = p.drop 28 := by
  rw [Bt.bits_numAt _ _ _ (by omega), List.take_of_length_le (by rw [List.length_drop, Bt.length_unpack, hp]; exact Nat.le_refl _), show 224 = 8 * 28 from rfl, ← Bt.unpack_drop _ _ (by omega), Bt.pack_unpack]
 constructor
 ·intro h
  have h2 : p.take 28 ++ Bt.pack (Bt.bits (K.sum (p.take 28)) 32) = p.take 28 ++ p.drop 28 := by rw [h, List.take_append_drop]
  have h3 := List.append_cancel_left h2
  exact Bt.bits_inj (Bt.numAt_lt p 224 32) (K.sum_lt _) (h1.trans h3.symm)
 ·intro h
  rw [← h, h1, List.take_append_drop]
theorem get_some (p : List UInt8) (hp : p.length = 32) : get p = if Bt.numAt p 224 32 = K.sum (p.take 28) ∧ may (fields p) = true then some (fields p) else none := by
 unfold get
 by_cases h1 : Bt.numAt p 224 32 = K.sum (p.take 28)
 ·by_cases h2 : may (fields p) = true
  ·rw [if_pos ⟨h2, (put_fields p hp).2 h1⟩, if_pos ⟨h1, h2⟩]
  ·rw [if_neg (fun h => h2 h.1), if_neg (fun h => h2 h.2)]
 ·rw [if_neg (fun h => h1 ((put_fields p hp).1 h.2)), if_neg (fun h => h1 h.1)]
theorem field_role (p : List UInt8) (hp : p.length = 32) : (fields p).role = (Bt.numAt p 128 8 : Nat) ∧ (fields p).lpn = (Bt.numAt p 136 16 : Nat) ∧ (fields p).seq = (Bt.numAt p 152 40 : Nat) := by
 have hb : ∀ j, Bt.bitAt (p.drop 16) j = Bt.bitAt p (128 + j) := fun j => by
  unfold Bt.bitAt
  rw [show (128 + j) / 8 = 16 + j / 8 from by omega, show (128 + j) % 8 = j % 8 from by omega]
  simp [List.getD_eq_getElem?_getD]
 have hs : ∀ k w, Bt.numAt (p.drop 16) k w = Bt.numAt p (128 + k) w := fun k w => by
  induction w with
  | zero => rfl
  | succ w ih => rw [Bt.numAt, Bt.numAt, ih, hb, Nat.add_assoc]
 have hadd : ∀ k v w, Bt.numAt p k (v + w) = Bt.numAt p k v * 2 ^ w + Bt.numAt p (k + v) w := fun k v w => by
  induction w with
  | zero => simp [Bt.numAt]
  | succ w ih => rw [← Nat.add_assoc, Bt.numAt, Bt.numAt, ih, Nat.pow_succ, Nat.add_assoc k v w]; generalize Bt.numAt p k v = x; generalize Bt.numAt p (k + v) w = y; rw [Nat.mul_add, ← Nat.mul_assoc, Nat.mul_comm 2 x, Nat.mul_assoc x 2, Nat.mul_comm 2 (2 ^ w), Nat.add_assoc]
 have e : Bt.numAt (p.drop 16) 0 64 = Bt.numAt p 128 8 * 72057594037927936 + (Bt.numAt p 136 16 * 1099511627776 + Bt.numAt p 152 40) := by
  rw [hs, show (64 : Nat) = 8 + (16 + 40) from rfl, hadd, hadd]
 have h1 := Bt.numAt_lt p 128 8
 have h2 := Bt.numAt_lt p 136 16
 have h3 := Bt.numAt_lt p 152 40
 show ((Bt.numAt (p.drop 16) 0 64 / 72057594037927936 : Nat) : Int) = _ ∧ ((Bt.numAt (p.drop 16) 0 64 / 1099511627776 % 65536 : Nat) : Int) = _ ∧ ((Bt.numAt (p.drop 16) 0 64 % 1099511627776 : Nat) : Int) = _
 rw [e]
 generalize Bt.numAt p 128 8 = a at *
 generalize Bt.numAt p 136 16 = b at *
 generalize Bt.numAt p 152 40 = c at *
 have h1 : a < 256 := h1
 have h2 : b < 65536 := h2
 have h3 : c < 1099511627776 := h3
 omega
theorem field_rest (p : List UInt8) (hp : p.length = 32) : (fields p).block = (Bt.numAt p 192 8 : Nat) ∧ (fields p).row = (Bt.numAt p 200 8 : Nat) ∧ (fields p).mask = (Bt.numAt p 208 8 : Nat) ∧ (fields p).kind = (Bt.numAt p 216 8 : Nat) := by
 have hb : ∀ j, Bt.bitAt (p.drop 16) j = Bt.bitAt p (128 + j) := fun j => by
  unfold Bt.bitAt
  rw [show (128 + j) / 8 = 16 + j / 8 from by omega, show (128 + j) % 8 = j % 8 from by omega]
  simp [List.getD_eq_getElem?_getD]
 have hs : ∀ k w, Bt.numAt (p.drop 16) k w = Bt.numAt p (128 + k) w := fun k w => by
  induction w with
  | zero => rfl
  | succ w ih => rw [Bt.numAt, Bt.numAt, ih, hb, Nat.add_assoc]
 refine ⟨?_, ?_, ?_, ?_⟩
 ·show ((Bt.numAt (p.drop 16) 64 8 : Nat) : Int) = _
  rw [hs]
 ·show ((Bt.numAt (p.drop 16) 72 8 : Nat) : Int) = _
  rw [hs]
 ·show ((Bt.numAt (p.drop 16) 80 8 : Nat) : Int) = _
  rw [hs]
 ·show ((Bt.numAt (p.drop 16) 88 8 : Nat) : Int) = _
  rw [hs]
end S
end Go.Proofs.YtdocmcapegcoeaaGreat
namespace Go.Proofs.YtdocmcapegcoeaaGreat
open Go Go.RowKit
section
variable {P : Program} {T : Tab} {E : Env} {n : Nat} {ac : Act} {w : World}
end
theorem Rd.drop {A : Atom} {b o size n : Nat} {xs : List Value} (h : Rd A (some ⟨b, o, none⟩) size n xs) (k : Nat) (hk : k ≤ n) : Rd A (some ⟨b, o + k * size, none⟩) size (n - k) (xs.drop (k * size)) := by
 intro h' s
 obtain ⟨h0, h1⟩ := h h' s
 have hle : k * size ≤ n * size := Nat.mul_le_mul_right _ hk
 refine ⟨by rw [List.length_drop, h0, Nat.sub_mul], fun hk0 => ?_⟩
 obtain ⟨b', o', cs, ty, fr, e1, e2, e3⟩ := h1 (by omega)
 simp only [Option.some.injEq, Addr.mk.injEq, and_true] at e1
 obtain ⟨rfl, rfl⟩ := e1
 refine ⟨b, _, cs, ty, fr, rfl, e2, ?_⟩
 rw [← e3, List.drop_take, List.drop_drop, Nat.sub_mul]
theorem cellsB_at {l : List Bool} (r : List Value) {k : Nat} (h : k < l.length) : (cellsB l ++ r)[k]? = some (.bool (l.getD k false)) := by
 rw [List.getElem?_append_left (by rw [cellsB_len]; exact h), cellsB_get (List.getElem?_eq_getElem h), List.getD_eq_getElem?_getD, List.getElem?_eq_getElem h]; rfl
theorem cellsB_set {l : List Bool} (r : List Value) {k : Nat} (v : Bool) (h : k < l.length) : (cellsB l ++ r).set k (.bool v) = cellsB (l.set k v) ++ r := by
 rw [List.set_append_left _ _ (by rw [cellsB_len]; exact h)]
 unfold cellsB
 rw [List.map_set]
theorem cellsB_app (a b : List Bool) : cellsB (a ++ b) = cellsB a ++ cellsB b := by simp [cellsB]
theorem cellsB_drop (a : List Bool) (k : Nat) : cellsB (a.drop k) = (cellsB a).drop k := by simp [cellsB, List.map_drop]
theorem cellsB_take (a : List Bool) (k : Nat) : cellsB (a.take k) = (cellsB a).take k := by simp [cellsB, List.map_take]
theorem cellsB_one (l : List Bool) : ∀ u ∈ cellsB l, u.oneCell' = true := by
 intro u hu
 obtain ⟨b, _, rfl⟩ := List.mem_map.1 hu
 rfl
theorem bit64 (u j : Nat) : ((((u : Int).tdiv ((2 ^ j : Nat) : Int)).tmod 2) == 1) = u.testBit j := by
 rw [← Int.ofNat_tdiv, show (2 : Int) = ((2 : Nat) : Int) from rfl, ← Int.ofNat_tmod, Nat.testBit_eq_decide_div_mod_eq]
 by_cases h : u / 2 ^ j % 2 = 1
 ·simp [h]
 ·rw [decide_eq_false h, beq_eq_false_iff_ne]; omega
theorem f1_Bits (u w : Nat) (hu : u < 18446744073709551616) (hw : w ≤ 64) : Fn Tryz.prog 242 [.int .u64 u, .int .i64 w] [] (fun v As => ∃ a c, v = slv a w c ∧ As = [ownA 4 1 a w c (cellsB (Bt.bits u w))]) := by
 refine Fn.enter [0, 0] Tryz.func242 rfl rfl rfl fun X F hX => ?_
 refine J.turn1 [] rfl (As := [ownA 4 1 none 0 0 (cellsB ((Bt.bits u w).take 0))]) (fun h s => Sep.one ⟨rfl, rfl, rfl⟩) rfl ?_
 refine J.q hX fun b1 => ?_
 refine J.lo (α := (Nat × Int × Option Nat × Nat)) (fun z => z.1 ≤ w ∧ z.2.1 = (w : Int) - 1 - z.1) (fun z => [⟨6, .int .i64 z.2.1, 0, .tt⟩, ⟨5, slv z.2.2.1 z.1 z.2.2.2, 0, .tt⟩, ⟨0, .int .u64 u, 0, .tt⟩]) [1] (fun z => [ownA 4 1 z.2.2.1 z.1 z.2.2.2 (cellsB ((Bt.bits u w).take z.1))]) (fun z => w - z.1) ((0, (w : Int) - 1, none, 0)) (⟨Nat.zero_le _, by simp⟩) rfl ?_ (fun _ => rfl) fun z hI => ?_
 ·rfl
 obtain ⟨k, ii, a, c⟩ := z
 dsimp only at hI ⊢
 obtain ⟨hI, hi⟩ := hI
 refine J.q hX fun b3 => ?_
 refine J.cond rfl (fun h1 => ?_) (fun h1 => ?_)
 ·simp only [decide_eq_true_eq] at h1
  obtain ⟨j, rfl⟩ := Int.eq_ofNat_of_zero_le h1
  have hj : j = w - 1 - k := by omega
  have h2 : 2 ^ j ≤ 2 ^ 63 := Nat.pow_le_pow_right (by omega) (by omega)
  have h3 : 0 < 2 ^ j := Nat.two_pow_pos _
  have hq : (0 ≤ (u : Int).tdiv ((2 ^ j : Nat) : Int) ∧ (u : Int).tdiv ((2 ^ j : Nat) : Int) < 18446744073709551616) ∧ (0 ≤ ((u : Int).tdiv ((2 ^ j : Nat) : Int)).tmod 2 ∧ ((u : Int).tdiv ((2 ^ j : Nat) : Int)).tmod 2 < 2) := by
   rw [← Int.ofNat_tdiv, show (2 : Int) = ((2 : Nat) : Int) from rfl, ← Int.ofNat_tmod]
   have := Nat.div_le_self u (2 ^ j)
   generalize u / 2 ^ j = q at this ⊢
   omega
  have hbit := bit64 u j
  have hs : (Bt.bits u w).take (k + 1) = (Bt.bits u w).take k ++ [u.testBit j] := by
   rw [List.take_add_one, Bt.bits_at u w k (by omega), hj]; rfl
  refine J.q hX fun b4 => ?_
  refine J.cb hX (f1_pow j (by omega)) [] ?_
  refine cpq ⟨_, rfl, trivial, ?_⟩
  refine J.q hX fun b6 => ?_
  rw [hbit]
  refine J.append hX tk 1 2 0 rfl rfl rfl rfl rfl rfl rfl rfl rfl rfl rfl rfl rfl rfl rfl rfl ?_ ?_ (fun _ => rfl) fun a4 c4 => ⟨_, (congrArg (fun z => lset _ 1 (ownA _ _ _ _ _ z)) ((cellsB_snoc _ _).symm.trans (congrArg cellsB hs.symm))).trans rfl, trivial, ?_⟩
  ·simp only [maxLen]; omega
  ·omega
  refine J.q hX fun b7 => ?_
  refine J.nS ((k + 1, (j : Int) - 1, a4, c4)) (⟨by dsimp only; omega, by dsimp only; omega⟩) (by dsimp only; omega) [0, 1] rfl rfl
 ·simp only [decide_eq_false_iff_not] at h1
  have hkw : k = w := by omega
  have ht : (Bt.bits u w).take k = Bt.bits u w := List.take_of_length_le (by rw [Bt.length_bits]; omega)
  rw [ht, hkw]
  refine J.q hX fun b9 => ?_
  refine J.ru hX [1] ?_
  exact ⟨a, c, rfl, rfl⟩
theorem f1_Num (A : Atom) (a : Option Addr) (n cap : Nat) (l : List Bool) (hA : Rd A a 1 n (cellsB l)) (hl : l.length = n) (hn : n ≤ 64) : Fn Tryz.prog 218 [.slice a n cap] [A] (fun v As => v = .int .u64 (Bt.num l) ∧ As = [A]) := by
 refine Fn.enter [0] Tryz.func218 rfl rfl rfl fun X F hX => ?_
 refine J.q hX fun b10 => ?_
 refine J.lo (α := Nat) (fun k => k ≤ n) (fun k => [⟨4, .int .i64 k, 0, .tt⟩, ⟨3, .int .u64 (Bt.num (l.take k)), 0, .tt⟩, ⟨0, .slice a n cap, 0, .tt⟩]) [] (fun k => []) (fun k => n - k) (0) (Nat.zero_le _) rfl ?_ (fun _ => rfl) fun k hI => ?_
 ·rfl
 refine J.q hX fun b12 => ?_
 refine J.cond rfl (fun h1 => ?_) (fun h1 => ?_)
 ·simp only [decide_eq_true_eq, Int.ofNat_lt] at h1
  obtain ⟨x, hx⟩ : ∃ x, l[k]? = some x := ⟨_, List.getElem?_eq_getElem (by omega)⟩
  have hs := Bt.num_take_succ l k x hx
  have hlt := Bt.num_take_lt l (k + 1)
  have hp : 2 ^ (k + 1) ≤ 2 ^ 64 := Nat.pow_le_pow_right (by omega) (by omega)
  have hlt2 : Bt.num (l.take (k + 1)) < 18446744073709551616 := Nat.lt_of_lt_of_le hlt hp
  rw [hs] at hlt2
  refine J.know (p := ∃ g o, a = some ⟨g, o, none⟩) (fun h' s => Rd.addr (hA _ (s.get (i := 1) rfl)) (by omega)) fun hk => ?_
  obtain ⟨gm, om, rfl⟩ := hk
  refine J.q hX fun b13 => ?_
  refine J.val hX (.bool x) 0 rfl rfl (fun hg a w he hw => rd1_run tk rfl rfl he rfl rfl rfl (hA _ (hw.get (i := 1) rfl)) (by omega) (j := k) (by omega) (cellsB_get hx)) rfl trivial ?_
  refine J.q hX fun b14 => ?_
  refine J.cond rfl (fun h3 => ?_) (fun h3 => ?_)
  ·subst h3
   rw [show (true : Bool).toNat = 1 from rfl] at hs hlt2
   refine J.q hX fun b15 => ?_
   rw [show ((Bt.num (l.take k) : Nat) : Int) * 2 + 1 = ((Bt.num (l.take (k + 1)) : Nat) : Int) from by omega]
   refine J.q hX fun b16 => ?_
   refine J.nS (k + 1) (by omega) (by omega) [0, 1] rfl rfl
  ·subst h3
   rw [show (false : Bool).toNat = 0 from rfl] at hs hlt2
   rw [show ((Bt.num (l.take k) : Nat) : Int) * 2 = ((Bt.num (l.take (k + 1)) : Nat) : Int) from by omega]
   refine J.q hX fun b17 => ?_
   refine J.nS (k + 1) (by omega) (by omega) [0, 1] rfl rfl
 simp only [decide_eq_false_iff_not, Int.ofNat_lt] at h1
 have htk : l.take k = l := List.take_of_length_le (by omega)
 rw [htk]
 refine J.q hX fun b19 => ?_
 exact J.ru hX [1] ⟨rfl, rfl⟩
theorem f1_Of (A : Atom) (a : Option Addr) (n cap : Nat) (l : List UInt8) (hA : Rd A a 1 n (l.map bv)) (hl : l.length = n) (hn : n ≤ 64) : Fn Tryz.prog 219 [.slice a n cap] [A] (fun v As => ∃ a' c', v = slv a' (n * 8) c' ∧ As = [A, ownA 4 1 a' (n * 8) c' (cellsB (Bt.unpack l))]) := by
 refine Fn.enter [0] Tryz.func219 rfl rfl rfl fun X F hX => ?_
 refine J.turn1 [] rfl (As := [ownA 4 1 none (0 * 8) 0 (cellsB (Bt.unpack (l.take 0)))]) (fun h s => Sep.one ⟨rfl, rfl, rfl⟩) rfl ?_
 refine J.q hX fun b20 => ?_
 refine J.lo (α := (Nat × Option Nat × Nat)) (fun z => z.1 ≤ n) (fun z => [⟨4, .int .i64 z.1, 0, .tt⟩, ⟨3, slv z.2.1 (z.1 * 8) z.2.2, 0, .tt⟩, ⟨0, .slice a n cap, 0, .tt⟩]) [2] (fun z => [ownA 4 1 z.2.1 (z.1 * 8) z.2.2 (cellsB (Bt.unpack (l.take z.1)))]) (fun z => n - z.1) ((0, none, 0)) (Nat.zero_le _) rfl ?_ (fun _ => rfl) fun z hI => ?_
 ·rfl
 obtain ⟨k, b, c⟩ := z
 dsimp only at hI ⊢
 refine J.q hX fun b22 => ?_
 refine J.cond rfl (fun h1 => ?_) (fun h1 => ?_)
 ·simp only [decide_eq_true_eq, Int.ofNat_lt] at h1
  obtain ⟨x, hx⟩ : ∃ x, l[k]? = some x := ⟨_, List.getElem?_eq_getElem (by omega)⟩
  have hs : Bt.unpack (l.take (k + 1)) = Bt.unpack (l.take k) ++ Bt.bits x.toNat 8 := by
   rw [List.take_add_one, hx, Option.toList_some, Bt.unpack_snoc]
  have hxl : x.toNat < 256 := x.toNat_lt
  refine J.know (p := ∃ g o, a = some ⟨g, o, none⟩) (fun h' s => Rd.addr (hA _ (s.get (i := 1) rfl)) (by omega)) fun hk => ?_
  obtain ⟨gm, om, rfl⟩ := hk
  refine J.q hX fun b23 => ?_
  refine J.val hX (bv x) 0 rfl rfl (fun hg a w he hw => rd1_run tk rfl rfl he rfl rfl rfl (hA _ (hw.get (i := 1) rfl)) (by omega) (j := k) (by omega) (by rw [List.getElem?_map, hx]; rfl)) rfl trivial ?_
  refine J.q hX fun b24 => ?_
  refine J.cb hX (f1_Bits x.toNat 8 (by omega) (by omega)) [] ?_
  rintro v As ⟨a3, c3, rfl, rfl⟩
  refine ⟨_, rfl, trivial, ?_⟩
  refine J.know (fun h' s => own_some (c := (a3, c3)) (by omega) (s.get (i := 3) rfl)) fun hg => ?_
  obtain ⟨g3, rfl⟩ := hg
  refine J.q hX fun b26 => ?_
  refine J.appendR hX tk 2 3 0 rfl rfl rfl rfl rfl rfl rfl rfl rfl rfl (own_rd _ _ _ _ _ _) rfl rfl rfl rfl (cellsB_one _) ?_ ?_ (fun _ => rfl) fun a4 c4 => ⟨_, (congrArg (fun z => lset _ 2 (ownA _ _ _ _ _ z)) ((cellsB_app _ _).symm.trans (congrArg cellsB hs.symm))).trans rfl, trivial, ?_⟩
  ·simp only [maxLen]; omega
  ·omega
  rw [show k * 8 + 8 = (k + 1) * 8 from by omega]
  refine J.q hX fun b27 => ?_
  refine J.nS ((k + 1, a4, c4)) (by dsimp only; omega) (by dsimp only; omega) [0, 1, 2] rfl rfl
 ·simp only [decide_eq_false_iff_not, Int.ofNat_lt] at h1
  have hkn : k = n := by omega
  have ht : l.take k = l := List.take_of_length_le (by omega)
  rw [ht, hkn]
  refine J.q hX fun b29 => ?_
  refine J.ru hX [1, 2] ?_
  exact ⟨b, c, rfl, rfl⟩
theorem f1_Step (s x : Nat) (hs : s < 4294967296) (hx : x < 256) : Fn Tryz.prog 220 [.int .u32 s, .int .u8 x] [] (fun v As => v = .int .u32 (K.step s x) ∧ As = []) := by
 have hs0 : s ^^^ x * 16777216 < 4294967296 := K.step_lt0 hs hx
 have hst : K.step s x = K.rounds 8 (s ^^^ x * 16777216) := rfl
 obtain ⟨s0, hs0e⟩ : ∃ s0, s ^^^ x * 16777216 = s0 := ⟨_, rfl⟩
 have hsb := K.step_bits s x hx
 rw [hs0e] at hs0 hst hsb
 obtain ⟨P0, hP0⟩ : ∃ P0, Bt.bits 1947962583 32 = P0 := ⟨_, rfl⟩
 have hP0l : P0.length = 32 := by rw [← hP0, Bt.length_bits]
 refine Fn.enter [0, 0] Tryz.func220 rfl rfl rfl fun X F hX => ?_
 refine J.q hX fun b1 => ?_
 refine J.cb hX (f1_Bits s 32 (by omega) (by omega)) [] ?_
 rintro v As ⟨a1, c1, rfl, rfl⟩
 refine ⟨_, rfl, trivial, ?_⟩
 refine J.q hX fun b3 => ?_
 refine J.cb hX (f1_Bits x 8 (by omega) (by omega)) [] ?_
 rintro v As ⟨a2, c2, rfl, rfl⟩
 refine ⟨_, rfl, trivial, ?_⟩
 refine J.q hX fun b5 => ?_
 refine J.cb hX (f1_Bits 1947962583 32 (by omega) (by omega)) [] ?_
 rintro v As ⟨a3, c3, rfl, rfl⟩
 refine ⟨_, rfl, trivial, ?_⟩
 rw [hP0]
 refine J.know (fun h' s => own_some (c := (a1, c1)) (by omega) (s.get (i := 1) rfl)) fun hg => ?_
 obtain ⟨g1, rfl⟩ := hg
 refine J.know (fun h' s => own_some (c := (a2, c2)) (by omega) (s.get (i := 2) rfl)) fun hg => ?_
 obtain ⟨g2, rfl⟩ := hg
 refine J.know (fun h' s => own_some (c := (a3, c3)) (by omega) (s.get (i := 3) rfl)) fun hg => ?_
 obtain ⟨g3, rfl⟩ := hg
 refine J.q hX fun b7 => ?_
 refine J.openOwn 1 rfl rfl (fun _ => rfl) fun r q1 q2 q3 q4 => ?_
 refine J.q hX fun b8 => ?_
 refine J.lo (α := (Nat × List Bool)) (fun z => z.1 ≤ 8 ∧ z.2.length = 32 ∧ ∀ i, i < 32 → z.2.getD i false = if i < z.1 then ((Bt.bits s 32).getD i false != (Bt.bits x 8).getD i false) else (Bt.bits s 32).getD i false) (fun z => [⟨8, .int .i64 z.1, 0, .tt⟩, ⟨5, slv (some g1) 32 c1, 0, .tt⟩, ⟨6, slv (some g2) 8 c2, 0, .tt⟩, ⟨7, slv (some g3) 32 c3, 0, .tt⟩]) [1] (fun z => [.pt g1 4 (cellsB z.2 ++ r)]) (fun z => 8 - z.1) ((0, Bt.bits s 32)) (⟨Nat.zero_le _, Bt.length_bits _ _, fun i hi => by simp⟩) rfl ?_ (fun _ => rfl) fun z hI => ?_
 ·rfl
 obtain ⟨k, l⟩ := z
 dsimp only at hI ⊢
 obtain ⟨hk, hl, hv⟩ := hI
 refine J.q hX fun b9 => ?_
 refine J.cond rfl (fun h1 => ?_) (fun h1 => ?_)
 ·simp only [decide_eq_true_eq] at h1
  have h1 : k < 8 := by omega
  refine J.q hX fun b10 => ?_
  refine J.plan (.of [0,4,8,12,16,21,24,28,32,37,40,44,51]) [11,12] [1,2,3] (by rw [hX.hP]; kernel_rfl) (by kernel_rfl) ?_
  refine J.q hX fun b11 => ?_
  refine J.valT hX (.bool (l.getD k false)) 0 rfl rfl (fun hg a w he hC => ?_) rfl ?_
  ·exact load1_run tk rfl rfl he hg rfl rfl (hC rfl _ (cget_mem (i := 1) rfl)) (by rw [show 0 + (k : Int).toNat * 1 = k from by omega]; exact cellsB_at r (by omega))
  refine J.q hX fun b12 => ?_
  refine J.valT hX (.bool ((Bt.bits x 8).getD k false)) 0 rfl rfl (fun hg a w he hC => own1_run tk rfl rfl he hg rfl rfl (hC rfl _ (cget_mem (i := 2) rfl)) (by rw [show 0 + (k : Int).toNat * 1 = k from by omega]; have := cellsB_at (l := Bt.bits x 8) [] (k := k) (by rw [Bt.length_bits]; omega); rwa [List.append_nil] at this)) rfl ?_
  refine J.q hX fun b13 => ?_
  refine J.store1 hX tk 1 rfl rfl rfl rfl rfl rfl rfl rfl rfl rfl rfl rfl rfl ?_ (cellsB (l.set k (l.getD k false != (Bt.bits x 8).getD k false)) ++ r) ?_ rfl (fun _ => rfl) ⟨trivial, ?_⟩
  ·rw [show 0 + (k : Int).toNat * 1 = k from by omega, List.length_append, cellsB_len]; omega
  ·rw [show 0 + (k : Int).toNat * 1 = k from by omega]
   exact cellsB_set r _ (by omega)
  refine J.q hX fun b14 => ?_
  refine J.nS ((k + 1, l.set k (l.getD k false != (Bt.bits x 8).getD k false))) (⟨by dsimp only; omega, by rw [List.length_set]; exact hl, fun i hi => by
   have hvk := hv k (by omega)
   rw [if_neg (by omega)] at hvk
   dsimp only
   rw [List.getD_eq_getElem?_getD, List.getElem?_set, hl]
   by_cases e : k = i
   ·subst e
    rw [if_pos rfl, if_pos (by omega), if_pos (by omega), hvk]; rfl
   ·rw [if_neg e, ← List.getD_eq_getElem?_getD, hv i hi]
    by_cases h9 : i < k
    ·rw [if_pos h9, if_pos (by omega)]
    ·rw [if_neg h9, if_neg (by omega)]⟩) (by dsimp only; omega) [0, 1, 2, 3] rfl rfl
 simp only [decide_eq_false_iff_not] at h1
 obtain rfl : l = Bt.bits s0 32 := Bt.ext_bits 32 hl (Bt.length_bits _ _) fun i hi => by
  rw [hv i hi, hsb i hi]
  by_cases h9 : i < 8
  ·rw [if_pos h9, if_pos (by omega)]
  ·rw [if_neg h9, if_neg (by omega)]
 refine J.closeOwn (e := 4) (size := 1) (n := 32) (cap := c1) (xs := cellsB (Bt.bits s0 32)) 1 rfl rfl (by rw [cellsB_len, hl]) q2 q3 (by rw [List.length_append, cellsB_len, hl]; rw [cellsB_len, Bt.length_bits] at q4; exact q4) (List.take_left' (by rw [cellsB_len, hl])) rfl ?_
 refine J.q hX fun b16 => ?_
 refine J.lo (α := (Nat × Option Nat × Nat)) (fun z => z.1 ≤ 8) (fun z => [⟨9, .int .i64 z.1, 0, .tt⟩, ⟨5, slv z.2.1 32 z.2.2, 0, .tt⟩, ⟨7, slv (some g3) 32 c3, 0, .tt⟩]) [1] (fun z => [ownA 4 1 z.2.1 32 z.2.2 (cellsB (Bt.bits (K.rounds z.1 s0) 32))]) (fun z => 8 - z.1) ((0, some g1, c1)) (Nat.zero_le _) rfl ?_ (fun _ => rfl) fun z hI => ?_
 ·rfl
 obtain ⟨j, a, c⟩ := z
 dsimp only at hI ⊢
 refine J.q hX fun b18 => ?_
 refine J.cond rfl (fun h2 => ?_) (fun h2 => ?_)
 ·simp only [decide_eq_true_eq] at h2
  have h2 : j < 8 := by omega
  have hr := K.rounds_lt j s0 hs0
  obtain ⟨u, hu⟩ : ∃ u, K.rounds j s0 = u := ⟨_, rfl⟩
  have hn : K.rounds (j + 1) s0 = K.round u := by rw [← hu]; rfl
  rw [hu] at hr ⊢
  have hrb := K.round_bits u hr
  rw [hP0] at hrb
  obtain ⟨U, hU⟩ : ∃ U, Bt.bits u 32 = U := ⟨_, rfl⟩
  have hUl : U.length = 32 := by rw [← hU, Bt.length_bits]
  rw [hU] at hrb ⊢
  obtain ⟨tb, htb⟩ : ∃ tb, U.getD 0 false = tb := ⟨_, rfl⟩
  rw [htb] at hrb
  refine J.know (fun h' s => own_some (c := (a, c)) (by omega) (s.get (i := 1) rfl)) fun hg => ?_
  obtain ⟨g, rfl⟩ := hg
  refine J.know (p := 32 ≤ c) (fun h' s => by
   obtain ⟨_, cur, h1, h2, _⟩ := s.get (i := 1) rfl
   exact h2) fun hc => ?_
  refine J.turn1 [] rfl (As := [ownA 4 1 none 0 0 []]) (fun h s => Sep.one ⟨rfl, rfl, rfl⟩) rfl ?_
  refine J.q hX fun b19 => ?_
  refine J.val hX (.bool tb) 0 rfl rfl (fun hg a w he hs => own1_run tk rfl rfl he rfl rfl rfl (hs.get (i := 1) rfl) (by have := cellsB_at (l := U) [] (k := 0) (by omega); rw [List.append_nil, htb] at this; exact this)) rfl trivial ?_
  refine J.q hX fun b20 => ?_
  have hRd : Rd (ownA 4 1 (some g) 32 c (cellsB U)) (some ⟨g, 0 + Int.toNat 1 * 1, none⟩) 1 (32 - Int.toNat 1) (cellsB (U.drop 1)) := by
   have := (own_rd 4 1 (some g) 32 c (cellsB U)).drop 1 (by omega)
   rw [cellsB_drop]; exact this
  refine J.appendR hX tk 4 1 0 rfl rfl rfl rfl rfl rfl rfl rfl rfl rfl hRd rfl rfl rfl rfl (cellsB_one _) ?_ ?_ (fun _ => rfl) fun a4 c4 => ⟨_, rfl, trivial, ?_⟩
  ·decide
  ·decide
  rw [show 0 + (32 - Int.toNat 1) = 31 from rfl, List.nil_append]
  refine J.q hX fun b21 => ?_
  refine J.append hX tk 4 5 0 rfl rfl rfl rfl rfl rfl rfl rfl rfl rfl rfl rfl rfl rfl rfl rfl ?_ ?_ (fun _ => rfl) fun a5 c5 => ⟨_, (congrArg (fun z => lset _ 4 (ownA _ _ _ _ _ z)) (cellsB_snoc (U.drop 1) false).symm).trans rfl, trivial, ?_⟩
  ·decide
  ·decide
  rw [show 31 + 1 = 32 from rfl]
  have hVl : (U.drop 1 ++ [false]).length = 32 := by rw [List.length_append, List.length_drop, hUl]; rfl
  have hVg : ∀ i, i < 32 → (U.drop 1 ++ [false]).getD i false = if i = 31 then false else U.getD (i + 1) false := fun i hi => by
   rw [List.getD_eq_getElem?_getD]
   by_cases e : i = 31
   ·subst e
    rw [if_pos rfl, List.getElem?_append_right (by rw [List.length_drop, hUl]; exact Nat.le_refl _), List.length_drop, hUl]; rfl
   ·rw [if_neg e, List.getElem?_append_left (by rw [List.length_drop, hUl]; omega), List.getElem?_drop, Nat.add_comm, ← List.getD_eq_getElem?_getD]
  generalize U.drop 1 ++ [false] = V at hVl hVg
  refine J.know (fun h' s => own_some (c := (a5, c5)) (by omega) (s.get (i := 4) rfl)) fun hg => ?_
  obtain ⟨g5, rfl⟩ := hg
  refine J.q hX fun b22 => ?_
  refine J.openOwn 4 rfl rfl (fun _ => rfl) fun r5 q5 q6 q7 q8 => ?_
  refine J.q hX fun b23 => ?_
  refine J.lo (α := (Nat × List Bool)) (fun z => (z.1 ≤ 32 ∧ (z.1 = 0 ∨ tb = true)) ∧ z.2.length = 32 ∧ ∀ i, i < 32 → z.2.getD i false = if i < z.1 then (V.getD i false != P0.getD i false) else V.getD i false) (fun z => [⟨11, .int .i64 z.1, 0, .tt⟩, ⟨5, slv (some g5) 32 c5, 0, .tt⟩, ⟨7, slv (some g3) 32 c3, 0, .tt⟩, ⟨9, .int .i64 j, 0, .tt⟩, ⟨10, .bool tb, 0, .tt⟩]) [4] (fun z => [.pt g5 4 (cellsB z.2 ++ r5)]) (fun z => 32 - z.1) ((0, V)) (⟨⟨Nat.zero_le _, .inl rfl⟩, hVl, fun i hi => by simp⟩) rfl ?_ (fun _ => rfl) fun z hI => ?_
  ·rfl
  obtain ⟨k, l⟩ := z
  dsimp only at hI ⊢
  obtain ⟨hk, hl, hv⟩ := hI
  refine J.q hX fun b24 => ?_
  refine J.cond rfl (fun h3 => ?_) (fun h3 => ?_)
  ·simp only [Bool.and_eq_true, decide_eq_true_eq] at h3
   have h4 : k < 32 := by omega
   refine J.q hX fun b25 => ?_
   refine J.plan (.of [0,4,8,12,16,21,24,28,32,37,40,44,51]) [11,12] [1,2,3,4] (by rw [hX.hP]; kernel_rfl) (by kernel_rfl) ?_
   refine J.q hX fun b26 => ?_
   refine J.valT hX (.bool (l.getD k false)) 0 rfl rfl (fun hg a w he hC => ?_) rfl ?_
   ·exact load1_run tk rfl rfl he hg rfl rfl (hC rfl _ (cget_mem (i := 4) rfl)) (by rw [show 0 + (k : Int).toNat * 1 = k from by omega]; exact cellsB_at r5 (by omega))
   refine J.q hX fun b27 => ?_
   refine J.valT hX (.bool (P0.getD k false)) 0 rfl rfl (fun hg a w he hC => own1_run tk rfl rfl he hg rfl rfl (hC rfl _ (cget_mem (i := 3) rfl)) (by rw [show 0 + (k : Int).toNat * 1 = k from by omega]; have := cellsB_at (l := P0) [] (k := k) (by omega); rwa [List.append_nil] at this)) rfl ?_
   refine J.q hX fun b28 => ?_
   refine J.store1 hX tk 4 rfl rfl rfl rfl rfl rfl rfl rfl rfl rfl rfl rfl rfl ?_ (cellsB (l.set k (l.getD k false != P0.getD k false)) ++ r5) ?_ rfl (fun _ => rfl) ⟨trivial, ?_⟩
   ·rw [show 0 + (k : Int).toNat * 1 = k from by omega, List.length_append, cellsB_len]; omega
   ·rw [show 0 + (k : Int).toNat * 1 = k from by omega]
    exact cellsB_set r5 _ (by omega)
   refine J.q hX fun b29 => ?_
   refine J.nS ((k + 1, l.set k (l.getD k false != P0.getD k false))) (⟨⟨by dsimp only; omega, .inr h3.2⟩, by rw [List.length_set]; exact hl, fun i hi => by
    have hvk := hv k (by omega)
    rw [if_neg (by omega)] at hvk
    dsimp only
    rw [List.getD_eq_getElem?_getD, List.getElem?_set, hl]
    by_cases e : k = i
    ·subst e
     rw [if_pos rfl, if_pos (by omega), if_pos (by omega), hvk]; rfl
    ·rw [if_neg e, ← List.getD_eq_getElem?_getD, hv i hi]
     by_cases h9 : i < k
     ·rw [if_pos h9, if_pos (by omega)]
     ·rw [if_neg h9, if_neg (by omega)]⟩) (by dsimp only; omega) [0, 1, 2, 3, 4, 5] rfl rfl
  obtain rfl : l = Bt.bits (K.rounds (j + 1) s0) 32 := Bt.ext_bits 32 hl (Bt.length_bits _ _) fun i hi => by
   rw [hv i hi, hn, hrb i hi, hVg i hi]
   cases tb with
   | true =>
    have hk32 : k = 32 := by
     simp only [Bool.and_true, decide_eq_false_iff_not] at h3
     omega
    rw [if_pos (by omega), Bool.true_and]
   | false =>
    have hk0 : k = 0 := by
     rcases hk.2 with h | h
     ·exact h
     ·cases h
    rw [if_neg (by omega), Bool.false_and, Bool.bne_false]
  refine J.closeOwn (e := 4) (size := 1) (n := 32) (cap := c5) (xs := cellsB (Bt.bits (K.rounds (j + 1) s0) 32)) 4 rfl rfl (by rw [cellsB_len, hl]) q6 q7 (by rw [List.length_append, cellsB_len, hl]; rw [cellsB_len, hVl] at q8; exact q8) (List.take_left' (by rw [cellsB_len, hl])) rfl ?_
  refine J.q hX fun b31 => ?_
  refine J.nS ((j + 1, some g5, c5)) (by dsimp only; omega) (by dsimp only; omega) [0, 4, 2, 3] rfl rfl
 simp only [decide_eq_false_iff_not] at h2
 obtain rfl : j = 8 := by omega
 refine J.know (fun h' s => own_some (c := (a, c)) (by omega) (s.get (i := 1) rfl)) fun hg => ?_
 obtain ⟨g, rfl⟩ := hg
 have hr8 := K.rounds_lt 8 s0 hs0
 have hnum := Bt.num_bits (K.rounds 8 s0) 32 hr8
 refine J.q hX fun b33 => ?_
 refine J.ca hX (by kernel_rfl) (f1_Num (ownA 4 1 (some g) 32 c (cellsB (Bt.bits (K.rounds 8 s0) 32))) (some ⟨g, 0, none⟩) 32 c (Bt.bits (K.rounds 8 s0) 32) (own_rd _ _ _ _ _ _) (Bt.length_bits _ _) (by decide)) [1] 0 rfl rfl rfl rfl rfl rfl (fun _ => rfl) ?_
 refine cpq ⟨_, rfl, trivial, ?_⟩
 rw [hnum, ← hst]
 have hlt : K.step s x < 4294967296 := K.step_lt s x hs hx
 refine J.q hX fun b35 => ?_
 exact J.ru hX [] ⟨rfl, rfl⟩
theorem f1_Sum (A : Atom) (a : Option Addr) (n cap : Nat) (l : List UInt8) (hA : Rd A a 1 n (l.map bv)) (hl : l.length = n) (hn : n ≤ 64) : Fn Tryz.prog 198 [.slice a n cap] [A] (fun v As => v = .int .u32 (K.sum l) ∧ As = [A]) := by
 refine Fn.enter [0] Tryz.func198 rfl rfl rfl fun X F hX => ?_
 refine J.q hX fun b36 => ?_
 refine J.lo (α := Nat) (fun k => k ≤ n) (fun k => [⟨4, .int .i64 k, 0, .tt⟩, ⟨3, .int .u32 (K.sum (l.take k)), 0, .tt⟩, ⟨0, .slice a n cap, 0, .tt⟩]) [] (fun k => []) (fun k => n - k) (0) (Nat.zero_le _) rfl ?_ (fun _ => rfl) fun k hI => ?_
 ·rfl
 refine J.q hX fun b38 => ?_
 refine J.cond rfl (fun h1 => ?_) (fun h1 => ?_)
 ·simp only [decide_eq_true_eq, Int.ofNat_lt] at h1
  obtain ⟨x, hx⟩ : ∃ x, l[k]? = some x := ⟨_, List.getElem?_eq_getElem (by omega)⟩
  have hs := K.sum_snoc l k x hx
  have hlt := K.sum_lt (l.take k)
  have hxl : x.toNat < 256 := x.toNat_lt
  refine J.know (p := ∃ g o, a = some ⟨g, o, none⟩) (fun h' s => Rd.addr (hA _ (s.get (i := 1) rfl)) (by omega)) fun hk => ?_
  obtain ⟨gm, om, rfl⟩ := hk
  refine J.q hX fun b39 => ?_
  refine J.val hX (bv x) 0 rfl rfl (fun hg a w he hw => rd1_run tk rfl rfl he rfl rfl rfl (hA _ (hw.get (i := 1) rfl)) (by omega) (j := k) (by omega) (by rw [List.getElem?_map, hx]; rfl)) rfl trivial ?_
  refine J.q hX fun b40 => ?_
  refine J.cb hX (f1_Step (K.sum (l.take k)) x.toNat hlt hxl) [] ?_
  refine cpq ⟨_, rfl, trivial, ?_⟩
  rw [← hs]
  refine J.q hX fun b42 => ?_
  refine J.nS (k + 1) (by omega) (by omega) [0, 1] rfl rfl
 simp only [decide_eq_false_iff_not, Int.ofNat_lt] at h1
 have htk : l.take k = l := List.take_of_length_le (by omega)
 rw [htk]
 refine J.q hX fun b44 => ?_
 exact J.ru hX [1] ⟨rfl, rfl⟩
theorem dI_count (m : Int) : (dI m).length = L.count m := by
 rw [← L.below_eight m, dI, dsk, List.length_map, L.below]
 refine congrArg List.length (List.filter_congr fun d hd => ?_)
 rw [List.mem_range] at hd
 simp [hd]
theorem leavesD : leaves Tryz.prog 100 36 = some lvD := by kernel_rfl
theorem mkD (zs : List Value) : mkV Tryz.prog 36 zs = .agg zs.toArray := by simp [mkV, Tryz.underlying36]
theorem gdD : Tryz.prog.eqGuardType Tryz.prog.depth 36 = false := by kernel_rfl
def f9out (s : Sh) : Bool := ((((((((((s.kind != 1) && (s.kind != 2)) || decide (s.block < 0)) || decide (s.block ≥ 16)) || decide (s.row < 0)) || decide (s.row ≥ 8)) || decide ((L.count s.mask : Int) < 2)) || decide (s.seq < 0)) || decide (s.seq > 1099511627775)) || decide (s.lpn < 0)) || decide (s.lpn > 65535)
theorem may_out (s : Sh) (h : f9out s = true) : S.may s = false := by
 rw [Bool.eq_false_iff]
 intro hm
 simp only [S.may, S.place, S.numbers, S.inB, Bool.and_eq_true, Bool.or_eq_true, decide_eq_true_eq] at hm
 simp only [f9out, Bool.and_eq_true, Bool.or_eq_true, decide_eq_true_eq, bne_iff_ne, ne_eq] at h
 omega
theorem may_par (s : Sh) (h : f9out s = false) (hk : s.kind = 2) : S.may s = (decide (s.role ≥ 0) && decide (s.role ≤ 255)) := by
 simp only [f9out, Bool.and_eq_false_iff, Bool.or_eq_false_iff, decide_eq_false_iff_not, bne_eq_false_iff_eq] at h
 simp only [S.may, S.place, S.numbers, S.inB]
 rw [decide_eq_true (show 0 ≤ s.block by omega), decide_eq_true (show s.block ≤ 15 by omega), decide_eq_true (show 0 ≤ s.row by omega), decide_eq_true (show s.row ≤ 7 by omega), decide_eq_true (show 2 ≤ L.count s.mask by omega), decide_eq_true (show 0 ≤ s.seq by omega), decide_eq_true (show s.seq ≤ 1099511627775 by omega), decide_eq_true (show 0 ≤ s.lpn by omega), decide_eq_true (show s.lpn ≤ 65535 by omega), decide_eq_true hk]
 simp
theorem may_own (s : Sh) (h : f9out s = false) (hk : s.kind ≠ 2) : S.may s = S.entry s := by
 simp only [f9out, Bool.and_eq_false_iff, Bool.or_eq_false_iff, decide_eq_false_iff_not, bne_eq_false_iff_eq] at h
 have h1 : s.kind = 1 := by omega
 have hr : S.entry s = true → 0 ≤ s.role ∧ s.role ≤ 255 := by
  intro he
  unfold S.entry at he
  split at he
  ·omega
  ·split at he
   ·omega
   ·split at he
    ·omega
    ·cases he
 simp only [S.may, S.place, S.numbers, S.inB]
 rw [decide_eq_true (show 0 ≤ s.block by omega), decide_eq_true (show s.block ≤ 15 by omega), decide_eq_true (show 0 ≤ s.row by omega), decide_eq_true (show s.row ≤ 7 by omega), decide_eq_true (show 2 ≤ L.count s.mask by omega), decide_eq_true (show 0 ≤ s.seq by omega), decide_eq_true (show s.seq ≤ 1099511627775 by omega), decide_eq_true (show 0 ≤ s.lpn by omega), decide_eq_true (show s.lpn ≤ 65535 by omega), decide_eq_true h1, decide_eq_false hk]
 cases he : S.entry s
 ·simp
 ·have := hr he
  rw [decide_eq_true this.1, decide_eq_true this.2]; rfl
theorem f9_May (s : Sh) (h : s.data.length = 16) : Fn Tryz.prog 166 [shV s] [] (fun v As => v = .bool (S.may s) ∧ As = []) := by
 refine Fn.enter [0] Tryz.func166 rfl rfl rfl fun X F hX => ?_
 refine J.run hX tk 400 (fun b1 => rfl) (fun b1 => ?_) (fun b1 => ?_)
 ·(repeat' (first | exact Conj.nil | refine Conj.cons ?_ ?_ | exact rfl | exact hq | (rw [hq]; rfl) | (rw [(Bool.not_eq_true' _).mp hq]) | intro hq | omega | (simp; done)))
 refine J.gcase hX rfl rfl rfl trivial (fun hb => ?_) (fun hb => ?_)
 ·have hb2 := (Bool.not_eq_true' _).mp hb
  rw [hb2]
  refine J.q hX fun b2 => ?_
  refine J.cb hX (f1_Dies s.mask) [] ?_
  rintro v As ⟨a, c, rfl, rfl⟩
  refine ⟨_, rfl, trivial, ?_⟩
  rw [dI_count]
  refine J.run hX tk 400 (fun b3 => rfl) (fun b3 => ?_) (fun b3 => ?_)
  ·(repeat' (first | exact Conj.nil | refine Conj.cons ?_ ?_ | exact rfl | exact hq | (rw [hq]; rfl) | (rw [(Bool.not_eq_true' _).mp hq]) | intro hq | omega | (simp; done)))
  refine J.q hX fun b4 => ?_
  refine J.cond rfl (fun h3 => ?_) (fun h3 => ?_)
  ·have ho : f9out s = true := by unfold f9out; rw [hb2]; exact h3
   refine J.q hX fun b5 => ?_
   refine J.ru hX [] ?_
   exact ⟨by rw [may_out s ho], rfl⟩
  have ho : f9out s = false := by unfold f9out; rw [hb2]; exact h3
  refine J.q hX fun b6 => ?_
  refine J.cond rfl (fun h4 => ?_) (fun h4 => ?_)
  ·simp only [beq_iff_eq] at h4
   refine J.q hX fun b7 => ?_
   refine J.ru hX [] ?_
   exact ⟨by rw [may_par s ho h4], rfl⟩
  simp only [beq_eq_false_iff_ne, ne_eq] at h4
  have key : ∀ b, S.entry s = b → S.may s = b := fun b hb => (may_own s ho h4).trans hb
  refine J.q hX fun b8 => ?_
  refine J.val hX (.bool (decide (s.data = zeros16))) 0 rfl rfl (fun hg a w he hs => ?_) rfl trivial ?_
  ·rw [← eqD s.data zeros16 h rfl]
   exact eqAgg_run (xs := dataC s.data) (ys := dataC zeros16) rfl rfl rfl he rfl rfl leavesD (fitsD _) (fitsD _) mkD gdD
  refine J.q hX fun b9 => ?_
  refine J.cond rfl (fun h5 => ?_) (fun h5 => ?_)
  ·simp only [beq_iff_eq] at h5
   refine J.q hX fun b10 => ?_
   refine J.ru hX [] ?_
   exact ⟨by rw [key true (by unfold S.entry; rw [if_pos h5])], rfl⟩
  simp only [beq_eq_false_iff_ne, ne_eq] at h5
  have k2 : s.role = 2 ∨ s.role = 4 → S.may s = decide (s.data = zeros16) := fun hr => key _ (by unfold S.entry; rw [if_neg h5, if_pos hr])
  refine J.q hX fun b11 => ?_
  refine J.cond rfl (fun h6 => ?_) (fun h6 => ?_)
  ·have h6' := h6
   simp only [beq_iff_eq] at h6'
   rw [h6]
   refine J.q hX fun b12 => ?_
   refine J.cT ?_
   refine J.q hX fun b13 => ?_
   refine J.ru hX [] ?_
   exact ⟨by rw [k2 (.inl h6')], rfl⟩
  ·have h6' := h6
   simp only [beq_eq_false_iff_ne, ne_eq] at h6'
   refine J.q hX fun b14 => ?_
   refine J.cond rfl (fun h7 => ?_) (fun h7 => ?_)
   ·have h7' := h7
    simp only [beq_iff_eq] at h7'
    refine J.q hX fun b15 => ?_
    refine J.ru hX [] ?_
    exact ⟨by rw [k2 (.inr h7')], rfl⟩
   have h7' := h7
   simp only [beq_eq_false_iff_ne, ne_eq] at h7'
   refine J.q hX fun b16 => ?_
   refine J.cond rfl (fun h8 => ?_) (fun h8 => ?_)
   ·have h8' := h8
    simp only [beq_iff_eq] at h8'
    refine J.run hX tk 400 (fun b17 => rfl) (fun b17 => ?_) (fun b17 => ?_)
    ·(repeat' (first | exact Conj.nil | refine Conj.cons ?_ ?_ | exact rfl | exact hq | (rw [hq]; rfl) | (rw [(Bool.not_eq_true' _).mp hq]) | intro hq | omega | (simp; done)))
    refine J.q hX fun b18 => ?_
    refine J.ru hX [] ?_
    exact ⟨by rw [key _ (by unfold S.entry; rw [if_neg h5, if_neg (by omega), if_pos h8'])]; rfl, rfl⟩
   ·have h8' := h8
    simp only [beq_eq_false_iff_ne, ne_eq] at h8'
    refine J.q hX fun b19 => ?_
    refine J.ru hX [] ?_
    exact ⟨by rw [key false (by unfold S.entry; rw [if_neg h5, if_neg (by omega), if_neg h8'])], rfl⟩
 ·have hb2 := (Bool.not_eq_false' _).mp hb
  rw [hb2]
  refine J.q hX fun b20 => ?_
  refine J.val hX (.int .i64 0) 0 rfl rfl (fun hg a w he hw => by simp [G.on] at hg) rfl trivial ?_
  refine J.run hX tk 400 (fun b21 => rfl) (fun b21 => ?_) (fun b21 => ?_)
  ·(repeat' (first | exact Conj.nil | refine Conj.cons ?_ ?_ | exact rfl | exact hq | (exact Bool.noConfusion hq) | (rw [hq]; rfl) | (rw [(Bool.not_eq_true' _).mp hq]) | intro hq | omega | (simp; done)))
  refine J.q hX fun b22 => ?_
  refine J.cT ?_
  have ho : f9out s = true := by unfold f9out; rw [hb2]; rfl
  refine J.q hX fun b23 => ?_
  refine J.ru hX [] ?_
  exact ⟨by rw [may_out s ho], rfl⟩
theorem hl_setRow {w : World} {g : Nat} {cur cs : Array Value} {t : TypeId} (h : w.heap[g]? = some (.cells cur t (0, 0))) : hl (w.setRow g cs) = hset (hl w) g (.cells cs t (0, 0)) := by
 funext x
 unfold hset
 by_cases e : x = g
 ·subst e
  rw [if_pos rfl]
  exact setRow_heap w x cur cs t _ h
 ·rw [if_neg e]
  exact setRow_other w g x _ e
section
variable {X : Cx} {P : Program} {T : Tab} {K : List KI} {E : Env} {L : List Atom} {N : Nat} {F : HP} {Post : Value → List Atom → Prop} {rs : List ResultVar}
theorem J.copy (hX : IsCx X P rs N F Post) (hT : TabOK P T) {ops : Array Oper} {C : Cl} {lt : Bool} {i : Nat} {t : PT} {o : Oper} {g : G} {x y : Operand} {dT sT e by_ : Nat} {kx tx ky ty : Nat} {gx gy : G} {b off dl dc b2 oo sl sc tb : Nat} {old xs : List Value} {s1 b1 : Nat} {z1 : List Value} {E' : Value → Env} {Ay : Atom} (is iy : Nat)
  (ho : lget ops.toList i = some o) (hg : gd ops.toList E o = some g) (hgo : g.on = true) (hop : o.op = .call ⟨.builtin .copy, #[x, y], #[dT, sT]⟩)
  (hx : ev E x = some ⟨kx, .slice (some ⟨b, off, none⟩) dl dc, tx, gx⟩) (hvx : gx.on = true) (hy : ev E y = some ⟨ky, .slice (some ⟨b2, oo, none⟩) sl sc, ty, gy⟩) (hvy : gy.on = true)
  (hLx : lget L is = some (.pt b tb old)) (hLy : lget L iy = some Ay) (hrd : Rd Ay (some ⟨b2, oo, none⟩) 1 sl xs) (hst : T.get dT = some ⟨.slice e 1, s1, z1, b1⟩) {td : TD} {z : List Value} (he : T.get e = some ⟨td, 1, z, by_⟩)
  (cs : List Value) (hcs : xs.take (Nat.min sl dl) = cs) (hlt : off + cs.length ≤ old.length) (h1 : ∀ u ∈ xs, u.oneCell' = true) (cs' : List Value) (hcs' : old.take off ++ cs ++ old.drop (off + cs.length) = cs') {L2 : List Atom} (hL2 : lset L is (.pt b tb cs') = some L2)
  (hd : ∀ v, putE N o.dst v 0 .tt E = some (E' v)) (hJ : Conj (staysL lt C L2) ∧ J X (.reg ops C t :: K) (E' (goInt cs.length)) L2) : J X (.reg ops C (.alt lt i t .non) :: K) E L := by
 refine J.op hX (S := fun v' L' => v' = goInt cs.length ∧ L' = L.set is (.pt b tb cs')) 0 ho hg hgo (fun a0 w hen hs => ?_) hd (fun v L' ⟨e1, e2⟩ => by subst e1; subst e2; rw [← lset_eq hL2]; exact hJ)
 rw [lget_eq] at hLx hLy
 have ex := ev_spec hen hx
 have ey := ev_spec hen hy
 simp only [Slot.val, hvx, hvy] at ex ey
 obtain ⟨d, f, zv, ok⟩ := tiOf_spec (hT.get hst)
 obtain ⟨fe, rfl, g1, g2⟩ := ok.slice rfl
 have hblk : Blk w b tb old.toArray := hs.pt hLx
 have hrd2 := hrd _ (hs.get hLy)
 have hxl : xs.length = sl := by rw [hrd2.1, Nat.mul_one]
 have hn : cs.length = Nat.min sl dl := by
  rw [← hcs, List.length_take, hxl]
  exact Nat.min_eq_left (Nat.min_le_left sl dl)
 have hsrc : ∀ j v, cs[j]? = some v → w.cell? ((⟨b2, oo, none⟩ : Addr).add j) = some v := fun j u hu => by
  have hj : j < cs.length := (List.getElem?_eq_some_iff.1 hu).1
  rw [← hcs, List.getElem?_take] at hu
  split at hu
  ·rw [Addr.add_none]
   refine rd_cell hrd2 ?_ hu
   have := (List.getElem?_eq_some_iff.1 hu).1
   omega
  ·cases hu
 have h1' : ∀ v ∈ cs, v.oneCell' = true := fun v hv => h1 v (by rw [← hcs] at hv; exact List.mem_of_mem_take hv)
 have hsz : (P.info? e).map (·.size) = some 1 := by rw [g1]; exact congrArg some g2
 have hrun := run_copy_row (P := P) w dT sT o.type e b off dl dc ⟨b2, oo, none⟩ sl sc old.toArray tb cs ok.hd hsz hblk hn hsrc (by simpa using hlt) h1'
 have harr : (old.toArray.toList.take off ++ cs ++ old.toArray.toList.drop (off + cs.length)).toArray = cs'.toArray := congrArg List.toArray hcs'
 rw [harr] at hrun
 refine ⟨_, _, .value (goInt cs.length), w.setRow b cs'.toArray, ⟨rfl, rfl⟩, ?_, .inl rfl, ?_, Ext.grown (grown_setRow w b _)⟩
 ·simp only [execOp, hop, resolve, Sem.run_bind, Sem.run_pure, Result.andThen_ok, invoke, builtin, List.map_toArray, List.map_cons, List.map_nil, ex, ey, hrun]
 ·rw [hl_setRow hblk]
  exact hs.setPt cs' hLx
end
theorem f9_field (p : List UInt8) (hp : p.length = 32) (fr w : Nat) (h : fr + w ≤ 256) (hw : 1 ≤ w ∧ w ≤ 64) : Fn Tryz.prog 197 [pgV p, .int .i64 fr, .int .i64 w] [] (fun v As => v = .int .u64 (Bt.numAt p fr w) ∧ As = []) := by
 have hnum := Bt.numAt_num p fr w (by omega)
 have hul := Bt.length_unpack p
 refine Fn.enter [0, 0, 0] Tryz.func197 rfl rfl rfl fun X F hX => ?_
 refine J.q hX fun bb => ?_
 refine J.ca hX (by kernel_rfl) (f1_Of (.pt (bb 0) 118 (pageC p)) (some ⟨bb 0, 0, none⟩) 32 32 p (by rw [← pageC_eq p hp]; exact pt_rd _ _ _ 1 32 rfl) hp (by decide)) [1] 0 rfl rfl rfl rfl rfl rfl (fun _ => rfl) ?_
 rintro v As ⟨a, c, rfl, rfl⟩
 refine ⟨_, rfl, trivial, ?_⟩
 refine J.know (fun h' s => own_some (c := (a, c)) (by omega) (s.get (i := 2) rfl)) fun hg => ?_
 obtain ⟨g, rfl⟩ := hg
 refine J.know (p := 32 * 8 ≤ c) (fun h' s => by
  obtain ⟨_, cur, h1, h2, _⟩ := s.get (i := 2) rfl
  exact h2) fun hc => ?_
 have hRd : Rd (ownA 4 1 (some g) (32 * 8) c (cellsB (Bt.unpack p))) (some ⟨g, 0 + fr * 1, none⟩) 1 w (cellsB (((Bt.unpack p).drop fr).take w)) := by
  have := ((own_rd 4 1 (some g) (32 * 8) c (cellsB (Bt.unpack p))).drop fr (by omega)).take w (by omega)
  rw [cellsB_take, cellsB_drop]
  rw [Nat.mul_one] at this ⊢
  rwa [Nat.mul_one] at this
 refine J.q hX fun b2 => ?_
 rw [show ((fr : Int) + (w : Int)).toNat - (fr : Int).toNat = w from by omega, show (fr : Int).toNat = fr from by omega]
 refine J.q hX fun b3 => ?_
 refine J.cb hX (f1_Num (ownA 4 1 (some g) (32 * 8) c (cellsB (Bt.unpack p))) (some ⟨g, 0 + fr * 1, none⟩) w (c - fr) (((Bt.unpack p).drop fr).take w) hRd (by rw [List.length_take, List.length_drop]; omega) (by omega)) [2] ?_
 refine cpq ⟨_, rfl, trivial, ?_⟩
 rw [hnum]
 refine J.q hX fun b4 => ?_
 exact J.ru hX [] ⟨rfl, rfl⟩
theorem f9_Get (p : List UInt8) (hp : p.length = 32) : Fn Tryz.prog 164 [pgV p] [] (fun v As => v = .tuple #[shV (S.getV p), .bool (S.get p).isSome] ∧ As = []) := by
 obtain ⟨r1, r2, r3⟩ := S.field_role p hp
 obtain ⟨r4, r5, r6, r7⟩ := S.field_rest p hp
 have w1 := Bt.numAt_lt p 128 8
 have w2 := Bt.numAt_lt p 136 16
 have w3 := Bt.numAt_lt p 152 40
 have w4 := Bt.numAt_lt p 192 8
 have w5 := Bt.numAt_lt p 200 8
 have w6 := Bt.numAt_lt p 208 8
 have w7 := Bt.numAt_lt p 216 8
 have w8 := Bt.numAt_lt p 224 32
 rw [show (2 : Nat) ^ 8 = 256 from rfl] at w1 w4 w5 w6 w7
 rw [show (2 : Nat) ^ 16 = 65536 from rfl] at w2
 rw [show (2 : Nat) ^ 40 = 1099511627776 from rfl] at w3
 rw [show (2 : Nat) ^ 32 = 4294967296 from rfl] at w8
 refine Fn.enter [0] Tryz.func164 rfl rfl rfl fun X F hX => ?_
 have hpl : (p.take 16).length = 16 := by rw [List.length_take, hp]; rfl
 have hpc : (pageC p).take 16 = dataC (p.take 16) := by rw [pageC_eq p hp, dataC_eq _ hpl, List.map_take]
 have hone : ∀ u ∈ pageC p, u.oneCell' = true := by
  rw [pageC_eq p hp]
  intro u hu
  obtain ⟨b, _, rfl⟩ := List.mem_map.1 hu
  rfl
 have hsum : K.sum (p.take 28) < 4294967296 := K.sum_lt _
 refine J.q hX fun bb => ?_
 refine J.plan (.of [0,4,8,14]) [] [1] (by rw [hX.hP]; kernel_rfl) (by kernel_rfl) ?_
 refine J.q hX fun b6 => ?_
 have hRd : ∀ k, k ≤ 32 → Rd (.pt (bb 0) 118 (pageC p)) (some ⟨bb 0, 0 + 0 * 1, none⟩) 1 k ((pageC p).take k) := fun k hk => by
  have := (pt_rd (bb 0) 118 (pageC p) 1 32 rfl).take k hk
  rwa [Nat.mul_one] at this
 refine J.copy hX tk 3 1 rfl rfl rfl rfl rfl rfl rfl rfl rfl rfl (hRd 16 (by decide)) rfl rfl (dataC (p.take 16)) (by rw [← hpc]; exact List.take_of_length_le (Nat.le_refl _)) (Nat.le_of_ble_eq_true rfl) (fun u hu => hone u (List.mem_of_mem_take hu)) (shL ⟨p.take 16, 0, 0, 0, 0, 0, 0, 0⟩) rfl rfl (fun _ => rfl) ⟨⟨rfl, trivial⟩, ?_⟩
 refine J.q hX fun b7 => ?_
 refine J.plan (.of [1,13,25,6,8,18,20,30,32,36,42,44,50,52,59]) [13,14] [1] (by rw [hX.hP]; kernel_rfl) (by kernel_rfl) ?_
 refine J.q hX fun b8 => ?_
 refine J.cb hX (f9_field p hp 128 8 (by omega) (by omega)) [] ?_
 refine cpq ⟨_, rfl, ⟨rfl, trivial⟩, ?_⟩
 refine J.q hX fun b10 => ?_
 refine J.cb hX (f9_field p hp 136 16 (by omega) (by omega)) [] ?_
 refine cpq ⟨_, rfl, ⟨rfl, trivial⟩, ?_⟩
 refine J.q hX fun b12 => ?_
 refine J.cb hX (f9_field p hp 152 40 (by omega) (by omega)) [] ?_
 refine cpq ⟨_, rfl, ⟨rfl, trivial⟩, ?_⟩
 refine J.q hX fun b14 => ?_
 refine J.plan (.of [1,13,25,37,6,8,18,20,30,32,42,44,48,54,56,62,64,70,72,79]) [18,19] [1] (by rw [hX.hP]; kernel_rfl) (by kernel_rfl) ?_
 refine J.q hX fun b15 => ?_
 refine J.cb hX (f9_field p hp 192 8 (by omega) (by omega)) [] ?_
 refine cpq ⟨_, rfl, ⟨rfl, trivial⟩, ?_⟩
 refine J.q hX fun b17 => ?_
 refine J.cb hX (f9_field p hp 200 8 (by omega) (by omega)) [] ?_
 refine cpq ⟨_, rfl, ⟨rfl, trivial⟩, ?_⟩
 refine J.q hX fun b19 => ?_
 refine J.cb hX (f9_field p hp 208 8 (by omega) (by omega)) [] ?_
 refine cpq ⟨_, rfl, ⟨rfl, trivial⟩, ?_⟩
 refine J.q hX fun b21 => ?_
 refine J.cb hX (f9_field p hp 216 8 (by omega) (by omega)) [] ?_
 refine cpq ⟨_, rfl, ⟨rfl, trivial⟩, ?_⟩
 have hsf : (⟨p.take 16, (Bt.numAt p 128 8 : Nat), (Bt.numAt p 136 16 : Nat), (Bt.numAt p 152 40 : Nat), (Bt.numAt p 216 8 : Nat), (Bt.numAt p 192 8 : Nat), (Bt.numAt p 200 8 : Nat), (Bt.numAt p 208 8 : Nat)⟩ : Sh) = S.fields p := by
  rw [← r1, ← r2, ← r3, ← r4, ← r5, ← r6, ← r7]; rfl
 have hmayc := f9_May ⟨p.take 16, (Bt.numAt p 128 8 : Nat), (Bt.numAt p 136 16 : Nat), (Bt.numAt p 152 40 : Nat), (Bt.numAt p 216 8 : Nat), (Bt.numAt p 192 8 : Nat), (Bt.numAt p 200 8 : Nat), (Bt.numAt p 208 8 : Nat)⟩ hpl
 have hget := S.get_some p hp
 refine J.q hX fun b23 => ?_
 refine J.plan (.of [1,12,6,8,18,20,24,29,34,36,40]) [] [1,3] (by rw [hX.hP]; kernel_rfl) (by kernel_rfl) ?_
 refine J.q hX fun b24 => ?_
 refine J.cb hX (f9_field p hp 224 32 (by omega) (by omega)) [] ?_
 refine cpq ⟨_, rfl, ⟨rfl, rfl, trivial⟩, ?_⟩
 refine J.q hX fun b26 => ?_
 refine J.cb hX (f1_Sum (.pt (bb 0) 118 (pageC p)) (some ⟨bb 0, 0 + 0 * 1, none⟩) 28 32 (p.take 28) (by rw [List.map_take, ← pageC_eq p hp]; exact hRd 28 (by decide)) (by rw [List.length_take, hp]; rfl) (by decide)) [1] ?_
 refine cpq ⟨_, rfl, ⟨rfl, rfl, trivial⟩, ?_⟩
 refine J.q hX fun b28 => ?_
 refine J.gcase hX rfl rfl rfl ⟨rfl, rfl, trivial⟩ (fun hb => ?_) (fun hb => ?_)
 ·have hb2 : (((Bt.numAt p 224 32 : Nat) : Int) != ((K.sum (p.take 28) : Nat) : Int)) = false := by simpa using hb
  rw [hb2]
  refine J.q hX fun b29 => ?_
  refine J.cb hX (hmayc) [] ?_
  refine cpq ⟨_, rfl, ⟨rfl, rfl, trivial⟩, ?_⟩
  rw [hsf]
  have heq : Bt.numAt p 224 32 = K.sum (p.take 28) := by
   simp only [Bool.not_eq_true', bne_eq_false_iff_eq] at hb
   omega
  refine J.q hX fun b30 => ?_
  refine J.cond rfl (fun h1 => ?_) (fun h1 => ?_)
  ·have hg : S.get p = none := by
    rw [hget, if_neg]
    rintro ⟨_, hm⟩
    rw [hm] at h1
    simp at h1
   refine J.q hX fun b31 => ?_
   refine J.ru hX [] ?_
   exact ⟨by unfold S.getV; rw [hg]; rfl, rfl⟩
  ·have hg : S.get p = some (S.fields p) := by
    rw [hget, if_pos]
    refine ⟨heq, ?_⟩
    cases hm : S.may (S.fields p) with
    | true => rfl
    | false => rw [hm] at h1; simp at h1
   refine J.q hX fun b32 => ?_
   refine J.ru hX [] ?_
   exact ⟨by unfold S.getV; rw [hg, Option.getD_some, ← hsf]; rfl, rfl⟩
 ·have hb2 : (((Bt.numAt p 224 32 : Nat) : Int) != ((K.sum (p.take 28) : Nat) : Int)) = true := by simpa using hb
  rw [hb2]
  have hne : Bt.numAt p 224 32 ≠ K.sum (p.take 28) := by
   simp only [Bool.not_eq_false', bne_iff_ne, ne_eq] at hb
   omega
  have hg : S.get p = none := by
   rw [hget, if_neg]
   exact fun h => hne h.1
  refine J.q hX fun b33 => ?_
  refine J.valT hX (.bool false) 0 rfl rfl (fun hg a w he hC => by simp [G.on] at hg) rfl ?_
  refine J.q hX fun b34 => ?_
  refine J.cond rfl (fun h1 => ?_) (fun h1 => ?_)
  ·refine J.q hX fun b35 => ?_
   refine J.ru hX [] ?_
   exact ⟨by unfold S.getV; rw [hg]; rfl, rfl⟩
  ·simp at h1
end Go.Proofs.YtdocmcapegcoeaaGreat
