/- Helpers of the proofs about ostrakonlaw11, proved here: PureB, PureS, PureN, Fl. No condition. -/
import Derived.Test.YtoideahgjgaddaaGreatP01
import Derived.Test.YtoideahgjgaddaaGreatP06
set_option linter.unusedVariables false
set_option linter.unusedSimpArgs false
set_option linter.unusedSectionVars false
set_option linter.unnecessarySimpa false
/- Plain definitions: bits and bytes, sherds as pages. No program in sight. -/
namespace Go.Proofs.YtoideahgjgaddaaGreat
namespace Bt
/-- bits of a number, the highest first -/
def bits (u w : Nat) : List Bool := (List.range w).map fun i => u.testBit (w - 1 - i)
/-- the number of bits -/
def num (l : List Bool) : Nat := l.foldl (fun n b => n * 2 + b.toNat) 0
/-- eight bits, from a place on, as a number -/
def byteAt (l : List Bool) (j : Nat) : Nat :=
  (l.getD j false).toNat * 128 + (l.getD (j + 1) false).toNat * 64 + (l.getD (j + 2) false).toNat * 32 + (l.getD (j + 3) false).toNat * 16 +
  (l.getD (j + 4) false).toNat * 8 + (l.getD (j + 5) false).toNat * 4 + (l.getD (j + 6) false).toNat * 2 + (l.getD (j + 7) false).toNat
def pack (l : List Bool) : List UInt8 := (List.range ((l.length + 7) / 8)).map fun j => UInt8.ofNat (byteAt l (8 * j))
def unpack (b : List UInt8) : List Bool := b.flatMap fun x => bits x.toNat 8

theorem length_bits (u w : Nat) : (bits u w).length = w := by simp [bits]
theorem byteAt_lt (l : List Bool) (j : Nat) : byteAt l j < 256 := by
  unfold byteAt
  have h : ∀ b : Bool, b.toNat ≤ 1 := fun b => Bool.toNat_le b
  have h0 := h (l.getD j false); have h1 := h (l.getD (j + 1) false); have h2 := h (l.getD (j + 2) false); have h3 := h (l.getD (j + 3) false)
  have h4 := h (l.getD (j + 4) false); have h5 := h (l.getD (j + 5) false); have h6 := h (l.getD (j + 6) false); have h7 := h (l.getD (j + 7) false)
  omega
theorem length_pack (l : List Bool) : (pack l).length = (l.length + 7) / 8 := by simp [pack]
theorem pack_get (l : List Bool) (j : Nat) (h : j < (l.length + 7) / 8) : (pack l)[j]? = some (UInt8.ofNat (byteAt l (8 * j))) := by
  simp [pack, h]
theorem byteAt_out (l : List Bool) (j : Nat) (h : l.length ≤ j) : byteAt l j = 0 := by
  have g : ∀ k, l.length ≤ k → l.getD k false = false := fun k hk => by simp [List.getD_eq_getElem?_getD, List.getElem?_eq_none hk]
  unfold byteAt
  rw [g _ h, g _ (by omega), g _ (by omega), g _ (by omega), g _ (by omega), g _ (by omega), g _ (by omega), g _ (by omega)]; rfl
theorem getD_snoc (l : List Bool) (x : Bool) (k : Nat) : (l ++ [x]).getD k false = if k = l.length then x else l.getD k false := by
  simp only [List.getD_eq_getElem?_getD, List.getElem?_append]
  by_cases h : k < l.length
  · rw [if_pos h, if_neg (by omega)]
  · rw [if_neg h]
    by_cases e : k = l.length
    · subst e; simp
    · rw [if_neg e, List.getElem?_eq_none (by simp; omega), List.getElem?_eq_none (by omega)]
theorem byteAt_snoc (l : List Bool) (x : Bool) (j : Nat) : byteAt (l ++ [x]) j = byteAt l j + (if j ≤ l.length ∧ l.length < j + 8 then x.toNat * 2 ^ (7 - (l.length - j)) else 0) := by
  have g : ∀ k, l.length ≤ k → l.getD k false = false := fun k hk => by simp [List.getD_eq_getElem?_getD, List.getElem?_eq_none hk]
  by_cases h : j ≤ l.length ∧ l.length < j + 8
  · rw [if_pos h]
    obtain ⟨i, hi⟩ : ∃ i, l.length = j + i := ⟨l.length - j, by omega⟩
    have hi8 : i < 8 := by omega
    rw [show l.length - j = i from by omega]
    unfold byteAt
    simp only [getD_snoc]
    match i, hi8 with
    | 0, _ => rw [g j (by omega), if_pos (by omega), if_neg (by omega), if_neg (by omega), if_neg (by omega), if_neg (by omega), if_neg (by omega), if_neg (by omega), if_neg (by omega)]; simp; omega
    | 1, _ => rw [g (j + 1) (by omega), if_neg (by omega), if_pos (by omega), if_neg (by omega), if_neg (by omega), if_neg (by omega), if_neg (by omega), if_neg (by omega), if_neg (by omega)]; simp; omega
    | 2, _ => rw [g (j + 2) (by omega), if_neg (by omega), if_neg (by omega), if_pos (by omega), if_neg (by omega), if_neg (by omega), if_neg (by omega), if_neg (by omega), if_neg (by omega)]; simp; omega
    | 3, _ => rw [g (j + 3) (by omega), if_neg (by omega), if_neg (by omega), if_neg (by omega), if_pos (by omega), if_neg (by omega), if_neg (by omega), if_neg (by omega), if_neg (by omega)]; simp; omega
    | 4, _ => rw [g (j + 4) (by omega), if_neg (by omega), if_neg (by omega), if_neg (by omega), if_neg (by omega), if_pos (by omega), if_neg (by omega), if_neg (by omega), if_neg (by omega)]; simp; omega
    | 5, _ => rw [g (j + 5) (by omega), if_neg (by omega), if_neg (by omega), if_neg (by omega), if_neg (by omega), if_neg (by omega), if_pos (by omega), if_neg (by omega), if_neg (by omega)]; simp; omega
    | 6, _ => rw [g (j + 6) (by omega), if_neg (by omega), if_neg (by omega), if_neg (by omega), if_neg (by omega), if_neg (by omega), if_neg (by omega), if_pos (by omega), if_neg (by omega)]; simp; omega
    | 7, _ => rw [g (j + 7) (by omega), if_neg (by omega), if_neg (by omega), if_neg (by omega), if_neg (by omega), if_neg (by omega), if_neg (by omega), if_neg (by omega), if_pos (by omega)]; simp
  · rw [if_neg h]
    unfold byteAt
    simp only [getD_snoc]
    rw [if_neg (by omega), if_neg (by omega), if_neg (by omega), if_neg (by omega), if_neg (by omega), if_neg (by omega), if_neg (by omega), if_neg (by omega)]; simp

/-- behind the bits' last whole byte a new byte of noughts -/
def packZ (l : List Bool) : List UInt8 := if l.length % 8 = 0 then pack l ++ [0] else pack l
theorem length_packZ (l : List Bool) : (packZ l).length = l.length / 8 + 1 := by
  unfold packZ
  split
  · simp [length_pack]; omega
  · rw [length_pack]; omega
theorem packZ_get (l : List Bool) (j : Nat) (h : j < l.length / 8 + 1) : (packZ l)[j]? = some (UInt8.ofNat (byteAt l (8 * j))) := by
  unfold packZ
  split
  · by_cases e : j < (pack l).length
    · rw [List.getElem?_append_left e, pack_get _ _ (by rw [length_pack] at e; exact e)]
    · have : j = (pack l).length := by rw [length_pack] at e ⊢; omega
      subst this
      rw [List.getElem?_append_right (Nat.le_refl _), Nat.sub_self, byteAt_out _ _ (by rw [length_pack]; omega)]; rfl
  · exact pack_get _ _ (by omega)
/-- the byte into which the next bit goes, with it -/
theorem pack_snoc (l : List Bool) (x : Bool) : pack (l ++ [x]) = (packZ l).set (l.length / 8) (UInt8.ofNat (byteAt l (8 * (l.length / 8)) + x.toNat * 2 ^ (7 - l.length % 8))) := by
  apply List.ext_getElem?
  intro j
  have hl : (pack (l ++ [x])).length = l.length / 8 + 1 := by rw [length_pack]; simp; omega
  by_cases h : j < l.length / 8 + 1
  · rw [pack_get _ _ (by simp; omega), List.getElem?_set, length_packZ, byteAt_snoc]
    by_cases e : l.length / 8 = j
    · rw [if_pos e, if_pos (by omega), if_pos (by omega), ← e, show l.length - 8 * (l.length / 8) = l.length % 8 from by omega]
    · rw [if_neg e, if_neg (by omega), packZ_get _ _ h]; simp
  · rw [List.getElem?_eq_none (by omega), List.getElem?_eq_none (by simp [length_packZ]; omega)]
theorem byte_or_dec : ∀ i, i < 8 → ∀ h, h < 2 ^ i → (h * 2 ^ (8 - i)) ||| (2 ^ (7 - i)) = h * 2 ^ (8 - i) + 2 ^ (7 - i) := by decide +kernel
theorem byteAt_last (l : List Bool) : ∃ h, h < 2 ^ (l.length % 8) ∧ byteAt l (8 * (l.length / 8)) = h * 2 ^ (8 - l.length % 8) := by
  have g : ∀ k, l.length ≤ k → l.getD k false = false := fun k hk => by simp [List.getD_eq_getElem?_getD, List.getElem?_eq_none hk]
  have hb : ∀ b : Bool, b.toNat ≤ 1 := fun b => Bool.toNat_le b
  generalize hj : 8 * (l.length / 8) = j
  have h8 : l.length % 8 < 8 := Nat.mod_lt _ (by omega)
  have hn : l.length = j + l.length % 8 := by omega
  have h0 := hb (l.getD j false); have h1 := hb (l.getD (j + 1) false); have h2 := hb (l.getD (j + 2) false); have h3 := hb (l.getD (j + 3) false)
  have h4 := hb (l.getD (j + 4) false); have h5 := hb (l.getD (j + 5) false); have h6 := hb (l.getD (j + 6) false)
  generalize l.length % 8 = i at *
  unfold byteAt
  match i, h8 with
  | 0, _ => rw [g j (by omega), g (j + 1) (by omega), g (j + 2) (by omega), g (j + 3) (by omega), g (j + 4) (by omega), g (j + 5) (by omega), g (j + 6) (by omega), g (j + 7) (by omega)]; exact ⟨0, by decide, rfl⟩
  | 1, _ => rw [g (j + 1) (by omega), g (j + 2) (by omega), g (j + 3) (by omega), g (j + 4) (by omega), g (j + 5) (by omega), g (j + 6) (by omega), g (j + 7) (by omega)]; exact ⟨(l.getD j false).toNat, by omega, by simp⟩
  | 2, _ => rw [g (j + 2) (by omega), g (j + 3) (by omega), g (j + 4) (by omega), g (j + 5) (by omega), g (j + 6) (by omega), g (j + 7) (by omega)]; exact ⟨(l.getD j false).toNat * 2 + (l.getD (j + 1) false).toNat, by omega, by simp; omega⟩
  | 3, _ => rw [g (j + 3) (by omega), g (j + 4) (by omega), g (j + 5) (by omega), g (j + 6) (by omega), g (j + 7) (by omega)]; exact ⟨(l.getD j false).toNat * 4 + (l.getD (j + 1) false).toNat * 2 + (l.getD (j + 2) false).toNat, by omega, by simp; omega⟩
  | 4, _ => rw [g (j + 4) (by omega), g (j + 5) (by omega), g (j + 6) (by omega), g (j + 7) (by omega)]; exact ⟨(l.getD j false).toNat * 8 + (l.getD (j + 1) false).toNat * 4 + (l.getD (j + 2) false).toNat * 2 + (l.getD (j + 3) false).toNat, by omega, by simp; omega⟩
  | 5, _ => rw [g (j + 5) (by omega), g (j + 6) (by omega), g (j + 7) (by omega)]; exact ⟨(l.getD j false).toNat * 16 + (l.getD (j + 1) false).toNat * 8 + (l.getD (j + 2) false).toNat * 4 + (l.getD (j + 3) false).toNat * 2 + (l.getD (j + 4) false).toNat, by omega, by simp; omega⟩
  | 6, _ => rw [g (j + 6) (by omega), g (j + 7) (by omega)]; exact ⟨(l.getD j false).toNat * 32 + (l.getD (j + 1) false).toNat * 16 + (l.getD (j + 2) false).toNat * 8 + (l.getD (j + 3) false).toNat * 4 + (l.getD (j + 4) false).toNat * 2 + (l.getD (j + 5) false).toNat, by omega, by simp; omega⟩
  | 7, _ => rw [g (j + 7) (by omega)]; exact ⟨(l.getD j false).toNat * 64 + (l.getD (j + 1) false).toNat * 32 + (l.getD (j + 2) false).toNat * 16 + (l.getD (j + 3) false).toNat * 8 + (l.getD (j + 4) false).toNat * 4 + (l.getD (j + 5) false).toNat * 2 + (l.getD (j + 6) false).toNat, by omega, by simp; omega⟩
/-- as the program sets it: by 'or' -/
theorem byte_or (l : List Bool) (x : Bool) : byteAt l (8 * (l.length / 8)) ||| x.toNat * 2 ^ (7 - l.length % 8) = byteAt l (8 * (l.length / 8)) + x.toNat * 2 ^ (7 - l.length % 8) := by
  obtain ⟨h, hh, e⟩ := byteAt_last l
  cases x
  · simp
  · rw [e]; simpa using byte_or_dec (l.length % 8) (Nat.mod_lt _ (by omega)) h hh
theorem take_bits_succ (u n k : Nat) (h : k < n) : (bits u n).take (k + 1) = (bits u n).take k ++ [u.testBit (n - 1 - k)] := by
  rw [List.take_succ_eq_append_getElem (by rw [length_bits]; exact h)]
  simp [bits]
/-- the bit at a place of bytes -/
def bitAt (b : List UInt8) (j : Nat) : Bool := (b.getD (j / 8) 0).toNat.testBit (7 - j % 8)
/-- so many bits of bytes, from a place on, as a number -/
def numAt (b : List UInt8) (k : Nat) : Nat → Nat
  | 0 => 0
  | w + 1 => 2 * numAt b k w + (bitAt b (k + w)).toNat
theorem numAt_lt (b : List UInt8) (k w : Nat) : numAt b k w < 2 ^ w := by
  induction w with
  | zero => simp [numAt]
  | succ w ih =>
    have := Bool.toNat_le (bitAt b (k + w))
    rw [numAt, Nat.pow_succ]; omega
end Bt
end Go.Proofs.YtoideahgjgaddaaGreat
/- Plain definitions: sherds and their pages. No program in sight. -/
namespace Go.Proofs.YtoideahgjgaddaaGreat
/-- what a page has -/
structure Sh where
  data : List UInt8
  role : Int
  lpn : Int
  seq : Int
  kind : Int
  block : Int
  row : Int
  mask : Int
  deriving DecidableEq
def zeros16 : List UInt8 := List.replicate 16 0
def Sh.zero : Sh := ⟨zeros16, 0, 0, 0, 0, 0, 0, 0⟩
namespace S
def entry (s : Sh) : Bool :=
  if s.role = 1 then true
  else if s.role = 2 ∨ s.role = 4 then decide (s.data = zeros16)
  else if s.role = 3 then decide (s.data = zeros16) && decide (s.lpn = 0) && decide (s.seq = 0)
  else false
def inB (n a : Int) : Bool := decide (0 ≤ n) && decide (n ≤ a)
def place (s : Sh) : Bool := inB s.block 15 && inB s.row 7 && decide (2 ≤ L.count s.mask)
def numbers (s : Sh) : Bool := inB s.seq 1099511627775 && inB s.lpn 65535 && inB s.role 255
def may (s : Sh) : Bool := place s && numbers s && (decide (s.kind = 2) || (decide (s.kind = 1) && entry s))
def meta_ (role lpn seq : Int) : Nat := (role % 256).toNat * 72057594037927936 + ((lpn % 65536).toNat * 1099511627776 + (seq % 1099511627776).toNat)
def head (s : Sh) : List Bool := Bt.bits (meta_ s.role s.lpn s.seq) 64 ++ Bt.bits s.block.toNat 8 ++ Bt.bits s.row.toNat 8 ++ Bt.bits s.mask.toNat 8 ++ Bt.bits s.kind.toNat 8
/-- the page of a sherd -/
def put (s : Sh) : List UInt8 := s.data ++ Bt.pack (head s ++ Bt.bits (K.sum (s.data ++ Bt.pack (head s))) 32)
/-- the fields of a page -/
def fields (p : List UInt8) : Sh :=
  let b := p.drop 16
  let m := Bt.numAt b 0 64
  ⟨p.take 16, (m / 72057594037927936 : Nat), (m / 1099511627776 % 65536 : Nat), (m % 1099511627776 : Nat), Bt.numAt b 88 8, Bt.numAt b 64 8, Bt.numAt b 72 8, Bt.numAt b 80 8⟩
/-- the sherd of a page -/
def get (p : List UInt8) : Option Sh := if may (fields p) ∧ put (fields p) = p then some (fields p) else none
/-- what a look reads, and its error -/
def getV (p : List UInt8) : Sh := (get p).getD Sh.zero
def getE (p : List UInt8) : Int := if (get p).isSome then 0 else 1
theorem may_bounds (s : Sh) (h : may s = true) : (0 ≤ s.block ∧ s.block ≤ 15) ∧ (0 ≤ s.row ∧ s.row ≤ 7) ∧ (0 ≤ s.mask ∧ s.mask ≤ 255) ∧ (1 ≤ s.kind ∧ s.kind ≤ 2) := by
  simp only [may, place, inB, Bool.and_eq_true, decide_eq_true_eq, Bool.or_eq_true] at h
  have hm : 0 ≤ s.mask ∧ s.mask ≤ 255 := by
    by_cases hh : 0 ≤ s.mask ∧ s.mask < 256
    · omega
    · have := L.count_no s.mask hh; omega
  omega
theorem length_head (s : Sh) : (head s).length = 96 := by simp [head, Bt.length_bits]
theorem length_put (s : Sh) (h : s.data.length = 16) : (put s).length = 32 := by simp [put, Bt.length_pack, length_head, Bt.length_bits, h]
theorem meta_lt (role lpn seq : Int) : meta_ role lpn seq < 18446744073709551616 := by unfold meta_; omega
end S
end Go.Proofs.YtoideahgjgaddaaGreat
/- Plain definitions: a flash. No program in sight. -/
namespace Go.Proofs.YtoideahgjgaddaaGreat
abbrev A3' := Int × Int × Int
/-- a page that was programmed -/
structure NCell where
  p : List UInt8
  lost : Bool
  turned : Bool
structure NBlock where
  cells : List NCell
  worn : Int
  fails : Bool
  met : Bool
/-- a flash -/
structure Nand where
  dies : Nat
  blocks : Nat
  pages : Nat
  blk : Nat → Nat → NBlock
  plan : List A3'
  dead : List Bool
  off : Bool
  ops : Int
  broken : Int
  cuts : Bool
  left : Int
  keep : Int
def geoMay (d b p : Int) : Bool := decide (3 ≤ d ∧ d ≤ 6) && decide (8 ≤ b ∧ b ≤ 16) && decide (2 ≤ p ∧ p ≤ 8)
def geoIn (d b p x y z : Int) : Bool := decide (0 ≤ x ∧ x < d) && decide (0 ≤ y ∧ y < b) && decide (0 ≤ z ∧ z < p)
def zeros32 : List UInt8 := List.replicate 32 0
/-- a flash's own bounds -/
structure Nand.Ok (N : Nand) : Prop where
  geo : geoMay N.dies N.blocks N.pages = true
  dead : N.dead.length = N.dies
  cells : ∀ i j, i < N.dies → j < N.blocks → (N.blk i j).cells.length ≤ N.pages ∧ ∀ c ∈ (N.blk i j).cells, c.p.length = 32
  num : 0 ≤ N.ops ∧ 0 ≤ N.broken ∧ (∀ i j, 0 ≤ (N.blk i j).worn ∧ (N.blk i j).worn ≤ N.ops)
  lft : N.cuts = true → 0 ≤ N.left ∧ N.left ≤ 9223372036854775807
  lf2 : -9223372036854775807 ≤ N.left ∧ N.left ≤ 9223372036854775807
  kp : 0 ≤ N.keep ∧ N.keep ≤ 32
/-- room for more -/
structure Nand.Room (N : Nand) : Prop where
  ops : N.ops < 4611686018427387904
  broken : N.broken < 4611686018427387904
namespace Nand
def setBlk (N : Nand) (i j : Nat) (B : NBlock) : Nand := { N with blk := fun a b => if a = i ∧ b = j then B else N.blk a b }
def refuses (N : Nand) (x y z : Int) : Int :=
  if N.off then 9 else if geoIn N.dies N.blocks N.pages x y z = false then 3 else if N.dead.getD x.toNat false then 8 else 0
def cutB (N : Nand) : Bool := N.cuts && decide (N.left ≤ 0)
def cutN (N : Nand) : Nand := { N with ops := N.ops + 1, left := if N.cuts then N.left - 1 else N.left, off := if N.cutB then true else N.off, cuts := if N.cutB then false else N.cuts }
def pageAt (N : Nand) (x y z : Int) : Option NCell := (N.blk x.toNat y.toNat).cells[z.toNat]?
def readV (N : Nand) (x y z : Int) : List UInt8 := if N.refuses x y z ≠ 0 then zeros32 else match N.pageAt x y z with
  | none => zeros32
  | some c => if c.lost then zeros32 else c.p
def readE (N : Nand) (x y z : Int) : Int := if N.refuses x y z ≠ 0 then N.refuses x y z else match N.pageAt x y z with
  | none => 5
  | some c => if c.lost then 6 else 0
def onN (N : Nand) : Nand := { N with off := false, cuts := false }
def setCut (N : Nand) (x k : Int) : Nand := if N.off then N else { N with cuts := decide (0 ≤ x), left := x, keep := min (max k 0) 32, off := decide (x < 0) }
def next (N : Nand) (x y : Int) : Nat := if 0 ≤ x ∧ x < N.dies ∧ 0 ≤ y ∧ y < N.blocks then (N.blk x.toNat y.toNat).cells.length else 0
def wornAt (N : Nand) (x y : Int) : Int := if 0 ≤ x ∧ x < N.dies ∧ 0 ≤ y ∧ y < N.blocks then (N.blk x.toNat y.toNat).worn else 0
def deadAt (N : Nand) (x : Int) : Bool := decide (0 ≤ x) && decide (x < N.dies) && N.dead.getD x.toNat false
def push (N : Nand) (i j : Nat) (c : NCell) : Nand := N.setBlk i j { N.blk i j with cells := (N.blk i j).cells ++ [c] }
def fillP (k : Nat) (p : List UInt8) : List UInt8 := p.take k ++ List.replicate (32 - k) 255
def fails (N : Nand) (x y z : Int) : Bool := decide ((x, y, z) ∈ N.plan) || (N.blk x.toNat y.toNat).met
def progN (N : Nand) (x y z : Int) (pg : List UInt8) : Nand :=
  if N.refuses x y z ≠ 0 then N else
  if z ≠ (N.blk x.toNat y.toNat).cells.length then { N with broken := N.broken + 1 } else
  if N.cutB then N.cutN.push x.toNat y.toNat ⟨fillP N.keep.toNat pg, false, true⟩ else
  push { N.cutN with plan := N.plan.erase (x, y, z) } x.toNat y.toNat ⟨pg, N.fails x y z, false⟩
def progE (N : Nand) (x y z : Int) : Int :=
  if N.refuses x y z ≠ 0 then N.refuses x y z else
  if z ≠ (N.blk x.toNat y.toNat).cells.length then 4 else
  if N.cutB then 9 else if N.fails x y z then 7 else 0
def zcell : NCell := ⟨zeros32, false, false⟩
def eraseN (N : Nand) (x y : Int) : Nand :=
  let B := N.blk x.toNat y.toNat
  if N.refuses x y 0 ≠ 0 then N else
  if N.cutB then N.cutN.setBlk x.toNat y.toNat { B with cells := (B.cells ++ List.replicate (N.pages - B.cells.length) zcell).map fun c => { c with lost := true } } else
  if B.fails then N.cutN.setBlk x.toNat y.toNat { B with met := true } else
  { N.cutN.setBlk x.toNat y.toNat { B with cells := [], worn := B.worn + 1 } with plan := N.plan.filter fun a => !(decide (a.1 = x) && decide (a.2.1 = y)) }
def eraseE (N : Nand) (x y : Int) : Int :=
  if N.refuses x y 0 ≠ 0 then N.refuses x y 0 else if N.cutB then 9 else if (N.blk x.toNat y.toNat).fails then 7 else 0
def xorAt (p : List UInt8) (n : Nat) (x : UInt8) : List UInt8 := p.set n ((p.getD n 0) ^^^ x)
def setCell (N : Nand) (x y z : Int) (f : NCell → NCell) : Nand :=
  N.setBlk x.toNat y.toNat { N.blk x.toNat y.toNat with cells := (N.blk x.toNat y.toNat).cells.modify z.toNat f }
def addP (l : List A3') (a : A3') : List A3' := if a ∈ l then l else l ++ [a]
/-- a fault: whether it is let be, and the flash behind it -/
def fault (N : Nand) (kind x y z n xx : Int) : Bool × Nand :=
  if geoIn N.dies N.blocks N.pages x y z = false then (false, N) else
  if kind = 1 then (true, { N with plan := addP N.plan (x, y, z) }) else
  if kind = 2 then (true, N.setBlk x.toNat y.toNat { N.blk x.toNat y.toNat with fails := true }) else
  if kind = 3 then (true, N.setCell x y z fun c => { c with lost := true }) else
  if kind = 4 then (true, { N with dead := N.dead.set x.toNat true }) else
  if kind = 5 then
    if n < 0 ∨ 32 ≤ n then (false, N) else
    match N.pageAt x y z with
    | none => (true, N)
    | some c => if c.turned then (false, N) else if c.lost then (true, N) else
      (true, N.setCell x y z fun c => { c with p := xorAt c.p n.toNat (UInt8.ofNat (xx % 256).toNat), turned := true })
  else (false, N)
def new (d b p : Nat) : Nand := ⟨d, b, p, fun _ _ => ⟨[], 0, false, false⟩, [], List.replicate d false, false, 0, 0, false, 0, 0⟩
theorem refuses_zero {N : Nand} {x y z : Int} (h : N.refuses x y z = 0) : N.off = false ∧ N.dead.getD x.toNat false = false ∧ 0 ≤ x ∧ x < N.dies ∧ 0 ≤ y ∧ y < N.blocks ∧ 0 ≤ z ∧ z < N.pages := by
  unfold refuses at h
  split at h
  · omega
  · rename_i h1
    split at h
    · omega
    · rename_i h2
      split at h
      · omega
      · rename_i h3
        simp [geoIn] at h2
        exact ⟨by simpa using h1, by simpa using h3, by omega⟩
end Nand
end Go.Proofs.YtoideahgjgaddaaGreat
/- Walks: a flash, where it lies. -/
namespace Go.Proofs.YtoideahgjgaddaaGreat
open Go Go.RowKit
/-- a byte of some, as a value; 16, 32 of them -/
def byC (l : List UInt8) (k : Nat) : Value := bv (l.getD k 0)
def dataC (l : List UInt8) : List Value := [byC l 0, byC l 1, byC l 2, byC l 3, byC l 4, byC l 5, byC l 6, byC l 7, byC l 8, byC l 9, byC l 10, byC l 11, byC l 12, byC l 13, byC l 14, byC l 15]
def pageC (l : List UInt8) : List Value := [byC l 0, byC l 1, byC l 2, byC l 3, byC l 4, byC l 5, byC l 6, byC l 7, byC l 8, byC l 9, byC l 10, byC l 11, byC l 12, byC l 13, byC l 14, byC l 15, byC l 16, byC l 17, byC l 18, byC l 19, byC l 20, byC l 21, byC l 22, byC l 23, byC l 24, byC l 25, byC l 26, byC l 27, byC l 28, byC l 29, byC l 30, byC l 31]
def NCell.vals (c : NCell) : List Value := [byC c.p 0, byC c.p 1, byC c.p 2, byC c.p 3, byC c.p 4, byC c.p 5, byC c.p 6, byC c.p 7, byC c.p 8, byC c.p 9, byC c.p 10, byC c.p 11, byC c.p 12, byC c.p 13, byC c.p 14, byC c.p 15, byC c.p 16, byC c.p 17, byC c.p 18, byC c.p 19, byC c.p 20, byC c.p 21, byC c.p 22, byC c.p 23, byC c.p 24, byC c.p 25, byC c.p 26, byC c.p 27, byC c.p 28, byC c.p 29, byC c.p 30, byC c.p 31, .bool c.lost, .bool c.turned]
def cellsV (l : List NCell) : List Value := l.flatMap NCell.vals
/-- where a flash lies -/
structure NLoc where
  r : Nat
  q : Nat
  d : Nat
  bp : Nat → Nat
def Nand.mainV (N : Nand) (Y : NLoc) : List Value :=
  [.int .i64 N.dies, .int .i64 N.blocks, .int .i64 N.pages, .map (some Y.r), .pointer (some ⟨Y.q, 0, none⟩), .slice (some ⟨Y.d, 0, none⟩) N.dies N.dies, .bool N.off, .int .i64 N.ops, .int .i64 N.broken, .bool N.cuts, .int .i64 N.left, .int .i64 N.keep]
/-- a block, at b -/
def blkA (b : Nat) (B : NBlock) : Atom := exA fun a : Option Nat × Nat =>
  [.pt b 134 [slv a.1 B.cells.length a.2, .int .i64 B.worn, .bool B.fails, .bool B.met], ownA 148 34 a.1 B.cells.length a.2 (cellsV B.cells)]
def bmap (nb n : Nat) (bp : Nat → Nat) : List (A3 × Value) := (List.range n).map fun k => ((((k / nb : Nat) : Int), ((k % nb : Nat) : Int), 0), .pointer (some ⟨bp k, 0, none⟩))
def blksL (nb n : Nat) (bp : Nat → Nat) (f : Nat → Nat → NBlock) : List Atom := (List.range n).map fun k => blkA (bp k) (f (k / nb) (k % nb))
def nandL (p : Nat) (N : Nand) (Y : NLoc) : List Atom :=
  [.pt p 124 (N.mainV Y), mapA Y.r a3v (bmap N.blocks (N.dies * N.blocks) Y.bp), SpotA Y.q N.plan, .pt Y.d 4 (N.dead.map Value.bool), .hp (HP.of (blksL N.blocks (N.dies * N.blocks) Y.bp N.blk))]
/-- a flash, at p -/
def NandA (p : Nat) (N : Nand) : Atom := exA (nandL p N)
theorem alook_bmap (nb : Nat) (bp : Nat → Nat) (i j : Nat) (hj : j < nb) : ∀ n, alook (bmap nb n bp) ((i : Int), (j : Int), 0) = if i * nb + j < n then some (.pointer (some ⟨bp (i * nb + j), 0, none⟩)) else none := by
  have hnb : 0 < nb := by omega
  have key : ∀ (m k : Nat), alook ((List.range' m k).map fun k => ((((k / nb : Nat) : Int), ((k % nb : Nat) : Int), (0 : Int)), Value.pointer (some ⟨bp k, 0, none⟩))) ((i : Int), (j : Int), 0) = if m ≤ i * nb + j ∧ i * nb + j < m + k then some (.pointer (some ⟨bp (i * nb + j), 0, none⟩)) else none := by
    intro m k
    induction k generalizing m with
    | zero => simp [alook]
    | succ k ih =>
      rw [List.range'_succ, List.map_cons, alook]
      by_cases e : m = i * nb + j
      · subst e
        rw [if_pos, if_pos (by omega)]
        have h1 : (i * nb + j) / nb = i := by rw [Nat.add_comm, Nat.mul_comm, Nat.add_mul_div_left _ _ hnb, Nat.div_eq_of_lt hj, Nat.zero_add]
        have h2 : (i * nb + j) % nb = j := by rw [Nat.add_comm, Nat.add_mul_mod_self_right]; exact Nat.mod_eq_of_lt hj
        rw [h1, h2]
      · rw [if_neg, ih]
        · by_cases h : m + 1 ≤ i * nb + j ∧ i * nb + j < m + 1 + k
          · rw [if_pos h, if_pos (by omega)]
          · rw [if_neg h, if_neg (by omega)]
        · intro h
          simp only [Prod.mk.injEq, Int.natCast_inj, and_true] at h
          apply e
          rw [h.1, h.2, Nat.mul_comm]
          exact (Nat.div_add_mod m nb).symm
  intro n
  have := key 0 n
  simpa [bmap, List.range_eq_range'] using this
theorem alook_bmap_out (nb : Nat) (hnb : 0 < nb) (bp : Nat → Nat) (a : A3) (n : Nat) (h : ∀ i j : Nat, i * nb + j < n → j < nb → a ≠ ((i : Int), (j : Int), 0)) : alook (bmap nb n bp) a = none := by
  have key : ∀ (l : List Nat), (∀ k ∈ l, k < n) → alook (l.map fun k => ((((k / nb : Nat) : Int), ((k % nb : Nat) : Int), (0 : Int)), Value.pointer (some ⟨bp k, 0, none⟩))) a = none := by
    intro l
    induction l with
    | nil => intro _; rfl
    | cons k l ih =>
      intro hl
      rw [List.map_cons, alook, if_neg, ih (fun k' hk' => hl k' (List.mem_cons_of_mem _ hk'))]
      refine h (k / nb) (k % nb) ?_ (Nat.mod_lt _ hnb)
      have := Nat.div_add_mod k nb
      rw [Nat.mul_comm] at this
      rw [this]
      exact hl k (List.mem_cons_self ..)
  exact key _ (fun k hk => by simpa using hk)
theorem Sep.openAt {BL : List Atom} {h : Hl} {k : Nat} {A : Atom} (s : Sep [.hp (HP.of BL)] h) (hk : BL[k]? = some A) : Sep [.hp (HP.of (BL.set k .emp)), A] h := by
  obtain ⟨own, hw⟩ := Sep.hpOf.1 s
  refine ⟨fun b => if own b = k then 1 else 0, fun j B hB => ?_⟩
  match j with
  | 0 =>
    simp at hB; subst hB
    refine ⟨own, fun i C hC => ?_⟩
    rw [List.getElem?_set] at hC
    split at hC
    · split at hC
      · simp at hC; subst hC; trivial
      · cases hC
    · rename_i hne
      refine Atom.up (fun b o hb => ?_) (hw i C hC)
      rw [res_some] at hb ⊢
      exact ⟨hb.1, res_some.2 ⟨by rw [if_neg (by rw [hb.1]; exact fun e => hne e.symm)], hb.2⟩⟩
  | 1 =>
    simp at hB; subst hB
    refine Atom.up (fun b o hb => ?_) (hw k _ hk)
    rw [res_some] at hb ⊢
    exact ⟨by rw [if_pos hb.1], hb.2⟩
  | j + 2 => simp at hB
theorem Sep.closeAt {BL : List Atom} {h : Hl} {k : Nat} {A : Atom} (s : Sep [.hp (HP.of (BL.set k .emp)), A] h) : Sep [.hp (HP.of (BL.set k A))] h := by
  obtain ⟨own, hw⟩ := s
  obtain ⟨own2, hw2⟩ := hw 0 _ rfl
  refine Sep.hpOf.2 ⟨fun b => if own b = 0 then own2 b else k, fun j B hB => ?_⟩
  rw [List.getElem?_set] at hB
  split at hB
  · rename_i e
    split at hB
    · injection hB with hB; subst hB; subst e
      refine Atom.up (fun b o hb => ?_) (hw 1 _ rfl)
      rw [res_some] at hb ⊢
      exact ⟨by rw [if_neg (by omega)], hb.2⟩
    · cases hB
  · rename_i hne
    refine Atom.up (fun b o hb => ?_) (hw2 j B (by rw [List.getElem?_set, if_neg hne]; exact hB))
    rw [res_some] at hb ⊢
    have := res_some.1 hb.2
    exact ⟨by rw [if_pos this.1]; exact hb.1, this.2⟩
section
variable {X : Cx} {K : List KI} {E : Env} {L : List Atom}
theorem J.openAt {BL L' : List Atom} (i k : Nat) {A : Atom} (ok : okIdx L [i] = true) (hp : picks L [i] = [.hp (HP.of BL)]) (hk : BL[k]? = some A) (hL : lupd L [i] [.hp (HP.of (BL.set k .emp)), A] = some L') (h : J X K E L') : J X K E L :=
  J.turn1 [i] ok (fun h' s => by rw [hp] at s; exact s.openAt hk) hL h
theorem J.closeAt {BL L' : List Atom} (i j k : Nat) {A : Atom} (ok : okIdx L [i, j] = true) (hp : picks L [i, j] = [.hp (HP.of (BL.set k .emp)), A]) (hL : lupd L [i, j] [.hp (HP.of (BL.set k A))] = some L') (h : J X K E L') : J X K E L :=
  J.turn1 [i, j] ok (fun h' s => by rw [hp] at s; exact s.closeAt) hL h
end
theorem blksL_get (nb n : Nat) (bp : Nat → Nat) (f : Nat → Nat → NBlock) (k : Nat) (h : k < n) : (blksL nb n bp f)[k]? = some (blkA (bp k) (f (k / nb) (k % nb))) := by simp [blksL, h]
theorem div_ij {i j nb : Nat} (hj : j < nb) : (i * nb + j) / nb = i ∧ (i * nb + j) % nb = j := by
  have hnb : 0 < nb := by omega
  exact ⟨by rw [Nat.add_comm, Nat.mul_comm, Nat.add_mul_div_left _ _ hnb, Nat.div_eq_of_lt hj, Nat.zero_add], by rw [Nat.add_comm, Nat.add_mul_mod_self_right]; exact Nat.mod_eq_of_lt hj⟩
theorem lt_ij {i j d nb : Nat} (hi : i < d) (hj : j < nb) : i * nb + j < d * nb := by
  have : (i + 1) * nb ≤ d * nb := Nat.mul_le_mul_right nb hi
  rw [Nat.succ_mul] at this
  omega
/-- one block is another -/
theorem blksL_set (nb n : Nat) (bp : Nat → Nat) (f : Nat → Nat → NBlock) (i j : Nat) (B : NBlock) (hj : j < nb) : (blksL nb n bp f).set (i * nb + j) (blkA (bp (i * nb + j)) B) = blksL nb n bp (fun a b => if a = i ∧ b = j then B else f a b) := by
  apply List.ext_getElem?
  intro k
  rw [List.getElem?_set]
  have hlen : (blksL nb n bp f).length = n := by simp [blksL]
  have hg : ∀ g k, (blksL nb n bp g)[k]? = if k < n then some (blkA (bp k) (g (k / nb) (k % nb))) else none := fun g k => by
    by_cases hk : k < n
    · rw [blksL_get _ _ _ _ _ hk, if_pos hk]
    · rw [if_neg hk, List.getElem?_eq_none (by simp [blksL]; omega)]
  rw [hlen, hg, hg]
  by_cases e : i * nb + j = k
  · subst e
    rw [if_pos rfl]
    by_cases hk : i * nb + j < n
    · rw [if_pos hk, if_pos hk, (div_ij hj).1, (div_ij hj).2, if_pos ⟨rfl, rfl⟩]
    · rw [if_neg hk, if_neg hk]
  · rw [if_neg e]
    by_cases hk : k < n
    · rw [if_pos hk, if_pos hk, if_neg]
      rintro ⟨rfl, rfl⟩
      apply e
      have := Nat.div_add_mod k nb
      rw [Nat.mul_comm] at this
      exact this
    · rw [if_neg hk, if_neg hk]
theorem dataC_eq (l : List UInt8) (h : l.length = 16) : dataC l = l.map bv := by
  match l, h with
  | [a0, a1, a2, a3, a4, a5, a6, a7, a8, a9, a10, a11, a12, a13, a14, a15], _ => rfl
theorem pageC_eq (l : List UInt8) (h : l.length = 32) : pageC l = l.map bv := by
  match l, h with
  | [a0, a1, a2, a3, a4, a5, a6, a7, a8, a9, a10, a11, a12, a13, a14, a15, a16, a17, a18, a19, a20, a21, a22, a23, a24, a25, a26, a27, a28, a29, a30, a31], _ => rfl
theorem cellsV_len : ∀ (l : List NCell), (cellsV l).length = l.length * 34
  | [] => rfl
  | c :: l => by
    have := cellsV_len l
    simp only [cellsV, List.flatMap_cons, List.length_append, List.length_cons] at this ⊢
    rw [this, show c.vals.length = 34 from rfl]
    omega
/-- a page's cells among a block's -/
theorem cellsV_at : ∀ (l : List NCell) (r : List Value) (z : Nat) (c : NCell), l[z]? = some c → ((cellsV l ++ r).drop (z * 34)).take 34 = c.vals
  | [], r, z, c, h => by simp at h
  | x :: l, r, 0, c, h => by
    simp at h; subst h
    simp only [cellsV, List.flatMap_cons, List.append_assoc, Nat.zero_mul, List.drop_zero]
    have := List.take_left (l₁ := x.vals) (l₂ := List.flatMap NCell.vals l ++ r)
    exact this
  | x :: l, r, z + 1, c, h => by
    have := cellsV_at l r z c (by simpa using h)
    simp only [cellsV, List.flatMap_cons, List.append_assoc, Nat.succ_mul] at this ⊢
    rw [show z * 34 + 34 = x.vals.length + z * 34 from by show _ = 34 + _; omega, ← List.drop_drop, List.drop_left]
    exact this
theorem cellsV_page {l : List NCell} {z : Nat} {c : NCell} (h : l[z]? = some c) : ((cellsV l).drop (z * 34)).take 32 = pageC c.p := by
  have h1 := cellsV_at l [] z c h
  rw [List.append_nil] at h1
  have := congrArg (List.take 32) h1
  rw [List.take_take] at this
  exact this
theorem cellsV_cell {l : List NCell} {z k : Nat} {c : NCell} (h : l[z]? = some c) (hk : k < 34) : (cellsV l)[z * 34 + k]? = c.vals[k]? := by
  have h1 := cellsV_at l [] z c h
  rw [List.append_nil] at h1
  rw [← h1, List.getElem?_take, if_pos hk, List.getElem?_drop]
/-- a flash, one of whose blocks lies open, is shut -/
theorem J.closeN {X : Cx} {K : List KI} {E : Env} {L L' : List Atom} (p : Nat) (N N' : Nand) (Y : NLoc) (i j : Nat) (hj : j < N.blocks) (B : NBlock) (c : Option Nat × Nat) (is : List Nat) (ok : okIdx L is = true)
    (hp : picks L is = [.pt p 124 (N'.mainV Y), mapA Y.r a3v (bmap N.blocks (N.dies * N.blocks) Y.bp), SpotA Y.q N'.plan, .pt Y.d 4 (N'.dead.map Value.bool), .hp (HP.of ((blksL N.blocks (N.dies * N.blocks) Y.bp N.blk).set (i * N.blocks + j) .emp)),
      .pt (Y.bp (i * N.blocks + j)) 134 [slv c.1 B.cells.length c.2, .int .i64 B.worn, .bool B.fails, .bool B.met], ownA 148 34 c.1 B.cells.length c.2 (cellsV B.cells)])
    (h1 : N'.dies = N.dies) (h2 : N'.blocks = N.blocks) (hB : N'.blk = fun a b => if a = i ∧ b = j then B else N.blk a b) (hL : lupd L is [NandA p N'] = some L') (h : J X K E L') : J X K E L := by
  refine J.turn1 is ok (fun h' s => ?_) hL h
  rw [hp] at s
  have s1 := s.turn1 [5, 6] rfl (As := [blkA (Y.bp (i * N.blocks + j)) B]) (fun h2 s2 => ⟨fun _ => 0, fun k A hA => by
    cases k with
    | zero => simp at hA; subst hA; exact ⟨c, s2.up fun b o hb => res_some.2 ⟨rfl, hb⟩⟩
    | succ k => simp at hA⟩)
  have s2 := s1.turn1 [4, 5] rfl (As := [.hp (HP.of ((blksL N.blocks (N.dies * N.blocks) Y.bp N.blk).set (i * N.blocks + j) (blkA (Y.bp (i * N.blocks + j)) B)))]) (fun h2 s2 => Sep.closeAt s2)
  rw [blksL_set _ _ _ _ _ _ _ hj, ← hB] at s2
  have s3 := s2.sub [0, 1, 2, 3, 4] rfl
  refine ⟨fun _ => 0, fun k A hA => ?_⟩
  cases k with
  | zero =>
    simp at hA; subst hA
    refine ⟨Y, ?_⟩
    have : nandL p N' Y = [.pt p 124 (N'.mainV Y), mapA Y.r a3v (bmap N.blocks (N.dies * N.blocks) Y.bp), SpotA Y.q N'.plan, .pt Y.d 4 (N'.dead.map Value.bool), .hp (HP.of (blksL N.blocks (N.dies * N.blocks) Y.bp N'.blk))] := by rw [nandL, h1, h2]
    rw [this]
    exact s3.up fun b o hb => res_some.2 ⟨rfl, hb⟩
  | succ k => simp at hA
theorem blk_same (f : Nat → Nat → NBlock) (i j : Nat) : f = fun a b => if a = i ∧ b = j then f i j else f a b := by
  funext a b
  split
  · rename_i h; rw [h.1, h.2]
  · rfl
theorem f_In (d b p x y z : Int) (hd : 0 ≤ d ∧ d ≤ 1000000) (hb : 0 ≤ b ∧ b ≤ 1000000) (hp : 0 ≤ p ∧ p ≤ 1000000) : Fn Tryz.prog 68 [.agg #[.int .i64 d, .int .i64 b, .int .i64 p], .agg #[.int .i64 x, .int .i64 y, .int .i64 z]] [] (fun v As => v = .bool (geoIn d b p x y z) ∧ As = []) :=
  Fn.of_below (geo_In d b p x y z hd hb hp)
theorem f_May (d b p : Int) : Fn Tryz.prog 59 [.agg #[.int .i64 d, .int .i64 b, .int .i64 p]] [] (fun v As => v = .bool (geoMay d b p) ∧ As = []) := Fn.of_below (geo_May d b p)
theorem Nand.Ok.bd {N : Nand} (h : N.Ok) : (3 ≤ N.dies ∧ N.dies ≤ 6) ∧ (8 ≤ N.blocks ∧ N.blocks ≤ 16) ∧ (2 ≤ N.pages ∧ N.pages ≤ 8) := by
  have := h.geo
  simp [geoMay] at this
  omega
theorem n_refuses (p : Nat) (N : Nand) (hN : N.Ok) (x y z : Int) : Fn Tryz.prog 80 [.pointer (some ⟨p, 0, none⟩), .agg #[.int .i64 x, .int .i64 y, .int .i64 z]] [NandA p N] (fun v As => v = .int .i64 (N.refuses x y z) ∧ As = [NandA p N]) := by
  have hbd := hN.bd
  refine Fn.enter [2, 0] Tryz.func80 rfl rfl rfl fun X F hX => ?_
  refine J.open_ (α := NLoc) 1 rfl rfl (fun _ => rfl) fun Y => ?_
  refine J.r hX tab_ok 400 (fun _ => rfl) fun b1 => ?_
  refine J.cond rfl (fun h => by simp at h) (fun _ => ?_)
  refine J.r hX tab_ok 400 (fun _ => rfl) fun b2 => ?_
  refine J.cond rfl (fun h1 => ?_) (fun h1 => ?_)
  · refine J.r hX tab_ok 400 (fun _ => rfl) fun b3 => ?_
    refine J.close (f := nandL p N) (Y) [1, 2, 3, 4, 5] rfl rfl rfl ?_
    refine J.r hX tab_ok 400 (fun _ => rfl) fun b4 => ?_
    refine J.rt hX tab_ok [1] rfl rfl rfl ?_
    exact ⟨by simp [Nand.refuses, h1], rfl⟩
  refine J.r hX tab_ok 400 (fun _ => rfl) fun b5 => ?_
  refine J.plan (.of [0,4,8,13,17,22,24,28]) [] [1,2,3,4,5,6] (by rw [hX.hP]; kernel_rfl) (by kernel_rfl) ?_
  refine J.r hX tab_ok 400 (fun _ => rfl) fun b6 => ?_
  refine J.r hX tab_ok 400 (fun _ => rfl) fun b7 => ?_
  refine J.ca hX (by kernel_rfl) (f_In _ _ _ x y z (by omega) (by omega) (by omega)) [] 0 rfl rfl rfl rfl rfl rfl (fun _ => rfl) ?_
  rintro v As ⟨rfl, rfl⟩
  refine ⟨_, rfl, ⟨rfl, rfl, rfl, rfl, rfl, rfl, trivial⟩, ?_⟩
  refine J.r hX tab_ok 400 (fun _ => rfl) fun b8 => ?_
  refine J.cond rfl (fun h2 => ?_) (fun h2 => ?_)
  · refine J.r hX tab_ok 400 (fun _ => rfl) fun b9 => ?_
    refine J.close (f := nandL p N) (Y) [1, 2, 3, 4, 5] rfl rfl rfl ?_
    refine J.r hX tab_ok 400 (fun _ => rfl) fun b10 => ?_
    refine J.rt hX tab_ok [1] rfl rfl rfl ?_
    simp only [Bool.not_eq_true'] at h2
    exact ⟨by simp [Nand.refuses, h1, h2], rfl⟩
  simp only [Bool.not_eq_false'] at h2
  have h3 : (0 ≤ x ∧ x < N.dies) := by simp [geoIn] at h2; omega
  obtain ⟨i, rfl⟩ := Int.eq_ofNat_of_zero_le h3.1
  have h4 : i < N.dead.length := by rw [hN.dead]; omega
  refine J.r hX tab_ok 400 (fun _ => rfl) fun b11 => ?_
  refine J.plan (.of [0,4,8,13,16,21,24,29,32]) [] [1,2,3,4,5,6] (by rw [hX.hP]; kernel_rfl) (by kernel_rfl) ?_
  refine J.r hX tab_ok 400 (fun _ => rfl) fun b12 => ?_
  refine J.valT hX (.bool N.dead[i]) 0 rfl rfl (fun _ a w he hC => ?_) rfl ?_
  · exact load1_run tab_ok rfl rfl he rfl rfl rfl (hC rfl _ (cget_mem (i := 4) rfl)) (by simp [h4])
  refine J.r hX tab_ok 400 (fun _ => rfl) fun b13 => ?_
  refine J.cond rfl (fun h5 => ?_) (fun h5 => ?_)
  · refine J.r hX tab_ok 400 (fun _ => rfl) fun b14 => ?_
    refine J.close (f := nandL p N) (Y) [1, 2, 3, 4, 5] rfl rfl rfl ?_
    refine J.r hX tab_ok 400 (fun _ => rfl) fun b15 => ?_
    refine J.rt hX tab_ok [1] rfl rfl rfl ?_
    exact ⟨by simp [Nand.refuses, h1, h2, h4, h5], rfl⟩
  refine J.r hX tab_ok 400 (fun _ => rfl) fun b16 => ?_
  refine J.close (f := nandL p N) (Y) [1, 2, 3, 4, 5] rfl rfl rfl ?_
  refine J.r hX tab_ok 400 (fun _ => rfl) fun b17 => ?_
  refine J.rt hX tab_ok [1] rfl rfl rfl ?_
  exact ⟨by simp [Nand.refuses, h1, h2, h4, h5], rfl⟩
theorem n_key (x y : Int) : Fn Tryz.prog 61 [.int .i64 x, .int .i64 y] [] (fun v As => v = .agg #[.int .i64 x, .int .i64 y, .int .i64 0] ∧ As = []) := by
  refine Fn.enter [] Tryz.func61 rfl rfl rfl fun X F hX => ?_
  refine J.r hX tab_ok 400 (fun _ => rfl) fun b18 => ?_
  refine J.rt hX tab_ok [] rfl rfl rfl ?_
  exact ⟨rfl, rfl⟩
theorem umapB : Tryz.prog.underlying 121 = some (.map 66 131) := by kernel_rfl
end Go.Proofs.YtoideahgjgaddaaGreat
