/- Helpers, proved here. No condition. -/
import Derived.Test.YtdocmcapegcoeaaGreatV06
import Derived.Test.YtdocmcapegcoeaaGreatV12
set_option maxRecDepth 20000
set_option linter.all false
namespace Go.Proofs.YtdocmcapegcoeaaGreat
open Go Go.RowKit
theorem compactI_short {l : List Int} (h : l.length < 2) : compactI l = l := by
 match l, h with
 | [], _ => rfl
 | [x], _ => rfl
theorem x_Compact (a : Option Nat) (n cap : Nat) (l : List Int) (hl : l.length = n) (hn : n ≤ 4611686018427387904) : Fn Tryz.prog 175 [slv a n cap] [ownA 3 1 a n cap (cellsI l)]
  (fun v As => ∃ l', l' = compactI l ∧ v = slv a l'.length cap ∧ As = [ownA 3 1 a l'.length cap (cellsI l')]) := by
 refine Fn.enter [0] Tryz.func175 rfl rfl rfl fun X F hX => ?_
 refine J.q hX fun b1 => ?_
 refine J.cond rfl (fun h0 => ?_) (fun h0 => ?_)
 ·simp only [decide_eq_true_eq] at h0
  refine J.q hX fun b2 => ?_
  refine J.ru hX [1] ?_
  have hs : compactI l = l := compactI_short (by omega)
  exact ⟨l, hs.symm, by rw [hl], by rw [hl]; rfl⟩
 simp only [decide_eq_false_iff_not] at h0
 cases a with
 | none =>
  refine J.know (fun h' s => (s.get (i := 1) rfl).2.1) fun hn0 => ?_
  omega
 | some g =>
  refine J.openOwn 1 rfl rfl (fun _ => rfl) fun r q1 q2 q3 q4 => ?_
  refine J.q hX fun b3 => ?_
  refine J.lo (α := Nat) (fun k => 1 ≤ k ∧ k ≤ n ∧ l.take k ++ dedFrom (l.getD (k - 1) 0) (l.drop k) = compactI l) (fun k => [⟨3, .int .i64 k, 0, .tt⟩, ⟨0, slv (some g) n cap, 0, .tt⟩]) [] (fun k => []) (fun k => n - k) (1) (⟨by omega, by omega, by cases l with | nil => simp at hl; omega | cons x l => rfl⟩) rfl ?_ (fun _ => rfl) fun k hI => ?_
  ·rfl
  have hget : ∀ e, e < n → (cellsI l ++ r)[e]? = some (.int .i64 (l.getD e 0)) := fun e he => cellsI_at l r e _ (by rw [List.getD_eq_getElem?_getD, List.getElem?_eq_getElem (by omega), Option.getD_some])
  refine J.q hX fun b5 => ?_
  refine J.cond rfl (fun h1 => ?_) (fun h1 => ?_)
  ·simp only [decide_eq_true_eq, Int.ofNat_lt] at h1
   refine J.q hX fun b6 => ?_
   refine J.plan (.of [0,4,8,13,16,20,24,28,33,36]) [] [1] (by rw [hX.hP]; kernel_rfl) (by kernel_rfl) ?_
   refine J.q hX fun b7 => ?_
   refine J.valT hX (.int .i64 (l.getD k 0)) 0 rfl rfl (fun hg a w he hC => ?_) rfl ?_
   ·exact load1_run tk rfl rfl he hg rfl rfl (hC rfl _ (cget_mem (i := 1) rfl)) (by rw [show 0 + (k : Int).toNat * 1 = k from by omega]; exact hget k h1)
   refine J.q hX fun b8 => ?_
   refine J.valT hX (.int .i64 (l.getD (k - 1) 0)) 0 rfl rfl (fun hg a w he hC => ?_) rfl ?_
   ·exact load1_run tk rfl rfl he hg rfl rfl (hC rfl _ (cget_mem (i := 1) rfl)) (by rw [show 0 + ((k : Int) - 1).toNat * 1 = k - 1 from by omega]; exact hget (k - 1) (by omega))
   refine J.q hX fun b9 => ?_
   refine J.cond rfl (fun h2 => ?_) (fun h2 => ?_)
   ·simp only [beq_iff_eq] at h2
    refine J.q hX fun b10 => ?_
    rw [show (k : Int).toNat = k from Int.toNat_natCast k]
    refine J.q hX fun b11 => ?_
    refine J.lo (α := (Nat × Nat × List Int)) (fun z => CpI l z.2.2 z.1 (k + z.2.1) ∧ 1 ≤ z.2.1) (fun z => [⟨5, .int .i64 z.2.1, 0, .tt⟩, ⟨4, .slice (some ⟨g, 0 + k * 1, none⟩) (n - k) (cap - k), 0, .tt⟩, ⟨3, .int .i64 z.1, 0, .tt⟩, ⟨0, slv (some g) n cap, 0, .tt⟩]) [1] (fun z => [.pt g 3 (cellsI z.2.2 ++ r)]) (fun z => n - z.2.1) ((k, 1, l)) (⟨CpI.start hI.1 (by omega) hI.2.2 h2, Nat.le_refl _⟩) rfl ?_ (fun _ => rfl) fun z hI => ?_
    ·rfl
    obtain ⟨kk, q, m⟩ := z
    dsimp only at hI ⊢
    obtain ⟨hI, hq⟩ := hI
    have hml : m.length = n := hI.1.trans hl
    have hc1 := hI.2.1
    have hc2 := hI.2.2.1
    have hc3 := hI.2.2.2.1
    have hgm : ∀ e, e < n → (cellsI m ++ r)[e]? = some (.int .i64 (m.getD e 0)) := fun e he => cellsI_at m r e _ (by rw [List.getD_eq_getElem?_getD, List.getElem?_eq_getElem (by omega), Option.getD_some])
    refine J.q hX fun b12 => ?_
    refine J.cond rfl (fun h3 => ?_) (fun h3 => ?_)
    ·simp only [decide_eq_true_eq, Int.ofNat_lt] at h3
     have hgj := hI.get (k + q) (by omega)
     have hgj1 := hI.get (k + q - 1) (by omega)
     have h3' : k + q < n := by omega
     refine J.q hX fun b13 => ?_
     refine J.plan (.of [0,4,8,13,16,20,24,28,33,36]) [] [1] (by rw [hX.hP]; kernel_rfl) (by kernel_rfl) ?_
     refine J.q hX fun b14 => ?_
     refine J.valT hX (.int .i64 (m.getD (k + q) 0)) 0 rfl rfl (fun hg a w he hC => ?_) rfl ?_
     ·exact load1_run tk rfl rfl he hg rfl rfl (hC rfl _ (cget_mem (i := 1) rfl)) (by rw [show 0 + k * 1 + (q : Int).toNat * 1 = k + q from by omega]; exact hgm _ h3')
     refine J.q hX fun b15 => ?_
     refine J.valT hX (.int .i64 (m.getD (k + q - 1) 0)) 0 rfl rfl (fun hg a w he hC => ?_) rfl ?_
     ·exact load1_run tk rfl rfl he hg rfl rfl (hC rfl _ (cget_mem (i := 1) rfl)) (by rw [show 0 + k * 1 + ((q : Int) - 1).toNat * 1 = k + q - 1 from by omega]; exact hgm _ (by omega))
     refine J.q hX fun b16 => ?_
     refine J.cond rfl (fun h4 => ?_) (fun h4 => ?_)
     ·simp only [bne_iff_ne, ne_eq, hgj, hgj1] at h4
      refine J.q hX fun b17 => ?_
      refine J.val hX (.int .i64 (m.getD (k + q) 0)) 0 rfl rfl (fun hg a w he hw => ?_) rfl trivial ?_
      ·exact load1_run tk rfl rfl he rfl rfl rfl (hw.get (i := 1) rfl) (by rw [show 0 + k * 1 + (q : Int).toNat * 1 = k + q from by omega]; exact hgm _ h3')
      refine J.q hX fun b18 => ?_
      refine J.store1 hX tk 1 rfl rfl rfl rfl rfl rfl rfl rfl rfl rfl rfl rfl rfl ?_ (cellsI (m.set kk (l.getD (k + q) 0)) ++ r) ?_ rfl (fun _ => rfl) ⟨trivial, ?_⟩
      ·rw [List.length_append, cellsI_len]; show 0 + (kk : Int).toNat * 1 < _; omega
      ·rw [show 0 + (kk : Int).toNat * 1 = kk from by omega, hgj]; exact cellsI_set m r kk _ (by omega)
      refine J.q hX fun b19 => ?_
      refine J.nS ((kk + 1, q + 1, m.set kk (l.getD (k + q) 0))) (⟨hI.keep (by omega) h4, by dsimp only; omega⟩) (by dsimp only; omega) [0, 1] rfl rfl
     ·simp only [bne_eq_false_iff_eq, hgj, hgj1] at h4
      refine J.q hX fun b20 => ?_
      refine J.nS ((kk, q + 1, m)) (⟨hI.skip (by omega) h4, by dsimp only; omega⟩) (by dsimp only; omega) [0, 1] rfl rfl
    ·simp only [decide_eq_false_iff_not, Int.ofNat_lt] at h3
     have hj : k + q = n := by omega
     have hfin : m.take kk = compactI l := by
      have h6 := hI.2.2.2.2.2
      rw [List.drop_of_length_le (by omega)] at h6
      simpa [dedFrom] using h6
     refine J.q hX fun b21 => ?_
     refine J.clear hX tk 1 rfl rfl rfl rfl rfl rfl rfl rfl rfl rfl rfl ?_ (fun _ => rfl) (fun _ => rfl) fun cs' z1 z2 => ⟨trivial, ?_⟩
     ·rw [List.length_append, cellsI_len]; rw [cellsI_len] at q4
      show 0 + (kk : Int).toNat * 1 + (n - (kk : Int).toNat) * 1 ≤ _
      omega
     have hklen : (compactI l).length = kk := by rw [← hfin, List.length_take]; omega
     refine J.closeOwn (e := 3) (size := 1) (n := kk) (cap := cap) (xs := cellsI (compactI l)) 1 rfl rfl (by rw [cellsI_len, hklen, Nat.mul_one]) (by omega) q3 (by rw [z1, List.length_append, cellsI_len, hml]; rw [cellsI_len, hl] at q4; exact q4) ?_ rfl ?_
     ·have z3 : (0 + (kk : Int).toNat * 1) = kk := by omega
      rw [z3] at z2
      rw [Nat.mul_one, z2, List.take_append_of_le_length (by rw [cellsI_len]; omega), ← hfin, cellsI, cellsI, List.map_take]
     refine J.q hX fun b22 => ?_
     refine J.ru hX [1] ?_
     exact ⟨_, rfl, by rw [hklen]; rfl, by rw [hklen]; rfl⟩
   ·simp only [beq_eq_false_iff_ne, ne_eq] at h2
    refine J.q hX fun b23 => ?_
    refine J.nx (k + 1) (⟨by omega, by omega, by rw [Nat.add_sub_cancel]; exact ded_at hI.1 (by omega) hI.2.2 h2⟩) (by omega) (fun _ s => s)
  ·simp only [decide_eq_false_iff_not, Int.ofNat_lt] at h1
   obtain rfl : k = n := by omega
   have hs : compactI l = l := by
    have := hI.2.2
    rw [List.take_of_length_le (by omega), List.drop_of_length_le (by omega)] at this
    simpa [dedFrom] using this.symm
   refine J.closeOwn (e := 3) (size := 1) (n := k) (cap := cap) (xs := cellsI l) 1 rfl rfl q1 q2 q3 (by rw [List.length_append]; exact q4) (by rw [List.take_left' q1]) rfl ?_
   refine J.q hX fun b24 => ?_
   refine J.ru hX [1] ?_
   exact ⟨l, hs.symm, by rw [hl], by rw [hl]; rfl⟩
end Go.Proofs.YtdocmcapegcoeaaGreat
namespace Go.Proofs.YtdocmcapegcoeaaGreat
open Go
def En.zero : En := ⟨0, 0, 0, zeros16⟩
def Sh.en (s : Sh) : En := ⟨s.lpn, s.seq, s.role, s.data⟩
namespace W
def alien (p s : Sh) : Bool := s.kind != 1 || !S.may s || s.block != p.block || s.row != p.row || s.mask != p.mask
def backS (p : Sh) (l : List Sh) : En :=
 let x := over (l ++ [p])
 ⟨(x.2.toNat / 1099511627776 % 65536 : Nat), (x.2.toNat % 1099511627776 : Nat), (x.2.toNat / 72057594037927936 : Nat), x.1⟩
def backB (p : Sh) (l : List Sh) : Bool := p.kind == 2 && S.may p && !l.any (alien p) && decide ((l.length : Int) = G.slots p.mask - 1) && ok p.block p.row p.mask (backS p l)
def back (p : Sh) (l : List Sh) : En := if backB p l then backS p l else En.zero
end W
structure Fd where
 slots : List Sh
 good : List Bool
 parity : Sh
 whole : Bool
structure Fnd where
 en : En
 block : Int
 row : Int
 slot : Int
 mask : Int
 whole : Bool
 mended : Bool
namespace M
def maskOf (x : Sh × Int) : Option Int := if x.2 = 1 then some x.1.mask else none
def masks (N : Nand) (b r : Int) : List Int := compactI (isortL ((rowN N b r N.dies).filterMap maskOf))
end M
namespace R
def job (b r m : Int) (l : List En) : List (Int × Sh) := (List.range l.length).map (fun k => (G.die m b r (k : Nat), W.sh b r m (l.getD k En.zero))) ++ [(G.parity m b r, W.parS b r m l)]
def go (b r : Int) : List (Int × Sh) → Nand → Int → Nand × Int × Int
 | [], N, f => (N, f, if f = 0 then 0 else 7)
 | (d, s) :: q, N, f =>
  if N.progE d b r = 0 then go b r q (N.progN d b r (putP s)) f
  else if N.progE d b r = 9 then (N.progN d b r (putP s), f, 9)
  else go b r q (N.progN d b r (putP s)) (L.with_ f d)
def write (N : Nand) (b r m : Int) (l : List En) : Nand × Int × Int := if W.parB b r m l then go b r (job b r m l) N 0 else (N, 0, 1)
def one (N : Nand) (b r m d : Int) : Sh × Bool := ((M.look N d b r).1, (M.look N d b r).2 == 1 && (M.look N d b r).1.mask == m)
def ones (N : Nand) (b r m : Int) (k : Nat) : List (Sh × Bool) := (List.range k).map fun i : Nat => one N b r m (G.die m b r i)
def look (N : Nand) (b r m : Int) : Fd := ⟨(ones N b r m (G.slots m).toNat).map (·.1), (ones N b r m (G.slots m).toNat).map (·.2), (one N b r m (G.parity m b r)).1, (one N b r m (G.parity m b r)).2⟩
def rest (f : Fd) (k : Nat) : Bool := (List.range f.slots.length).all fun i => i == k || f.good.getD i false
def mendB (f : Fd) (k : Nat) : Bool := rest f k && f.whole && W.backB f.parity (f.slots.eraseIdx k)
def mend (f : Fd) (k : Nat) : En := if rest f k && f.whole then W.back f.parity (f.slots.eraseIdx k) else En.zero
def read (N : Nand) (b r s m : Int) : En × Int :=
 if G.die m b r s < 0 ∨ geoIn N.dies N.blocks N.pages 0 b r = false then (En.zero, 3)
 else if N.off then (En.zero, 9)
 else if (look N b r m).good.getD s.toNat false then (((look N b r m).slots.getD s.toNat Sh.zero).en, 0)
 else if mendB (look N b r m) s.toNat then (mend (look N b r m) s.toNat, 0) else (En.zero, 10)
def enAt (f : Fd) (k : Nat) : En := if f.good.getD k false then (f.slots.getD k Sh.zero).en else mend f k
def okAt (f : Fd) (k : Nat) : Bool := f.good.getD k false || mendB f k
def fnd (f : Fd) (b r m : Int) (k : Nat) : Option Fnd := if okAt f k && (enAt f k).role != 3 then some ⟨enAt f k, b, r, k, m, f.whole, !(f.good.getD k false)⟩ else none
def allM (N : Nand) (b r m : Int) : List Fnd := (List.range (look N b r m).slots.length).filterMap (fnd (look N b r m) b r m)
def all (N : Nand) (b r : Int) : List Fnd := (M.masks N b r).flatMap (allM N b r)
end R
theorem look_len (N : Nand) (b r m : Int) : (R.look N b r m).slots.length = (G.slots m).toNat ∧ (R.look N b r m).good.length = (G.slots m).toNat := by simp [R.look, R.ones]
theorem mlook_len {N : Nand} (hN : N.Ok) (x y z : Int) : (M.look N x y z).1.data.length = 16 := by
 have hz : Sh.zero.data.length = 16 := rfl
 unfold M.look
 dsimp only
 split
 ·split
  ·exact hz
  ·exact getV_len _ (readV_len hN x y z)
 ·split
  ·exact hz
  ·split <;> exact hz
end Go.Proofs.YtdocmcapegcoeaaGreat
namespace Go.Proofs.YtdocmcapegcoeaaGreat
structure AtV where
 block : Int
 row : Int
 slot : Int
 mask : Int
 seq : Int
 role : Int
 deriving DecidableEq
def AtV.zero : AtV := ⟨0, 0, 0, 0, 0, 0⟩
structure Tb where
 logical : Int
 at_ : List (Int × AtV)
 cnt : List (Int × Int)
 next : Int
namespace Tb
def look {α : Type} : List (Int × α) → Int → Option α
 | [], _ => none
 | x :: l, k => if k = x.1 then some x.2 else look l k
def put1 {α : Type} : List (Int × α) → Int → α → List (Int × α)
 | [], k, v => [(k, v)]
 | x :: l, k, v => if k = x.1 then (k, v) :: l else x :: put1 l k v
def new (n : Int) : Tb := ⟨min (max n 0) 65536, [], [], 1⟩
def count (t : Tb) (b : Int) : Int := (look t.cnt b).getD 0
def ok (t : Tb) (e : En) : Bool := !(decide (e.lpn < 0) || decide (e.lpn ≥ t.logical) || (e.role != 1 && e.role != 2 && e.role != 4))
def elder (t : Tb) (e : En) : Bool := match look t.at_ e.lpn with
 | some a => decide (e.seq < a.seq)
 | none => false
def cnt1 (t : Tb) (e : En) : List (Int × Int) := match look t.at_ e.lpn with
 | some a => put1 t.cnt a.block (t.count a.block - 1)
 | none => t.cnt
def cnt2 (t : Tb) (e : En) (b : Int) : List (Int × Int) := put1 (cnt1 t e) b ((look (cnt1 t e) b).getD 0 + 1)
def putB (t : Tb) (e : En) : Bool := ok t e && !elder t e
def put (t : Tb) (e : En) (b r s m : Int) : Tb := if putB t e then ⟨t.logical, put1 t.at_ e.lpn ⟨b, r, s, m, e.seq, e.role⟩, cnt2 t e b, if e.seq ≥ t.next then e.seq + 1 else t.next⟩ else t
def inB (t : Tb) (b : Int) (i : Int) : Bool := match look t.at_ i with
 | some a => a.block == b
 | none => false
def inK (t : Tb) (b : Int) (k : Nat) : List Int := ((List.range k).filter fun i : Nat => inB t b i).map fun i : Nat => (i : Int)
theorem inK_succ (t : Tb) (b : Int) (k : Nat) : inK t b (k + 1) = if inB t b k then inK t b k ++ [(k : Int)] else inK t b k := by
 unfold inK
 rw [List.range_succ, List.filter_append, List.map_append]
 cases h : inB t b k <;> simp [h]
theorem inK_len (t : Tb) (b : Int) (k : Nat) : (inK t b k).length ≤ k := by
 unfold inK
 rw [List.length_map]
 exact Nat.le_trans (List.length_filter_le _ _) (by rw [List.length_range]; exact Nat.le_refl _)
def ins (t : Tb) (b : Int) : List Int := if t.count b = 0 then [] else inK t b t.logical.toNat
theorem look_put1 {α : Type} (k : Int) (v : α) (j : Int) : ∀ l : List (Int × α), look (put1 l k v) j = if j = k then some v else look l j
 | [] => by simp only [put1, look]
 | x :: l => by
  simp only [put1]
  by_cases h : k = x.1
  ·rw [if_pos h]
   simp only [look]
   by_cases h2 : j = k
   ·rw [if_pos h2, if_pos h2]
   ·rw [if_neg h2, if_neg h2, if_neg (fun e => h2 (e.trans h.symm))]
  ·rw [if_neg h]
   simp only [look]
   by_cases h2 : j = x.1
   ·rw [if_pos h2, if_pos h2, if_neg (fun e => h (e.symm.trans h2))]
   ·rw [if_neg h2, if_neg h2, look_put1 k v j l]
end Tb
namespace V
def behind (a b : Fnd) : Bool := if a.en.seq ≠ b.en.seq then decide (a.en.seq < b.en.seq) else b.whole && !a.whole
def topsStep (out : List Fnd) (f : Fnd) : List Fnd := match out with
 | [] => [f]
 | h :: t => if behind h f then [f] else if behind f h then h :: t else h :: t ++ [f]
def tops (l : List Fnd) : List Fnd := l.foldl topsStep []
def all (N : Nand) : List Fnd := (List.range N.blocks).flatMap fun b => (List.range N.pages).flatMap fun r => R.all N (b : Nat) (r : Nat)
def of (l : List Fnd) (k : Int) : List Fnd := l.filter fun f => f.en.lpn == k
def holds (l : List Fnd) : List Int := (tops (l.filter fun f => f.whole)).map (·.block)
def blankRow (N : Nand) (b r : Int) : Bool := (M.rowN N b r N.dies).all fun x => x.2 == 2 || x.2 == 4
def last (N : Nand) (f : Fnd) : Bool := ((List.range N.pages).all fun r : Nat => decide ((r : Int) ≤ f.row) || blankRow N f.block r) && (M.look N (G.parity f.mask f.block f.row) f.block f.row).2 != 4
end V
end Go.Proofs.YtdocmcapegcoeaaGreat
namespace Go.Proofs.YtdocmcapegcoeaaGreat
open Go Go.RowKit
def kI (k : Int) : Value := .int .i64 k
theorem keyI : KeyOk Tryz.prog 3 kI where
 now := ⟨_, Tryz.underlying3, fun a b => .inr rfl⟩
 eq := fun a b w => by kernel_rfl
 check := fun e a w => by kernel_rfl
 bits := fun a => by simp [kI, Instr.sameBits]
theorem umapAt : Tryz.prog.underlying 101 = some (.map 3 46) := by kernel_rfl
theorem umapC : Tryz.prog.underlying 102 = some (.map 3 3) := by kernel_rfl
def atL (a : AtV) : List Value := [.int .i64 a.block, .int .i64 a.row, .int .i64 a.slot, .int .i64 a.mask, .int .i64 a.seq, .int .i64 a.role]
def atV (a : AtV) : Value := .agg (atL a).toArray
def atM (l : List (Int × AtV)) : List (Int × Value) := l.map fun x => (x.1, atV x.2)
def cnM (l : List (Int × Int)) : List (Int × Value) := l.map fun x => (x.1, .int .i64 x.2)
def plL (b r s : Int) : List Value := [.int .i64 b, .int .i64 r, .int .i64 s]
def plV (b r s : Int) : Value := .agg (plL b r s).toArray
theorem alook_map {α : Type} (f : α → Value) (k : Int) : ∀ l : List (Int × α), alook (l.map fun x => (x.1, f x.2)) k = (Tb.look l k).map f
 | [] => rfl
 | x :: l => by
  simp only [List.map_cons, alook, Tb.look]
  split
  ·rfl
  ·exact alook_map f k l
theorem aput_map {α : Type} (f : α → Value) (k : Int) (v : α) : ∀ l : List (Int × α), aput (l.map fun x => (x.1, f x.2)) k (f v) = (Tb.put1 l k v).map fun x => (x.1, f x.2)
 | [] => rfl
 | x :: l => by
  simp only [List.map_cons, aput, Tb.put1]
  split
  ·rfl
  ·rw [aput_map f k v l]; rfl
theorem alook_at (l : List (Int × AtV)) (k : Int) : alook (atM l) k = (Tb.look l k).map atV := alook_map atV k l
theorem alook_cn (l : List (Int × Int)) (k : Int) : alook (cnM l) k = (Tb.look l k).map (Value.int .i64) := alook_map (Value.int .i64) k l
theorem aput_at (l : List (Int × AtV)) (k : Int) (v : AtV) : aput (atM l) k (atV v) = atM (Tb.put1 l k v) := aput_map atV k v l
theorem aput_cn (l : List (Int × Int)) (k v : Int) : aput (cnM l) k (Value.int .i64 v) = cnM (Tb.put1 l k v) := aput_map (Value.int .i64) k v l
theorem look_getD (o : Option AtV) : (o.map atV).getD (atV AtV.zero) = atV (o.getD AtV.zero) := by cases o <;> rfl
theorem lookc_getD (o : Option Int) : (o.map (Value.int .i64)).getD (Value.int .i64 0) = Value.int .i64 (o.getD 0) := by cases o <;> rfl
theorem opt_some {α β : Type} (o : Option α) (f : α → β) : (o.map f).isSome = o.isSome := by cases o <;> rfl
def TbP (q : Nat) (t : Tb) (x : Nat × Nat) : List Atom := [.pt q 104 [.int .i64 t.logical, .map (some x.1), .map (some x.2), .int .i64 t.next], mapA x.1 kI (atM t.at_), mapA x.2 kI (cnM t.cnt)]
def TbA (q : Nat) (t : Tb) : Atom := exA fun x : Nat × Nat => TbP q t x
theorem tb_mm (n : Int) : (if (65536 : Int) < if (0 : Int) > n then 0 else n then 65536 else if (0 : Int) > n then 0 else n) = min (max n 0) 65536 := by
 by_cases h : (0 : Int) > n
 ·simp only [if_pos h]; rw [if_neg (by omega)]; omega
 ·simp only [if_neg h]; split <;> omega
theorem tb_New (n : Int) : Fn Tryz.prog 46 [.int .i64 n] [] (fun v As => ∃ q, v = .pointer (some ⟨q, 0, none⟩) ∧ As = [TbA q (Tb.new n)]) := by
 refine Fn.enter [0] Tryz.func46 rfl rfl rfl fun X F hX => ?_
 refine J.q hX fun bs => ?_
 rw [tb_mm]
 refine J.turn1 [1] rfl (As := [mapA (bs 0) kI (atM [])]) (fun h s => ?_) rfl ?_
 ·refine ⟨fun _ => 0, fun i A hA => ?_⟩
  cases i with
  | zero => simp at hA; subst hA; exact ⟨#[], 0, res_some.2 ⟨rfl, s.get (i := 0) rfl⟩, rfl, by simp, by simp⟩
  | succ k => simp at hA
 refine J.turn1 [2] rfl (As := [mapA (bs (0 + 1)) kI (cnM [])]) (fun h s => ?_) rfl ?_
 ·refine ⟨fun _ => 0, fun i A hA => ?_⟩
  cases i with
  | zero => simp at hA; subst hA; exact ⟨#[], 0, res_some.2 ⟨rfl, s.get (i := 0) rfl⟩, rfl, by simp, by simp⟩
  | succ k => simp at hA
 refine J.close (f := fun x : Nat × Nat => TbP (bs (0 + 1 + 1)) (Tb.new n) x) (bs 0, bs (0 + 1)) [3, 1, 2] rfl rfl rfl ?_
 refine J.q hX fun b1 => ?_
 refine J.ru hX [3] ?_
 exact ⟨bs (0 + 1 + 1), rfl, rfl⟩
theorem tb_Get (q : Nat) (t : Tb) (k : Int) : Fn Tryz.prog 22 [.pointer (some ⟨q, 0, none⟩), .int .i64 k] [TbA q t]
  (fun v As => v = .tuple #[atV ((Tb.look t.at_ k).getD AtV.zero), .bool (Tb.look t.at_ k).isSome] ∧ As = [TbA q t]) := by
 refine Fn.enter [2, 0] Tryz.func22 rfl rfl rfl fun X F hX => ?_
 refine J.open_ (α := (Nat × Nat)) 1 rfl rfl (fun _ => rfl) fun x => ?_
 refine J.q hX fun b2 => ?_
 refine J.cF ?_
 refine J.q hX fun b3 => ?_
 refine J.val hX (.tuple #[atV ((Tb.look t.at_ k).getD AtV.zero), .bool (Tb.look t.at_ k).isSome]) 0 rfl rfl (fun hg a w he hs => ?_) rfl trivial ?_
 ·refine (lookup_run (key := k) keyI umapAt (z := atV AtV.zero) (fun w => by kernel_rfl) rfl rfl rfl rfl he rfl rfl (hs.get (i := 2) rfl)).trans ?_
  simp only [alook_at, look_getD, opt_some]
 refine J.close (f := fun x : Nat × Nat => TbP q t x) x [1, 2, 3] rfl rfl rfl ?_
 refine J.q hX fun b4 => ?_
 exact J.ru hX [1] ⟨rfl, rfl⟩
theorem tb_Len (q : Nat) (t : Tb) : Fn Tryz.prog 39 [.pointer (some ⟨q, 0, none⟩)] [TbA q t]
  (fun v As => v = .int .i64 t.at_.length ∧ As = [TbA q t]) := by
 refine Fn.enter [2] Tryz.func39 rfl rfl rfl fun X F hX => ?_
 refine J.open_ (α := (Nat × Nat)) 1 rfl rfl (fun _ => rfl) fun x => ?_
 refine J.q hX fun b5 => ?_
 refine J.cF ?_
 refine J.q hX fun b6 => ?_
 refine J.val hX (.int .i64 t.at_.length) 0 rfl rfl (fun hg a w he hs => ?_) rfl trivial ?_
 ·refine (len_map_run umapAt rfl rfl he rfl (hs.get (i := 2) rfl)).trans ?_
  rw [atM, List.length_map]
 refine J.close (f := fun x : Nat × Nat => TbP q t x) x [1, 2, 3] rfl rfl rfl ?_
 refine J.q hX fun b7 => ?_
 exact J.ru hX [1] ⟨rfl, rfl⟩
theorem tb_Next (q : Nat) (t : Tb) : Fn Tryz.prog 213 [.pointer (some ⟨q, 0, none⟩)] [TbA q t]
  (fun v As => v = .int .i64 t.next ∧ As = [TbA q t]) := by
 refine Fn.enter [2] Tryz.func213 rfl rfl rfl fun X F hX => ?_
 refine J.open_ (α := (Nat × Nat)) 1 rfl rfl (fun _ => rfl) fun x => ?_
 refine J.q hX fun b8 => ?_
 refine J.cF ?_
 refine J.q hX fun b9 => ?_
 refine J.close (f := fun x : Nat × Nat => TbP q t x) x [1, 2, 3] rfl rfl rfl ?_
 refine J.q hX fun b10 => ?_
 exact J.ru hX [1] ⟨rfl, rfl⟩
theorem tb_Count (q : Nat) (t : Tb) (k : Int) : Fn Tryz.prog 72 [.pointer (some ⟨q, 0, none⟩), .int .i64 k] [TbA q t]
  (fun v As => v = .int .i64 (t.count k) ∧ As = [TbA q t]) := by
 refine Fn.enter [2, 0] Tryz.func72 rfl rfl rfl fun X F hX => ?_
 refine J.open_ (α := (Nat × Nat)) 1 rfl rfl (fun _ => rfl) fun x => ?_
 refine J.q hX fun b11 => ?_
 refine J.cF ?_
 refine J.q hX fun b12 => ?_
 refine J.val hX (.int .i64 (t.count k)) 0 rfl rfl (fun hg a w he hs => ?_) rfl trivial ?_
 ·refine (lookup_run (key := k) keyI umapC (z := .int .i64 0) (fun w => by kernel_rfl) rfl rfl rfl rfl he rfl rfl (hs.get (i := 3) rfl)).trans ?_
  simp only [alook_cn, lookc_getD]; rfl
 refine J.close (f := fun x : Nat × Nat => TbP q t x) x [1, 2, 3] rfl rfl rfl ?_
 refine J.q hX fun b13 => ?_
 exact J.ru hX [1] ⟨rfl, rfl⟩
theorem tb_Put (q : Nat) (t : Tb) (e : En) (b r s m : Int) (hs : -9223372036854775808 ≤ e.seq ∧ e.seq < 9223372036854775807) (hc : ∀ k, 0 ≤ Tb.count t k ∧ Tb.count t k ≤ 1000000) : Fn Tryz.prog 59 [.pointer (some ⟨q, 0, none⟩), enV e, plV b r s, .int .i64 m] [TbA q t]
  (fun v As => v = .bool (Tb.putB t e) ∧ As = [TbA q (Tb.put t e b r s m)]) := by
 refine Fn.enter [2, 0, 0, 0] Tryz.func59 rfl rfl rfl fun X F hX => ?_
 refine J.open_ (α := (Nat × Nat)) 1 rfl rfl (fun _ => rfl) fun x => ?_
 refine J.q hX fun bb => ?_
 refine J.plan (.of [0,4,8,12,17,20,24,28,32,37,40,44,48,53,56,60,64,68,73,76,80,84,89,92,96,100,104,109,112,116,120]) [] [1,2,3,4,5] (by rw [hX.hP]; kernel_rfl) (by kernel_rfl) ?_
 refine J.qn hX 1 fun b15 => ?_
 refine J.run hX tk 400 (fun b16 => rfl) (fun b16 => ?_) (fun b16 => ?_)
 ·(repeat' (first | exact Conj.nil | refine Conj.cons ?_ ?_ | exact rfl | exact hq | (rw [hq]; rfl) | (rw [(Bool.not_eq_true' _).mp hq]) | intro hq | omega | (simp; done) | (simp_all; done)))
 refine J.q hX fun b17 => ?_
 refine J.cond rfl (fun h1 => ?_) (fun h1 => ?_)
 ·refine J.close (f := fun x : Nat × Nat => TbP q t x) x [1, 2, 3] rfl rfl rfl ?_
  refine J.q hX fun b18 => ?_
  refine J.ru hX [1] ?_
  have ho : Tb.ok t e = false := by unfold Tb.ok; rw [Bool.not_eq_false']; exact h1
  have hp : Tb.putB t e = false := by unfold Tb.putB; rw [ho]; rfl
  exact ⟨by rw [hp], by rw [Tb.put, if_neg (by rw [hp]; simp)]; rfl⟩
 have ho : Tb.ok t e = true := by unfold Tb.ok; rw [Bool.not_eq_true']; exact h1
 refine J.q hX fun b19 => ?_
 refine J.plan (.of [0,4,8,13,16,21,25,28,32,36,42,46,48]) [12] [1,2,3,4,5] (by rw [hX.hP]; kernel_rfl) (by kernel_rfl) ?_
 refine J.q hX fun b20 => ?_
 refine J.valT hX (.tuple #[atV ((Tb.look t.at_ e.lpn).getD AtV.zero), .bool (Tb.look t.at_ e.lpn).isSome]) 0 rfl rfl (fun _ a w he hC => ?_) rfl ?_
 ·refine (lookup_run (key := e.lpn) keyI umapAt (z := atV AtV.zero) (fun w => by kernel_rfl) rfl rfl rfl rfl he rfl rfl (hC rfl _ (cget_mem (i := 2) rfl))).trans ?_
  simp only [alook_at, look_getD, opt_some]
 rcases hlk : Tb.look t.at_ e.lpn with _ | a
 ·have hel : Tb.elder t e = false := by simp [Tb.elder, hlk]
  have hp : Tb.putB t e = true := by rw [Tb.putB, ho, hel]; rfl
  have hc1 : Tb.cnt1 t e = t.cnt := by simp [Tb.cnt1, hlk]
  refine J.q hX fun bw => ?_
  refine J.cF ?_
  refine J.q hX fun b22 => ?_
  refine J.cF ?_
  refine J.q hX fun b23 => ?_
  refine J.plan (.of [0,4,8,13,16,21,25,28,35]) [8] [1,2,3,4,5,6] (by rw [hX.hP]; kernel_rfl) (by kernel_rfl) ?_
  refine J.q hX fun b24 => ?_
  refine J.valT hX (.int .i64 ((Tb.look (t.cnt) b).getD 0)) 0 rfl rfl (fun _ a w he hC => ?_) rfl ?_
  ·refine (lookup_run (key := b) keyI umapC (z := .int .i64 0) (fun w => by kernel_rfl) rfl rfl rfl rfl he rfl rfl (hC rfl _ (cget_mem (i := 3) rfl))).trans ?_
   simp only [alook_cn, lookc_getD]
  have hb2 : -1 ≤ (Tb.look (t.cnt) b).getD 0 ∧ (Tb.look (t.cnt) b).getD 0 ≤ 1000000 := ⟨by have := hc b; unfold Tb.count at this; omega, (hc b).2⟩
  refine J.q hX fun b25 => ?_
  refine J.mapUpdate hX keyI umapC b 3 rfl rfl rfl rfl rfl rfl rfl rfl rfl rfl rfl rfl (fun _ => rfl) (by rw [aput_cn]; rfl) ⟨trivial, ?_⟩
  refine J.q hX fun b26 => ?_
  refine J.plan (.of [0,4,8,13,16,21,25,28,32,37,40,45,48,55]) [13] [1,2,3,4,5,6] (by rw [hX.hP]; kernel_rfl) (by kernel_rfl) ?_
  refine J.q hX fun b27 => ?_
  refine J.mapUpdate hX keyI umapAt e.lpn 2 rfl rfl rfl rfl rfl rfl rfl rfl rfl rfl rfl rfl (fun _ => rfl) (show _ = some (_ :: _ :: mapA _ _ (aput _ _ (atV ⟨b, r, s, m, e.seq, e.role⟩)) :: _) from rfl) ⟨trivial, ?_⟩
  rw [aput_at]
  refine J.q hX fun b28 => ?_
  refine J.plan (.of [0,5,8,12,16,21,24]) [] [1,2,3,4,5,6] (by rw [hX.hP]; kernel_rfl) (by kernel_rfl) ?_
  refine J.q hX fun b29 => ?_
  have hput : Tb.put t e b r s m = ⟨t.logical, Tb.put1 t.at_ e.lpn ⟨b, r, s, m, e.seq, e.role⟩, Tb.put1 (t.cnt) b ((Tb.look (t.cnt) b).getD 0 + 1), if e.seq ≥ t.next then e.seq + 1 else t.next⟩ := by
   rw [Tb.put, if_pos hp, Tb.cnt2, hc1]
  refine J.q hX fun b30 => ?_
  refine J.cond rfl (fun h5 => ?_) (fun h5 => ?_)
  ·refine J.q hX fun b31 => ?_
   refine J.close (f := fun x : Nat × Nat => TbP q ⟨t.logical, Tb.put1 t.at_ e.lpn ⟨b, r, s, m, e.seq, e.role⟩, Tb.put1 (t.cnt) b ((Tb.look (t.cnt) b).getD 0 + 1), e.seq + 1⟩ x) x [1, 2, 3] rfl rfl rfl ?_
   refine J.q hX fun b32 => ?_
   refine J.ru hX [1] ?_
   exact ⟨by rw [hp], by rw [hput, if_pos (by simpa only [decide_eq_true_eq, decide_eq_false_iff_not] using h5)]; rfl⟩
  ·refine J.close (f := fun x : Nat × Nat => TbP q ⟨t.logical, Tb.put1 t.at_ e.lpn ⟨b, r, s, m, e.seq, e.role⟩, Tb.put1 (t.cnt) b ((Tb.look (t.cnt) b).getD 0 + 1), t.next⟩ x) x [1, 2, 3] rfl rfl rfl ?_
   refine J.q hX fun b33 => ?_
   refine J.ru hX [1] ?_
   exact ⟨by rw [hp], by rw [hput, if_neg (by simpa only [decide_eq_true_eq, decide_eq_false_iff_not] using h5)]; rfl⟩
 ·refine J.q hX fun bw => ?_
  refine J.cond rfl (fun h2 => ?_) (fun h2 => ?_)
  ·refine J.close (f := fun x : Nat × Nat => TbP q t x) x [1, 2, 3] rfl rfl rfl ?_
   refine J.q hX fun b35 => ?_
   refine J.ru hX [1] ?_
   have hel : Tb.elder t e = true := by rw [Tb.elder, hlk]; exact h2
   have hp : Tb.putB t e = false := by rw [Tb.putB, ho, hel]; rfl
   exact ⟨by rw [hp], by rw [Tb.put, if_neg (by rw [hp]; simp)]; rfl⟩
  have hel : Tb.elder t e = false := by rw [Tb.elder, hlk]; exact h2
  have hp : Tb.putB t e = true := by rw [Tb.putB, ho, hel]; rfl
  have hc1 : Tb.cnt1 t e = Tb.put1 t.cnt a.block (t.count a.block - 1) := by simp [Tb.cnt1, hlk]
  have hb1 := hc a.block
  refine J.q hX fun b36 => ?_
  refine J.cT ?_
  refine J.q hX fun b37 => ?_
  refine J.plan (.of [0,4,8,13,16,20,25,29,32,39]) [9] [1,2,3,4,5,6] (by rw [hX.hP]; kernel_rfl) (by kernel_rfl) ?_
  refine J.q hX fun b38 => ?_
  refine J.valT hX (.int .i64 (t.count a.block)) 0 rfl rfl (fun _ a' w he hC => ?_) rfl ?_
  ·refine (lookup_run (key := a.block) keyI umapC (z := .int .i64 0) (fun w => by kernel_rfl) rfl rfl rfl rfl he rfl rfl (hC rfl _ (cget_mem (i := 3) rfl))).trans ?_
   simp only [alook_cn, lookc_getD]; rfl
  refine J.q hX fun b39 => ?_
  refine J.mapUpdate hX keyI umapC a.block 3 rfl rfl rfl rfl rfl rfl rfl rfl rfl rfl rfl rfl (fun _ => rfl) (by rw [aput_cn]; rfl) ⟨trivial, ?_⟩
  refine J.q hX fun b40 => ?_
  refine J.plan (.of [0,4,8,13,16,21,25,28,35]) [8] [1,2,3,4,5,6] (by rw [hX.hP]; kernel_rfl) (by kernel_rfl) ?_
  refine J.q hX fun b41 => ?_
  refine J.valT hX (.int .i64 ((Tb.look (Tb.put1 t.cnt a.block (t.count a.block - 1)) b).getD 0)) 0 rfl rfl (fun _ a w he hC => ?_) rfl ?_
  ·refine (lookup_run (key := b) keyI umapC (z := .int .i64 0) (fun w => by kernel_rfl) rfl rfl rfl rfl he rfl rfl (hC rfl _ (cget_mem (i := 3) rfl))).trans ?_
   simp only [alook_cn, lookc_getD]
  have hb2 : -1 ≤ (Tb.look (Tb.put1 t.cnt a.block (t.count a.block - 1)) b).getD 0 ∧ (Tb.look (Tb.put1 t.cnt a.block (t.count a.block - 1)) b).getD 0 ≤ 1000000 := by
     rw [Tb.look_put1]
     split
     ·show -1 ≤ t.count a.block - 1 ∧ t.count a.block - 1 ≤ 1000000; omega
     ·have := hc b; unfold Tb.count at this; omega
  refine J.q hX fun b42 => ?_
  refine J.mapUpdate hX keyI umapC b 3 rfl rfl rfl rfl rfl rfl rfl rfl rfl rfl rfl rfl (fun _ => rfl) (by rw [aput_cn]; rfl) ⟨trivial, ?_⟩
  refine J.q hX fun b43 => ?_
  refine J.plan (.of [0,4,8,13,16,21,25,28,32,37,40,45,48,55]) [13] [1,2,3,4,5,6] (by rw [hX.hP]; kernel_rfl) (by kernel_rfl) ?_
  refine J.q hX fun b44 => ?_
  refine J.mapUpdate hX keyI umapAt e.lpn 2 rfl rfl rfl rfl rfl rfl rfl rfl rfl rfl rfl rfl (fun _ => rfl) (show _ = some (_ :: _ :: mapA _ _ (aput _ _ (atV ⟨b, r, s, m, e.seq, e.role⟩)) :: _) from rfl) ⟨trivial, ?_⟩
  rw [aput_at]
  refine J.q hX fun b45 => ?_
  refine J.plan (.of [0,5,8,12,16,21,24]) [] [1,2,3,4,5,6] (by rw [hX.hP]; kernel_rfl) (by kernel_rfl) ?_
  refine J.q hX fun b46 => ?_
  have hput : Tb.put t e b r s m = ⟨t.logical, Tb.put1 t.at_ e.lpn ⟨b, r, s, m, e.seq, e.role⟩, Tb.put1 (Tb.put1 t.cnt a.block (t.count a.block - 1)) b ((Tb.look (Tb.put1 t.cnt a.block (t.count a.block - 1)) b).getD 0 + 1), if e.seq ≥ t.next then e.seq + 1 else t.next⟩ := by
   rw [Tb.put, if_pos hp, Tb.cnt2, hc1]
  refine J.q hX fun b47 => ?_
  refine J.cond rfl (fun h5 => ?_) (fun h5 => ?_)
  ·refine J.q hX fun b48 => ?_
   refine J.close (f := fun x : Nat × Nat => TbP q ⟨t.logical, Tb.put1 t.at_ e.lpn ⟨b, r, s, m, e.seq, e.role⟩, Tb.put1 (Tb.put1 t.cnt a.block (t.count a.block - 1)) b ((Tb.look (Tb.put1 t.cnt a.block (t.count a.block - 1)) b).getD 0 + 1), e.seq + 1⟩ x) x [1, 2, 3] rfl rfl rfl ?_
   refine J.q hX fun b49 => ?_
   refine J.ru hX [1] ?_
   exact ⟨by rw [hp], by rw [hput, if_pos (by simpa only [decide_eq_true_eq, decide_eq_false_iff_not] using h5)]; rfl⟩
  ·refine J.close (f := fun x : Nat × Nat => TbP q ⟨t.logical, Tb.put1 t.at_ e.lpn ⟨b, r, s, m, e.seq, e.role⟩, Tb.put1 (Tb.put1 t.cnt a.block (t.count a.block - 1)) b ((Tb.look (Tb.put1 t.cnt a.block (t.count a.block - 1)) b).getD 0 + 1), t.next⟩ x) x [1, 2, 3] rfl rfl rfl ?_
   refine J.q hX fun b50 => ?_
   refine J.ru hX [1] ?_
   exact ⟨by rw [hp], by rw [hput, if_neg (by simpa only [decide_eq_true_eq, decide_eq_false_iff_not] using h5)]; rfl⟩
theorem tb_In (q : Nat) (t : Tb) (n : Nat) (hlog : t.logical = (n : Int)) (hn : n ≤ 65536) (b : Int) : Fn Tryz.prog 74 [.pointer (some ⟨q, 0, none⟩), .int .i64 b] [TbA q t]
  (fun v As => ∃ a c, v = slv a (t.ins b).length c ∧ As = [TbA q t, ownA 3 1 a (t.ins b).length c (cellsI (t.ins b))]) := by
 refine Fn.enter [2, 0] Tryz.func74 rfl rfl rfl fun X F hX => ?_
 refine J.q hX fun b1 => ?_
 refine J.cb hX (tb_Count q t b) [1] ?_
 refine cpq ⟨_, rfl, trivial, ?_⟩
 refine J.turn1 [] rfl (As := [ownA 3 1 none 0 0 (cellsI [])]) (fun h s => Sep.one ⟨rfl, rfl, rfl⟩) rfl ?_
 refine J.q hX fun b3 => ?_
 refine J.cond rfl (fun h1 => ?_) (fun h1 => ?_)
 ·simp only [beq_iff_eq] at h1
  refine J.q hX fun b4 => ?_
  refine J.ru hX [1, 2] ?_
  have : t.ins b = [] := by unfold Tb.ins; rw [if_pos h1]
  rw [this]
  exact ⟨none, 0, rfl, rfl⟩
 simp only [beq_eq_false_iff_ne, ne_eq] at h1
 have hins : t.ins b = t.inK b n := by unfold Tb.ins; rw [if_neg h1, hlog]; rfl
 refine J.open_ (α := (Nat × Nat)) 1 rfl rfl (fun _ => rfl) fun x => ?_
 refine J.q hX fun b5 => ?_
 refine J.lo (α := (Nat × Option Nat × Nat)) (fun z => z.1 ≤ n) (fun z => [⟨17, .int .i64 z.1, 0, .tt⟩, ⟨16, .int .i64 t.logical, 0, .tt⟩, ⟨5, slv z.2.1 (t.inK b z.1).length z.2.2, 0, .tt⟩, ⟨0, .pointer (some ⟨q, 0, none⟩), 2, .tt⟩, ⟨1, .int .i64 b, 0, .tt⟩]) [2] (fun z => [ownA 3 1 z.2.1 (t.inK b z.1).length z.2.2 (cellsI (t.inK b z.1))]) (fun z => n - z.1) ((0, none, 0)) (Nat.zero_le _) rfl ?_ (fun _ => rfl) fun z hI => ?_
 ·rfl
 obtain ⟨k, a1, c1⟩ := z
 dsimp only at hI ⊢
 refine J.q hX fun b7 => ?_
 refine J.cond rfl (fun h2 => ?_) (fun h2 => ?_)
 ·simp only [decide_eq_true_eq] at h2
  have hkl := t.inK_len b k
  refine J.q hX fun b8 => ?_
  refine J.val hX (.tuple #[atV ((Tb.look t.at_ k).getD AtV.zero), .bool (Tb.look t.at_ k).isSome]) 0 rfl rfl (fun hg a w he hs => ?_) rfl trivial ?_
  ·refine (lookup_run (key := (k : Int)) keyI umapAt (z := atV AtV.zero) (fun w => by kernel_rfl) rfl rfl rfl rfl he rfl rfl (hs.get (i := 3) rfl)).trans ?_
   simp only [alook_at, look_getD, opt_some]
  have hin : ((Tb.look t.at_ k).isSome && (((Tb.look t.at_ k).getD AtV.zero).block == b)) = t.inB b k := by
   unfold Tb.inB
   cases Tb.look t.at_ k <;> rfl
  refine J.q hX fun b9 => ?_
  refine J.cond rfl (fun h3 => ?_) (fun h3 => ?_)
  ·have hs : t.inK b (k + 1) = t.inK b k ++ [(k : Int)] := by rw [Tb.inK_succ, if_pos (hin.symm.trans h3)]
   refine J.q hX fun b11 => ?_
   refine J.append hX tk 2 6 0 rfl rfl rfl rfl rfl rfl rfl rfl rfl rfl rfl rfl rfl rfl rfl rfl ?_ ?_ (fun _ => rfl) fun a3 c3 => ⟨_, (congrArg (fun z => lset _ 2 (ownA _ _ _ _ _ z)) (cellsI_snoc _ (k : Int)).symm).trans rfl, trivial, ?_⟩
   ·simp only [maxLen]; omega
   ·omega
   rw [← hs, show (t.inK b k).length + 1 = (t.inK b (k + 1)).length from by rw [hs]; simp]
   refine J.q hX fun b12 => ?_
   refine J.nS ((k + 1, a3, c3)) (by dsimp only; omega) (by dsimp only; omega) [0, 1, 2, 3, 4] rfl rfl
  ·have hs : t.inK b (k + 1) = t.inK b k := by rw [Tb.inK_succ, if_neg (by rw [← hin, h3]; simp)]
   rw [← hs]
   refine J.q hX fun b13 => ?_
   refine J.nS ((k + 1, a1, c1)) (by dsimp only; omega) (by dsimp only; omega) [0, 1, 2, 3, 4] rfl rfl
 ·simp only [decide_eq_false_iff_not] at h2
  obtain rfl : k = n := by omega
  refine J.q hX fun b14 => ?_
  refine J.close (f := fun x : Nat × Nat => TbP q t x) x [1, 3, 4] rfl rfl rfl ?_
  refine J.q hX fun b15 => ?_
  refine J.ru hX [1, 2] ?_
  rw [hins]
  exact ⟨a1, c1, rfl, rfl⟩
theorem madeCells_flat (z : Array Value) (n : Nat) : (madeCells z (n * z.size)).toList = (List.replicate n z.toList).flatten := by
 have e0 : ∀ k, (madeCells z k).toList = (List.range k).map fun i => z[i % z.size]! := fun k => by simp [madeCells]
 induction n with
 | zero => rw [e0]; simp
 | succ n ih =>
  rw [e0] at ih ⊢
  rw [Nat.succ_mul, List.range_add, List.map_append, ih, List.replicate_succ', List.flatten_append, List.flatten_singleton]
  congr 1
  apply List.ext_getElem?
  intro i
  rw [List.map_map, List.getElem?_map]
  by_cases h : i < z.size
  ·rw [List.getElem?_range h, Option.map_some]
   simp only [Function.comp, Nat.mul_comm n, Nat.mul_add_mod, Nat.mod_eq_of_lt h]
   rw [Array.getElem?_toList, Array.getElem?_eq_getElem h, getElem!_pos z i h]
  ·rw [List.getElem?_eq_none (by rw [List.length_range]; omega), Option.map_none, List.getElem?_eq_none (by rw [Array.length_toList]; omega)]
section
variable {X : Cx} {P : Program} {K : List KI} {E : Env} {L : List Atom} {N : Nat} {F : HP} {Post : Value → List Atom → Prop} {rs : List ResultVar}
theorem J.makeMany {T : Tab} (hX : IsCx X P rs N F Post) (hT : TabOK P T) {ops : Array Oper} {C : Cl} {lt : Bool} {i : Nat} {t : PT} {o : Oper} {g : G} {st e by_ size : Nat} {x y : Operand} {k1 k2 t1 t2 n s1 b1 : Nat} {kl kc : IntKind} {g1 g2 : G} {z1 z : List Value} {td : TD} {E' : Value → Env} {L2 : Nat → List Atom} (tag : Nat)
  (ho : lget ops.toList i = some o) (hg : gd ops.toList E o = some g) (hgo : g.on = true) (hop : o.op = .makeSlice st x y) (hx : ev E x = some ⟨k1, .int kl n, t1, g1⟩) (v1 : g1.on = true) (hy : ev E y = some ⟨k2, .int kc n, t2, g2⟩) (v2 : g2.on = true)
  (hst : T.get st = some ⟨.slice e size, s1, z1, b1⟩) (he : T.get e = some ⟨td, size, z, by_⟩) (hzs : Nat.beq z.length size = true) (h63 : n ≤ maxLen) (hbytes : by_ * n ≤ 281474976710656)
  (hL2 : ∀ b, lsnoc nums L (.pt b e (List.replicate n z).flatten) = some (L2 b, tag)) (hd : ∀ v, putE N o.dst v tag .tt E = some (E' v)) (hJ : ∀ b, Conj (staysL lt C (L2 b)) ∧ J X (.reg ops C t :: K) (E' (.slice (some ⟨b, 0, none⟩) n n)) (L2 b)) : J X (.reg ops C (.alt lt i t .non) :: K) E L := by
 refine J.op hX (S := fun v' L' => ∃ b, v' = .slice (some ⟨b, 0, none⟩) n n ∧ L' = L ++ [.pt b e (List.replicate n z).flatten]) tag ho hg hgo (fun a0 w hen hs => ?_) hd (fun v L' ⟨b, e1, e2⟩ => by subst e1; subst e2; rw [← lsnoc_eq (hL2 b)]; exact hJ b)
 have ex := ev_spec hen hx
 have ey := ev_spec hen hy
 simp only [Slot.val, v1, v2] at ex ey
 obtain ⟨d, f, zv, ok⟩ := tiOf_spec (hT.get hst)
 obtain ⟨fe, rfl, g1', g2'⟩ := ok.slice rfl
 obtain ⟨d', f', zv', ok'⟩ := tiOf_spec (hT.get he)
 have hf : fe = f' := by have := g1'.symm.trans ok'.hf; injection this
 subst hf
 have hb2 : (fe.bytes : Int) * (n : Int) ≤ 281474976710656 := by
  rw [← ok'.hbytes]
  have h : ((by_ * n : Nat) : Int) ≤ 281474976710656 := by omega
  rwa [Int.natCast_mul] at h
 have hr := run_make (P := P) w st e fe zv' ok.hd ok'.hf ok'.hz kl kc n n (by omega) (Int.le_refl _) hb2 (by simp [maxLen] at h63; omega)
 have hz : zv'.cells.toList = z := ok'.hzero.symm
 have hs1 : fe.size = size := ok'.hsize.symm
 have hzl : zv'.cells.size = size := by rw [← Array.length_toList, hz]; exact Nat.eq_of_beq_eq_true hzs
 simp only [Int.toNat_natCast, hs1] at hr
 rw [← hzl] at hr
 refine ⟨_, _, .value (.slice (some ⟨w.heap.size, 0, none⟩) n n), w.alloc (.cells (madeCells zv'.cells (n * zv'.cells.size)) e), ⟨w.heap.size, rfl, rfl⟩, ?_, .inl rfl, ?_, ⟨rfl, rfl, rfl, by show w.heap.size ≤ (w.heap.push _).size; simp⟩⟩
 ·simp only [execOp, hop, ex, ey, hr, Sem.run_bind, Result.andThen_ok, Sem.run_pure]
 ·have e1 : Obj.cells (madeCells zv'.cells (n * zv'.cells.size)) e (0, 0) = Obj.cells (List.replicate n z).flatten.toArray e (0, 0) := by
   congr 1; apply Array.toList_inj.1; rw [madeCells_flat, hz]
  show Sep _ (hl { w with heap := w.heap.push (Obj.cells (madeCells zv'.cells (n * zv'.cells.size)) e (0, 0)) })
  rw [e1, hl_push]
  exact hs.snoc (hl_none w) (fun h' hh => hh)
end
end Go.Proofs.YtdocmcapegcoeaaGreat
