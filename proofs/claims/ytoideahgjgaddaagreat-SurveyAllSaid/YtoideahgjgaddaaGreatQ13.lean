/- Helpers of the proofs about ostrakonlaw11, proved here: CmptB, PureR, PureV, Mks, Keep, Wr. No condition. -/
import Derived.Test.YtoideahgjgaddaaGreatQ06
import Derived.Test.YtoideahgjgaddaaGreatQ12
set_option maxRecDepth 20000
set_option linter.unusedVariables false
set_option linter.unusedSimpArgs false
set_option linter.unusedSectionVars false
set_option linter.unnecessarySimpa false
namespace Go.Proofs.YtoideahgjgaddaaGreat
open Go Go.RowKit
theorem compactI_short {l : List Int} (h : l.length < 2) : compactI l = l := by
 match l, h with
 | [], _ => rfl
 | [x], _ => rfl
theorem x_Compact (a : Option Nat) (n cap : Nat) (l : List Int) (hl : l.length = n) (hn : n ≤ 4611686018427387904) : Fn Tryz.prog 49 [slv a n cap] [ownA 3 1 a n cap (cellsI l)]
  (fun v As => ∃ l', l' = compactI l ∧ v = slv a l'.length cap ∧ As = [ownA 3 1 a l'.length cap (cellsI l')]) := by
 refine Fn.enter [0] Tryz.func49 rfl rfl rfl fun X F hX => ?_
 refine J.r hX tk 400 (fun _ => rfl) fun b1 => ?_
 refine J.cond rfl (fun h0 => ?_) (fun h0 => ?_)
 ·simp only [decide_eq_true_eq] at h0
  refine J.r hX tk 400 (fun _ => rfl) fun b2 => ?_
  refine J.rt hX tk [1] rfl rfl rfl ?_
  have hs : compactI l = l := compactI_short (by omega)
  exact ⟨l, hs.symm, by rw [hl], by rw [hl]; rfl⟩
 simp only [decide_eq_false_iff_not] at h0
 cases a with
 | none =>
  refine J.know (fun h' s => (s.get (i := 1) rfl).2.1) fun hn0 => ?_
  omega
 | some g =>
  refine J.openOwn 1 rfl rfl (fun _ => rfl) fun r q1 q2 q3 q4 => ?_
  refine J.r hX tk 400 (fun _ => rfl) fun b3 => ?_
  refine J.lo (α := Nat) (fun k => 1 ≤ k ∧ k ≤ n ∧ l.take k ++ dedFrom (l.getD (k - 1) 0) (l.drop k) = compactI l) (fun k => [⟨3, .int .i64 k, 0, .tt⟩, ⟨0, slv (some g) n cap, 0, .tt⟩]) [] (fun k => []) (fun k => n - k) (1) (⟨by omega, by omega, by cases l with | nil => simp at hl; omega | cons x l => rfl⟩) rfl ?_ (fun _ => rfl) fun k hI => ?_
  ·rfl
  have hget : ∀ e, e < n → (cellsI l ++ r)[e]? = some (.int .i64 (l.getD e 0)) := fun e he => cellsI_at l r e _ (by rw [List.getD_eq_getElem?_getD, List.getElem?_eq_getElem (by omega), Option.getD_some])
  refine J.r hX tk 400 (fun _ => rfl) fun b5 => ?_
  refine J.cond rfl (fun h1 => ?_) (fun h1 => ?_)
  ·simp only [decide_eq_true_eq, Int.ofNat_lt] at h1
   refine J.r hX tk 400 (fun _ => rfl) fun b6 => ?_
   refine J.plan (.of [0,4,8,13,16,20,24,28,33,36]) [] [1] (by rw [hX.hP]; kernel_rfl) (by kernel_rfl) ?_
   refine J.r hX tk 400 (fun _ => rfl) fun b7 => ?_
   refine J.valT hX (.int .i64 (l.getD k 0)) 0 rfl rfl (fun hg a w he hC => ?_) rfl ?_
   ·exact load1_run tk rfl rfl he hg rfl rfl (hC rfl _ (cget_mem (i := 1) rfl)) (by rw [show 0 + (k : Int).toNat * 1 = k from by omega]; exact hget k h1)
   refine J.r hX tk 400 (fun _ => rfl) fun b8 => ?_
   refine J.valT hX (.int .i64 (l.getD (k - 1) 0)) 0 rfl rfl (fun hg a w he hC => ?_) rfl ?_
   ·exact load1_run tk rfl rfl he hg rfl rfl (hC rfl _ (cget_mem (i := 1) rfl)) (by rw [show 0 + ((k : Int) - 1).toNat * 1 = k - 1 from by omega]; exact hget (k - 1) (by omega))
   refine J.r hX tk 400 (fun _ => rfl) fun b9 => ?_
   refine J.cond rfl (fun h2 => ?_) (fun h2 => ?_)
   ·simp only [beq_iff_eq] at h2
    refine J.r hX tk 400 (fun _ => rfl) fun b10 => ?_
    rw [show (k : Int).toNat = k from Int.toNat_natCast k]
    refine J.r hX tk 400 (fun _ => rfl) fun b11 => ?_
    refine J.lo (α := (Nat × Nat × List Int)) (fun z => CpI l z.2.2 z.1 (k + z.2.1) ∧ 1 ≤ z.2.1) (fun z => [⟨5, .int .i64 z.2.1, 0, .tt⟩, ⟨4, .slice (some ⟨g, 0 + k * 1, none⟩) (n - k) (cap - k), 0, .tt⟩, ⟨3, .int .i64 z.1, 0, .tt⟩, ⟨0, slv (some g) n cap, 0, .tt⟩]) [1] (fun z => [.pt g 3 (cellsI z.2.2 ++ r)]) (fun z => n - z.2.1) ((k, 1, l)) (⟨CpI.start hI.1 (by omega) hI.2.2 h2, Nat.le_refl _⟩) rfl ?_ (fun _ => rfl) fun z hI => ?_
    ·rfl
    obtain ⟨kk, q, m⟩ := z
    dsimp only at hI ⊢
    obtain ⟨hI, hq⟩ := hI
    have hml : m.length = n := hI.1.trans hl
    have hc1 := hI.2.1
    have hc2 := hI.2.2.1
    have hc3 := hI.2.2.2.1
    have hgm : ∀ e, e < n → (cellsI m ++ r)[e]? = some (.int .i64 (m.getD e 0)) := fun e he => cellsI_at m r e _ (by rw [List.getD_eq_getElem?_getD, List.getElem?_eq_getElem (by omega), Option.getD_some])
    refine J.r hX tk 400 (fun _ => rfl) fun b12 => ?_
    refine J.cond rfl (fun h3 => ?_) (fun h3 => ?_)
    ·simp only [decide_eq_true_eq, Int.ofNat_lt] at h3
     have hgj := hI.get (k + q) (by omega)
     have hgj1 := hI.get (k + q - 1) (by omega)
     have h3' : k + q < n := by omega
     refine J.r hX tk 400 (fun _ => rfl) fun b13 => ?_
     refine J.plan (.of [0,4,8,13,16,20,24,28,33,36]) [] [1] (by rw [hX.hP]; kernel_rfl) (by kernel_rfl) ?_
     refine J.r hX tk 400 (fun _ => rfl) fun b14 => ?_
     refine J.valT hX (.int .i64 (m.getD (k + q) 0)) 0 rfl rfl (fun hg a w he hC => ?_) rfl ?_
     ·exact load1_run tk rfl rfl he hg rfl rfl (hC rfl _ (cget_mem (i := 1) rfl)) (by rw [show 0 + k * 1 + (q : Int).toNat * 1 = k + q from by omega]; exact hgm _ h3')
     refine J.r hX tk 400 (fun _ => rfl) fun b15 => ?_
     refine J.valT hX (.int .i64 (m.getD (k + q - 1) 0)) 0 rfl rfl (fun hg a w he hC => ?_) rfl ?_
     ·exact load1_run tk rfl rfl he hg rfl rfl (hC rfl _ (cget_mem (i := 1) rfl)) (by rw [show 0 + k * 1 + ((q : Int) - 1).toNat * 1 = k + q - 1 from by omega]; exact hgm _ (by omega))
     refine J.r hX tk 400 (fun _ => rfl) fun b16 => ?_
     refine J.cond rfl (fun h4 => ?_) (fun h4 => ?_)
     ·simp only [bne_iff_ne, ne_eq, hgj, hgj1] at h4
      refine J.r hX tk 400 (fun _ => rfl) fun b17 => ?_
      refine J.val hX (.int .i64 (m.getD (k + q) 0)) 0 rfl rfl (fun hg a w he hw => ?_) rfl trivial ?_
      ·exact load1_run tk rfl rfl he rfl rfl rfl (hw.get (i := 1) rfl) (by rw [show 0 + k * 1 + (q : Int).toNat * 1 = k + q from by omega]; exact hgm _ h3')
      refine J.r hX tk 400 (fun _ => rfl) fun b18 => ?_
      refine J.store1 hX tk 1 rfl rfl rfl rfl rfl rfl rfl rfl rfl rfl rfl rfl rfl ?_ (cellsI (m.set kk (l.getD (k + q) 0)) ++ r) ?_ rfl (fun _ => rfl) ⟨trivial, ?_⟩
      ·rw [List.length_append, cellsI_len]; show 0 + (kk : Int).toNat * 1 < _; omega
      ·rw [show 0 + (kk : Int).toNat * 1 = kk from by omega, hgj]; exact cellsI_set m r kk _ (by omega)
      refine J.r hX tk 400 (fun _ => rfl) fun b19 => ?_
      refine J.nS ((kk + 1, q + 1, m.set kk (l.getD (k + q) 0))) (⟨hI.keep (by omega) h4, by dsimp only; omega⟩) (by dsimp only; omega) [0, 1] rfl rfl
     ·simp only [bne_eq_false_iff_eq, hgj, hgj1] at h4
      refine J.r hX tk 400 (fun _ => rfl) fun b20 => ?_
      refine J.nS ((kk, q + 1, m)) (⟨hI.skip (by omega) h4, by dsimp only; omega⟩) (by dsimp only; omega) [0, 1] rfl rfl
    ·simp only [decide_eq_false_iff_not, Int.ofNat_lt] at h3
     have hj : k + q = n := by omega
     have hfin : m.take kk = compactI l := by
      have h6 := hI.2.2.2.2.2
      rw [List.drop_of_length_le (by omega)] at h6
      simpa [dedFrom] using h6
     refine J.r hX tk 400 (fun _ => rfl) fun b21 => ?_
     refine J.clear hX tk 1 rfl rfl rfl rfl rfl rfl rfl rfl rfl rfl rfl ?_ (fun _ => rfl) (fun _ => rfl) fun cs' z1 z2 => ⟨trivial, ?_⟩
     ·rw [List.length_append, cellsI_len]; rw [cellsI_len] at q4
      show 0 + (kk : Int).toNat * 1 + (n - (kk : Int).toNat) * 1 ≤ _
      omega
     have hklen : (compactI l).length = kk := by rw [← hfin, List.length_take]; omega
     refine J.closeOwn (e := 3) (size := 1) (n := kk) (cap := cap) (xs := cellsI (compactI l)) 1 rfl rfl (by rw [cellsI_len, hklen, Nat.mul_one]) (by omega) q3 (by rw [z1, List.length_append, cellsI_len, hml]; rw [cellsI_len, hl] at q4; exact q4) ?_ rfl ?_
     ·have z3 : (0 + (kk : Int).toNat * 1) = kk := by omega
      rw [z3] at z2
      rw [Nat.mul_one, z2, List.take_append_of_le_length (by rw [cellsI_len]; omega), ← hfin, cellsI, cellsI, List.map_take]
     refine J.r hX tk 400 (fun _ => rfl) fun b22 => ?_
     refine J.rt hX tk [1] rfl rfl rfl ?_
     exact ⟨_, rfl, by rw [hklen]; rfl, by rw [hklen]; rfl⟩
   ·simp only [beq_eq_false_iff_ne, ne_eq] at h2
    refine J.r hX tk 400 (fun _ => rfl) fun b23 => ?_
    refine J.nx (k + 1) (⟨by omega, by omega, by rw [Nat.add_sub_cancel]; exact ded_at hI.1 (by omega) hI.2.2 h2⟩) (by omega) (fun _ s => s)
  ·simp only [decide_eq_false_iff_not, Int.ofNat_lt] at h1
   obtain rfl : k = n := by omega
   have hs : compactI l = l := by
    have := hI.2.2
    rw [List.take_of_length_le (by omega), List.drop_of_length_le (by omega)] at this
    simpa [dedFrom] using this.symm
   refine J.closeOwn (e := 3) (size := 1) (n := k) (cap := cap) (xs := cellsI l) 1 rfl rfl q1 q2 q3 (by rw [List.length_append]; exact q4) (by rw [List.take_left' q1]) rfl ?_
   refine J.r hX tk 400 (fun _ => rfl) fun b24 => ?_
   refine J.rt hX tk [1] rfl rfl rfl ?_
   exact ⟨l, hs.symm, by rw [hl], by rw [hl]; rfl⟩
end Go.Proofs.YtoideahgjgaddaaGreat
namespace Go.Proofs.YtoideahgjgaddaaGreat
open Go
def En.zero : En := ⟨0, 0, 0, zeros16⟩
def Sh.en (s : Sh) : En := ⟨s.lpn, s.seq, s.role, s.data⟩
namespace W
def alien (p s : Sh) : Bool := s.kind != 1 || !S.may s || s.block != p.block || s.row != p.row || s.mask != p.mask
def backS (p : Sh) (l : List Sh) : En :=
 let x := over (l ++ [p])
 ⟨(x.2.toNat / 1099511627776 % 65536 : Nat), (x.2.toNat % 1099511627776 : Nat), (x.2.toNat / 72057594037927936 : Nat), x.1⟩
def backB (p : Sh) (l : List Sh) : Bool := p.kind == 2 && S.may p && !l.any (alien p) && decide ((l.length : Int) = G.slots p.mask - 1) && ok p.block p.row p.mask (backS p l)
def back (p : Sh) (l : List Sh) : En := if backB p l then backS p l else En.zero
end W
structure Fd where
 slots : List Sh
 good : List Bool
 parity : Sh
 whole : Bool
structure Fnd where
 en : En
 block : Int
 row : Int
 slot : Int
 mask : Int
 whole : Bool
 mended : Bool
namespace M
def maskOf (x : Sh × Int) : Option Int := if x.2 = 1 then some x.1.mask else none
def masks (N : Nand) (b r : Int) : List Int := compactI (isortL ((rowN N b r N.dies).filterMap maskOf))
end M
namespace R
def job (b r m : Int) (l : List En) : List (Int × Sh) := (List.range l.length).map (fun k => (G.die m b r (k : Nat), W.sh b r m (l.getD k En.zero))) ++ [(G.parity m b r, W.parS b r m l)]
def go (b r : Int) : List (Int × Sh) → Nand → Int → Nand × Int × Int
 | [], N, f => (N, f, if f = 0 then 0 else 7)
 | (d, s) :: q, N, f =>
  if N.progE d b r = 0 then go b r q (N.progN d b r (putP s)) f
  else if N.progE d b r = 9 then (N.progN d b r (putP s), f, 9)
  else go b r q (N.progN d b r (putP s)) (L.with_ f d)
def write (N : Nand) (b r m : Int) (l : List En) : Nand × Int × Int := if W.parB b r m l then go b r (job b r m l) N 0 else (N, 0, 1)
def one (N : Nand) (b r m d : Int) : Sh × Bool := ((M.look N d b r).1, (M.look N d b r).2 == 1 && (M.look N d b r).1.mask == m)
def ones (N : Nand) (b r m : Int) (k : Nat) : List (Sh × Bool) := (List.range k).map fun i : Nat => one N b r m (G.die m b r i)
def look (N : Nand) (b r m : Int) : Fd := ⟨(ones N b r m (G.slots m).toNat).map (·.1), (ones N b r m (G.slots m).toNat).map (·.2), (one N b r m (G.parity m b r)).1, (one N b r m (G.parity m b r)).2⟩
def rest (f : Fd) (k : Nat) : Bool := (List.range f.slots.length).all fun i => i == k || f.good.getD i false
def mendB (f : Fd) (k : Nat) : Bool := rest f k && f.whole && W.backB f.parity (f.slots.eraseIdx k)
def mend (f : Fd) (k : Nat) : En := if rest f k && f.whole then W.back f.parity (f.slots.eraseIdx k) else En.zero
def read (N : Nand) (b r s m : Int) : En × Int :=
 if G.die m b r s < 0 ∨ geoIn N.dies N.blocks N.pages 0 b r = false then (En.zero, 3)
 else if N.off then (En.zero, 9)
 else if (look N b r m).good.getD s.toNat false then (((look N b r m).slots.getD s.toNat Sh.zero).en, 0)
 else if mendB (look N b r m) s.toNat then (mend (look N b r m) s.toNat, 0) else (En.zero, 10)
def enAt (f : Fd) (k : Nat) : En := if f.good.getD k false then (f.slots.getD k Sh.zero).en else mend f k
def okAt (f : Fd) (k : Nat) : Bool := f.good.getD k false || mendB f k
def fnd (f : Fd) (b r m : Int) (k : Nat) : Option Fnd := if okAt f k && (enAt f k).role != 3 then some ⟨enAt f k, b, r, k, m, f.whole, !(f.good.getD k false)⟩ else none
def allM (N : Nand) (b r m : Int) : List Fnd := (List.range (look N b r m).slots.length).filterMap (fnd (look N b r m) b r m)
def all (N : Nand) (b r : Int) : List Fnd := (M.masks N b r).flatMap (allM N b r)
end R
theorem look_len (N : Nand) (b r m : Int) : (R.look N b r m).slots.length = (G.slots m).toNat ∧ (R.look N b r m).good.length = (G.slots m).toNat := by simp [R.look, R.ones]
theorem mlook_len {N : Nand} (hN : N.Ok) (x y z : Int) : (M.look N x y z).1.data.length = 16 := by
 have hz : Sh.zero.data.length = 16 := rfl
 unfold M.look
 dsimp only
 split
 ·split
  ·exact hz
  ·exact getV_len _ (readV_len hN x y z)
 ·split
  ·exact hz
  ·split <;> exact hz
end Go.Proofs.YtoideahgjgaddaaGreat
namespace Go.Proofs.YtoideahgjgaddaaGreat
structure AtV where
 block : Int
 row : Int
 slot : Int
 mask : Int
 seq : Int
 role : Int
 deriving DecidableEq
def AtV.zero : AtV := ⟨0, 0, 0, 0, 0, 0⟩
structure Tb where
 logical : Int
 at_ : List (Int × AtV)
 cnt : List (Int × Int)
 next : Int
namespace Tb
def look {α : Type} : List (Int × α) → Int → Option α
 | [], _ => none
 | x :: l, k => if k = x.1 then some x.2 else look l k
def put1 {α : Type} : List (Int × α) → Int → α → List (Int × α)
 | [], k, v => [(k, v)]
 | x :: l, k, v => if k = x.1 then (k, v) :: l else x :: put1 l k v
def new (n : Int) : Tb := ⟨min (max n 0) 65536, [], [], 1⟩
def count (t : Tb) (b : Int) : Int := (look t.cnt b).getD 0
def ok (t : Tb) (e : En) : Bool := !(decide (e.lpn < 0) || decide (e.lpn ≥ t.logical) || (e.role != 1 && e.role != 2 && e.role != 4))
def elder (t : Tb) (e : En) : Bool := match look t.at_ e.lpn with
 | some a => decide (e.seq < a.seq)
 | none => false
def cnt1 (t : Tb) (e : En) : List (Int × Int) := match look t.at_ e.lpn with
 | some a => put1 t.cnt a.block (t.count a.block - 1)
 | none => t.cnt
def cnt2 (t : Tb) (e : En) (b : Int) : List (Int × Int) := put1 (cnt1 t e) b ((look (cnt1 t e) b).getD 0 + 1)
def putB (t : Tb) (e : En) : Bool := ok t e && !elder t e
def put (t : Tb) (e : En) (b r s m : Int) : Tb := if putB t e then ⟨t.logical, put1 t.at_ e.lpn ⟨b, r, s, m, e.seq, e.role⟩, cnt2 t e b, if e.seq ≥ t.next then e.seq + 1 else t.next⟩ else t
def inB (t : Tb) (b : Int) (i : Int) : Bool := match look t.at_ i with
 | some a => a.block == b
 | none => false
def inK (t : Tb) (b : Int) (k : Nat) : List Int := ((List.range k).filter fun i : Nat => inB t b i).map fun i : Nat => (i : Int)
theorem inK_succ (t : Tb) (b : Int) (k : Nat) : inK t b (k + 1) = if inB t b k then inK t b k ++ [(k : Int)] else inK t b k := by
 unfold inK
 rw [List.range_succ, List.filter_append, List.map_append]
 cases h : inB t b k <;> simp [h]
theorem inK_len (t : Tb) (b : Int) (k : Nat) : (inK t b k).length ≤ k := by
 unfold inK
 rw [List.length_map]
 exact Nat.le_trans (List.length_filter_le _ _) (by rw [List.length_range]; exact Nat.le_refl _)
def ins (t : Tb) (b : Int) : List Int := if t.count b = 0 then [] else inK t b t.logical.toNat
theorem look_put1 {α : Type} (k : Int) (v : α) (j : Int) : ∀ l : List (Int × α), look (put1 l k v) j = if j = k then some v else look l j
 | [] => by simp only [put1, look]
 | x :: l => by
  simp only [put1]
  by_cases h : k = x.1
  ·rw [if_pos h]
   simp only [look]
   by_cases h2 : j = k
   ·rw [if_pos h2, if_pos h2]
   ·rw [if_neg h2, if_neg h2, if_neg (fun e => h2 (e.trans h.symm))]
  ·rw [if_neg h]
   simp only [look]
   by_cases h2 : j = x.1
   ·rw [if_pos h2, if_pos h2, if_neg (fun e => h (e.symm.trans h2))]
   ·rw [if_neg h2, if_neg h2, look_put1 k v j l]
end Tb
namespace V
def behind (a b : Fnd) : Bool := if a.en.seq ≠ b.en.seq then decide (a.en.seq < b.en.seq) else b.whole && !a.whole
def topsStep (out : List Fnd) (f : Fnd) : List Fnd := match out with
 | [] => [f]
 | h :: t => if behind h f then [f] else if behind f h then h :: t else h :: t ++ [f]
def tops (l : List Fnd) : List Fnd := l.foldl topsStep []
def all (N : Nand) : List Fnd := (List.range N.blocks).flatMap fun b => (List.range N.pages).flatMap fun r => R.all N (b : Nat) (r : Nat)
def of (l : List Fnd) (k : Int) : List Fnd := l.filter fun f => f.en.lpn == k
def holds (l : List Fnd) : List Int := (tops (l.filter fun f => f.whole)).map (·.block)
def blankRow (N : Nand) (b r : Int) : Bool := (M.rowN N b r N.dies).all fun x => x.2 == 2 || x.2 == 4
def last (N : Nand) (f : Fnd) : Bool := ((List.range N.pages).all fun r : Nat => decide ((r : Int) ≤ f.row) || blankRow N f.block r) && (M.look N (G.parity f.mask f.block f.row) f.block f.row).2 != 4
end V
end Go.Proofs.YtoideahgjgaddaaGreat
namespace Go.Proofs.YtoideahgjgaddaaGreat
open Go Go.RowKit
def mk0 (N : Nand) (b r : Int) (k : Nat) : List Int := ((M.rowN N b r N.dies).take k).filterMap M.maskOf
theorem rowN_at (N : Nand) (b r : Int) (n k : Nat) (h : k < n) : (M.rowN N b r n)[k]? = some (M.look N (k : Nat) b r) := by simp [M.rowN, h]
theorem mk0_succ (N : Nand) (b r : Int) (k : Nat) (h : k < N.dies) : mk0 N b r (k + 1) = mk0 N b r k ++ (M.maskOf (M.look N (k : Nat) b r)).toList := by
 unfold mk0
 rw [List.take_add_one, rowN_at N b r _ k h, List.filterMap_append]
 congr 1
theorem mk0_len (N : Nand) (b r : Int) (k : Nat) : (mk0 N b r k).length ≤ k := by
 refine Nat.le_trans (List.length_filterMap_le _ _) ?_
 rw [List.length_take]; omega
theorem cellsI_get {l : List Int} {k : Nat} {x : Int} (h : l[k]? = some x) : (cellsI l)[k]? = some (.int .i64 x) := by simp [cellsI, h]
theorem cellsS_get {l : List Sh} {k : Nat} {x : Sh} (h : l[k]? = some x) : ((cellsS l).drop (k * 23)).take 23 = shL x := by
 have := cellsS_at l [] k x h; rwa [List.append_nil] at this
theorem m_Masks (p : Nat) (N : Nand) (hN : N.Ok) (hR : N.Room) (b r : Int) : Fn Tryz.prog 84 [.pointer (some ⟨p, 0, none⟩), .int .i64 b, .int .i64 r] [NandA p N]
  (fun v As => ∃ a c, v = slv a (M.masks N b r).length c ∧ As = [NandA p N, ownA 3 1 a (M.masks N b r).length c (cellsI (M.masks N b r))]) := by
 have hbd := hN.bd
 refine Fn.enter [2, 0, 0] Tryz.func84 rfl rfl rfl fun X F hX => ?_
 refine J.r hX tk 400 (fun _ => rfl) fun b1 => ?_
 refine J.ca hX (by kernel_rfl) (m_Row p N hN hR b r) [1] 0 rfl rfl rfl rfl rfl rfl (fun _ => rfl) ?_
 rintro v As ⟨a1, c1, a2, c2, rfl, rfl⟩
 refine ⟨_, rfl, trivial, ?_⟩
 refine J.turn1 [] rfl (As := [ownA 3 1 none 0 0 (cellsI (mk0 N b r 0))]) (fun h s => Sep.one ⟨rfl, rfl, rfl⟩) rfl ?_
 refine J.r hX tk 400 (fun _ => rfl) fun b3 => ?_
 refine J.lo (α := (Nat × Option Nat × Nat)) (fun z => z.1 ≤ N.dies) (fun z => [⟨21, .int .i64 z.1, 0, .tt⟩, ⟨20, .int .i64 N.dies, 0, .tt⟩, ⟨19, slv a1 N.dies c1, 0, .tt⟩, ⟨9, slv a2 N.dies c2, 0, .tt⟩, ⟨7, slv z.2.1 (mk0 N b r z.1).length z.2.2, 0, .tt⟩]) [4] (fun z => [ownA 3 1 z.2.1 (mk0 N b r z.1).length z.2.2 (cellsI (mk0 N b r z.1))]) (fun z => N.dies - z.1) ((0, none, 0)) (Nat.zero_le _) rfl ?_ (fun _ => rfl) fun z hI => ?_
 ·rfl
 obtain ⟨k, a3, c3⟩ := z
 dsimp only at hI ⊢
 have hml := mk0_len N b r k
 refine J.r hX tk 400 (fun _ => rfl) fun b5 => ?_
 refine J.cond rfl (fun h1 => ?_) (fun h1 => ?_)
 ·simp only [decide_eq_true_eq, Int.ofNat_lt] at h1
  refine J.know (fun h' s => own_some (c := (a1, c1)) (by omega) (s.get (i := 2) rfl)) fun hg => ?_
  obtain ⟨g1, rfl⟩ := hg
  refine J.know (fun h' s => own_some (c := (a2, c2)) (by omega) (s.get (i := 3) rfl)) fun hg => ?_
  obtain ⟨g2, rfl⟩ := hg
  have hat := rowN_at N b r _ k h1
  refine J.r hX tk 400 (fun _ => rfl) fun b6 => ?_
  refine J.val hX (shV (M.look N (k : Nat) b r).1) 0 rfl rfl (fun hg a w he hs => ?_) rfl trivial ?_
  ·exact ownN_run tk rfl rfl he rfl rfl rfl (hs.get (i := 2) rfl) (by rw [show 0 + (k : Int).toNat * 23 = k * 23 from by omega]; exact cellsS_get (by rw [List.getElem?_map, hat]; rfl)) rfl
  refine J.r hX tk 400 (fun _ => rfl) fun b7 => ?_
  refine J.val hX (.int .i64 (M.look N (k : Nat) b r).2) 0 rfl rfl (fun hg a w he hs => ?_) rfl trivial ?_
  ·exact own1_run tk rfl rfl he rfl rfl rfl (hs.get (i := 3) rfl) (by rw [show 0 + (k : Int).toNat * 1 = k from by omega]; exact cellsI_get (by rw [List.getElem?_map, hat]; rfl))
  refine J.r hX tk 400 (fun _ => rfl) fun b8 => ?_
  refine J.cond rfl (fun h2 => ?_) (fun h2 => ?_)
  ·simp only [beq_iff_eq] at h2
   have hs : mk0 N b r (k + 1) = mk0 N b r k ++ [(M.look N (k : Nat) b r).1.mask] := by rw [mk0_succ N b r k h1, M.maskOf, if_pos h2]; rfl
   have hl : (mk0 N b r k).length + 1 = (mk0 N b r (k + 1)).length := by rw [hs]; simp
   refine J.r hX tk 400 (fun _ => rfl) fun b9 => ?_
   refine J.append hX tk 4 6 0 rfl rfl rfl rfl rfl rfl rfl rfl rfl rfl rfl rfl rfl rfl rfl rfl ?_ ?_ (fun _ => rfl) fun a4 c4 => ⟨_, (congrArg (fun z => lset _ 4 (ownA _ _ _ _ _ z)) ((cellsI_snoc _ _).symm.trans (congrArg cellsI hs.symm))).trans rfl, trivial, ?_⟩
   ·simp only [maxLen]; omega
   ·omega
   rw [hl]
   refine J.r hX tk 400 (fun _ => rfl) fun b10 => ?_
   refine J.nS ((k + 1, a4, c4)) (by dsimp only; omega) (by dsimp only; omega) [0, 1, 2, 3, 4] rfl rfl
  ·simp only [beq_eq_false_iff_ne, ne_eq] at h2
   have hs : mk0 N b r k = mk0 N b r (k + 1) := by rw [mk0_succ N b r k h1, M.maskOf, if_neg h2]; simp
   rw [hs]
   refine J.r hX tk 400 (fun _ => rfl) fun b11 => ?_
   refine J.nS ((k + 1, a3, c3)) (by dsimp only; omega) (by dsimp only; omega) [0, 1, 2, 3, 4] rfl rfl
 ·simp only [decide_eq_false_iff_not, Int.ofNat_lt] at h1
  obtain rfl : k = N.dies := by omega
  have hall : mk0 N b r N.dies = (M.rowN N b r N.dies).filterMap M.maskOf := by
   unfold mk0; rw [List.take_of_length_le (by simp [M.rowN])]
  refine J.r hX tk 400 (fun _ => rfl) fun b12 => ?_
  refine J.ca hX (by kernel_rfl) (s_SortInts a3 (mk0 N b r N.dies).length c3 (mk0 N b r N.dies) rfl (by omega)) [4] 0 rfl rfl rfl rfl rfl rfl (fun _ => rfl) ?_
  rintro v As ⟨rfl, rfl⟩
  refine ⟨_, rfl, trivial, ?_⟩
  refine J.r hX tk 400 (fun _ => rfl) fun b14 => ?_
  refine J.ca hX (by kernel_rfl) (x_Compact a3 (mk0 N b r N.dies).length c3 (isortL (mk0 N b r N.dies)) (isortL_len _) (by omega)) [4] 0 rfl rfl rfl rfl rfl rfl (fun _ => rfl) ?_
  rintro v As ⟨l', hl', rfl, rfl⟩
  refine ⟨_, rfl, trivial, ?_⟩
  have he : l' = M.masks N b r := by rw [hl', hall]; rfl
  subst he
  refine J.r hX tk 400 (fun _ => rfl) fun b16 => ?_
  refine J.rt hX tk [1, 4] rfl rfl rfl ?_
  exact ⟨a3, c3, rfl, rfl⟩
end Go.Proofs.YtoideahgjgaddaaGreat
namespace Go.Proofs.YtoideahgjgaddaaGreat
structure Nand.Gd (N : Nand) (k m : Nat) : Prop where
 ok : N.Ok
 ops : N.ops + k < 4611686018427387904
 broken : N.broken + k < 4611686018427387904
 nodup : N.plan.Nodup
 few : N.plan.length ≤ m
namespace Nand
variable {N : Nand} {k m : Nat}
theorem Gd.room (h : N.Gd k m) : N.Room := ⟨by have := h.ops; omega, by have := h.broken; omega⟩
theorem Gd.less (h : N.Gd k m) {k' m' : Nat} (hk : k' ≤ k) (hm : m ≤ m') : N.Gd k' m' := ⟨h.ok, by have := h.ops; omega, by have := h.broken; omega, h.nodup, by have := h.few; omega⟩
theorem Ok.setBlk (h : N.Ok) (i j : Nat) (B : NBlock) (h1 : B.cells.length ≤ N.pages) (h2 : ∀ c ∈ B.cells, c.p.length = 32) (h3 : 0 ≤ B.worn ∧ B.worn ≤ N.ops) : (N.setBlk i j B).Ok := by
 refine ⟨h.geo, h.dead, fun a b ha hb => ?_, ⟨h.num.1, h.num.2.1, fun a b => ?_⟩, h.lft, h.lf2, h.kp⟩
 ·show (if a = i ∧ b = j then B else N.blk a b).cells.length ≤ N.pages ∧ ∀ c ∈ (if a = i ∧ b = j then B else N.blk a b).cells, c.p.length = 32
  split
  ·exact ⟨h1, h2⟩
  ·exact h.cells a b ha hb
 ·show 0 ≤ (if a = i ∧ b = j then B else N.blk a b).worn ∧ (if a = i ∧ b = j then B else N.blk a b).worn ≤ N.ops
  split
  ·exact h3
  ·exact h.num.2.2 a b
theorem Ok.cutN (h : N.Ok) : N.cutN.Ok := by
 have h1 := h.num
 have h2 := h.lft
 have h3 := h.lf2
 refine ⟨h.geo, h.dead, h.cells, ⟨by show 0 ≤ N.ops + 1; omega, h1.2.1, fun a b => ⟨(h1.2.2 a b).1, by show _ ≤ N.ops + 1; have := (h1.2.2 a b).2; exact Int.le_trans this (by omega)⟩⟩, fun hc => ?_, ?_, h.kp⟩
 ·have hc : (if N.cutB then false else N.cuts) = true := hc
  show 0 ≤ (if N.cuts then N.left - 1 else N.left) ∧ (if N.cuts then N.left - 1 else N.left) ≤ 9223372036854775807
  split at hc
  ·cases hc
  ·rename_i hb
   simp [cutB, hc] at hb
   have := h2 hc
   rw [if_pos hc]; omega
 ·show -9223372036854775807 ≤ (if N.cuts then N.left - 1 else N.left) ∧ (if N.cuts then N.left - 1 else N.left) ≤ 9223372036854775807
  split
  ·rename_i hc; have := h2 hc; omega
  ·exact h3
theorem Ok.push (h : N.Ok) (i j : Nat) (c : NCell) (h1 : (N.blk i j).cells.length < N.pages) (h2 : c.p.length = 32) (hi : i < N.dies) (hj : j < N.blocks) : (N.push i j c).Ok := by
 refine h.setBlk i j _ ?_ ?_ (h.num.2.2 i j)
 ·simp; omega
 ·intro x hx
  simp only [List.mem_append, List.mem_singleton] at hx
  rcases hx with hx | hx
  ·exact (h.cells i j hi hj).2 x hx
  ·rw [hx]; exact h2
theorem Ok.plan (h : N.Ok) (l : List A3') : Ok { N with plan := l } := ⟨h.geo, h.dead, h.cells, h.num, h.lft, h.lf2, h.kp⟩
theorem fillP_len (k : Nat) (p : List UInt8) (h : p.length = 32) (hk : k ≤ 32) : (fillP k p).length = 32 := by simp [fillP, h]; omega
theorem Ok.prog (h : N.Ok) (x y z : Int) (pg : List UInt8) (hp : pg.length = 32) : (N.progN x y z pg).Ok := by
 unfold progN
 split
 ·exact h
 ·rename_i h0
  simp only [ne_eq, Decidable.not_not] at h0
  obtain ⟨_, _, hr⟩ := refuses_zero h0
  split
  ·exact ⟨h.geo, h.dead, h.cells, ⟨h.num.1, by show 0 ≤ N.broken + 1; have := h.num.2.1; omega, h.num.2.2⟩, h.lft, h.lf2, h.kp⟩
  ·rename_i h1
   simp only [ne_eq, Decidable.not_not] at h1
   have hlt : (N.blk x.toNat y.toNat).cells.length < N.pages := by omega
   have hi : x.toNat < N.dies := by omega
   have hj : y.toNat < N.blocks := by omega
   split
   ·exact h.cutN.push _ _ _ hlt (fillP_len _ _ hp (by have := h.kp; omega)) hi hj
   ·exact (h.cutN.plan _).push _ _ _ hlt hp hi hj
theorem Gd.prog (h : N.Gd (k + 1) m) (x y z : Int) (pg : List UInt8) (hp : pg.length = 32) : (N.progN x y z pg).Gd k m := by
 have h1 := h.ops
 have h2 := h.broken
 refine ⟨h.ok.prog x y z pg hp, ?_, ?_, ?_, ?_⟩
 ·unfold progN
  split
  ·omega
  ·split
   ·show N.ops + _ < _; omega
   ·split <;> (show N.ops + 1 + (k : Int) < _; omega)
 ·unfold progN
  split
  ·omega
  ·split
   ·show N.broken + 1 + (k : Int) < _; omega
   ·split <;> (show N.broken + (k : Int) < _; omega)
 ·unfold progN
  split
  ·exact h.nodup
  ·split
   ·exact h.nodup
   ·split
    ·exact h.nodup
    ·exact h.nodup.erase _
 ·have h3 := h.few
  unfold progN
  split
  ·exact h3
  ·split
   ·exact h3
   ·split
    ·exact h3
    ·show (N.plan.erase _).length ≤ m
     rw [List.length_erase]; split <;> omega
theorem Ok.erase (h : N.Ok) (x y : Int) : (N.eraseN x y).Ok := by
 unfold eraseN
 dsimp only
 split
 ·exact h
 ·rename_i h0
  simp only [ne_eq, Decidable.not_not] at h0
  obtain ⟨_, _, hr⟩ := refuses_zero h0
  have hi : x.toNat < N.dies := by omega
  have hj : y.toNat < N.blocks := by omega
  have hc := h.cells _ _ hi hj
  split
  ·refine h.cutN.setBlk _ _ _ ?_ ?_ (h.cutN.num.2.2 _ _)
   ·show _ ≤ N.pages
    simp; omega
   ·intro c hcm
    simp only [List.mem_map, List.mem_append, List.mem_replicate] at hcm
    obtain ⟨a, ha, rfl⟩ := hcm
    rcases ha with ha | ha
    ·exact hc.2 a ha
    ·rw [ha.2]; rfl
  ·split
   ·exact h.cutN.setBlk _ _ _ hc.1 hc.2 (h.cutN.num.2.2 _ _)
   ·refine (h.cutN.setBlk _ _ _ (by simp) (by simp) ?_).plan _
    show 0 ≤ (N.blk x.toNat y.toNat).worn + 1 ∧ (N.blk x.toNat y.toNat).worn + 1 ≤ N.ops + 1
    have := h.num.2.2 x.toNat y.toNat
    omega
theorem Gd.erase (h : N.Gd (k + 1) m) (x y : Int) : (N.eraseN x y).Gd k m := by
 have h1 := h.ops
 have h2 := h.broken
 refine ⟨h.ok.erase x y, ?_, ?_, ?_, ?_⟩
 ·unfold eraseN
  dsimp only
  split
  ·omega
  ·(repeat' split) <;> (show N.ops + 1 + (k : Int) < _; omega)
 ·unfold eraseN
  dsimp only
  split
  ·omega
  ·(repeat' split) <;> (show N.broken + (k : Int) < _; omega)
 ·unfold eraseN
  dsimp only
  (repeat' split) <;> first | exact h.nodup | exact h.nodup.filter _
 ·have h3 := h.few
  unfold eraseN
  dsimp only
  (repeat' split) <;> first | exact h3 | exact Nat.le_trans (List.length_filter_le _ _) h3
theorem xorAt_len (p : List UInt8) (n : Nat) (x : UInt8) : (xorAt p n x).length = p.length := by simp [xorAt]
theorem Ok.setCell (h : N.Ok) (x y z : Int) (f : NCell → NCell) (hf : ∀ c, (f c).p.length = c.p.length) (hi : x.toNat < N.dies) (hj : y.toNat < N.blocks) : (N.setCell x y z f).Ok := by
 have hc := h.cells _ _ hi hj
 refine h.setBlk _ _ _ (by simpa using hc.1) ?_ (h.num.2.2 _ _)
 intro c hm
 obtain ⟨i, hi', rfl⟩ := List.mem_iff_getElem.1 hm
 simp only [List.length_modify] at hi'
 rw [List.getElem_modify]
 split
 ·rw [hf]; exact hc.2 _ (List.getElem_mem _)
 ·exact hc.2 _ (List.getElem_mem _)
theorem Ok.fault (h : N.Ok) (kind x y z n xx : Int) : (N.fault kind x y z n xx).2.Ok := by
 unfold Nand.fault
 split
 ·exact h
 ·rename_i h0
  have hr : 0 ≤ x ∧ x < N.dies ∧ 0 ≤ y ∧ y < N.blocks := by simp [geoIn] at h0; omega
  have hi : x.toNat < N.dies := by omega
  have hj : y.toNat < N.blocks := by omega
  have hc := h.cells _ _ hi hj
  split
  ·exact h.plan _
  ·split
   ·exact h.setBlk _ _ _ hc.1 hc.2 (h.num.2.2 _ _)
   ·split
    ·exact h.setCell _ _ _ _ (fun _ => rfl) hi hj
    ·split
     ·exact ⟨h.geo, by show (N.dead.set _ _).length = _; rw [List.length_set]; exact h.dead, h.cells, h.num, h.lft, h.lf2, h.kp⟩
     ·split
      ·split
       ·exact h
       ·split
        ·exact h
        ·split
         ·exact h
         ·split
          ·exact h
          ·exact h.setCell _ _ _ _ (fun c => xorAt_len _ _ _) hi hj
      ·exact h
theorem Gd.fault (h : N.Gd k m) (kind x y z n xx : Int) : (N.fault kind x y z n xx).2.Gd k (m + 1) := by
 refine ⟨h.ok.fault .., ?_, ?_, ?_, ?_⟩
 ·unfold Nand.fault
  (repeat' split) <;> exact h.ops
 ·unfold Nand.fault
  (repeat' split) <;> exact h.broken
 ·unfold Nand.fault
  have h1 : ∀ a, (addP N.plan a).Nodup := fun a => by
   unfold addP; split
   ·exact h.nodup
   ·rename_i hn
    rw [List.nodup_append]
    exact ⟨h.nodup, by simp, fun b hb c hc => by simp at hc; subst hc; rintro rfl; exact hn hb⟩
  (repeat' split) <;> first | exact h.nodup | exact h1 _
 ·unfold Nand.fault
  have h3 := h.few
  have h1 : ∀ a, (addP N.plan a).length ≤ m + 1 := fun a => by
   unfold addP; split
   ·omega
   ·simp; omega
  (repeat' split) <;> first | exact h1 _ | exact Nat.le_succ_of_le h3
theorem Gd.fault0 (h : N.Gd k m) (kind x y z n xx : Int) (hk : kind ≠ 1) : (N.fault kind x y z n xx).2.Gd k m := by
 have h1 := h.fault kind x y z n xx
 refine ⟨h1.ok, h1.ops, h1.broken, h1.nodup, ?_⟩
 unfold Nand.fault
 rw [if_neg hk]
 (repeat' split) <;> exact h.few
theorem Gd.cut (h : N.Gd k m) (x kk : Int) (h1 : -9223372036854775807 ≤ x) (h2 : x ≤ 9223372036854775807) : (N.setCut x kk).Gd k m := by
 unfold setCut
 split
 ·exact h
 ·exact ⟨⟨h.ok.geo, h.ok.dead, h.ok.cells, h.ok.num, fun hc => by simp at hc; exact ⟨hc, h2⟩, ⟨h1, h2⟩, by show 0 ≤ min (max kk 0) 32 ∧ min (max kk 0) 32 ≤ 32; omega⟩, h.ops, h.broken, h.nodup, h.few⟩
theorem Gd.on (h : N.Gd k m) : N.onN.Gd k m := ⟨⟨h.ok.geo, h.ok.dead, h.ok.cells, h.ok.num, fun hc => (by cases hc), h.ok.lf2, h.ok.kp⟩, h.ops, h.broken, h.nodup, h.few⟩
theorem Gd.new (d b p : Nat) (h : geoMay d b p = true) (k : Nat) (hk : k ≤ 1000000) : (Nand.new d b p).Gd k 0 :=
 ⟨⟨h, by simp [Nand.new], fun i j _ _ => by simp [Nand.new], ⟨by simp [Nand.new], by simp [Nand.new], fun i j => by simp [Nand.new]⟩, fun hc => (by cases hc), by simp [Nand.new], by simp [Nand.new]⟩, by simp [Nand.new]; omega, by simp [Nand.new]; omega, by simp [Nand.new], by simp [Nand.new]⟩
end Nand
end Go.Proofs.YtoideahgjgaddaaGreat
namespace Go.Proofs.YtoideahgjgaddaaGreat
open Go Go.RowKit
theorem job_len (b r m : Int) (l : List En) : (R.job b r m l).length = l.length + 1 := by simp [R.job]
theorem job_at (b r m : Int) (l : List En) (k : Nat) (h : k < l.length) : (R.job b r m l)[k]? = some (G.die m b r (k : Nat), W.sh b r m (l.getD k En.zero)) := by
 rw [R.job, List.getElem?_append_left (by simpa using h)]; simp [h]
theorem job_last (b r m : Int) (l : List En) : (R.job b r m l)[l.length]? = some (G.parity m b r, W.parS b r m l) := by
 rw [R.job, List.getElem?_append_right (by simp)]; simp
theorem job_drop {b r m : Int} {l : List En} {k : Nat} {x : Int × Sh} (h : (R.job b r m l)[k]? = some x) : (R.job b r m l).drop k = x :: (R.job b r m l).drop (k + 1) := by
 obtain ⟨h1, h2⟩ := List.getElem?_eq_some_iff.1 h
 rw [List.drop_eq_getElem_cons h1, h2]
theorem r_Write (p : Nat) (N : Nand) (A : Atom) (b r m : Int) (a : Option Addr) (n cap mm : Nat) (l : List En) (hA : Rd A a 19 n (cellsE l)) (hl : l.length = n) (hd : ∀ s ∈ l, s.data.length = 16) (hG : N.Gd 8 mm) :
  Fn Tryz.prog 23 [.pointer (some ⟨p, 0, none⟩), .int .i64 b, .int .i64 r, .int .i64 m, .slice a n cap] [NandA p N, A]
  (fun v As => v = .tuple #[.int .i64 (R.write N b r m l).2.1, .int .i64 (R.write N b r m l).2.2] ∧ As = [NandA p (R.write N b r m l).1, A]) := by
 have hsb := gslots_bd m
 refine Fn.enter [2, 0, 0, 0, 0] Tryz.func23 rfl rfl rfl fun X F hX => ?_
 refine J.r hX tk 400 (fun _ => rfl) fun b1 => ?_
 refine J.ca hX (by kernel_rfl) (w_Parity b r m A a n cap l hA hl hd) [2] 0 rfl rfl rfl rfl rfl rfl (fun _ => rfl) ?_
 rintro v As ⟨rfl, rfl⟩
 refine ⟨_, rfl, trivial, ?_⟩
 refine J.r hX tk 400 (fun _ => rfl) fun bb => ?_
 refine J.cond rfl (fun h0 => ?_) (fun h0 => ?_)
 ·simp only [Bool.not_eq_true'] at h0
  refine J.r hX tk 400 (fun _ => rfl) fun b4 => ?_
  refine J.rt hX tk [1, 2] rfl rfl rfl ?_
  simp only [R.write, h0]
  exact ⟨rfl, rfl⟩
 simp only [Bool.not_eq_false'] at h0
 have hw : R.write N b r m l = R.go b r (R.job b r m l) N 0 := by rw [R.write, if_pos h0]
 have hB := h0
 simp only [W.parB, Bool.and_eq_true, decide_eq_true_eq, List.all_eq_true] at hB
 have hn : n ≤ 7 := by have := hB.1.1; omega
 refine J.r hX tk 400 (fun _ => rfl) fun b5 => ?_
 refine J.lo (α := (Nat × Nand × Int)) (fun z => z.1 ≤ n + 1 ∧ z.2.1.Gd (n + 1 - z.1) mm ∧ R.go b r ((R.job b r m l).drop z.1) z.2.1 z.2.2 = R.write N b r m l) (fun z => [⟨33, .int .i64 z.1, 0, .tt⟩, ⟨32, .int .i64 ((n : Int) + 1), 0, .tt⟩, ⟨14, .int .i64 z.2.2, 0, .tt⟩, ⟨12, .pointer (some ⟨bb 0, 0, none⟩), 4, .tt⟩, ⟨0, .pointer (some ⟨p, 0, none⟩), 2, .tt⟩, ⟨1, .int .i64 b, 0, .tt⟩, ⟨2, .int .i64 r, 0, .tt⟩, ⟨3, .int .i64 m, 0, .tt⟩, ⟨4, .slice a n cap, 0, .tt⟩]) [1] (fun z => [NandA p z.2.1]) (fun z => n + 1 - z.1) ((0, N, 0)) (⟨Nat.zero_le _, hG.less (by dsimp only; omega) (Nat.le_refl _), hw.symm⟩) rfl ?_ (fun _ => rfl) fun z hI => ?_
 ·rfl
 obtain ⟨k, Nk, f⟩ := z
 dsimp only at hI ⊢
 obtain ⟨hI1, hI2, hI3⟩ := hI
 refine J.r hX tk 400 (fun _ => rfl) fun b7 => ?_
 refine J.cond rfl (fun h1 => ?_) (fun h1 => ?_)
 ·simp only [decide_eq_true_eq] at h1
  have h1 : k < n + 1 := by omega
  refine J.r hX tk 400 (fun _ => rfl) fun b8 => ?_
  refine J.plan (.take true 0 (.take true 1 (.take true 2 (.take false 4 (.alt false 3 ((.of [22,24,31])) (.alt false 5 ((.of [14,24,31])) .non)))))) [7] [3] (by rw [hX.hP]; kernel_rfl) (by kernel_rfl) ?_
  refine J.join (α := Nat) (fun x => [⟨16, .int .i64 (G.parity m b r), 0, .tt⟩, ⟨17, .pointer (some ⟨x, 0, none⟩), 5, .tt⟩, ⟨15, .int .i64 k, 0, .tt⟩, ⟨33, .int .i64 k, 0, .tt⟩, ⟨32, .int .i64 ((n : Int) + 1), 0, .tt⟩, ⟨14, .int .i64 f, 0, .tt⟩, ⟨12, .pointer (some ⟨bb 0, 0, none⟩), 4, .tt⟩, ⟨0, .pointer (some ⟨p, 0, none⟩), 2, .tt⟩, ⟨1, .int .i64 b, 0, .tt⟩, ⟨2, .int .i64 r, 0, .tt⟩, ⟨3, .int .i64 m, 0, .tt⟩, ⟨4, .slice a n cap, 0, .tt⟩]) (fun x => [.hp F, NandA p Nk, A, .pt (bb 0) 137 (shL (W.par b r m l)), .pt x 137 (shL (W.par b r m l))]) (fun hj => ?_) (fun x => ?_)
  ·skip
   refine J.r hX tk 4 (fun _ => rfl) fun b9 => ?_
   refine J.alts ?_ ?_
   ·skip
    refine J.r hX tk 400 (fun _ => rfl) fun b10 => ?_
    refine J.ca hX (by kernel_rfl) (g_Parity m b r) [] 0 rfl rfl rfl rfl rfl rfl (fun _ => rfl) ?_
    rintro v As ⟨rfl, rfl⟩
    refine ⟨_, rfl, ⟨rfl, trivial⟩, ?_⟩
    refine J.r hX tk 1 (fun _ => rfl) fun b5 => ?_
    refine J.r hX tk 3 (fun _ => rfl) fun b11 => ?_
    exact J.goto [0, 1, 2, 3, 4] (hj (b5 0)) ⟨rfl, rfl, rfl, rfl, rfl, rfl, rfl, rfl, rfl, rfl, rfl, rfl, trivial⟩ rfl rfl
   ·skip
    refine J.r hX tk 1 (fun _ => rfl) fun b5 => ?_
    refine J.r hX tk 400 (fun _ => rfl) fun b12 => ?_
    refine J.ca hX (by kernel_rfl) (g_Parity m b r) [] 0 rfl rfl rfl rfl rfl rfl (fun _ => rfl) ?_
    rintro v As ⟨rfl, rfl⟩
    refine ⟨_, rfl, ⟨rfl, trivial⟩, ?_⟩
    refine J.r hX tk 3 (fun _ => rfl) fun b13 => ?_
    exact J.goto [0, 1, 2, 3, 4] (hj (b5 0)) ⟨rfl, rfl, rfl, rfl, rfl, rfl, rfl, rfl, rfl, rfl, rfl, rfl, trivial⟩ rfl rfl
  obtain ⟨⟨d, s⟩, hjob⟩ : ∃ x, (R.job b r m l)[k]? = some x := ⟨_, List.getElem?_eq_getElem (by rw [job_len]; omega)⟩
  have hsl : s.data.length = 16 := by
   by_cases hk : k < l.length
   ·rw [job_at b r m l k hk] at hjob
    injection hjob with hjob; injection hjob with _ hjob
    rw [← hjob]
    refine hd _ ?_
    rw [List.getD_eq_getElem?_getD, List.getElem?_eq_getElem hk]; exact List.getElem_mem _
   ·rw [show k = l.length by omega, job_last] at hjob
    injection hjob with hjob; injection hjob with _ hjob
    rw [← hjob]
    exact fold_len (fun t ht => by obtain ⟨e, he, rfl⟩ := List.mem_map.1 ht; exact hd e he) _ rfl
  refine J.r hX tk 400 (fun _ => rfl) fun b14 => ?_
  refine J.join (α := Unit) (fun _ => [⟨16, .int .i64 d, 0, .tt⟩, ⟨17, .pointer (some ⟨x, 0, none⟩), 5, .tt⟩, ⟨33, .int .i64 k, 0, .tt⟩, ⟨32, .int .i64 ((n : Int) + 1), 0, .tt⟩, ⟨14, .int .i64 f, 0, .tt⟩, ⟨12, .pointer (some ⟨bb 0, 0, none⟩), 4, .tt⟩, ⟨0, .pointer (some ⟨p, 0, none⟩), 2, .tt⟩, ⟨1, .int .i64 b, 0, .tt⟩, ⟨2, .int .i64 r, 0, .tt⟩, ⟨3, .int .i64 m, 0, .tt⟩, ⟨4, .slice a n cap, 0, .tt⟩]) (fun _ => [.hp F, NandA p Nk, A, .pt (bb 0) 137 (shL (W.par b r m l)), .pt x 137 (shL s)]) (fun hj => ?_) (fun _ => ?_)
  ·refine J.r hX tk 400 (fun _ => rfl) fun b15 => ?_
   refine J.cond rfl (fun h2 => ?_) (fun h2 => ?_)
   ·simp only [decide_eq_true_eq, Int.ofNat_lt] at h2
    have hkl : k < l.length := by omega
    rw [job_at b r m l k hkl] at hjob
    simp only [Option.some.injEq, Prod.mk.injEq] at hjob
    obtain ⟨hd1, hs1⟩ := hjob
    have hget : l[k]? = some (l.getD k En.zero) := by rw [List.getD_eq_getElem?_getD, List.getElem?_eq_getElem hkl, Option.getD_some]
    have hel : (l.getD k En.zero).data.length = 16 := hd _ (List.mem_of_getElem? hget)
    have hok : W.ok b r m (l.getD k En.zero) = true := hB.2 _ (List.mem_of_getElem? hget)
    refine J.r hX tk 400 (fun _ => rfl) fun b16 => ?_
    refine J.ca hX (by kernel_rfl) (g_Die m b r k (by omega) (by omega)) [] 0 rfl rfl rfl rfl rfl rfl (fun _ => rfl) ?_
    rintro v As ⟨rfl, rfl⟩
    refine ⟨_, rfl, trivial, ?_⟩
    refine J.know (p := ∃ g o, a = some ⟨g, o, none⟩) (fun h' s => Rd.addr (hA _ (s.get (i := 2) rfl)) (by omega)) fun hk => ?_
    obtain ⟨g, o, rfl⟩ := hk
    refine J.r hX tk 400 (fun _ => rfl) fun b18 => ?_
    refine J.val hX (enV (l.getD k En.zero)) 0 rfl rfl (fun hg a w he hw => ?_) rfl trivial ?_
    ·exact rdN_run tk rfl rfl he rfl rfl rfl (hA _ (hw.get (i := 2) rfl)) (by omega) (j := k * 19) (by omega) (by have := cellsE_at l [] k _ hget; rwa [List.append_nil] at this) rfl
    refine J.r hX tk 400 (fun _ => rfl) fun b19 => ?_
    refine J.ca hX (by kernel_rfl) (w_Own b r m (l.getD k En.zero) hel) [] 0 rfl rfl rfl rfl rfl rfl (fun _ => rfl) ?_
    rintro v As ⟨rfl, rfl⟩
    refine ⟨_, rfl, trivial, ?_⟩
    rw [show W.own b r m (l.getD k En.zero) = s from by rw [W.own, if_pos hok, hs1], hd1]
    refine J.r hX tk 5 (fun _ => rfl) fun b21 => ?_
    exact J.goto [0, 1, 2, 3, 4] (hj ()) ⟨rfl, rfl, rfl, rfl, rfl, rfl, rfl, rfl, rfl, rfl, rfl, trivial⟩ rfl rfl
   ·simp only [decide_eq_false_iff_not, Int.ofNat_lt] at h2
    have hkl : k = l.length := by omega
    rw [hkl, job_last] at hjob
    simp only [Option.some.injEq, Prod.mk.injEq] at hjob
    obtain ⟨hd1, hs1⟩ := hjob
    rw [hd1, show W.par b r m l = s from by rw [W.par, if_pos h0, hs1]] at *
    refine J.r hX tk 1 (fun _ => rfl) fun b22 => ?_
    exact J.goto [0, 1, 2, 3, 4] (hj ()) ⟨rfl, rfl, rfl, rfl, rfl, rfl, rfl, rfl, rfl, rfl, rfl, trivial⟩ rfl rfl
  have hj2 := job_drop hjob
  rw [hj2] at hI3
  rw [R.go] at hI3
  have hG0 : Nk.Gd (n - k + 1) mm := hI2.less (by omega) (Nat.le_refl _)
  have hG1 : (Nk.progN d b r (putP s)).Gd (n + 1 - (k + 1)) mm := (hG0.prog d b r _ (putP_len s hsl)).less (by omega) (Nat.le_refl _)
  refine J.r hX tk 400 (fun _ => rfl) fun b23 => ?_
  refine J.ca hX (by kernel_rfl) (h_Put s hsl) [] 0 rfl rfl rfl rfl rfl rfl (fun _ => rfl) ?_
  rintro v As ⟨rfl, rfl⟩
  refine ⟨_, rfl, trivial, ?_⟩
  refine J.r hX tk 400 (fun _ => rfl) fun b25 => ?_
  refine J.ca hX (by kernel_rfl) (n_Program p Nk hI2.ok hI2.room d b r (putP s) (putP_len s hsl)) [1] 0 rfl rfl rfl rfl rfl rfl (fun _ => rfl) ?_
  rintro v As ⟨rfl, rfl⟩
  refine ⟨_, rfl, trivial, ?_⟩
  refine J.r hX tk 400 (fun _ => rfl) fun b27 => ?_
  refine J.cond rfl (fun h3 => ?_) (fun h3 => ?_)
  ·simp only [beq_iff_eq] at h3
   rw [if_pos h3] at hI3
   refine J.r hX tk 400 (fun _ => rfl) fun b28 => ?_
   refine J.nS ((k + 1, Nk.progN d b r (putP s), f)) (⟨by dsimp only; omega, hG1, hI3⟩) (by dsimp only; omega) [0, 1, 2, 3] rfl rfl
  ·simp only [beq_eq_false_iff_ne, ne_eq] at h3
   rw [if_neg h3] at hI3
   refine J.r hX tk 400 (fun _ => rfl) fun b30 => ?_
   refine J.cond rfl (fun h4 => ?_) (fun h4 => ?_)
   ·simp only [beq_iff_eq] at h4
    rw [if_pos h4] at hI3
    refine J.r hX tk 400 (fun _ => rfl) fun b31 => ?_
    refine J.rt hX tk [1, 2] rfl rfl rfl ?_
    rw [← hI3]
    exact ⟨rfl, rfl⟩
   ·simp only [beq_eq_false_iff_ne, ne_eq] at h4
    rw [if_neg h4] at hI3
    refine J.r hX tk 400 (fun _ => rfl) fun b32 => ?_
    refine J.ca hX (by kernel_rfl) (l_With f d) [] 0 rfl rfl rfl rfl rfl rfl (fun _ => rfl) ?_
    rintro v As ⟨rfl, rfl⟩
    refine ⟨_, rfl, trivial, ?_⟩
    refine J.r hX tk 400 (fun _ => rfl) fun b34 => ?_
    refine J.nS ((k + 1, Nk.progN d b r (putP s), L.with_ f d)) (⟨by dsimp only; omega, hG1, hI3⟩) (by dsimp only; omega) [0, 1, 2, 3] rfl rfl
 ·simp only [decide_eq_false_iff_not] at h1
  have : k = n + 1 := by omega
  subst this
  rw [List.drop_of_length_le (by rw [job_len]; omega), R.go] at hI3
  refine J.r hX tk 400 (fun _ => rfl) fun b36 => ?_
  refine J.cond rfl (fun h5 => ?_) (fun h5 => ?_)
  ·simp only [bne_iff_ne, ne_eq] at h5
   rw [if_neg h5] at hI3
   refine J.r hX tk 400 (fun _ => rfl) fun b37 => ?_
   refine J.rt hX tk [1, 2] rfl rfl rfl ?_
   rw [← hI3]
   exact ⟨rfl, rfl⟩
  ·simp only [bne_eq_false_iff_eq] at h5
   rw [if_pos h5] at hI3
   refine J.r hX tk 400 (fun _ => rfl) fun b38 => ?_
   refine J.rt hX tk [1, 2] rfl rfl rfl ?_
   rw [← hI3, h5]
   exact ⟨rfl, rfl⟩
end Go.Proofs.YtoideahgjgaddaaGreat
