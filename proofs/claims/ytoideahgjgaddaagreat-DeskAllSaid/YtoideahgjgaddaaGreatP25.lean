/- Helpers of the proofs about ostrakonlaw11, proved here: Lit, Fa, Clm, ClmC, ClmD, LdA, Jn, JnP. No condition. -/
import Derived.Test.YtoideahgjgaddaaGreatP13
import Derived.Test.YtoideahgjgaddaaGreatP14
import Derived.Test.YtoideahgjgaddaaGreatP16
import Derived.Test.YtoideahgjgaddaaGreatP19
import Derived.Test.YtoideahgjgaddaaGreatP23
import Derived.Test.YtoideahgjgaddaaGreatP24
import Derived.Test.YtoideahgjgaddaaGreatRows
import Derived.ProofKit
import Derived.OpenShut
import Derived.ChangeOld
import Derived.Below
import Derived.Deep.Slices
import Derived.Deep.Strs
import Derived.Lib.SmallJoins
import Derived.JoinedOf
set_option linter.unusedVariables false
set_option linter.unusedSimpArgs false
set_option linter.unusedSectionVars false
set_option linter.unnecessarySimpa false
/- Plain laws: a flash that has power, and none of which a cut waits. No program in sight. -/
namespace Go.Proofs.YtoideahgjgaddaaGreat
open Go
structure Nand.Lit (N : Nand) : Prop where
  off : N.off = false
  cuts : N.cuts = false
namespace Nand
theorem Lit.cutB {N : Nand} (h : N.Lit) : N.cutB = false := by unfold Nand.cutB; rw [h.cuts]; rfl
theorem Lit.cutN {N : Nand} (h : N.Lit) : N.cutN.Lit := by
  constructor
  · show (if N.cutB then true else N.off) = false
    rw [h.cutB]; exact h.off
  · show (if N.cutB then false else N.cuts) = false
    rw [h.cutB]; exact h.cuts
theorem Lit.new (d b p : Nat) : (Nand.new d b p).Lit := ⟨rfl, rfl⟩
theorem Lit.prog {N : Nand} (h : N.Lit) (x y z : Int) (pg : List UInt8) : (N.progN x y z pg).Lit := by
  unfold Nand.progN
  split
  · exact h
  · split
    · exact ⟨h.off, h.cuts⟩
    · rw [h.cutB]
      exact ⟨h.cutN.off, h.cutN.cuts⟩
theorem Lit.fault {N : Nand} (h : N.Lit) (kind x y z n xx : Int) : (N.fault kind x y z n xx).2.Lit := by
  unfold Nand.fault
  repeat' split
  all_goals first | exact h | exact ⟨h.off, h.cuts⟩
theorem Lit.erase {N : Nand} (h : N.Lit) (x y : Int) : (N.eraseN x y).Lit := by
  unfold Nand.eraseN
  dsimp only
  rw [h.cutB]
  split
  · exact h
  · rw [if_neg (by decide)]
    split
    · exact ⟨h.cutN.off, h.cutN.cuts⟩
    · exact ⟨h.cutN.off, h.cutN.cuts⟩
end Nand
end Go.Proofs.YtoideahgjgaddaaGreat
/- Walks: the sentences' flash: law11.ints, used, Flash. -/
namespace Go.Proofs.YtoideahgjgaddaaGreat
open Go Go.RowKit
theorem flat_get {α : Type} (f : α → List Value) (w : Nat) (hw : ∀ x, (f x).length = w) : ∀ (l : List α) (k : Nat) (x : α), l[k]? = some x → ((l.flatMap f).drop (k * w)).take w = f x
  | [], k, x, h => by simp at h
  | y :: l, 0, x, h => by
    simp at h; subst h
    rw [List.flatMap_cons, Nat.zero_mul, List.drop_zero, List.take_left' (hw y)]
  | y :: l, k + 1, x, h => by
    have ih := flat_get f w hw l k x (by simpa using h)
    rw [List.flatMap_cons, show (k + 1) * w = (f y).length + k * w from by rw [hw y, Nat.add_mul, Nat.one_mul, Nat.add_comm], ← List.drop_drop, List.drop_left' rfl]
    exact ih
/-- a row that is to be written, as it came in -/
structure RowV where
  b : Int
  m : Int
  al : Option Addr
  n : Nat
  c : Nat
  l : List En
def RowV.cells (x : RowV) : List Value := [.int .i64 x.b, .int .i64 x.m, .slice x.al x.n x.c]
structure RowV.Ok (A : Atom) (x : RowV) : Prop where
  rd : Rd A x.al 19 x.n (cellsE x.l)
  len : x.l.length = x.n
  data : ∀ s ∈ x.l, s.data.length = 16
structure FaV where
  at_ : Int
  kind : Int
  x : Int
  y : Int
  z : Int
  n : Int
  xx : Int
def FaV.cells (f : FaV) : List Value := [.int .i64 f.at_, .int .i64 f.kind, .int .i64 f.x, .int .i64 f.y, .int .i64 f.z, .int .i64 f.n, .int .i64 f.xx]
end Go.Proofs.YtoideahgjgaddaaGreat
/- What came in: slices read from memory as it was when the call began; a contract as the statement asks it. -/
namespace Go.Proofs.YtoideahgjgaddaaGreat
open Go Go.RowKit
open Go.ChangeShapes Go.WideShapes
/-- the memory as it was -/
def frz (W : World) : Atom := .hp ⟨Hle (hl W), fun _ _ l s => s.trans l⟩
theorem frz_rd {W : World} {a : Option Addr} {size n : Nat} {xs : List Value} (h : rdP a size n xs (hl W)) : Rd (frz W) a size n xs := fun _ s => h.up s
theorem Fn.whole {P : Program} {f : FuncId} {args : List Value} {r : Value} {W : World} (h : Fn P f args [frz W] (fun v As => v = r ∧ As = [frz W])) : Calls P f args.toArray W fun e w' => e = .returned r ∧ Below W.heap.size W w' := by
  have hs : Sep (.hp ⟨fun _ => True, fun _ _ _ s => s⟩ :: [frz W]) (hl W) := by
    refine ⟨fun _ => 1, fun i A hA => ?_⟩
    match i, hA with
    | 0, hA => simp at hA; subst hA; trivial
    | 1, hA =>
      simp at hA; subst hA
      intro b o hb
      exact res_some.2 ⟨rfl, hb⟩
    | i + 2, hA => simp at hA
  refine (h _ W hs).mono fun e w' ⟨v, As, e1, ⟨e2, e3⟩, s, x⟩ => ?_
  subst e2 e3
  have hle : Hle (hl W) (hl w') := s.get (i := 1) rfl
  refine ⟨e1, x.os, x.tape, x.output, x.size, fun k hk => ?_⟩
  have : W.heap[k]? = some W.heap[k] := Array.getElem?_eq_getElem hk
  rw [this]
  exact hle k _ this
theorem rd_none {size : Nat} {h : Hl} : rdP none size 0 [] h := ⟨by simp, fun h => absurd h (by omega)⟩
/-- a slice that came in -/
theorem rd_open {α : Type} {W : World} {base size n : Nat} {a : Addr} (f : α → List Value) (hsz : 0 < size)
    (h : ∀ i, i < n → ∃ x, W.cells? base (a.add (i * size)) size = some (f x)) : ∃ l : List α, l.length = n ∧ rdP (some a) size n (l.flatMap f) (hl W) := by
  have h1 : ∀ m, m ≤ n → ∃ l : List α, l.length = m ∧ (l.flatMap f).length = m * size ∧ ∀ i, i < m * size → W.cell? (a.add i) = (l.flatMap f)[i]? := by
    intro m
    induction m with
    | zero => exact fun _ => ⟨[], rfl, by simp, fun i hi => by omega⟩
    | succ m ih =>
      intro hm
      obtain ⟨l, e1, e2, e3⟩ := ih (by omega)
      obtain ⟨x, hx⟩ := h m (by omega)
      obtain ⟨_, q1, q2⟩ := World.cells?_some hx
      have hlen : ((l ++ [x]).flatMap f).length = (m + 1) * size := by simp [List.flatMap_append, e2, q1, Nat.succ_mul]
      refine ⟨l ++ [x], by simp [e1], hlen, fun i hi => ?_⟩
      rw [List.flatMap_append, List.getElem?_append, e2]
      split
      · exact e3 i (by assumption)
      · rename_i hge
        have := q2 (i - m * size) (by rw [Nat.succ_mul] at hi; omega)
        rw [Deep.add_add, show m * size + (i - m * size) = i by omega] at this
        rw [this]; simp
  obtain ⟨l, e1, e2, e3⟩ := h1 n (Nat.le_refl n)
  refine ⟨l, e1, e2, fun hn => ?_⟩
  obtain ⟨b, o, sp⟩ := a
  have hpos : 0 < n * size := Nat.mul_pos hn hsz
  have h0 := e3 0 hpos
  have hv : (l.flatMap f)[0]? = some ((l.flatMap f)[0]'(by omega)) := List.getElem?_eq_getElem _
  rw [hv] at h0
  have hsp : sp = none := by simpa [Addr.add] using World.cell?_spot h0
  subst hsp
  have hcell : ∀ i, W.cell? ⟨b, o + i, none⟩ = W.cell? ((⟨b, o, none⟩ : Addr).add i) := fun i => by rw [Addr.add_none]
  have hblk : ∃ cs ty fr, W.heap[b]? = some (.cells cs ty fr) := by
    unfold World.cell? at h0
    cases hh : W.heap[b]? with
    | none => simp [Addr.add, hh] at h0
    | some ob =>
      cases ob with
      | cells cs ty fr => exact ⟨cs, ty, fr, rfl⟩
      | _ => simp [Addr.add, hh] at h0
  obtain ⟨cs, ty, fr, hh⟩ := hblk
  refine ⟨b, o, cs, ty, fr, rfl, hh, ?_⟩
  apply List.ext_getElem?
  intro i
  rw [List.getElem?_take]
  split
  · rename_i hi
    rw [← e3 i hi, ← hcell, cell_of_row W b (o + i) cs ty fr hh]
    simp
  · rename_i hi
    exact (List.getElem?_eq_none (by omega)).symm
section
variable {H : Type} {enc : TypeId × Value → H} {w : World} {base : Nat} {spare : Nat → Bool} {held : Bool}
theorem one_byte {fuel : Nat} {cs : List Value} {y : DataW H × List MemPlace} (h : DataW.trod enc Tryz.prog w base spare held fuel 5 cs = some y) : ∃ b : UInt8, cs = [bv b] := by
  obtain ⟨n, rfl, _, hw⟩ := DataW.trod_int Tryz.underlying5 h
  have : 0 ≤ n ∧ n ≤ 255 := by simpa [Lit.wf, IntKind.min, IntKind.max, IntKind.signed, IntKind.bits] using hw
  refine ⟨UInt8.ofNat n.toNat, ?_⟩
  simp only [bv, List.cons.injEq, and_true]
  congr 1
  have : n.toNat < 256 := by omega
  have h2 : (UInt8.ofNat n.toNat).toNat = n.toNat := by simp; omega
  rw [h2]; omega
theorem bytes_of {m : Nat} {fuel : Nat} : ∀ {cs : List Value}, cs.length = m → (∀ i, i < m → ∃ y, DataW.trod enc Tryz.prog w base spare held fuel 5 ((cs.drop i).take 1) = some y) → ∃ l : List UInt8, l.length = m ∧ cs = l.map bv := by
  induction m with
  | zero => intro cs h _; exact ⟨[], rfl, List.eq_nil_of_length_eq_zero h⟩
  | succ m ih =>
    intro cs h hx
    match cs, h with
    | c :: r, h =>
      obtain ⟨y, hy⟩ := hx 0 (by omega)
      obtain ⟨b, hb⟩ := one_byte hy
      obtain ⟨l, e1, e2⟩ := ih (cs := r) (by simpa using h) (fun i hi => by simpa using hx (i + 1) (by omega))
      refine ⟨b :: l, by simp [e1], ?_⟩
      simp at hb
      simp [hb, e2]
theorem one_i64 {t : TypeId} (ht : Tryz.prog.underlying t = some (.int .i64)) {fuel : Nat} {cs : List Value} {y : DataW H × List MemPlace} (h : DataW.trod enc Tryz.prog w base spare held fuel t cs = some y) : ∃ n, cs = [.int .i64 n] := by
  obtain ⟨n, rfl, _, _⟩ := DataW.trod_int ht h
  exact ⟨n, rfl⟩
theorem data_of {fuel : Nat} {cs : List Value} {y : DataW H × List MemPlace} (h : DataW.trod enc Tryz.prog w base spare held fuel 43 cs = some y) : ∃ l : List UInt8, l.length = 16 ∧ cs = dataC l := by
  obtain ⟨xs, m, _, _, hl, hlen, hx⟩ := DataW.trod_array Tryz.underlying43 h
  have h1 : Tryz.prog.cellsOf 5 = 1 := by kernel_rfl
  have h16 : Tryz.prog.cellsOf 43 = 16 := by kernel_rfl
  obtain ⟨l, e1, e2⟩ := bytes_of (m := 16) (hl.trans h16) (fun i hi => by
    have := hx i hi
    rw [h1, Nat.mul_one, List.getElem?_eq_getElem (by omega)] at this
    exact ⟨_, this⟩)
  refine ⟨l, e1, ?_⟩
  match l, e1 with
  | [_, _, _, _, _, _, _, _, _, _, _, _, _, _, _, _], _ => subst e2; rfl
theorem en_of {fuel : Nat} {cs : List Value} {y : DataW H × List MemPlace} (h : DataW.trod enc Tryz.prog w base spare held fuel 45 cs = some y) : ∃ e : En, e.data.length = 16 ∧ cs = enL e := by
  obtain ⟨y0, y1, y2, y3, n, _, hl, h0, h1, h2, h3⟩ := Joins.trod_struct4 Tryz.underlying45 h
  have hlen : cs.length = 19 := hl.trans (by kernel_rfl)
  have c1 : Tryz.prog.cellsOf 3 = 1 := by kernel_rfl
  have c2 : Tryz.prog.cellsOf 2 = 1 := by kernel_rfl
  have c3 : Tryz.prog.cellsOf 43 = 16 := by kernel_rfl
  simp only [c1, c2, c3] at h0 h1 h2 h3
  obtain ⟨n0, q0⟩ := one_i64 Tryz.underlying3 h0
  obtain ⟨n1, q1⟩ := one_i64 Tryz.underlying2 h1
  obtain ⟨n2, q2⟩ := one_i64 Tryz.underlying3 h2
  obtain ⟨d, hd, q3⟩ := data_of h3
  refine ⟨⟨n0, n1, n2, d⟩, hd, ?_⟩
  match cs, hlen with
  | [_, _, _, _, _, _, _, _, _, _, _, _, _, _, _, _, _, _, _], _ =>
    simp at q0 q1 q2
    simp only [List.drop_succ_cons, List.drop_zero, List.take_succ_cons, List.take_zero, dataC] at q3
    subst q0 q1 q2
    simp only [enL, List.cons.injEq] at q3 ⊢
    simp only [true_and]
    exact q3
/-- a slice of entries that came in -/
theorem open_ens {held' : Bool} {fuel : Nat} {a : Option Addr} {len cap : Nat} {x : DataW H × List MemPlace} (h : DataW.trod enc Tryz.prog w base spare held' fuel 31 [.slice a len cap] = some x) :
    len ≤ cap ∧ cap ≤ maxLen ∧ ∃ l : List En, l.length = len ∧ (∀ e ∈ l, e.data.length = 16) ∧ rdP a 19 len (cellsE l) (hl w) := by
  rcases Deep.open_slice Tryz.underlying31 h with ⟨hcs, _⟩ | ⟨a', len', cap', m, n, D, Pl, hcs, hb, hlc, hm, hmm, rfl, hx⟩
  · simp at hcs
    obtain ⟨rfl, rfl, rfl⟩ := hcs
    exact ⟨Nat.le_refl _, Nat.zero_le _, [], rfl, fun _ h => by simp at h, rd_none⟩
  · simp at hcs
    obtain ⟨rfl, rfl, rfl⟩ := hcs
    have c1 : Tryz.prog.cellsOf 45 = 19 := by kernel_rfl
    rw [c1] at hx
    obtain ⟨l, e1, e2⟩ := rd_open (W := w) (base := base) (size := 19) (n := len) (a := a') (fun e : { e : En // e.data.length = 16 } => enL e.1) (by decide) (fun i hi => by
      obtain ⟨cs, q1, q2⟩ := hx i (by rw [hmm]; split <;> omega)
      obtain ⟨e, he, rfl⟩ := en_of q2
      exact ⟨⟨e, he⟩, q1⟩)
    refine ⟨hlc, hm, l.map (·.1), by simpa using e1, fun e he => ?_, ?_⟩
    · obtain ⟨x, _, rfl⟩ := List.mem_map.1 he
      exact x.2
    · unfold cellsE
      rw [List.flatMap_map]
      exact e2
end
end Go.Proofs.YtoideahgjgaddaaGreat
/- What came in: slices of rows, faults, pages. No condition. -/
namespace Go.Proofs.YtoideahgjgaddaaGreat
open Go Go.RowKit
open Go.ChangeShapes Go.WideShapes Go.ChangeAt
section
variable {H : Type} {enc : TypeId × Value → H} {w : World} {base : Nat} {spare : Nat → Bool} {held : Bool}
/-- what a row that came in has -/
structure RowV.In (W : World) (x : RowV) : Prop where
  rd : rdP x.al 19 x.n (cellsE x.l) (hl W)
  len : x.l.length = x.n
  data : ∀ s ∈ x.l, s.data.length = 16
theorem RowV.In.ok {W : World} {x : RowV} (h : x.In W) : x.Ok (frz W) := ⟨frz_rd h.rd, h.len, h.data⟩
/-- a slice of things that came in -/
theorem open_many {α : Type} {held' : Bool} {fuel : Nat} {st et : TypeId} {size : Nat} (f : α → List Value) (good : α → Prop) (hu : Tryz.prog.underlying st = some (.slice et)) (hc : Tryz.prog.cellsOf et = size) (hsz : 0 < size)
    (hof : ∀ {fuel : Nat} {held : Bool} {cs : List Value} {y : DataW H × List MemPlace}, DataW.trod enc Tryz.prog w base spare held fuel et cs = some y → ∃ x : α, good x ∧ cs = f x)
    {a : Option Addr} {len cap : Nat} {x : DataW H × List MemPlace} (h : DataW.trod enc Tryz.prog w base spare held' fuel st [.slice a len cap] = some x) :
    ∃ l : List α, l.length = len ∧ (∀ e ∈ l, good e) ∧ rdP a size len (l.flatMap f) (hl w) := by
  rcases Deep.open_slice hu h with ⟨hcs, _⟩ | ⟨a', len', cap', m, n, D, Pl, hcs, hb, hlc, hm, hmm, rfl, hx⟩
  · simp at hcs
    obtain ⟨rfl, rfl, rfl⟩ := hcs
    exact ⟨[], rfl, fun _ h => by simp at h, rd_none⟩
  · simp at hcs
    obtain ⟨rfl, rfl, rfl⟩ := hcs
    rw [hc] at hx
    obtain ⟨l, e1, e2⟩ := rd_open (W := w) (base := base) (size := size) (n := len) (a := a') (fun e : { e : α // good e } => f e.1) hsz (fun i hi => by
      obtain ⟨cs, q1, q2⟩ := hx i (by rw [hmm]; split <;> omega)
      obtain ⟨e, he, rfl⟩ := hof q2
      exact ⟨⟨e, he⟩, q1⟩)
    refine ⟨l.map (·.1), by simpa using e1, fun e he => ?_, ?_⟩
    · obtain ⟨x, _, rfl⟩ := List.mem_map.1 he
      exact x.2
    · rw [List.flatMap_map]
      exact e2
end
end Go.Proofs.YtoideahgjgaddaaGreat
/- What came in: slices of operations, of ints. No condition. -/
namespace Go.Proofs.YtoideahgjgaddaaGreat
open Go Go.RowKit
open Go.ChangeShapes Go.WideShapes Go.ChangeAt
/-- an operation's cells -/
structure OpV where
  kind : Int
  en : En
  pb : Int
  pr : Int
  ps : Int
  mask : Int
  die : Int
  block : Int
  n : Int
def OpV.cells (o : OpV) : List Value := .int .i64 o.kind :: (enL o.en ++ [.int .i64 o.pb, .int .i64 o.pr, .int .i64 o.ps, .int .i64 o.mask, .int .i64 o.die, .int .i64 o.block, .int .i64 o.n])
section
variable {H : Type} {enc : TypeId × Value → H} {w : World} {base : Nat} {spare : Nat → Bool} {held : Bool}
set_option maxRecDepth 100000 in
theorem op_of {fuel : Nat} {cs : List Value} {y : DataW H × List MemPlace} (h : DataW.trod enc Tryz.prog w base spare held fuel 74 cs = some y) : ∃ x : OpV, x.en.data.length = 16 ∧ cs = x.cells := by
  obtain ⟨xs, n, _, _, hl, hlen, hf⟩ := DataW.trod_struct Tryz.underlying74 h
  have hlen2 : cs.length = 27 := hl.trans (by kernel_rfl)
  have hx : xs.length = 7 := hlen
  have c1 : Tryz.prog.cellsOf 3 = 1 := by kernel_rfl
  have c3 : Tryz.prog.cellsOf 50 = 3 := by kernel_rfl
  have c19 : Tryz.prog.cellsOf 45 = 19 := by kernel_rfl
  match xs, hx with
  | [y0, y1, y2, y3, y4, y5, y6], _ =>
    have h0 : DataW.trod enc Tryz.prog w base spare held n 3 ((cs.drop 0).take (Tryz.prog.cellsOf 3)) = some y0 := hf 0 _ rfl
    have h1 : DataW.trod enc Tryz.prog w base spare held n 45 ((cs.drop 1).take (Tryz.prog.cellsOf 45)) = some y1 := hf 1 _ rfl
    have h2 : DataW.trod enc Tryz.prog w base spare held n 50 ((cs.drop 20).take (Tryz.prog.cellsOf 50)) = some y2 := hf 2 _ rfl
    have h3 : DataW.trod enc Tryz.prog w base spare held n 3 ((cs.drop 23).take (Tryz.prog.cellsOf 3)) = some y3 := hf 3 _ rfl
    have h4 : DataW.trod enc Tryz.prog w base spare held n 3 ((cs.drop 24).take (Tryz.prog.cellsOf 3)) = some y4 := hf 4 _ rfl
    have h5 : DataW.trod enc Tryz.prog w base spare held n 3 ((cs.drop 25).take (Tryz.prog.cellsOf 3)) = some y5 := hf 5 _ rfl
    have h6 : DataW.trod enc Tryz.prog w base spare held n 3 ((cs.drop 26).take (Tryz.prog.cellsOf 3)) = some y6 := hf 6 _ rfl
    rw [c1] at h0 h3 h4 h5 h6
    rw [c3] at h2
    rw [c19] at h1
    obtain ⟨z0, z1, z2, m, _, _, g0, g1, g2⟩ := Deep.trod_struct3 Tryz.underlying50 h2
    simp only [c1] at g0 g1 g2
    obtain ⟨e, he, qe⟩ := en_of h1
    obtain ⟨n0, q0⟩ := one_i64 Tryz.underlying3 h0
    obtain ⟨n2, q2⟩ := one_i64 Tryz.underlying3 g0
    obtain ⟨n3, q3⟩ := one_i64 Tryz.underlying3 g1
    obtain ⟨n4, q4⟩ := one_i64 Tryz.underlying3 g2
    obtain ⟨n5, q5⟩ := one_i64 Tryz.underlying3 h3
    obtain ⟨n6, q6⟩ := one_i64 Tryz.underlying3 h4
    obtain ⟨n7, q7⟩ := one_i64 Tryz.underlying3 h5
    obtain ⟨n8, q8⟩ := one_i64 Tryz.underlying3 h6
    refine ⟨⟨n0, e, n2, n3, n4, n5, n6, n7, n8⟩, he, ?_⟩
    have hc : cs = cs.take 1 ++ ((cs.drop 1).take 19 ++ cs.drop 20) := by
      rw [show cs.drop 20 = (cs.drop 1).drop 19 from by rw [List.drop_drop], List.take_append_drop, List.take_append_drop]
    have h7 : (cs.drop 20).length = 7 := by rw [List.length_drop, hlen2]
    rw [show cs.drop 23 = (cs.drop 20).drop 3 from by rw [List.drop_drop]] at q5
    rw [show cs.drop 24 = (cs.drop 20).drop 4 from by rw [List.drop_drop]] at q6
    rw [show cs.drop 25 = (cs.drop 20).drop 5 from by rw [List.drop_drop]] at q7
    rw [show cs.drop 26 = (cs.drop 20).drop 6 from by rw [List.drop_drop]] at q8
    rw [List.drop_zero] at q0
    rw [q0, qe] at hc
    generalize cs.drop 20 = r at h7 hc q2 q3 q4 q5 q6 q7 q8
    match r, h7 with
    | [_, _, _, _, _, _, _], _ =>
      simp at q2 q3 q4 q5 q6 q7 q8
      subst q2 q3 q4 q5 q6 q7 q8
      exact hc
theorem open_ops {held' : Bool} {fuel : Nat} {a : Option Addr} {len cap : Nat} {x : DataW H × List MemPlace} (h : DataW.trod enc Tryz.prog w base spare held' fuel 70 [.slice a len cap] = some x) :
    ∃ l : List OpV, l.length = len ∧ (∀ e ∈ l, e.en.data.length = 16) ∧ rdP a 27 len (l.flatMap OpV.cells) (hl w) :=
  open_many OpV.cells (fun x => x.en.data.length = 16) Tryz.underlying70 (by kernel_rfl) (by decide) op_of h
theorem int_of {fuel : Nat} {cs : List Value} {y : DataW H × List MemPlace} (h : DataW.trod enc Tryz.prog w base spare held fuel 3 cs = some y) : ∃ x : Int, (-9223372036854775808 ≤ x ∧ x ≤ 9223372036854775807) ∧ cs = [.int .i64 x] := by
  obtain ⟨n, rfl, _, hw⟩ := DataW.trod_int Tryz.underlying3 h
  refine ⟨n, ?_, rfl⟩
  simpa [Lit.wf, IntKind.min, IntKind.max, IntKind.signed, IntKind.bits] using hw
theorem open_ints {held' : Bool} {fuel : Nat} {a : Option Addr} {len cap : Nat} {x : DataW H × List MemPlace} (h : DataW.trod enc Tryz.prog w base spare held' fuel 32 [.slice a len cap] = some x) :
    ∃ l : List Int, l.length = len ∧ (∀ e ∈ l, -9223372036854775808 ≤ e ∧ e ≤ 9223372036854775807) ∧ rdP a 1 len (l.flatMap fun x => [.int .i64 x]) (hl w) :=
  open_many (fun x : Int => [.int .i64 x]) (fun x => -9223372036854775808 ≤ x ∧ x ≤ 9223372036854775807) Tryz.underlying32 (by kernel_rfl) (by decide) int_of h
end
end Go.Proofs.YtoideahgjgaddaaGreat
/- Walks: what the sentences on desks read. -/
namespace Go.Proofs.YtoideahgjgaddaaGreat
open Go Go.RowKit
/-- what is read, as a part -/
def rdA (a : Option Addr) (size n : Nat) (xs : List Value) : Atom := .hp ⟨rdP a size n xs, fun _ _ l s => s.up l⟩
theorem rdA_rd (a : Option Addr) (size n : Nat) (xs : List Value) : Rd (rdA a size n xs) a size n xs := fun _ s => s
def oad2 : Option (Nat × Nat) → Option Addr
  | some x => some ⟨x.1, x.2, none⟩
  | none => none
/-- where a slice lies that begins later -/
def cutA (a : Option (Nat × Nat)) (size h c : Nat) : Option (Nat × Nat) := match a with
  | some y => if c = h then some y else some (y.1, y.2 + h * size)
  | none => none
section
variable {P : Program} {T : Tab} {E : Env} {n : Nat} {ac : Act} {w : World}
theorem cutlo2_run (hT : TabOK P T) {o : Oper} {t e size : Nat} {x y : Operand} {k1 k2 t1 t2 : Nat} {g1 g2 : G} {a : Option (Nat × Nat)} {m c h : Nat} {kk : IntKind} {hI : Int} {s1 b1 b2 : Nat} {z1 z2 : List Value} {td : TD} (hop : o.op = .slice t x (some y) none none) (hx : ev E x = some ⟨k1, .slice (oad2 a) m c, t1, g1⟩) (hy : ev E y = some ⟨k2, .int kk hI, t2, g2⟩) (he : EnvOK n E ac) (v1 : g1.on = true) (v2 : g2.on = true)
    (ht : T.get t = some ⟨.slice e size, s1, z1, b1⟩) (hte : T.get e = some ⟨td, size, z2, b2⟩) (hhI : hI = (h : Int)) (hh : h ≤ m) :
    (execOp ac.eval o).run P w = .ok (.value (.slice (oad2 (cutA a size h c)) (m - h) (c - h))) w := by
  subst hhI
  have e1 := ev_spec he hx
  have e2 := ev_spec he hy
  simp only [Slot.val, v1, v2] at e1 e2
  obtain ⟨d, f, zv, ok⟩ := tiOf_spec (hT.get ht)
  obtain ⟨fe, rfl, g1, g2⟩ := ok.slice rfl
  cases a with
  | none =>
    simp only [execOp, hop, Option.map_some, Option.map_none, e1, e2, Instr.sliceAt, Instr.slice, Instr.sliceBounds, Instr.sliceBound, asIntOf, Sem.run_bind, Sem.run_pure, Result.andThen_ok, underlying_run ok.hd, sizeOf_run g1, g2]
    simp [hh, oad2, cutA]
  | some ad =>
    by_cases hne : c = h
    · simp only [execOp, hop, Option.map_some, Option.map_none, e1, e2, Instr.sliceAt, Instr.slice, Instr.sliceBounds, Instr.sliceBound, asIntOf, Sem.run_bind, Sem.run_pure, Result.andThen_ok, underlying_run ok.hd, sizeOf_run g1, g2]
      simp [hh, hne, Addr.add_none, oad2, cutA]
    · simp only [execOp, hop, Option.map_some, Option.map_none, e1, e2, Instr.sliceAt, Instr.slice, Instr.sliceBounds, Instr.sliceBound, asIntOf, Sem.run_bind, Sem.run_pure, Result.andThen_ok, underlying_run ok.hd, sizeOf_run g1, g2]
      simp [hh, hne, Addr.add_none, oad2, cutA]
/-- one more, come round where it must -/
theorem inc_run {o : Oper} {t t2 : TypeId} {x y : Operand} {k1 k2 u1 u2 : Nat} {g1 g2 : G} {s j : Int} (hop : o.op = .binOp .add t x y t2) (hx : ev E x = some ⟨k1, .int .i64 s, u1, g1⟩) (hy : ev E y = some ⟨k2, .int .i64 j, u2, g2⟩) (he : EnvOK n E ac) (v1 : g1.on = true) (v2 : g2.on = true) :
    (execOp ac.eval o).run P w = .ok (.value (.int .i64 (IntKind.i64.wrap (s + j)))) w := by
  have e1 := ev_spec he hx
  have e2 := ev_spec he hy
  simp only [Slot.val, v1, v2] at e1 e2
  simp only [execOp, hop, e1, e2]
  rfl
end
section
variable {X : Cx} {P : Program} {K : List KI} {E : Env} {L : List Atom} {N : Nat} {F : HP} {Post : Value → List Atom → Prop} {rs : List ResultVar} {T : Tab}
/-- some things that are read, or nothing, are put behind others -/
theorem J.appendRO (hX : IsCx X P rs N F Post) (hT : TabOK P T) {ops : Array Oper} {C : Cl} {lt : Bool} {i : Nat} {t : PT} {o : Oper} {x y : Operand} {st e size by_ : Nat} {ks tgs : Nat} {gs : G} {a : Option Nat} {n cap : Nat} {xs : List Value} {ky tgy : Nat} {gy : G} {ay : Option (Nat × Nat)} {m cy : Nat} {cs : List Value} {s1 b1 : Nat} {z1 : List Value} {E' : Value → Env} {Ay : Atom} (is iy : Nat) (hc0 : ay = none → cy = 0)
    (ho : lget ops.toList i = some o) (hg : gd ops.toList E o = some .tt) (hop : o.op = .call ⟨.builtin .append, #[x, y], #[st, st]⟩)
    (hx : ev E x = some ⟨ks, slv a n cap, tgs, gs⟩) (hvx : gs.on = true) (hy : ev E y = some ⟨ky, .slice (oad2 ay) m cy, tgy, gy⟩) (hvy : gy.on = true)
    (hLs : lget L is = some (ownA e size a n cap xs)) (hLy : lget L iy = some Ay) (hrd : Rd Ay (oad2 ay) size m cs) (hst : T.get st = some ⟨.slice e size, s1, z1, b1⟩) {td : TD} {z : List Value} (he : T.get e = some ⟨td, size, z, by_⟩) (hz : Nat.beq z.length size = true)
    (hsz : Nat.blt 0 size = true) (h1 : ∀ u ∈ cs, u.oneCell' = true) (h63 : n + m ≤ maxLen) (hbytes : (n + m) * by_ ≤ 140737488355328)
    (hd : ∀ v, putE N o.dst v 0 .tt E = some (E' v))
    (hJ : ∀ a' cap', ∃ L', lset L is (ownA e size a' (n + m) cap' (xs ++ cs)) = some L' ∧ Conj (staysL lt C L') ∧ J X (.reg ops C t :: K) (E' (slv a' (n + m) cap')) L') : J X (.reg ops C (.alt lt i t .non) :: K) E L := by
  cases ay with
  | some b => exact J.appendR hX hT (oo := b.2) is iy 0 ho hg rfl hop hx hvx hy hvy hLs hLy hrd hst he hz hsz h1 h63 hbytes hd hJ
  | none =>
    obtain rfl := hc0 rfl
    rw [lget_eq] at hLs hLy
    refine J.know (p := cs.length = m * size ∧ m = 0) (fun h s => ⟨(hrd _ (s.get hLy)).1, by
      rcases Nat.eq_zero_or_pos m with h0 | h0
      · exact h0
      · obtain ⟨_, _, _, _, _, e, _⟩ := (hrd _ (s.get hLy)).2 h0; cases e⟩) fun hk => ?_
    obtain ⟨q1, rfl⟩ := hk
    have hcs : cs = [] := List.eq_nil_of_length_eq_zero (by rw [q1, Nat.zero_mul])
    subst hcs
    obtain ⟨L', e1, e2, e3⟩ := hJ a cap
    rw [Nat.add_zero, List.append_nil] at e1
    rw [Nat.add_zero] at e3
    have hL : L' = L := by
      rw [lset_eq e1]
      apply List.ext_getElem?
      intro j
      rw [List.getElem?_set]
      split
      · rename_i e; subst e; split
        · exact hLs.symm
        · rename_i e4; rw [List.getElem?_eq_none (by omega)]
      · rfl
    subst hL
    exact J.val hX (slv a n cap) 0 ho hg (fun _ ac w hen hs => append_none_run hT hop hx hvx hy hvy hen hst he (show ownP e size a n cap xs (hl w) from hs.get hLs)) (hd _) e2 e3
end
theorem ownP_nil {e size : Nat} {a : Option Nat} {n cap : Nat} {xs : List Value} {h : Hl} (s : ownP e size a n cap xs h) : a = none → cap = 0 := fun e => by subst e; exact s.2.2
theorem rd_cutA {a : Option (Nat × Nat)} {size n c h : Nat} {xs : List Value} {hh : Hl} (s : rdP (oad2 a) size n xs hh) (hn : h ≤ n) (hc : n ≤ c) : rdP (oad2 (cutA a size h c)) size (n - h) (xs.drop (h * size)) hh := by
  cases a with
  | none =>
    refine ⟨by rw [List.length_drop, s.1, Nat.sub_mul], fun h0 => ?_⟩
    obtain ⟨b, o, _, _, _, e, _⟩ := s.2 (by omega)
    cases e
  | some y =>
    by_cases e : c = h
    · refine ⟨by rw [List.length_drop, s.1, Nat.sub_mul], fun h0 => by omega⟩
    · unfold cutA
      simp only [if_neg e]
      exact (rdA_rd (some ⟨y.1, y.2, none⟩) size n xs).drop h hn _ s
theorem oad2_some {a : Option (Nat × Nat)} {size n : Nat} {xs : List Value} {h : Hl} (s : rdP (oad2 a) size n xs h) (hn : 0 < n) : ∃ y, a = some y := by
  cases a with
  | none => obtain ⟨_, _, _, _, _, e, _⟩ := s.2 hn; cases e
  | some y => exact ⟨y, rfl⟩
theorem wrap_ne (s : Int) : IntKind.i64.wrap (s + 1) ≠ s := by
  have e : IntKind.i64.wrap (s + 1) = if (s + 1) % 18446744073709551616 ≥ 9223372036854775808 then (s + 1) % 18446744073709551616 - 18446744073709551616 else (s + 1) % 18446744073709551616 := by
    simp [IntKind.wrap, IntKind.bits, IntKind.signed]
  rw [e]
  split <;> omega
/-- an operation's cells, each by itself -/
def OpV.lit (o : OpV) : List Value := [.int .i64 o.kind, .int .i64 o.en.lpn, .int .i64 o.en.seq, .int .i64 o.en.role, byC o.en.data 0, byC o.en.data 1, byC o.en.data 2, byC o.en.data 3, byC o.en.data 4, byC o.en.data 5, byC o.en.data 6, byC o.en.data 7, byC o.en.data 8, byC o.en.data 9, byC o.en.data 10, byC o.en.data 11, byC o.en.data 12, byC o.en.data 13, byC o.en.data 14, byC o.en.data 15, .int .i64 o.pb, .int .i64 o.pr, .int .i64 o.ps, .int .i64 o.mask, .int .i64 o.die, .int .i64 o.block, .int .i64 o.n]
/-- so many of them, as the sentence counts -/
theorem dkN_eq (L : List En) (n : Int) : (if (if (L.length : Int) < n then (L.length : Int) else n) > 0 then (if (L.length : Int) < n then (L.length : Int) else n) else 0) = (dkN L n : Int) := by
  unfold dkN
  by_cases h : (L.length : Int) < n
  · simp only [if_pos h]; split <;> omega
  · simp only [if_neg h]; split <;> omega
theorem ne_selfI (z : Int) : (z != z) = false := by simp
theorem cellsE_drop (L : List En) : ∀ k, (cellsE L).drop (k * 19) = cellsE (L.drop k) := by
  induction L with
  | nil => intro k; simp [cellsE]
  | cons x l ih =>
    intro k
    cases k with
    | zero => simp
    | succ k =>
      have e1 : cellsE (x :: l) = enL x ++ cellsE l := by simp [cellsE]
      rw [e1, List.drop_succ_cons, ← ih k, show (k + 1) * 19 = (enL x).length + k * 19 from by show _ = 19 + k * 19; omega, ← List.drop_drop, List.drop_left' rfl]
theorem rd_drop {a : Option (Nat × Nat)} {n c h : Nat} {L : List En} {hh : Hl} (s : rdP (oad2 a) 19 n (cellsE L) hh) (hl : L.length = n) (hn : h ≤ n) (hc : n ≤ c) : rdP (oad2 (cutA a 19 h c)) 19 (L.drop h).length (cellsE (L.drop h)) hh := by
  have := rd_cutA s hn hc
  rwa [cellsE_drop, ← hl, ← List.length_drop] at this
theorem cutA_none {a : Option (Nat × Nat)} {size h c : Nat} (hz : a = none → c = 0) : cutA a size h c = none → c - h = 0 := by
  cases a with
  | none => intro _; rw [hz rfl]; omega
  | some y => intro e; unfold cutA at e; simp only at e; split at e <;> cases e
structure DkS where
  i : Nat
  L : List En
  a : Option (Nat × Nat)
  c : Nat
def DkJ (i : Nat) (z : DkS) : Prop := z.i = i ∧ dkOne z.L ∧ z.L.length ≤ i ∧ z.L.length ≤ z.c ∧ (z.a = none → z.c = 0) ∧ ∀ e ∈ z.L, e.data.length = 16
theorem fl_succ (k : Int) (L : List En) (j : Nat) (x : En) (h : L[j]? = some x) : ((L.take (j + 1)).filter fun x => !(x.lpn == k)) = if x.lpn = k then (L.take j).filter (fun x => !(x.lpn == k)) else (L.take j).filter (fun x => !(x.lpn == k)) ++ [x] := by
  rw [List.take_add_one, h, Option.toList_some, List.filter_append]
  by_cases e : x.lpn = k
  · rw [if_pos e]; simp [e]
  · rw [if_neg e]; simp [e]
theorem any_succ (k : Int) (L : List En) (j : Nat) (x : En) (h : L[j]? = some x) : ((L.take (j + 1)).any fun x => x.lpn == k) = (((L.take j).any fun x => x.lpn == k) || x.lpn == k) := by
  rw [List.take_add_one, h, Option.toList_some, List.any_append]; simp
theorem dkGet_any (L : List En) (k : Int) : (dkGet L k).2 = (L.any fun x => x.lpn == k) ∧ ((L.any fun x => x.lpn == k) = false → (dkGet L k).1 = En.zero) := by
  unfold dkGet
  cases h : L.find? (fun x => x.lpn == k) with
  | none =>
    rw [List.find?_eq_none] at h
    refine ⟨(List.any_eq_false.2 fun x hx => h x hx).symm, fun _ => rfl⟩
  | some e =>
    have h1 := List.mem_of_find?_eq_some h
    have h2 := List.find?_some h
    have : (L.any fun x => x.lpn == k) = true := List.any_eq_true.2 ⟨e, h1, h2⟩
    rw [this]
    exact ⟨rfl, fun h => by cases h⟩
theorem dkPut_data {L : List En} {e : En} (h : ∀ x ∈ L, x.data.length = 16) (he : e.data.length = 16) : ∀ x ∈ dkPut L e, x.data.length = 16 := by
  intro x hx
  unfold dkPut at hx
  rcases List.mem_append.1 hx with hx | hx
  · exact h x (List.mem_filter.1 hx).1
  · simp only [List.mem_singleton] at hx; rw [hx]; exact he
theorem dkPut_len (L : List En) (e : En) : (dkPut L e).length ≤ L.length + 1 := by
  unfold dkPut
  rw [List.length_append]
  have := List.length_filter_le (fun x : En => !(x.lpn == e.lpn)) L
  simp only [List.length_cons, List.length_nil]; omega
theorem geo_all (D : Nat) (h : D ≤ 6) : (1 * 2 ^ min (D : Int).toNat IntKind.i64.bits - 1 : Int) = mAll D := by
  rw [(pow_bd D h).1]
  unfold mAll
  have := Nat.one_le_two_pow (n := D)
  omega
theorem cellsI_flat (xs : List Int) : (xs.flatMap fun x => [Value.int .i64 x]) = cellsI xs := by
  induction xs with
  | nil => rfl
  | cons x xs ih => simp only [List.flatMap_cons, ih]; rfl
end Go.Proofs.YtoideahgjgaddaaGreat
/- The kit's joinedFacts from its parts, each of which is shown by itself. -/
namespace Go.Proofs.YtoideahgjgaddaaGreat
open Go
theorem andT {a b : Bool} (ha : a = true) (hb : b = true) : (a && b) = true := by rw [ha, hb]; rfl
theorem joined_of {P : Program} {f : FuncId} {fn : Func} {s : ChangeSpec} {c : OpenClaim} (k0 : (c.wf (OpenSpec.ofChange s)) = true) (k1 : (laidOutB P) = true) (k2 : (mapsRowed P) = true) (k3 : (fn.params.all (P.readableRec ·)) = true) (k4 : (namedTie P c.named s.vars) = true) (k5 : (c.stops == []) = true) (k6 : (P.stops == []) = true) (k7 : (c.knobs == []) = true) (k8 : (P.stopKnobs == []) = true) (k9 : (c.inPlace == P.inPlace f) = true) (k10 : (c.unfollowed == P.unfollowed f) = true) (k11 : (c.recurses == P.recurses f) = true) (k12 : (c.named == P.varsNamed f) = true) (k13 : (c.maps == (fn.params.toList ++ s.plain.varTypes P).any (P.mapsRec ·)) = true) (k14 : (c.ifaces == (fn.params.toList ++ s.plain.varTypes P).any (P.ifacesRec ·)) = true) (k15 : (c.mapsOut == P.mapsAmong fn.resultTypes.toList) = true) (k16 : (c.loops == (fn.params.toList ++ s.plain.varTypes P).any (P.loopsFrom ·)) = true) (k17 : (c.wideKeys == (fn.params.toList ++ s.plain.varTypes P ++ fn.resultTypes.toList).any (P.wideKeysFrom ·)) = true) (k18 : (s.vars.all (P.varReadable ·)) = true) (k19 : (fn.resultTypes.all (fun t => P.readableRec t && decide (t < P.types.size))) = true) (k20 : (c.ifacesOut == fn.resultTypes.toList.any (P.ifacesRec ·)) = true) (k21 : (c.loopsOut == fn.resultTypes.toList.any (P.loopsFrom ·)) = true) (k22 : (c.plainKeys == P.plainKeys) = true) (k23 : (c.shortTexts.isNone) = true) (k24 : (P.stopsHeard) = true) (k25 : (P.mayEnter) = true) (k26 : (c.lifted == P.liftsFinal) = true) (k27 : (P.make == some c.make) = true) (k28a : c.domain.isEmpty = true) (k28 : (c.kinds == []) = true) (k29 : (c.pinned == c.pinnedBy) = true) (k30 : (c.veiled == (fn.params.toList ++ s.plain.varTypes P ++ fn.resultTypes.toList).any (P.veiledRec ·)) = true) (k31 : (c.veiledFits P fn.params.toList (fn.params.toList ++ s.plain.varTypes P ++ fn.resultTypes.toList)) = true) : joinedFacts P f fn s c = true := by
  unfold joinedFacts
  rw [if_pos k28a]
  exact (andT (andT (andT (andT (andT (andT (andT (andT (andT (andT (andT (andT (andT (andT (andT (andT (andT (andT (andT (andT (andT (andT (andT (andT (andT (andT (andT (andT (andT (andT (andT k0 k1) k2) k3) k4) k5) k6) k7) k8) k9) k10) k11) k12) k13) k14) k15) k16) k17) k18) k19) k20) k21) k22) k23) k24) k25) k26) k27) k28) k29) k30) k31)
end Go.Proofs.YtoideahgjgaddaaGreat
/- What the kit asks of the whole program, each part by itself. -/
namespace Go.Proofs.YtoideahgjgaddaaGreat
open Go
theorem j_laid : laidOutB Tryz.prog = true := by kernel_rfl
theorem j_rowed : mapsRowed Tryz.prog = true := by kernel_rfl
theorem j_stops : (Tryz.prog.stops == []) = true := by kernel_rfl
theorem j_knobs : (Tryz.prog.stopKnobs == []) = true := by kernel_rfl
theorem j_heard : Tryz.prog.stopsHeard = true := by kernel_rfl
theorem j_enter : Tryz.prog.mayEnter = true := by kernel_rfl
end Go.Proofs.YtoideahgjgaddaaGreat
