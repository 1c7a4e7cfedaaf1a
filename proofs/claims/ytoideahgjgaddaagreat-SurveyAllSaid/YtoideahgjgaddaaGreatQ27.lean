/- Helpers of the proofs about ostrakonlaw11, proved here: Clm, ClmC, ClmD, LdA, PlC, PlD, PlE, PlZ, PlNw, PlI, PlJ, PlK, PlM, PlN, PlLo, ClmE, Llo, RfQ, Lv. No condition. -/
import Derived.Test.YtoideahgjgaddaaGreatQ08
import Derived.Test.YtoideahgjgaddaaGreatQ12
import Derived.Test.YtoideahgjgaddaaGreatQ16
import Derived.Test.YtoideahgjgaddaaGreatQ17
import Derived.Test.YtoideahgjgaddaaGreatQ18
import Derived.Test.YtoideahgjgaddaaGreatQ20
import Derived.Test.YtoideahgjgaddaaGreatQ21
import Derived.Test.YtoideahgjgaddaaGreatQ22
import Derived.Test.YtoideahgjgaddaaGreatQ23
import Derived.Test.YtoideahgjgaddaaGreatQ24
import Derived.Test.YtoideahgjgaddaaGreatQ26
import Derived.Test.YtoideahgjgaddaaGreatRows
import Derived.ProofKit
import Derived.OpenShut
import Derived.ChangeOld
import Derived.Below
import Derived.Deep.Slices
import Derived.Deep.Strs
import Derived.Lib.SmallJoins
set_option maxRecDepth 20000
set_option linter.unusedVariables false
set_option linter.unusedSimpArgs false
set_option linter.unusedSectionVars false
set_option linter.unnecessarySimpa false
namespace Go.Proofs.YtoideahgjgaddaaGreat
open Go Go.RowKit
open Go.ChangeShapes Go.WideShapes
def frz (W : World) : Atom := .hp ⟨Hle (hl W), fun _ _ l s => s.trans l⟩
theorem frz_rd {W : World} {a : Option Addr} {size n : Nat} {xs : List Value} (h : rdP a size n xs (hl W)) : Rd (frz W) a size n xs := fun _ s => h.up s
theorem Fn.whole {P : Program} {f : FuncId} {args : List Value} {r : Value} {W : World} (h : Fn P f args [frz W] (fun v As => v = r ∧ As = [frz W])) : Calls P f args.toArray W fun e w' => e = .returned r ∧ Below W.heap.size W w' := by
 have hs : Sep (.hp ⟨fun _ => True, fun _ _ _ s => s⟩ :: [frz W]) (hl W) := by
  refine ⟨fun _ => 1, fun i A hA => ?_⟩
  match i, hA with
  | 0, hA => simp at hA; subst hA; trivial
  | 1, hA =>
   simp at hA; subst hA
   intro b o hb
   exact res_some.2 ⟨rfl, hb⟩
  | i + 2, hA => simp at hA
 refine (h _ W hs).mono fun e w' ⟨v, As, e1, ⟨e2, e3⟩, s, x⟩ => ?_
 subst e2 e3
 have hle : Hle (hl W) (hl w') := s.get (i := 1) rfl
 refine ⟨e1, x.os, x.tape, x.output, x.size, fun k hk => ?_⟩
 have : W.heap[k]? = some W.heap[k] := Array.getElem?_eq_getElem hk
 rw [this]
 exact hle k _ this
theorem rd_none {size : Nat} {h : Hl} : rdP none size 0 [] h := ⟨by simp, fun h => absurd h (by omega)⟩
theorem rd_open {α : Type} {W : World} {base size n : Nat} {a : Addr} (f : α → List Value) (hsz : 0 < size)
  (h : ∀ i, i < n → ∃ x, W.cells? base (a.add (i * size)) size = some (f x)) : ∃ l : List α, l.length = n ∧ rdP (some a) size n (l.flatMap f) (hl W) := by
 have h1 : ∀ m, m ≤ n → ∃ l : List α, l.length = m ∧ (l.flatMap f).length = m * size ∧ ∀ i, i < m * size → W.cell? (a.add i) = (l.flatMap f)[i]? := by
  intro m
  induction m with
  | zero => exact fun _ => ⟨[], rfl, by simp, fun i hi => by omega⟩
  | succ m ih =>
   intro hm
   obtain ⟨l, e1, e2, e3⟩ := ih (by omega)
   obtain ⟨x, hx⟩ := h m (by omega)
   obtain ⟨_, q1, q2⟩ := World.cells?_some hx
   have hlen : ((l ++ [x]).flatMap f).length = (m + 1) * size := by simp [List.flatMap_append, e2, q1, Nat.succ_mul]
   refine ⟨l ++ [x], by simp [e1], hlen, fun i hi => ?_⟩
   rw [List.flatMap_append, List.getElem?_append, e2]
   split
   ·exact e3 i (by assumption)
   ·rename_i hge
    have := q2 (i - m * size) (by rw [Nat.succ_mul] at hi; omega)
    rw [Deep.add_add, show m * size + (i - m * size) = i by omega] at this
    rw [this]; simp
 obtain ⟨l, e1, e2, e3⟩ := h1 n (Nat.le_refl n)
 refine ⟨l, e1, e2, fun hn => ?_⟩
 obtain ⟨b, o, sp⟩ := a
 have hpos : 0 < n * size := Nat.mul_pos hn hsz
 have h0 := e3 0 hpos
 have hv : (l.flatMap f)[0]? = some ((l.flatMap f)[0]'(by omega)) := List.getElem?_eq_getElem _
 rw [hv] at h0
 have hsp : sp = none := by simpa [Addr.add] using World.cell?_spot h0
 subst hsp
 have hcell : ∀ i, W.cell? ⟨b, o + i, none⟩ = W.cell? ((⟨b, o, none⟩ : Addr).add i) := fun i => by rw [Addr.add_none]
 have hblk : ∃ cs ty fr, W.heap[b]? = some (.cells cs ty fr) := by
  unfold World.cell? at h0
  cases hh : W.heap[b]? with
  | none => simp [Addr.add, hh] at h0
  | some ob =>
   cases ob with
   | cells cs ty fr => exact ⟨cs, ty, fr, rfl⟩
   | _ => simp [Addr.add, hh] at h0
 obtain ⟨cs, ty, fr, hh⟩ := hblk
 refine ⟨b, o, cs, ty, fr, rfl, hh, ?_⟩
 apply List.ext_getElem?
 intro i
 rw [List.getElem?_take]
 split
 ·rename_i hi
  rw [← e3 i hi, ← hcell, cell_of_row W b (o + i) cs ty fr hh]
  simp
 ·rename_i hi
  exact (List.getElem?_eq_none (by omega)).symm
section
variable {H : Type} {enc : TypeId × Value → H} {w : World} {base : Nat} {spare : Nat → Bool} {held : Bool}
theorem one_byte {fuel : Nat} {cs : List Value} {y : DataW H × List MemPlace} (h : DataW.trod enc Tryz.prog w base spare held fuel 5 cs = some y) : ∃ b : UInt8, cs = [bv b] := by
 obtain ⟨n, rfl, _, hw⟩ := DataW.trod_int Tryz.underlying5 h
 have : 0 ≤ n ∧ n ≤ 255 := by simpa [Lit.wf, IntKind.min, IntKind.max, IntKind.signed, IntKind.bits] using hw
 refine ⟨UInt8.ofNat n.toNat, ?_⟩
 simp only [bv, List.cons.injEq, and_true]
 congr 1
 have : n.toNat < 256 := by omega
 have h2 : (UInt8.ofNat n.toNat).toNat = n.toNat := by simp; omega
 rw [h2]; omega
theorem bytes_of {m : Nat} {fuel : Nat} : ∀ {cs : List Value}, cs.length = m → (∀ i, i < m → ∃ y, DataW.trod enc Tryz.prog w base spare held fuel 5 ((cs.drop i).take 1) = some y) → ∃ l : List UInt8, l.length = m ∧ cs = l.map bv := by
 induction m with
 | zero => intro cs h _; exact ⟨[], rfl, List.eq_nil_of_length_eq_zero h⟩
 | succ m ih =>
  intro cs h hx
  match cs, h with
  | c :: r, h =>
   obtain ⟨y, hy⟩ := hx 0 (by omega)
   obtain ⟨b, hb⟩ := one_byte hy
   obtain ⟨l, e1, e2⟩ := ih (cs := r) (by simpa using h) (fun i hi => by simpa using hx (i + 1) (by omega))
   refine ⟨b :: l, by simp [e1], ?_⟩
   simp at hb
   simp [hb, e2]
theorem one_i64 {t : TypeId} (ht : Tryz.prog.underlying t = some (.int .i64)) {fuel : Nat} {cs : List Value} {y : DataW H × List MemPlace} (h : DataW.trod enc Tryz.prog w base spare held fuel t cs = some y) : ∃ n, cs = [.int .i64 n] := by
 obtain ⟨n, rfl, _, _⟩ := DataW.trod_int ht h
 exact ⟨n, rfl⟩
theorem data_of {fuel : Nat} {cs : List Value} {y : DataW H × List MemPlace} (h : DataW.trod enc Tryz.prog w base spare held fuel 43 cs = some y) : ∃ l : List UInt8, l.length = 16 ∧ cs = dataC l := by
 obtain ⟨xs, m, _, _, hl, hlen, hx⟩ := DataW.trod_array Tryz.underlying43 h
 have h1 : Tryz.prog.cellsOf 5 = 1 := by kernel_rfl
 have h16 : Tryz.prog.cellsOf 43 = 16 := by kernel_rfl
 obtain ⟨l, e1, e2⟩ := bytes_of (m := 16) (hl.trans h16) (fun i hi => by
  have := hx i hi
  rw [h1, Nat.mul_one, List.getElem?_eq_getElem (by omega)] at this
  exact ⟨_, this⟩)
 refine ⟨l, e1, ?_⟩
 match l, e1 with
 | [_, _, _, _, _, _, _, _, _, _, _, _, _, _, _, _], _ => subst e2; rfl
theorem en_of {fuel : Nat} {cs : List Value} {y : DataW H × List MemPlace} (h : DataW.trod enc Tryz.prog w base spare held fuel 45 cs = some y) : ∃ e : En, e.data.length = 16 ∧ cs = enL e := by
 obtain ⟨y0, y1, y2, y3, n, _, hl, h0, h1, h2, h3⟩ := Joins.trod_struct4 Tryz.underlying45 h
 have hlen : cs.length = 19 := hl.trans (by kernel_rfl)
 have c1 : Tryz.prog.cellsOf 3 = 1 := by kernel_rfl
 have c2 : Tryz.prog.cellsOf 2 = 1 := by kernel_rfl
 have c3 : Tryz.prog.cellsOf 43 = 16 := by kernel_rfl
 simp only [c1, c2, c3] at h0 h1 h2 h3
 obtain ⟨n0, q0⟩ := one_i64 Tryz.underlying3 h0
 obtain ⟨n1, q1⟩ := one_i64 Tryz.underlying2 h1
 obtain ⟨n2, q2⟩ := one_i64 Tryz.underlying3 h2
 obtain ⟨d, hd, q3⟩ := data_of h3
 refine ⟨⟨n0, n1, n2, d⟩, hd, ?_⟩
 match cs, hlen with
 | [_, _, _, _, _, _, _, _, _, _, _, _, _, _, _, _, _, _, _], _ =>
  simp at q0 q1 q2
  simp only [List.drop_succ_cons, List.drop_zero, List.take_succ_cons, List.take_zero, dataC] at q3
  subst q0 q1 q2
  simp only [enL, List.cons.injEq] at q3 ⊢
  simp only [true_and]
  exact q3
theorem open_ens {held' : Bool} {fuel : Nat} {a : Option Addr} {len cap : Nat} {x : DataW H × List MemPlace} (h : DataW.trod enc Tryz.prog w base spare held' fuel 31 [.slice a len cap] = some x) :
  len ≤ cap ∧ cap ≤ maxLen ∧ ∃ l : List En, l.length = len ∧ (∀ e ∈ l, e.data.length = 16) ∧ rdP a 19 len (cellsE l) (hl w) := by
 rcases Deep.open_slice Tryz.underlying31 h with ⟨hcs, _⟩ | ⟨a', len', cap', m, n, D, Pl, hcs, hb, hlc, hm, hmm, rfl, hx⟩
 ·simp at hcs
  obtain ⟨rfl, rfl, rfl⟩ := hcs
  exact ⟨Nat.le_refl _, Nat.zero_le _, [], rfl, fun _ h => by simp at h, rd_none⟩
 ·simp at hcs
  obtain ⟨rfl, rfl, rfl⟩ := hcs
  have c1 : Tryz.prog.cellsOf 45 = 19 := by kernel_rfl
  rw [c1] at hx
  obtain ⟨l, e1, e2⟩ := rd_open (W := w) (base := base) (size := 19) (n := len) (a := a') (fun e : { e : En // e.data.length = 16 } => enL e.1) (by decide) (fun i hi => by
   obtain ⟨cs, q1, q2⟩ := hx i (by rw [hmm]; split <;> omega)
   obtain ⟨e, he, rfl⟩ := en_of q2
   exact ⟨⟨e, he⟩, q1⟩)
  refine ⟨hlc, hm, l.map (·.1), by simpa using e1, fun e he => ?_, ?_⟩
  ·obtain ⟨x, _, rfl⟩ := List.mem_map.1 he
   exact x.2
  ·unfold cellsE
   rw [List.flatMap_map]
   exact e2
end
end Go.Proofs.YtoideahgjgaddaaGreat
namespace Go.Proofs.YtoideahgjgaddaaGreat
open Go Go.RowKit
open Go.ChangeShapes Go.WideShapes Go.ChangeAt
section
variable {H : Type} {enc : TypeId × Value → H} {w : World} {base : Nat} {spare : Nat → Bool} {held : Bool}
theorem ens_of {fuel : Nat} {cs : List Value} {x : DataW H × List MemPlace} (h : DataW.trod enc Tryz.prog w base spare held fuel 31 cs = some x) :
  ∃ (a : Option Addr) (len cap : Nat) (l : List En), cs = [.slice a len cap] ∧ l.length = len ∧ (∀ e ∈ l, e.data.length = 16) ∧ rdP a 19 len (cellsE l) (hl w) := by
 have h0 := h
 rcases Deep.open_slice Tryz.underlying31 h with ⟨hcs, _⟩ | ⟨a', len', cap', m, n, D, Pl, hcs, _⟩
 ·subst hcs
  exact ⟨none, 0, 0, [], rfl, rfl, fun _ h => by simp at h, rd_none⟩
 ·subst hcs
  obtain ⟨_, _, l, e1, e2, e3⟩ := open_ens h0
  exact ⟨_, _, _, l, rfl, e1, e2, e3⟩
structure RowV.In (W : World) (x : RowV) : Prop where
 rd : rdP x.al 19 x.n (cellsE x.l) (hl W)
 len : x.l.length = x.n
 data : ∀ s ∈ x.l, s.data.length = 16
theorem RowV.In.ok {W : World} {x : RowV} (h : x.In W) : x.Ok (frz W) := ⟨frz_rd h.rd, h.len, h.data⟩
theorem row_of {fuel : Nat} {cs : List Value} {y : DataW H × List MemPlace} (h : DataW.trod enc Tryz.prog w base spare held fuel 59 cs = some y) : ∃ x : RowV, x.In w ∧ cs = x.cells := by
 obtain ⟨y0, y1, y2, n, _, hl, h0, h1, h2⟩ := Deep.trod_struct3 Tryz.underlying59 h
 have hlen : cs.length = 3 := hl.trans (by kernel_rfl)
 have c1 : Tryz.prog.cellsOf 3 = 1 := by kernel_rfl
 have c2 : Tryz.prog.cellsOf 31 = 1 := by kernel_rfl
 simp only [c1, c2] at h0 h1 h2
 obtain ⟨n0, q0⟩ := one_i64 Tryz.underlying3 h0
 obtain ⟨n1, q1⟩ := one_i64 Tryz.underlying3 h1
 obtain ⟨a, len, cap, l, q2, e1, e2, e3⟩ := ens_of h2
 refine ⟨⟨n0, n1, a, len, cap, l⟩, ⟨e3, e1, e2⟩, ?_⟩
 match cs, hlen with
 | [_, _, _], _ =>
  simp at q0 q1 q2
  subst q0 q1 q2
  rfl
set_option maxRecDepth 100000 in
theorem fa_of {fuel : Nat} {cs : List Value} {y : DataW H × List MemPlace} (h : DataW.trod enc Tryz.prog w base spare held fuel 68 cs = some y) : ∃ x : FaV, cs = x.cells := by
 obtain ⟨xs, n, _, _, hl, hlen, hf⟩ := DataW.trod_struct Tryz.underlying68 h
 have hlen2 : cs.length = 7 := hl.trans (by kernel_rfl)
 have hx : xs.length = 5 := hlen
 have c1 : Tryz.prog.cellsOf 3 = 1 := by kernel_rfl
 have c3 : Tryz.prog.cellsOf 66 = 3 := by kernel_rfl
 match xs, hx with
 | [y0, y1, y2, y3, y4], _ =>
  have h0 : DataW.trod enc Tryz.prog w base spare held n 3 ((cs.drop 0).take (Tryz.prog.cellsOf 3)) = some y0 := hf 0 _ rfl
  have h1 : DataW.trod enc Tryz.prog w base spare held n 3 ((cs.drop 1).take (Tryz.prog.cellsOf 3)) = some y1 := hf 1 _ rfl
  have h2 : DataW.trod enc Tryz.prog w base spare held n 66 ((cs.drop 2).take (Tryz.prog.cellsOf 66)) = some y2 := hf 2 _ rfl
  have h3 : DataW.trod enc Tryz.prog w base spare held n 3 ((cs.drop 5).take (Tryz.prog.cellsOf 3)) = some y3 := hf 3 _ rfl
  have h4 : DataW.trod enc Tryz.prog w base spare held n 3 ((cs.drop 6).take (Tryz.prog.cellsOf 3)) = some y4 := hf 4 _ rfl
  rw [c1] at h0 h1 h3 h4
  rw [c3] at h2
  obtain ⟨z0, z1, z2, m, _, _, g0, g1, g2⟩ := Deep.trod_struct3 Tryz.underlying66 h2
  simp only [c1] at g0 g1 g2
  obtain ⟨n0, q0⟩ := one_i64 Tryz.underlying3 h0
  obtain ⟨n1, q1⟩ := one_i64 Tryz.underlying3 h1
  obtain ⟨n2, q2⟩ := one_i64 Tryz.underlying3 g0
  obtain ⟨n3, q3⟩ := one_i64 Tryz.underlying3 g1
  obtain ⟨n4, q4⟩ := one_i64 Tryz.underlying3 g2
  obtain ⟨n5, q5⟩ := one_i64 Tryz.underlying3 h3
  obtain ⟨n6, q6⟩ := one_i64 Tryz.underlying3 h4
  refine ⟨⟨n0, n1, n2, n3, n4, n5, n6⟩, ?_⟩
  match cs, hlen2 with
  | [_, _, _, _, _, _, _], _ =>
   simp at q0 q1 q2 q3 q4 q5 q6
   subst q0 q1 q2 q3 q4 q5 q6
   rfl
theorem pg_of {fuel : Nat} {cs : List Value} {y : DataW H × List MemPlace} (h : DataW.trod enc Tryz.prog w base spare held fuel 94 cs = some y) : ∃ l : List UInt8, l.length = 32 ∧ cs = pageC l := by
 obtain ⟨xs, m, _, _, hl, hlen, hx⟩ := DataW.trod_array Tryz.underlying94 h
 have h1 : Tryz.prog.cellsOf 5 = 1 := by kernel_rfl
 have h16 : Tryz.prog.cellsOf 94 = 32 := by kernel_rfl
 obtain ⟨l, e1, e2⟩ := bytes_of (m := 32) (hl.trans h16) (fun i hi => by
  have := hx i hi
  rw [h1, Nat.mul_one, List.getElem?_eq_getElem (by omega)] at this
  exact ⟨_, this⟩)
 exact ⟨l, e1, by rw [pageC_eq l e1]; exact e2⟩
theorem open_many {α : Type} {held' : Bool} {fuel : Nat} {st et : TypeId} {size : Nat} (f : α → List Value) (good : α → Prop) (hu : Tryz.prog.underlying st = some (.slice et)) (hc : Tryz.prog.cellsOf et = size) (hsz : 0 < size)
  (hof : ∀ {fuel : Nat} {held : Bool} {cs : List Value} {y : DataW H × List MemPlace}, DataW.trod enc Tryz.prog w base spare held fuel et cs = some y → ∃ x : α, good x ∧ cs = f x)
  {a : Option Addr} {len cap : Nat} {x : DataW H × List MemPlace} (h : DataW.trod enc Tryz.prog w base spare held' fuel st [.slice a len cap] = some x) :
  ∃ l : List α, l.length = len ∧ (∀ e ∈ l, good e) ∧ rdP a size len (l.flatMap f) (hl w) := by
 rcases Deep.open_slice hu h with ⟨hcs, _⟩ | ⟨a', len', cap', m, n, D, Pl, hcs, hb, hlc, hm, hmm, rfl, hx⟩
 ·simp at hcs
  obtain ⟨rfl, rfl, rfl⟩ := hcs
  exact ⟨[], rfl, fun _ h => by simp at h, rd_none⟩
 ·simp at hcs
  obtain ⟨rfl, rfl, rfl⟩ := hcs
  rw [hc] at hx
  obtain ⟨l, e1, e2⟩ := rd_open (W := w) (base := base) (size := size) (n := len) (a := a') (fun e : { e : α // good e } => f e.1) hsz (fun i hi => by
   obtain ⟨cs, q1, q2⟩ := hx i (by rw [hmm]; split <;> omega)
   obtain ⟨e, he, rfl⟩ := hof q2
   exact ⟨⟨e, he⟩, q1⟩)
  refine ⟨l.map (·.1), by simpa using e1, fun e he => ?_, ?_⟩
  ·obtain ⟨x, _, rfl⟩ := List.mem_map.1 he
   exact x.2
  ·rw [List.flatMap_map]
   exact e2
theorem open_rows {held' : Bool} {fuel : Nat} {a : Option Addr} {len cap : Nat} {x : DataW H × List MemPlace} (h : DataW.trod enc Tryz.prog w base spare held' fuel 24 [.slice a len cap] = some x) :
  ∃ l : List RowV, l.length = len ∧ (∀ e ∈ l, e.In w) ∧ rdP a 3 len (l.flatMap RowV.cells) (hl w) :=
 open_many RowV.cells (fun x => x.In w) Tryz.underlying24 (by kernel_rfl) (by decide) row_of h
theorem open_fas {held' : Bool} {fuel : Nat} {a : Option Addr} {len cap : Nat} {x : DataW H × List MemPlace} (h : DataW.trod enc Tryz.prog w base spare held' fuel 25 [.slice a len cap] = some x) :
  ∃ l : List FaV, l.length = len ∧ (∀ e ∈ l, True) ∧ rdP a 7 len (l.flatMap FaV.cells) (hl w) :=
 open_many FaV.cells (fun _ => True) Tryz.underlying25 (by kernel_rfl) (by decide) (fun h => let ⟨x, e⟩ := fa_of h; ⟨x, trivial, e⟩) h
theorem open_pgs {held' : Bool} {fuel : Nat} {a : Option Addr} {len cap : Nat} {x : DataW H × List MemPlace} (h : DataW.trod enc Tryz.prog w base spare held' fuel 26 [.slice a len cap] = some x) :
  ∃ l : List (List UInt8), l.length = len ∧ (∀ e ∈ l, e.length = 32) ∧ rdP a 32 len (l.flatMap pageC) (hl w) :=
 open_many pageC (fun l => l.length = 32) Tryz.underlying26 (by kernel_rfl) (by decide) pg_of h
end
end Go.Proofs.YtoideahgjgaddaaGreat
namespace Go.Proofs.YtoideahgjgaddaaGreat
open Go Go.RowKit
open Go.ChangeShapes Go.WideShapes Go.ChangeAt
section
variable {H : Type} {enc : TypeId × Value → H} {w : World} {base : Nat} {spare : Nat → Bool} {held : Bool}
end
end Go.Proofs.YtoideahgjgaddaaGreat
namespace Go.Proofs.YtoideahgjgaddaaGreat
open Go Go.RowKit
def oad2 : Option (Nat × Nat) → Option Addr
 | some x => some ⟨x.1, x.2, none⟩
 | none => none
def cutA (a : Option (Nat × Nat)) (size h c : Nat) : Option (Nat × Nat) := match a with
 | some y => if c = h then some y else some (y.1, y.2 + h * size)
 | none => none
section
variable {P : Program} {T : Tab} {E : Env} {n : Nat} {ac : Act} {w : World}
theorem cutlo2_run (hT : TabOK P T) {o : Oper} {t e size : Nat} {x y : Operand} {k1 k2 t1 t2 : Nat} {g1 g2 : G} {a : Option (Nat × Nat)} {m c h : Nat} {kk : IntKind} {hI : Int} {s1 b1 b2 : Nat} {z1 z2 : List Value} {td : TD} (hop : o.op = .slice t x (some y) none none) (hx : ev E x = some ⟨k1, .slice (oad2 a) m c, t1, g1⟩) (hy : ev E y = some ⟨k2, .int kk hI, t2, g2⟩) (he : EnvOK n E ac) (v1 : g1.on = true) (v2 : g2.on = true)
  (ht : T.get t = some ⟨.slice e size, s1, z1, b1⟩) (hte : T.get e = some ⟨td, size, z2, b2⟩) (hhI : hI = (h : Int)) (hh : h ≤ m) :
  (execOp ac.eval o).run P w = .ok (.value (.slice (oad2 (cutA a size h c)) (m - h) (c - h))) w := by
 subst hhI
 have e1 := ev_spec he hx
 have e2 := ev_spec he hy
 simp only [Slot.val, v1, v2] at e1 e2
 obtain ⟨d, f, zv, ok⟩ := tiOf_spec (hT.get ht)
 obtain ⟨fe, rfl, g1, g2⟩ := ok.slice rfl
 cases a with
 | none =>
  simp only [execOp, hop, Option.map_some, Option.map_none, e1, e2, Instr.sliceAt, Instr.slice, Instr.sliceBounds, Instr.sliceBound, asIntOf, Sem.run_bind, Sem.run_pure, Result.andThen_ok, underlying_run ok.hd, sizeOf_run g1, g2]
  simp [hh, oad2, cutA]
 | some ad =>
  by_cases hne : c = h
  ·simp only [execOp, hop, Option.map_some, Option.map_none, e1, e2, Instr.sliceAt, Instr.slice, Instr.sliceBounds, Instr.sliceBound, asIntOf, Sem.run_bind, Sem.run_pure, Result.andThen_ok, underlying_run ok.hd, sizeOf_run g1, g2]
   simp [hh, hne, Addr.add_none, oad2, cutA]
  ·simp only [execOp, hop, Option.map_some, Option.map_none, e1, e2, Instr.sliceAt, Instr.slice, Instr.sliceBounds, Instr.sliceBound, asIntOf, Sem.run_bind, Sem.run_pure, Result.andThen_ok, underlying_run ok.hd, sizeOf_run g1, g2]
   simp [hh, hne, Addr.add_none, oad2, cutA]
end
section
variable {X : Cx} {P : Program} {K : List KI} {E : Env} {L : List Atom} {N : Nat} {F : HP} {Post : Value → List Atom → Prop} {rs : List ResultVar} {T : Tab}
theorem J.appendRO (hX : IsCx X P rs N F Post) (hT : TabOK P T) {ops : Array Oper} {C : Cl} {lt : Bool} {i : Nat} {t : PT} {o : Oper} {x y : Operand} {st e size by_ : Nat} {ks tgs : Nat} {gs : G} {a : Option Nat} {n cap : Nat} {xs : List Value} {ky tgy : Nat} {gy : G} {ay : Option (Nat × Nat)} {m cy : Nat} {cs : List Value} {s1 b1 : Nat} {z1 : List Value} {E' : Value → Env} {Ay : Atom} (is iy : Nat) (hc0 : ay = none → cy = 0)
  (ho : lget ops.toList i = some o) (hg : gd ops.toList E o = some .tt) (hop : o.op = .call ⟨.builtin .append, #[x, y], #[st, st]⟩)
  (hx : ev E x = some ⟨ks, slv a n cap, tgs, gs⟩) (hvx : gs.on = true) (hy : ev E y = some ⟨ky, .slice (oad2 ay) m cy, tgy, gy⟩) (hvy : gy.on = true)
  (hLs : lget L is = some (ownA e size a n cap xs)) (hLy : lget L iy = some Ay) (hrd : Rd Ay (oad2 ay) size m cs) (hst : T.get st = some ⟨.slice e size, s1, z1, b1⟩) {td : TD} {z : List Value} (he : T.get e = some ⟨td, size, z, by_⟩) (hz : Nat.beq z.length size = true)
  (hsz : Nat.blt 0 size = true) (h1 : ∀ u ∈ cs, u.oneCell' = true) (h63 : n + m ≤ maxLen) (hbytes : (n + m) * by_ ≤ 140737488355328)
  (hd : ∀ v, putE N o.dst v 0 .tt E = some (E' v))
  (hJ : ∀ a' cap', ∃ L', lset L is (ownA e size a' (n + m) cap' (xs ++ cs)) = some L' ∧ Conj (staysL lt C L') ∧ J X (.reg ops C t :: K) (E' (slv a' (n + m) cap')) L') : J X (.reg ops C (.alt lt i t .non) :: K) E L := by
 cases ay with
 | some b => exact J.appendR hX hT (oo := b.2) is iy 0 ho hg rfl hop hx hvx hy hvy hLs hLy hrd hst he hz hsz h1 h63 hbytes hd hJ
 | none =>
  obtain rfl := hc0 rfl
  rw [lget_eq] at hLs hLy
  refine J.know (p := cs.length = m * size ∧ m = 0) (fun h s => ⟨(hrd _ (s.get hLy)).1, by
   rcases Nat.eq_zero_or_pos m with h0 | h0
   ·exact h0
   ·obtain ⟨_, _, _, _, _, e, _⟩ := (hrd _ (s.get hLy)).2 h0; cases e⟩) fun hk => ?_
  obtain ⟨q1, rfl⟩ := hk
  have hcs : cs = [] := List.eq_nil_of_length_eq_zero (by rw [q1, Nat.zero_mul])
  subst hcs
  obtain ⟨L', e1, e2, e3⟩ := hJ a cap
  rw [Nat.add_zero, List.append_nil] at e1
  rw [Nat.add_zero] at e3
  have hL : L' = L := by
   rw [lset_eq e1]
   apply List.ext_getElem?
   intro j
   rw [List.getElem?_set]
   split
   ·rename_i e; subst e; split
    ·exact hLs.symm
    ·rename_i e4; rw [List.getElem?_eq_none (by omega)]
   ·rfl
  subst hL
  exact J.val hX (slv a n cap) 0 ho hg (fun _ ac w hen hs => append_none_run hT hop hx hvx hy hvy hen hst he (show ownP e size a n cap xs (hl w) from hs.get hLs)) (hd _) e2 e3
end
end Go.Proofs.YtoideahgjgaddaaGreat
namespace Go.Proofs.YtoideahgjgaddaaGreat
open Go
namespace Nand
variable {N : Nand} {n : Nat}
end Nand
namespace Nand
variable {N N' N'' : Nand} {b : Nat}
end Nand
namespace V
end V
end Go.Proofs.YtoideahgjgaddaaGreat
namespace Go.Proofs.YtoideahgjgaddaaGreat
open Go
variable {N : Nand} {b m : Int} {l : List En} {j : Nat}
end Go.Proofs.YtoideahgjgaddaaGreat
namespace Go.Proofs.YtoideahgjgaddaaGreat
open Go
namespace V
theorem step_tb' (N : Nand) (L : List Fnd) (s : Sst) (k : Nat) : (step N L s k).tb = if (standOf (of L k)).2 = true then s.tb.put (standOf (of L k)).1.en (standOf (of L k)).1.block (standOf (of L k)).1.row (standOf (of L k)).1.slot (standOf (of L k)).1.mask else s.tb := by
 unfold step
 by_cases h : (standOf (of L k)).2 = true
 ·rw [if_pos h, if_pos h]
  split
  ·rfl
  ·split <;> rfl
 ·rw [if_neg h, if_neg h]
theorem look_put (t : Tb) (e : En) (b r s m : Int) (i : Int) : Tb.look (t.put e b r s m).at_ i = if t.putB e = true ∧ i = e.lpn then some ⟨b, r, s, m, e.seq, e.role⟩ else Tb.look t.at_ i := by
 unfold Tb.put
 by_cases h : t.putB e = true
 ·rw [if_pos h]
  show Tb.look (Tb.put1 t.at_ e.lpn _) i = _
  rw [Tb.look_put1]
  by_cases hi : i = e.lpn
  ·rw [if_pos hi, if_pos ⟨h, hi⟩]
  ·rw [if_neg hi, if_neg (fun h => hi h.2)]
 ·rw [if_neg h, if_neg (fun h' => h h'.1)]
theorem goS_look (N : Nand) (L : List Fnd) (n : Int) : ∀ k i : Nat, Tb.look (goS N L n k).tb.at_ (i : Int) = if i < k ∧ (standOf (of L i)).2 = true ∧ Tb.ok (Tb.new n) (standOf (of L i)).1.en = true then some ⟨(standOf (of L i)).1.block, (standOf (of L i)).1.row, (standOf (of L i)).1.slot, (standOf (of L i)).1.mask, (standOf (of L i)).1.en.seq, (standOf (of L i)).1.en.role⟩ else none
 | 0, i => by rw [if_neg (by omega)]; rfl
 | k + 1, i => by
  have ih := goS_look N L n k
  have hlog : (goS N L n k).tb.logical = (Tb.new n).logical := goS_log N L n k
  rw [goS_succ, step_tb']
  by_cases hs : (standOf (of L k)).2 = true
  ·have hlpn : (standOf (of L k)).1.en.lpn = k := by
    have := (List.mem_filter.1 (standOf_mem hs)).2
    exact eq_of_beq this
   have hok : (goS N L n k).tb.putB (standOf (of L k)).1.en = Tb.ok (Tb.new n) (standOf (of L k)).1.en := by
    unfold Tb.putB Tb.elder
    rw [hlpn, ih k, if_neg (by omega)]
    unfold Tb.ok
    rw [hlog]
    simp
   rw [if_pos hs, look_put, hok, hlpn, ih i]
   by_cases hik : i = k
   ·subst hik
    by_cases ho : Tb.ok (Tb.new n) (standOf (of L i)).1.en = true
    ·rw [if_pos ⟨ho, rfl⟩, if_pos ⟨by omega, hs, ho⟩]
    ·rw [if_neg (fun h => ho h.1), if_neg (by omega), if_neg (fun h => ho h.2.2)]
   ·rw [if_neg (fun h => hik (by omega))]
    by_cases hc : (standOf (of L i)).2 = true ∧ Tb.ok (Tb.new n) (standOf (of L i)).1.en = true
    ·by_cases hlt : i < k
     ·rw [if_pos ⟨hlt, hc⟩, if_pos ⟨by omega, hc⟩]
     ·rw [if_neg (fun h => hlt h.1), if_neg (fun h => by omega)]
    ·rw [if_neg (fun h => hc h.2), if_neg (fun h => hc h.2)]
  ·rw [if_neg hs, ih i]
   by_cases hik : i = k
   ·subst hik
    rw [if_neg (by omega), if_neg (fun h => hs h.2.1)]
   ·by_cases hc : (standOf (of L i)).2 = true ∧ Tb.ok (Tb.new n) (standOf (of L i)).1.en = true
    ·by_cases hlt : i < k
     ·rw [if_pos ⟨hlt, hc⟩, if_pos ⟨by omega, hc⟩]
     ·rw [if_neg (fun h => hlt h.1), if_neg (fun h => by omega)]
    ·rw [if_neg (fun h => hc h.2), if_neg (fun h => hc h.2)]
end V
end Go.Proofs.YtoideahgjgaddaaGreat
namespace Go.Proofs.YtoideahgjgaddaaGreat
open Go Go.RowKit
open Go.ChangeShapes Go.WideShapes Go.ChangeAt
section
variable {H : Type} {enc : TypeId × Value → H} {w : World} {base : Nat} {spare : Nat → Bool} {held : Bool}
end
end Go.Proofs.YtoideahgjgaddaaGreat
namespace Go.Proofs.YtoideahgjgaddaaGreat
open Go Go.RowKit
section
variable {X : Cx} {P : Program} {K : List KI} {E : Env} {L : List Atom} {N : Nat} {F : HP} {Post : Value → List Atom → Prop} {rs : List ResultVar} {T : Tab}
theorem J.appendAny (hX : IsCx X P rs N F Post) (hT : TabOK P T) {ops : Array Oper} {C : Cl} {lt : Bool} {i : Nat} {t : PT} {o : Oper} {x y : Operand} {st e size by_ : Nat} {ks tgs : Nat} {gs : G} {a : Option Nat} {n cap : Nat} {xs : List Value} {ky tgy : Nat} {gy : G} {ay : Option Addr} {m cy : Nat} {cs : List Value} {s1 b1 : Nat} {z1 : List Value} {E' : Value → Env} {Ay : Atom} (is iy : Nat) (hc0 : ay = none → cy = 0)
  (ho : lget ops.toList i = some o) (hg : gd ops.toList E o = some .tt) (hop : o.op = .call ⟨.builtin .append, #[x, y], #[st, st]⟩)
  (hx : ev E x = some ⟨ks, slv a n cap, tgs, gs⟩) (hvx : gs.on = true) (hy : ev E y = some ⟨ky, .slice ay m cy, tgy, gy⟩) (hvy : gy.on = true)
  (hLs : lget L is = some (ownA e size a n cap xs)) (hLy : lget L iy = some Ay) (hrd : Rd Ay ay size m cs) (hst : T.get st = some ⟨.slice e size, s1, z1, b1⟩) {td : TD} {z : List Value} (he : T.get e = some ⟨td, size, z, by_⟩) (hz : Nat.beq z.length size = true)
  (hsz : Nat.blt 0 size = true) (h1 : ∀ u ∈ cs, u.oneCell' = true) (h63 : n + m ≤ maxLen) (hbytes : (n + m) * by_ ≤ 140737488355328)
  (hd : ∀ v, putE N o.dst v 0 .tt E = some (E' v))
  (hJ : ∀ a' cap', ∃ L', lset L is (ownA e size a' (n + m) cap' (xs ++ cs)) = some L' ∧ Conj (staysL lt C L') ∧ J X (.reg ops C t :: K) (E' (slv a' (n + m) cap')) L') : J X (.reg ops C (.alt lt i t .non) :: K) E L := by
 cases ay with
 | none =>
  exact J.appendRO hX hT (ay := none) is iy (fun _ => hc0 rfl) ho hg hop hx hvx hy hvy hLs hLy hrd hst he hz hsz h1 h63 hbytes hd hJ
 | some ad =>
  refine J.op hX (S := fun v L' => ∃ a' cap', v = slv a' (n + m) cap' ∧ L' = L.set is (ownA e size a' (n + m) cap' (xs ++ cs))) 0 ho hg rfl (fun a0 w hen hs => ?_) hd (fun v L' ⟨a', cap', e1, e2⟩ => by subst e1; subst e2; obtain ⟨L2, q1, q2⟩ := hJ a' cap'; rw [← lset_eq q1]; exact q2)
  obtain ⟨d, f, zv, ok⟩ := tiOf_spec (hT.get hst)
  obtain ⟨fe, rfl, g1, g2⟩ := ok.slice rfl
  obtain ⟨d', f', zv', ok'⟩ := tiOf_spec (hT.get he)
  have hf : fe = f' := by have := g1.symm.trans ok'.hf; injection this
  subst hf
  have hzz : z = zv'.cells.toList := ok'.hzero
  subst hzz
  rw [lget_eq] at hLs hLy
  have hrow := ownP_row (hs.get hLs)
  have hrd2 := hrd _ (hs.get hLy)
  have hnews : ∀ j u, cs[j]? = some u → w.cell? (ad.add j) = some u := fun j u hu => by
   rcases Nat.eq_zero_or_pos m with h0 | h0
   ·have := hrd2.1
    rw [h0, Nat.zero_mul] at this
    rw [List.eq_nil_of_length_eq_zero this] at hu; simp at hu
   ·obtain ⟨b, oo, hba⟩ := Rd.addr hrd2 h0
    injection hba with hba
    subst hba
    rw [Addr.add_none]
    exact rd_cell hrd2 h0 hu
  obtain ⟨v', w', r1, r2, r3, _, r5⟩ := run_append_own_at (P := P) w 0 st o.type e fe zv' size by_ ok.hd ok'.hf ok'.hz g2 ok'.hbytes.symm (by have := Nat.eq_of_beq_eq_true hz; simpa using this) (Nat.le_of_ble_eq_true hsz) _ n xs hrow ad m cy cs hrd2.1 hnews h1 h63 hbytes (Nat.zero_le _)
  obtain ⟨a', cap', e1, e2, e3⟩ := row_ownP r2
  subst e1
  have ex := ev_spec hen hx
  have ey := ev_spec hen hy
  simp only [Slot.val, hvx, hvy] at ex ey
  refine ⟨_, _, .value (slv a' (n + m) cap'), w', ⟨a', cap', rfl, rfl⟩, ?_, .inl rfl, ?_, Ext.grown r3⟩
  ·simp only [execOp, hop, resolve, Sem.run_bind, Sem.run_pure, Result.andThen_ok, invoke, builtin, List.map_toArray, List.map_cons, List.map_nil, ex, ey, r1]
  ·refine Sep.step hs hLs (x := (slv a n cap).ownBlock) (x' := a') (fun h g0 hh he0 => ?_) r3 (by rw [← e3]; exact r5) (fun h hh => ⟨e2.1, ?_⟩)
   ·cases a with
    | none => simp [slv, Value.ownBlock] at he0
    | some ga =>
     simp only [slv, Value.ownBlock, Option.some.injEq] at he0
     subst he0
     obtain ⟨cur, h1, _⟩ := hh.2
     exact ⟨_, h1⟩
   ·have e22 := e2.2
    cases a' with
    | none => exact e22
    | some ga =>
     obtain ⟨cur, q1, q2⟩ := e22
     exact ⟨cur, (hh ga rfl).trans q1, q2⟩
end
theorem max_if2 (a b : Int) : (if b > a then b else a) = max a b := by split <;> omega
theorem spot_eq {l : List Int} {b : Int} {k : Nat} (h1 : ∀ i, i < k → l.getD i 0 < b) (hk : k ≤ l.length) (h2 : k = l.length ∨ ¬ l.getD k 0 < b) : spotH l b = k := by
 unfold spotH
 induction l generalizing k with
 | nil =>
  obtain rfl : k = 0 := by simpa using hk
  rfl
 | cons x l ih =>
  cases k with
  | zero =>
   rcases h2 with h2 | h2
   ·simp at h2
   ·rw [List.getD_cons_zero] at h2
    rw [List.takeWhile_cons_of_neg (by simpa using h2)]; rfl
  | succ k =>
   have h0 := h1 0 (by omega)
   rw [List.getD_cons_zero] at h0
   rw [List.takeWhile_cons_of_pos (by simpa using h0), List.length_cons, ih (k := k) (fun i hi => by have := h1 (i + 1) (by omega); rwa [List.getD_cons_succ] at this) (by simpa using hk) (h2.imp (fun h => by simpa using h) (fun h => by rwa [List.getD_cons_succ] at h))]
theorem cellsF_in {l : List Fnd} {k : Nat} {x : Fnd} (h : l[k]? = some x) (j : Nat) (hj : j < 25) : (cellsF l)[0 + (k : Int).toNat * 25 + j]? = (fnL x)[j]? := by
 rw [show 0 + (k : Int).toNat * 25 + j = k * 25 + j from by omega]
 exact cellsF_cell h j hj
theorem cuthi_run {P : Program} {T : Tab} {E : Env} {n : Nat} {ac : Act} {w : World} (hT : TabOK P T) {o : Oper} {t e size : Nat} {x y : Operand} {k1 k2 t1 t2 : Nat} {g1 g2 : G} {a : Option Addr} {m c h : Nat} {kk : IntKind} {s1 b1 b2 : Nat} {z1 z2 : List Value} {td : TD} (hop : o.op = .slice t x none (some y) none) (hx : ev E x = some ⟨k1, .slice a m c, t1, g1⟩) (hy : ev E y = some ⟨k2, .int kk h, t2, g2⟩) (he : EnvOK n E ac) (v1 : g1.on = true) (v2 : g2.on = true)
  (ht : T.get t = some ⟨.slice e size, s1, z1, b1⟩) (hte : T.get e = some ⟨td, size, z2, b2⟩) (hc : h ≤ c) :
  (execOp ac.eval o).run P w = .ok (.value (.slice a h c)) w := by
 have e1 := ev_spec he hx
 have e2 := ev_spec he hy
 simp only [Slot.val, v1, v2] at e1 e2
 obtain ⟨d, f, zv, ok⟩ := tiOf_spec (hT.get ht)
 obtain ⟨fe, rfl, g1, g2⟩ := ok.slice rfl
 have h0 : ∀ ad : Addr, ad.add 0 = ad := fun ad => by unfold Addr.add; rw [if_pos rfl]
 cases a with
 | none =>
  simp only [execOp, hop, Option.map_some, Option.map_none, e1, e2, Instr.sliceAt, Instr.slice, Instr.sliceBounds, Instr.sliceBound, asIntOf, Sem.run_bind, Sem.run_pure, Result.andThen_ok, underlying_run ok.hd, sizeOf_run g1, g2]
  simp [hc, h0]
 | some ad =>
  simp only [execOp, hop, Option.map_some, Option.map_none, e1, e2, Instr.sliceAt, Instr.slice, Instr.sliceBounds, Instr.sliceBound, asIntOf, Sem.run_bind, Sem.run_pure, Result.andThen_ok, underlying_run ok.hd, sizeOf_run g1, g2]
  simp [hc, h0]
theorem f13_held (al : Option Nat) (nl cl : Nat) (H : List Int) (hH : H.length = nl) (hnl : nl ≤ 100000) (ai : Option Nat) (ni ci : Nat) (I : List Fnd) (hIl : I.length = ni) (hni : ni ≤ 100000) (k : Int) :
  Fn Tryz.prog 55 [slv al nl cl, slv ai ni ci, .int .i64 k] [ownA 3 1 al nl cl (cellsI H), ownA 103 25 ai ni ci (cellsF I)]
  (fun v As => ∃ a c, v = slv a (heldK H I k (topK I k ni) ni).length c ∧ As = [ownA 3 1 a (heldK H I k (topK I k ni) ni).length c (cellsI (heldK H I k (topK I k ni) ni)), ownA 103 25 ai ni ci (cellsF I)]) := by
 subst hH
 refine Fn.enter [0, 0, 0] Tryz.func55 rfl rfl rfl fun X F hX => ?_
 refine J.r hX tk 400 (fun _ => rfl) fun b1 => ?_
 refine J.lo (α := Nat) (fun i => i ≤ ni) (fun i => [⟨8, .int .i64 i, 0, .tt⟩, ⟨7, .int .i64 (topK I k i), 0, .tt⟩, ⟨0, slv al H.length cl, 0, .tt⟩, ⟨1, slv ai ni ci, 0, .tt⟩, ⟨2, .int .i64 k, 0, .tt⟩]) [] (fun i => []) (fun i => ni - i) (0) (Nat.zero_le _) rfl ?_ (fun _ => rfl) fun i hI => ?_
 ·rfl
 refine J.r hX tk 400 (fun _ => rfl) fun b3 => ?_
 refine J.cond rfl (fun h1 => ?_) (fun h1 => ?_)
 ·simp only [decide_eq_true_eq, Int.ofNat_lt] at h1
  obtain ⟨x, hx⟩ : ∃ x, I[i]? = some x := ⟨_, List.getElem?_eq_getElem (by omega)⟩
  have hts := topK_succ I k i x hx
  refine J.know (fun h' s => own_some (c := (ai, ci)) (by omega) (s.get (i := 2) rfl)) fun hg => ?_
  obtain ⟨gi, rfl⟩ := hg
  refine J.r hX tk 400 (fun _ => rfl) fun b4 => ?_
  refine J.val hX (.int .i64 x.en.lpn) 0 rfl rfl (fun hg a w he hs => own1_run tk rfl rfl he hg rfl rfl (hs.get (i := 2) rfl) (by rw [show 0 + (i : Int).toNat * 25 + 0 + 0 = 0 + (i : Int).toNat * 25 + 0 from rfl, cellsF_in hx 0 (by decide)]; rfl)) rfl trivial ?_
  refine J.r hX tk 400 (fun _ => rfl) fun b5 => ?_
  refine J.val hX (.bool x.whole) 0 rfl rfl (fun hg a w he hs => own1_run tk rfl rfl he hg rfl rfl (hs.get (i := 2) rfl) (by rw [cellsF_in hx 23 (by decide)]; rfl)) rfl trivial ?_
  refine J.r hX tk 400 (fun _ => rfl) fun b6 => ?_
  refine J.cond rfl (fun h2 => ?_) (fun h2 => ?_)
  ·rw [if_pos h2] at hts
   refine J.r hX tk 400 (fun _ => rfl) fun b7 => ?_
   refine J.val hX (.int .i64 x.en.seq) 0 rfl rfl (fun hg a w he hs => own1_run tk rfl rfl he hg rfl rfl (hs.get (i := 2) rfl) (by rw [show 0 + (i : Int).toNat * 25 + 0 + 1 = 0 + (i : Int).toNat * 25 + 1 from rfl, cellsF_in hx 1 (by decide)]; rfl)) rfl trivial ?_
   refine J.r hX tk 2 (fun _ => rfl) fun b8 => ?_
   rw [max_if2, ← hts]
   refine J.r hX tk 400 (fun _ => rfl) fun b9 => ?_
   refine J.nS (i + 1) (by omega) (by omega) [0, 1, 2] rfl rfl
  ·rw [if_neg (by rw [h2]; exact Bool.false_ne_true)] at hts
   rw [← hts]
   refine J.r hX tk 400 (fun _ => rfl) fun b11 => ?_
   refine J.nS (i + 1) (by omega) (by omega) [0, 1, 2] rfl rfl
 simp only [decide_eq_false_iff_not, Int.ofNat_lt] at h1
 obtain rfl : i = ni := by omega
 obtain ⟨t, ht⟩ : ∃ t, topK I k i = t := ⟨_, rfl⟩
 rw [ht]
 have hk0 : heldK H I k t 0 = H := rfl
 refine J.r hX tk 400 (fun _ => rfl) fun b13 => ?_
 refine J.lo (α := (Nat × Option Nat × Nat)) (fun z => z.1 ≤ i) (fun z => [⟨9, .int .i64 z.1, 0, .tt⟩, ⟨7, .int .i64 t, 0, .tt⟩, ⟨0, slv z.2.1 (heldK H I k t z.1).length z.2.2, 0, .tt⟩, ⟨1, slv ai i ci, 0, .tt⟩, ⟨2, .int .i64 k, 0, .tt⟩]) [1] (fun z => [ownA 3 1 z.2.1 (heldK H I k t z.1).length z.2.2 (cellsI (heldK H I k t z.1))]) (fun z => i - z.1) ((0, al, cl)) (Nat.zero_le _) rfl ?_ (fun _ => rfl) fun z hI => ?_
 ·rfl
 obtain ⟨j, aj, cj⟩ := z
 dsimp only at hI ⊢
 have hkl := heldK_len H I k t j
 refine J.r hX tk 400 (fun _ => rfl) fun b15 => ?_
 refine J.cond rfl (fun h3 => ?_) (fun h3 => ?_)
 ·simp only [decide_eq_true_eq, Int.ofNat_lt] at h3
  obtain ⟨x, hx⟩ : ∃ x, I[j]? = some x := ⟨_, List.getElem?_eq_getElem (by omega)⟩
  have hhs := heldK_succ H I k t j x hx
  refine J.know (fun h' s => own_some (c := (ai, ci)) (by omega) (s.get (i := 2) rfl)) fun hg => ?_
  obtain ⟨gi, rfl⟩ := hg
  refine J.r hX tk 400 (fun _ => rfl) fun b16 => ?_
  refine J.val hX (.int .i64 x.block) 0 rfl rfl (fun hg a w he hs => own1_run tk rfl rfl he hg rfl rfl (hs.get (i := 2) rfl) (by rw [show 0 + (j : Int).toNat * 25 + 19 + 0 = 0 + (j : Int).toNat * 25 + 19 from rfl, cellsF_in hx 19 (by decide)]; rfl)) rfl trivial ?_
  refine J.r hX tk 400 (fun _ => rfl) fun b17 => ?_
  refine J.val hX (.int .i64 x.en.lpn) 0 rfl rfl (fun hg a w he hs => own1_run tk rfl rfl he hg rfl rfl (hs.get (i := 2) rfl) (by rw [show 0 + (j : Int).toNat * 25 + 0 + 0 = 0 + (j : Int).toNat * 25 + 0 from rfl, cellsF_in hx 0 (by decide)]; rfl)) rfl trivial ?_
  refine J.r hX tk 400 (fun _ => rfl) fun b18 => ?_
  refine J.val hX (.bool x.whole) 0 rfl rfl (fun hg a w he hs => own1_run tk rfl rfl he hg rfl rfl (hs.get (i := 2) rfl) (by rw [cellsF_in hx 23 (by decide)]; rfl)) rfl trivial ?_
  refine J.r hX tk 400 (fun _ => rfl) fun b19 => ?_
  refine J.val hX (.int .i64 x.en.seq) 0 rfl rfl (fun hg a w he hs => own1_run tk rfl rfl he hg rfl rfl (hs.get (i := 2) rfl) (by rw [show 0 + (j : Int).toNat * 25 + 0 + 1 = 0 + (j : Int).toNat * 25 + 1 from rfl, cellsF_in hx 1 (by decide)]; rfl)) rfl trivial ?_
  refine J.r hX tk 400 (fun _ => rfl) fun b20 => ?_
  refine J.cond rfl (fun h4 => ?_) (fun h4 => ?_)
  ·have h5 : (x.en.lpn == k && x.whole && x.en.seq == t) = false := by
    revert h4
    simp only [bne]
    cases (x.en.lpn == k) <;> cases x.whole <;> cases (x.en.seq == t) <;> simp
   rw [if_neg (by rw [h5]; exact Bool.false_ne_true)] at hhs
   rw [← hhs]
   refine J.r hX tk 400 (fun _ => rfl) fun b21 => ?_
   refine J.nS ((j + 1, aj, cj)) (by dsimp only; omega) (by dsimp only; omega) [0, 1, 2] rfl rfl
  have h5 : (x.en.lpn == k && x.whole && x.en.seq == t) = true := by
   revert h4
   simp only [bne]
   cases (x.en.lpn == k) <;> cases x.whole <;> cases (x.en.seq == t) <;> simp
  rw [if_pos h5] at hhs
  obtain ⟨M, hM⟩ : ∃ M, M = heldK H I k t j := ⟨_, rfl⟩
  rw [← hM] at hhs hkl ⊢
  have hMl : M.length ≤ 200000 := by omega
  refine J.r hX tk 400 (fun _ => rfl) fun b23 => ?_
  refine J.lo (α := Nat) (fun u => u ≤ M.length ∧ ∀ i', i' < u → M.getD i' 0 < x.block) (fun u => [⟨11, .int .i64 u, 0, .tt⟩, ⟨10, .int .i64 x.block, 0, .tt⟩, ⟨9, .int .i64 j, 0, .tt⟩, ⟨7, .int .i64 t, 0, .tt⟩, ⟨0, slv aj M.length cj, 0, .tt⟩, ⟨1, slv (some gi) i ci, 0, .tt⟩, ⟨2, .int .i64 k, 0, .tt⟩]) [] (fun u => []) (fun u => M.length - u) (0) (⟨Nat.zero_le _, fun i' h => by omega⟩) rfl ?_ (fun _ => rfl) fun u hI => ?_
  ·rfl
  obtain ⟨hu1, hu2⟩ := hI
  refine J.r hX tk 2 (fun _ => rfl) fun b25 => ?_
  refine J.join (α := Unit) (fun _ => [⟨90, .bool (decide (u < M.length) && decide (M.getD u 0 < x.block)), 0, .tt⟩, ⟨11, .int .i64 u, 0, .tt⟩, ⟨10, .int .i64 x.block, 0, .tt⟩, ⟨9, .int .i64 j, 0, .tt⟩, ⟨7, .int .i64 t, 0, .tt⟩, ⟨0, slv aj M.length cj, 0, .tt⟩, ⟨1, slv (some gi) i ci, 0, .tt⟩, ⟨2, .int .i64 k, 0, .tt⟩]) (fun _ => [.hp F, ownA 3 1 aj M.length cj (cellsI M), ownA 103 25 (some gi) i ci (cellsF I)]) (fun hj => ?_) (fun _ => ?_)
  ·by_cases hlt : u < M.length
   ·obtain ⟨y, hy⟩ : ∃ y, M[u]? = some y := ⟨_, List.getElem?_eq_getElem hlt⟩
    have hyd : M.getD u 0 = y := by rw [List.getD_eq_getElem?_getD, hy]; rfl
    refine J.know (fun h' s => own_some (c := (aj, cj)) (by omega) (s.get (i := 1) rfl)) fun hg => ?_
    obtain ⟨gj, rfl⟩ := hg
    refine J.r hX tk 5 (fun _ => rfl) fun b26 => ?_
    rw [decide_eq_true (by omega : (u : Int) < (M.length : Int))]
    refine J.r hX tk 400 (fun _ => rfl) fun b27 => ?_
    refine J.val hX (.int .i64 y) 0 rfl rfl (fun hg a w he hs => own1_run tk rfl rfl he rfl rfl rfl (hs.get (i := 1) rfl) (by rw [show 0 + (u : Int).toNat * 1 = u from by omega]; exact cellsI_get hy)) rfl trivial ?_
    refine J.r hX tk 6 (fun _ => rfl) fun b28 => ?_
    exact J.goto [0, 1, 2] (hj ()) ⟨congrArg (fun b => some (Value.bool b)) (by rw [decide_eq_true hlt, hyd] : (true && decide (y < x.block)) = (decide (u < M.length) && decide (M.getD u 0 < x.block))), rfl, rfl, rfl, rfl, rfl, rfl, rfl, trivial⟩ rfl rfl
   ·refine J.r hX tk 5 (fun _ => rfl) fun b29 => ?_
    rw [decide_eq_false (by omega : ¬ (u : Int) < (M.length : Int))]
    have hfin : (false && decide ((0 : Int) < x.block)) = (decide (u < M.length) && decide (M.getD u 0 < x.block)) := by rw [decide_eq_false hlt]; rfl
    rcases aj with _ | gj
    ·refine J.r hX tk 400 (fun _ => rfl) fun b30 => ?_
     refine J.val hX (.pointer none) 0 rfl rfl (fun hg a w he hs => by simp [G.on] at hg) rfl trivial ?_
     refine J.r hX tk 400 (fun _ => rfl) fun b31 => ?_
     refine J.val hX (.int .i64 0) 0 rfl rfl (fun hg a w he hs => by simp [G.on] at hg) rfl trivial ?_
     refine J.r hX tk 6 (fun _ => rfl) fun b32 => ?_
     exact J.goto [0, 1, 2] (hj ()) ⟨congrArg (fun b => some (Value.bool b)) hfin, rfl, rfl, rfl, rfl, rfl, rfl, rfl, trivial⟩ rfl rfl
    ·refine J.r hX tk 400 (fun _ => rfl) fun b33 => ?_
     refine J.val hX (.int .i64 0) 0 rfl rfl (fun hg a w he hs => by simp [G.on] at hg) rfl trivial ?_
     refine J.r hX tk 6 (fun _ => rfl) fun b34 => ?_
     exact J.goto [0, 1, 2] (hj ()) ⟨congrArg (fun b => some (Value.bool b)) hfin, rfl, rfl, rfl, rfl, rfl, rfl, rfl, trivial⟩ rfl rfl
  refine J.r hX tk 400 (fun _ => rfl) fun b35 => ?_
  refine J.cond rfl (fun h6 => ?_) (fun h6 => ?_)
  ·simp only [Bool.and_eq_true, decide_eq_true_eq] at h6
   refine J.r hX tk 400 (fun _ => rfl) fun b36 => ?_
   refine J.nS (u + 1) (⟨by omega, fun i' hi' => by
    rcases Nat.lt_succ_iff_lt_or_eq.1 hi' with h | h
    ·exact hu2 i' h
    ·rw [h]; exact h6.2⟩) (by omega) [0, 1, 2] rfl rfl
  have hsp : spotH M x.block = u := by
   refine spot_eq hu2 hu1 ?_
   simp only [Bool.and_eq_false_iff, decide_eq_false_iff_not] at h6
   rcases h6 with h | h
   ·left; omega
   ·right; exact h
  have hins := insI_spotH x.block M
  rw [hsp] at hins
  refine J.r hX tk 3 (fun _ => rfl) fun b38 => ?_
  refine J.join (α := Unit) (fun _ => [⟨104, .bool (decide (u = M.length) || (M.getD u 0 != x.block)), 0, .tt⟩, ⟨11, .int .i64 u, 0, .tt⟩, ⟨10, .int .i64 x.block, 0, .tt⟩, ⟨9, .int .i64 j, 0, .tt⟩, ⟨7, .int .i64 t, 0, .tt⟩, ⟨0, slv aj M.length cj, 0, .tt⟩, ⟨1, slv (some gi) i ci, 0, .tt⟩, ⟨2, .int .i64 k, 0, .tt⟩]) (fun _ => [.hp F, ownA 3 1 aj M.length cj (cellsI M), ownA 103 25 (some gi) i ci (cellsF I)]) (fun hj => ?_) (fun _ => ?_)
  ·by_cases hlt : u < M.length
   ·obtain ⟨y, hy⟩ : ∃ y, M[u]? = some y := ⟨_, List.getElem?_eq_getElem hlt⟩
    have hyd : M.getD u 0 = y := by rw [List.getD_eq_getElem?_getD, hy]; rfl
    refine J.know (fun h' s => own_some (c := (aj, cj)) (by omega) (s.get (i := 1) rfl)) fun hg => ?_
    obtain ⟨gj, rfl⟩ := hg
    refine J.r hX tk 5 (fun _ => rfl) fun b39 => ?_
    rw [show ((u : Int) == (M.length : Int)) = false from by rw [beq_eq_false_iff_ne]; omega]
    refine J.r hX tk 400 (fun _ => rfl) fun b40 => ?_
    refine J.val hX (.int .i64 y) 0 rfl rfl (fun hg a w he hs => own1_run tk rfl rfl he rfl rfl rfl (hs.get (i := 1) rfl) (by rw [show 0 + (u : Int).toNat * 1 = u from by omega]; exact cellsI_get hy)) rfl trivial ?_
    refine J.r hX tk 6 (fun _ => rfl) fun b41 => ?_
    exact J.goto [0, 1, 2] (hj ()) ⟨congrArg (fun b => some (Value.bool b)) (by rw [decide_eq_false (by omega : ¬ u = M.length), hyd] : (false || (y != x.block)) = (decide (u = M.length) || (M.getD u 0 != x.block))), rfl, rfl, rfl, rfl, rfl, rfl, rfl, trivial⟩ rfl rfl
   ·refine J.r hX tk 5 (fun _ => rfl) fun b42 => ?_
    rw [show ((u : Int) == (M.length : Int)) = true from by rw [beq_iff_eq]; omega]
    have hfin : (true || ((0 : Int) != x.block)) = (decide (u = M.length) || (M.getD u 0 != x.block)) := by rw [decide_eq_true (by omega : u = M.length)]; rfl
    rcases aj with _ | gj
    ·refine J.r hX tk 400 (fun _ => rfl) fun b43 => ?_
     refine J.val hX (.pointer none) 0 rfl rfl (fun hg a w he hs => by simp [G.on] at hg) rfl trivial ?_
     refine J.r hX tk 400 (fun _ => rfl) fun b44 => ?_
     refine J.val hX (.int .i64 0) 0 rfl rfl (fun hg a w he hs => by simp [G.on] at hg) rfl trivial ?_
     refine J.r hX tk 6 (fun _ => rfl) fun b45 => ?_
     exact J.goto [0, 1, 2] (hj ()) ⟨congrArg (fun b => some (Value.bool b)) hfin, rfl, rfl, rfl, rfl, rfl, rfl, rfl, trivial⟩ rfl rfl
    ·refine J.r hX tk 400 (fun _ => rfl) fun b46 => ?_
     refine J.val hX (.int .i64 0) 0 rfl rfl (fun hg a w he hs => by simp [G.on] at hg) rfl trivial ?_
     refine J.r hX tk 6 (fun _ => rfl) fun b47 => ?_
     exact J.goto [0, 1, 2] (hj ()) ⟨congrArg (fun b => some (Value.bool b)) hfin, rfl, rfl, rfl, rfl, rfl, rfl, rfl, trivial⟩ rfl rfl
  refine J.r hX tk 400 (fun _ => rfl) fun b48 => ?_
  refine J.cond rfl (fun h7 => ?_) (fun h7 => ?_)
  ·have hno : ¬ M[u]? = some x.block := by
    intro hc
    have h8 : u < M.length := (List.getElem?_eq_some_iff.1 hc).1
    rw [List.getD_eq_getElem?_getD, hc, decide_eq_false (by omega)] at h7
    simp at h7
   rw [if_neg hno] at hins
   rw [hins] at hhs
   obtain ⟨M', hM'⟩ : ∃ M', M.take u ++ [x.block] ++ M.drop u = M' := ⟨_, rfl⟩
   rw [hM'] at hhs
   have hul : u ≤ M.length := hu1
   have hlM : M'.length = M.length + 1 := by rw [← hM', List.length_append, List.length_append, List.length_take, List.length_drop]; show min u M.length + 1 + (M.length - u) = M.length + 1; omega
   refine J.join (α := Option Nat × Nat) (fun y => [⟨9, .int .i64 j, 0, .tt⟩, ⟨7, .int .i64 t, 0, .tt⟩, ⟨0, slv y.1 M'.length y.2, 0, .tt⟩, ⟨1, slv (some gi) i ci, 0, .tt⟩, ⟨2, .int .i64 k, 0, .tt⟩]) (fun y => [.hp F, ownA 3 1 y.1 M'.length y.2 (cellsI M'), ownA 103 25 (some gi) i ci (cellsF I)]) (fun hj => ?_) (fun y => ?_)
   ·have hsl : ∀ n c, slv aj n c = .slice (oad2 (aj.map fun g => (g, 0))) n c := fun n c => by cases aj <;> rfl
    have hoad : oad aj = oad2 (aj.map fun g => (g, 0)) := by cases aj <;> rfl
    refine J.know (p := M.length ≤ cj ∧ (aj = none → cj = 0)) (fun h' s => by
     have h9 : ownP 3 1 aj M.length cj (cellsI M) h' := s.get (i := 1) rfl
     obtain ⟨_, h9⟩ := h9
     cases aj with
     | none => exact ⟨by omega, fun _ => h9.2⟩
     | some g => obtain ⟨_, _, h10, _⟩ := h9; exact ⟨h10, fun h => by cases h⟩) fun hcap => ?_
    refine J.turn1 [] rfl (As := [ownA 3 1 none 0 0 (cellsI [])]) (fun h s => Sep.one ⟨rfl, rfl, rfl⟩) rfl ?_
    rw [hsl]
    refine J.r hX tk 1 (fun _ => rfl) fun b49 => ?_
    refine J.plan (.take true 0 (.take true 1 (.take true 2 (.take true 4 (.take true 7 (.take true 8 (.take true 9 (.alt false 3 ((.of [22,26,43,44])) (.alt false 5 ((.of [14,26,43,44])) .non))))))))) [10, 11] [] (by rw [hX.hP]; kernel_rfl) (by kernel_rfl) ?_
    refine J.r hX tk 2 (fun _ => rfl) fun b50 => ?_
    refine J.valT hX (.slice (oad2 (aj.map fun g => (g, 0))) u cj) 0 rfl rfl (fun hg aa w he hC => cuthi_run tk rfl rfl rfl he rfl rfl rfl rfl (by omega)) rfl ?_
    refine J.r hX tk 3 (fun _ => rfl) fun b51 => ?_
    refine J.valT hX (.slice (oad2 (cutA (aj.map fun g => (g, 0)) 1 u cj)) (M.length - u) (cj - u)) 0 rfl rfl (fun hg aa w he hC => cutlo2_run tk rfl rfl rfl he rfl rfl rfl rfl rfl hul) rfl ?_
    have hc1 : oad2 (aj.map fun g => (g, 0)) = none → cj = 0 := fun h => hcap.2 (by cases aj with | none => rfl | some g => cases h)
    have hc2 : oad2 (cutA (aj.map fun g => (g, 0)) 1 u cj) = none → cj - u = 0 := fun h => by
     have : cj = 0 := hcap.2 (by
      cases aj with
      | none => rfl
      | some g =>
       revert h
       show oad2 (if cj = u then some (g, 0) else some (g, 0 + u * 1)) = none → _
       split <;> exact fun h => by cases h)
     omega
    have hR1 : Rd (ownA 3 1 aj M.length cj (cellsI M)) (oad2 (aj.map fun g => (g, 0))) 1 u (cellsI (M.take u)) := by
     have h9 := (own_rd 3 1 aj M.length cj (cellsI M)).take u hul
     rw [hoad, show (cellsI M).take (u * 1) = cellsI (M.take u) from by simp [cellsI]] at h9
     exact h9
    have hR2 : Rd (ownA 3 1 aj M.length cj (cellsI M)) (oad2 (cutA (aj.map fun g => (g, 0)) 1 u cj)) 1 (M.length - u) (cellsI (M.drop u)) := by
     by_cases h9 : M.length = u
     ·rw [h9, Nat.sub_self, ← h9, List.drop_length]
      exact fun _ _ => ⟨rfl, fun h => absurd h (Nat.lt_irrefl 0)⟩
     ·cases aj with
      | none => have := hcap.2 rfl; omega
      | some g =>
       have h10 := (own_rd 3 1 (some g) M.length cj (cellsI M)).drop u hul
       rw [show (cellsI M).drop (u * 1) = cellsI (M.drop u) from by simp [cellsI]] at h10
       have h11 : oad2 (cutA ((some g).map fun g => (g, 0)) 1 u cj) = some ⟨g, 0 + u * 1, none⟩ := by
        show oad2 (if cj = u then some (g, 0) else some (g, 0 + u * 1)) = _
        rw [if_neg (by omega)]; rfl
       rw [h11]
       exact h10
    have hcat : cellsI [] ++ cellsI (M.take u) ++ [.int .i64 x.block] ++ cellsI (M.drop u) = cellsI M' := by
     rw [← hM']; simp [cellsI]
    have hnn : 0 + u + 1 + (M.length - u) = M'.length := by omega
    refine J.alts ?_ ?_
    ·refine J.appendAny hX tk (a := none) (n := 0) (cap := 0) 3 1 hc1 rfl rfl rfl rfl rfl rfl rfl rfl rfl hR1 rfl rfl rfl rfl (cellsI_one _) ?_ ?_ (fun _ => rfl) fun a2 c2 => ⟨_, rfl, (by first | exact trivial | (repeat' (first | exact trivial | refine ⟨rfl, ?_⟩))), ?_⟩
     ·simp only [maxLen]; omega
     ·omega
     refine J.r hX tk 1 (fun _ => rfl) fun b7 => ?_
     refine J.append hX tk 3 4 0 rfl rfl rfl rfl rfl rfl rfl rfl rfl rfl rfl rfl rfl rfl rfl rfl ?_ ?_ (fun _ => rfl) fun a3 c3 => ⟨_, rfl, (by first | exact trivial | (repeat' (first | exact trivial | refine ⟨rfl, ?_⟩))), ?_⟩
     ·simp only [maxLen]; omega
     ·omega
     refine J.appendAny hX tk 3 1 hc2 rfl rfl rfl rfl rfl rfl rfl rfl rfl hR2 rfl rfl rfl rfl (cellsI_one _) ?_ ?_ (fun _ => rfl) fun a4 c4 => ⟨_, (congr (congrArg (fun y z => lset _ 3 (ownA _ _ _ y _ z)) hnn) hcat).trans rfl, (by first | exact trivial | (repeat' (first | exact trivial | refine ⟨rfl, ?_⟩))), ?_⟩
     ·simp only [maxLen]; omega
     ·omega
     rw [hnn]
     refine J.r hX tk 2 (fun _ => rfl) fun b52 => ?_
     exact J.goto [0, 3, 2] (hj (a4, c4)) ⟨rfl, rfl, rfl, rfl, rfl, trivial⟩ rfl rfl
    ·refine J.r hX tk 1 (fun _ => rfl) fun b7 => ?_
     refine J.appendAny hX tk (a := none) (n := 0) (cap := 0) 3 1 hc1 rfl rfl rfl rfl rfl rfl rfl rfl rfl hR1 rfl rfl rfl rfl (cellsI_one _) ?_ ?_ (fun _ => rfl) fun a2 c2 => ⟨_, rfl, (by first | exact trivial | (repeat' (first | exact trivial | refine ⟨rfl, ?_⟩))), ?_⟩
     ·simp only [maxLen]; omega
     ·omega
     refine J.append hX tk 3 4 0 rfl rfl rfl rfl rfl rfl rfl rfl rfl rfl rfl rfl rfl rfl rfl rfl ?_ ?_ (fun _ => rfl) fun a3 c3 => ⟨_, rfl, (by first | exact trivial | (repeat' (first | exact trivial | refine ⟨rfl, ?_⟩))), ?_⟩
     ·simp only [maxLen]; omega
     ·omega
     refine J.appendAny hX tk 3 1 hc2 rfl rfl rfl rfl rfl rfl rfl rfl rfl hR2 rfl rfl rfl rfl (cellsI_one _) ?_ ?_ (fun _ => rfl) fun a4 c4 => ⟨_, (congr (congrArg (fun y z => lset _ 3 (ownA _ _ _ y _ z)) hnn) hcat).trans rfl, (by first | exact trivial | (repeat' (first | exact trivial | refine ⟨rfl, ?_⟩))), ?_⟩
     ·simp only [maxLen]; omega
     ·omega
     rw [hnn]
     refine J.r hX tk 2 (fun _ => rfl) fun b53 => ?_
     exact J.goto [0, 3, 2] (hj (a4, c4)) ⟨rfl, rfl, rfl, rfl, rfl, trivial⟩ rfl rfl
   rw [← hhs]
   refine J.r hX tk 400 (fun _ => rfl) fun b54 => ?_
   refine J.nS ((j + 1, y.1, y.2)) (by dsimp only; omega) (by dsimp only; omega) [0, 1, 2] rfl rfl
  ·have hyes : M[u]? = some x.block := by
    simp only [Bool.or_eq_false_iff, decide_eq_false_iff_not, bne_eq_false_iff_eq] at h7
    have h8 : u < M.length := by omega
    rw [← h7.2, List.getD_eq_getElem?_getD, List.getElem?_eq_getElem h8]; rfl
   rw [if_pos hyes] at hins
   rw [hins] at hhs
   rw [← hhs]
   refine J.r hX tk 400 (fun _ => rfl) fun b56 => ?_
   refine J.nS ((j + 1, aj, cj)) (by dsimp only; omega) (by dsimp only; omega) [0, 1, 2] rfl rfl
 simp only [decide_eq_false_iff_not, Int.ofNat_lt] at h3
 obtain rfl : j = i := by omega
 refine J.r hX tk 400 (fun _ => rfl) fun b58 => ?_
 refine J.rt hX tk [1, 2] rfl rfl rfl ?_
 exact ⟨aj, cj, by rw [ht], by rw [ht]; rfl⟩
def lvAt : List Lk := [.int .i64, .int .i64, .int .i64, .int .i64, .int .i64, .int .i64]
theorem leavesAt : leaves Tryz.prog 100 52 = some lvAt := by kernel_rfl
theorem fitsAt (a : AtV) : Fits lvAt (atL a) := ⟨rfl, rfl, rfl, rfl, rfl, rfl, trivial⟩
theorem mkAt (zs : List Value) : mkV Tryz.prog 52 zs = .agg zs.toArray := by simp [mkV, Tryz.underlying52]
theorem gdAt : Tryz.prog.eqGuardType Tryz.prog.depth 52 = false := by kernel_rfl
theorem eqAt (x y : AtV) : eqCells (atL x) (atL y) = true ↔ x = y := by
 obtain ⟨a, b, c, d, e, f⟩ := x
 obtain ⟨a', b', c', d', e', f'⟩ := y
 simp [atL, eqCells, cellEq, AtV.mk.injEq]
theorem ne_self (z : Int) : (z != z) = false := by simp
end Go.Proofs.YtoideahgjgaddaaGreat
