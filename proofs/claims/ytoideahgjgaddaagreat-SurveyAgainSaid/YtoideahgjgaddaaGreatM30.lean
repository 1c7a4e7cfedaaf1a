/- Helpers of the proofs about ostrakonlaw11, proved here: ClmC. No condition. -/
import Derived.Test.YtoideahgjgaddaaGreatM25
import Derived.Test.YtoideahgjgaddaaGreatM29
set_option linter.unusedVariables false
set_option linter.unusedSimpArgs false
set_option linter.unusedSectionVars false
set_option linter.unnecessarySimpa false
namespace Go.Proofs.YtoideahgjgaddaaGreat
open Go Go.RowKit
open Go.ChangeShapes Go.WideShapes Go.ChangeAt
section
variable {H : Type} {enc : TypeId × Value → H} {w : World} {base : Nat} {spare : Nat → Bool} {held : Bool}
theorem ens_of {fuel : Nat} {cs : List Value} {x : DataW H × List MemPlace} (h : DataW.trod enc Tryz.prog w base spare held fuel 31 cs = some x) :
    ∃ (a : Option Addr) (len cap : Nat) (l : List En), cs = [.slice a len cap] ∧ l.length = len ∧ (∀ e ∈ l, e.data.length = 16) ∧ rdP a 19 len (cellsE l) (hl w) := by
  have h0 := h
  rcases Deep.open_slice Tryz.underlying31 h with ⟨hcs, _⟩ | ⟨a', len', cap', m, n, D, Pl, hcs, _⟩
  · subst hcs
    exact ⟨none, 0, 0, [], rfl, rfl, fun _ h => by simp at h, rd_none⟩
  · subst hcs
    obtain ⟨_, _, l, e1, e2, e3⟩ := open_ens h0
    exact ⟨_, _, _, l, rfl, e1, e2, e3⟩
/-- what a row that came in has -/
structure RowV.In (W : World) (x : RowV) : Prop where
  rd : rdP x.al 19 x.n (cellsE x.l) (hl W)
  len : x.l.length = x.n
  data : ∀ s ∈ x.l, s.data.length = 16
theorem RowV.In.ok {W : World} {x : RowV} (h : x.In W) : x.Ok (frz W) := ⟨frz_rd h.rd, h.len, h.data⟩
theorem row_of {fuel : Nat} {cs : List Value} {y : DataW H × List MemPlace} (h : DataW.trod enc Tryz.prog w base spare held fuel 59 cs = some y) : ∃ x : RowV, x.In w ∧ cs = x.cells := by
  obtain ⟨y0, y1, y2, n, _, hl, h0, h1, h2⟩ := Deep.trod_struct3 Tryz.underlying59 h
  have hlen : cs.length = 3 := hl.trans (by kernel_rfl)
  have c1 : Tryz.prog.cellsOf 3 = 1 := by kernel_rfl
  have c2 : Tryz.prog.cellsOf 31 = 1 := by kernel_rfl
  simp only [c1, c2] at h0 h1 h2
  obtain ⟨n0, q0⟩ := one_i64 Tryz.underlying3 h0
  obtain ⟨n1, q1⟩ := one_i64 Tryz.underlying3 h1
  obtain ⟨a, len, cap, l, q2, e1, e2, e3⟩ := ens_of h2
  refine ⟨⟨n0, n1, a, len, cap, l⟩, ⟨e3, e1, e2⟩, ?_⟩
  match cs, hlen with
  | [_, _, _], _ =>
    simp at q0 q1 q2
    subst q0 q1 q2
    rfl
set_option maxRecDepth 100000 in
theorem fa_of {fuel : Nat} {cs : List Value} {y : DataW H × List MemPlace} (h : DataW.trod enc Tryz.prog w base spare held fuel 68 cs = some y) : ∃ x : FaV, cs = x.cells := by
  obtain ⟨xs, n, _, _, hl, hlen, hf⟩ := DataW.trod_struct Tryz.underlying68 h
  have hlen2 : cs.length = 7 := hl.trans (by kernel_rfl)
  have hx : xs.length = 5 := hlen
  have c1 : Tryz.prog.cellsOf 3 = 1 := by kernel_rfl
  have c3 : Tryz.prog.cellsOf 66 = 3 := by kernel_rfl
  match xs, hx with
  | [y0, y1, y2, y3, y4], _ =>
    have h0 : DataW.trod enc Tryz.prog w base spare held n 3 ((cs.drop 0).take (Tryz.prog.cellsOf 3)) = some y0 := hf 0 _ rfl
    have h1 : DataW.trod enc Tryz.prog w base spare held n 3 ((cs.drop 1).take (Tryz.prog.cellsOf 3)) = some y1 := hf 1 _ rfl
    have h2 : DataW.trod enc Tryz.prog w base spare held n 66 ((cs.drop 2).take (Tryz.prog.cellsOf 66)) = some y2 := hf 2 _ rfl
    have h3 : DataW.trod enc Tryz.prog w base spare held n 3 ((cs.drop 5).take (Tryz.prog.cellsOf 3)) = some y3 := hf 3 _ rfl
    have h4 : DataW.trod enc Tryz.prog w base spare held n 3 ((cs.drop 6).take (Tryz.prog.cellsOf 3)) = some y4 := hf 4 _ rfl
    rw [c1] at h0 h1 h3 h4
    rw [c3] at h2
    obtain ⟨z0, z1, z2, m, _, _, g0, g1, g2⟩ := Deep.trod_struct3 Tryz.underlying66 h2
    simp only [c1] at g0 g1 g2
    obtain ⟨n0, q0⟩ := one_i64 Tryz.underlying3 h0
    obtain ⟨n1, q1⟩ := one_i64 Tryz.underlying3 h1
    obtain ⟨n2, q2⟩ := one_i64 Tryz.underlying3 g0
    obtain ⟨n3, q3⟩ := one_i64 Tryz.underlying3 g1
    obtain ⟨n4, q4⟩ := one_i64 Tryz.underlying3 g2
    obtain ⟨n5, q5⟩ := one_i64 Tryz.underlying3 h3
    obtain ⟨n6, q6⟩ := one_i64 Tryz.underlying3 h4
    refine ⟨⟨n0, n1, n2, n3, n4, n5, n6⟩, ?_⟩
    match cs, hlen2 with
    | [_, _, _, _, _, _, _], _ =>
      simp at q0 q1 q2 q3 q4 q5 q6
      subst q0 q1 q2 q3 q4 q5 q6
      rfl
theorem pg_of {fuel : Nat} {cs : List Value} {y : DataW H × List MemPlace} (h : DataW.trod enc Tryz.prog w base spare held fuel 94 cs = some y) : ∃ l : List UInt8, l.length = 32 ∧ cs = pageC l := by
  obtain ⟨xs, m, _, _, hl, hlen, hx⟩ := DataW.trod_array Tryz.underlying94 h
  have h1 : Tryz.prog.cellsOf 5 = 1 := by kernel_rfl
  have h16 : Tryz.prog.cellsOf 94 = 32 := by kernel_rfl
  obtain ⟨l, e1, e2⟩ := bytes_of (m := 32) (hl.trans h16) (fun i hi => by
    have := hx i hi
    rw [h1, Nat.mul_one, List.getElem?_eq_getElem (by omega)] at this
    exact ⟨_, this⟩)
  exact ⟨l, e1, by rw [pageC_eq l e1]; exact e2⟩
/-- a slice of things that came in -/
theorem open_many {α : Type} {held' : Bool} {fuel : Nat} {st et : TypeId} {size : Nat} (f : α → List Value) (good : α → Prop) (hu : Tryz.prog.underlying st = some (.slice et)) (hc : Tryz.prog.cellsOf et = size) (hsz : 0 < size)
    (hof : ∀ {fuel : Nat} {held : Bool} {cs : List Value} {y : DataW H × List MemPlace}, DataW.trod enc Tryz.prog w base spare held fuel et cs = some y → ∃ x : α, good x ∧ cs = f x)
    {a : Option Addr} {len cap : Nat} {x : DataW H × List MemPlace} (h : DataW.trod enc Tryz.prog w base spare held' fuel st [.slice a len cap] = some x) :
    ∃ l : List α, l.length = len ∧ (∀ e ∈ l, good e) ∧ rdP a size len (l.flatMap f) (hl w) := by
  rcases Deep.open_slice hu h with ⟨hcs, _⟩ | ⟨a', len', cap', m, n, D, Pl, hcs, hb, hlc, hm, hmm, rfl, hx⟩
  · simp at hcs
    obtain ⟨rfl, rfl, rfl⟩ := hcs
    exact ⟨[], rfl, fun _ h => by simp at h, rd_none⟩
  · simp at hcs
    obtain ⟨rfl, rfl, rfl⟩ := hcs
    rw [hc] at hx
    obtain ⟨l, e1, e2⟩ := rd_open (W := w) (base := base) (size := size) (n := len) (a := a') (fun e : { e : α // good e } => f e.1) hsz (fun i hi => by
      obtain ⟨cs, q1, q2⟩ := hx i (by rw [hmm]; split <;> omega)
      obtain ⟨e, he, rfl⟩ := hof q2
      exact ⟨⟨e, he⟩, q1⟩)
    refine ⟨l.map (·.1), by simpa using e1, fun e he => ?_, ?_⟩
    · obtain ⟨x, _, rfl⟩ := List.mem_map.1 he
      exact x.2
    · rw [List.flatMap_map]
      exact e2
theorem open_rows {held' : Bool} {fuel : Nat} {a : Option Addr} {len cap : Nat} {x : DataW H × List MemPlace} (h : DataW.trod enc Tryz.prog w base spare held' fuel 24 [.slice a len cap] = some x) :
    ∃ l : List RowV, l.length = len ∧ (∀ e ∈ l, e.In w) ∧ rdP a 3 len (l.flatMap RowV.cells) (hl w) :=
  open_many RowV.cells (fun x => x.In w) Tryz.underlying24 (by kernel_rfl) (by decide) row_of h
theorem open_fas {held' : Bool} {fuel : Nat} {a : Option Addr} {len cap : Nat} {x : DataW H × List MemPlace} (h : DataW.trod enc Tryz.prog w base spare held' fuel 25 [.slice a len cap] = some x) :
    ∃ l : List FaV, l.length = len ∧ (∀ e ∈ l, True) ∧ rdP a 7 len (l.flatMap FaV.cells) (hl w) :=
  open_many FaV.cells (fun _ => True) Tryz.underlying25 (by kernel_rfl) (by decide) (fun h => let ⟨x, e⟩ := fa_of h; ⟨x, trivial, e⟩) h
theorem open_pgs {held' : Bool} {fuel : Nat} {a : Option Addr} {len cap : Nat} {x : DataW H × List MemPlace} (h : DataW.trod enc Tryz.prog w base spare held' fuel 26 [.slice a len cap] = some x) :
    ∃ l : List (List UInt8), l.length = len ∧ (∀ e ∈ l, e.length = 32) ∧ rdP a 32 len (l.flatMap pageC) (hl w) :=
  open_many pageC (fun l => l.length = 32) Tryz.underlying26 (by kernel_rfl) (by decide) pg_of h
end
end Go.Proofs.YtoideahgjgaddaaGreat
