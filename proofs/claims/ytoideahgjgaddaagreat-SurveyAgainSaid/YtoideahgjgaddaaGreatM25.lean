/- Helpers of the proofs about ostrakonlaw11, proved here: Jn, JnP, Clm. No condition. -/
import Derived.Test.YtoideahgjgaddaaGreatM13
import Derived.Test.YtoideahgjgaddaaGreatM14
import Derived.Test.YtoideahgjgaddaaGreatRows
import Derived.JoinedOf
import Derived.ProofKit
import Derived.OpenShut
import Derived.ChangeOld
import Derived.Below
import Derived.Deep.Slices
import Derived.Deep.Strs
import Derived.Lib.SmallJoins
set_option linter.unusedVariables false
set_option linter.unusedSimpArgs false
set_option linter.unusedSectionVars false
set_option linter.unnecessarySimpa false
namespace Go.Proofs.YtoideahgjgaddaaGreat
open Go
theorem andT {a b : Bool} (ha : a = true) (hb : b = true) : (a && b) = true := by rw [ha, hb]; rfl
theorem joined_of {P : Program} {f : FuncId} {fn : Func} {s : ChangeSpec} {c : OpenClaim} (k0 : (c.wf (OpenSpec.ofChange s)) = true) (k1 : (laidOutB P) = true) (k2 : (mapsRowed P) = true) (k3 : (fn.params.all (P.readableRec ·)) = true) (k4 : (namedTie P c.named s.vars) = true) (k5 : (c.stops == []) = true) (k6 : (P.stops == []) = true) (k7 : (c.knobs == []) = true) (k8 : (P.stopKnobs == []) = true) (k9 : (c.inPlace == P.inPlace f) = true) (k10 : (c.unfollowed == P.unfollowed f) = true) (k11 : (c.recurses == P.recurses f) = true) (k12 : (c.named == P.varsNamed f) = true) (k13 : (c.maps == (fn.params.toList ++ s.plain.varTypes P).any (P.mapsRec ·)) = true) (k14 : (c.ifaces == (fn.params.toList ++ s.plain.varTypes P).any (P.ifacesRec ·)) = true) (k15 : (c.mapsOut == P.mapsAmong fn.resultTypes.toList) = true) (k16 : (c.loops == (fn.params.toList ++ s.plain.varTypes P).any (P.loopsFrom ·)) = true) (k17 : (c.wideKeys == (fn.params.toList ++ s.plain.varTypes P ++ fn.resultTypes.toList).any (P.wideKeysFrom ·)) = true) (k18 : (s.vars.all (P.varReadable ·)) = true) (k19 : (fn.resultTypes.all (fun t => P.readableRec t && decide (t < P.types.size))) = true) (k20 : (c.ifacesOut == fn.resultTypes.toList.any (P.ifacesRec ·)) = true) (k21 : (c.loopsOut == fn.resultTypes.toList.any (P.loopsFrom ·)) = true) (k22 : (c.plainKeys == P.plainKeys) = true) (k23 : (c.shortTexts.isNone) = true) (k24 : (P.stopsHeard) = true) (k25 : (P.mayEnter) = true) (k26 : (c.lifted == P.liftsFinal) = true) (k27 : (P.make == some c.make) = true) (k28a : c.domain.isEmpty = true) (k28 : (c.kinds == []) = true) (k29 : (c.pinned == c.pinnedBy) = true) (k30 : (c.veiled == (fn.params.toList ++ s.plain.varTypes P ++ fn.resultTypes.toList).any (P.veiledRec ·)) = true) (k31 : (c.veiledFits P fn.params.toList (fn.params.toList ++ s.plain.varTypes P ++ fn.resultTypes.toList)) = true) : joinedFacts P f fn s c = true := by
  unfold joinedFacts
  rw [if_pos k28a]
  exact (andT (andT (andT (andT (andT (andT (andT (andT (andT (andT (andT (andT (andT (andT (andT (andT (andT (andT (andT (andT (andT (andT (andT (andT (andT (andT (andT (andT (andT (andT (andT k0 k1) k2) k3) k4) k5) k6) k7) k8) k9) k10) k11) k12) k13) k14) k15) k16) k17) k18) k19) k20) k21) k22) k23) k24) k25) k26) k27) k28) k29) k30) k31)
end Go.Proofs.YtoideahgjgaddaaGreat
namespace Go.Proofs.YtoideahgjgaddaaGreat
open Go
theorem j_laid : laidOutB Tryz.prog = true := by kernel_rfl
theorem j_rowed : mapsRowed Tryz.prog = true := by kernel_rfl
theorem j_stops : (Tryz.prog.stops == []) = true := by kernel_rfl
theorem j_knobs : (Tryz.prog.stopKnobs == []) = true := by kernel_rfl
theorem j_heard : Tryz.prog.stopsHeard = true := by kernel_rfl
theorem j_enter : Tryz.prog.mayEnter = true := by kernel_rfl
end Go.Proofs.YtoideahgjgaddaaGreat
namespace Go.Proofs.YtoideahgjgaddaaGreat
open Go Go.RowKit
open Go.ChangeShapes Go.WideShapes
/-- the memory as it was -/
def frz (W : World) : Atom := .hp ⟨Hle (hl W), fun _ _ l s => s.trans l⟩
theorem frz_rd {W : World} {a : Option Addr} {size n : Nat} {xs : List Value} (h : rdP a size n xs (hl W)) : Rd (frz W) a size n xs := fun _ s => h.up s
theorem Fn.whole {P : Program} {f : FuncId} {args : List Value} {r : Value} {W : World} (h : Fn P f args [frz W] (fun v As => v = r ∧ As = [frz W])) : Calls P f args.toArray W fun e w' => e = .returned r ∧ Below W.heap.size W w' := by
  have hs : Sep (.hp ⟨fun _ => True, fun _ _ _ s => s⟩ :: [frz W]) (hl W) := by
    refine ⟨fun _ => 1, fun i A hA => ?_⟩
    match i, hA with
    | 0, hA => simp at hA; subst hA; trivial
    | 1, hA =>
      simp at hA; subst hA
      intro b o hb
      exact res_some.2 ⟨rfl, hb⟩
    | i + 2, hA => simp at hA
  refine (h _ W hs).mono fun e w' ⟨v, As, e1, ⟨e2, e3⟩, s, x⟩ => ?_
  subst e2 e3
  have hle : Hle (hl W) (hl w') := s.get (i := 1) rfl
  refine ⟨e1, x.os, x.tape, x.output, x.size, fun k hk => ?_⟩
  have : W.heap[k]? = some W.heap[k] := Array.getElem?_eq_getElem hk
  rw [this]
  exact hle k _ this
theorem rd_none {size : Nat} {h : Hl} : rdP none size 0 [] h := ⟨by simp, fun h => absurd h (by omega)⟩
/-- a slice that came in -/
theorem rd_open {α : Type} {W : World} {base size n : Nat} {a : Addr} (f : α → List Value) (hsz : 0 < size)
    (h : ∀ i, i < n → ∃ x, W.cells? base (a.add (i * size)) size = some (f x)) : ∃ l : List α, l.length = n ∧ rdP (some a) size n (l.flatMap f) (hl W) := by
  have h1 : ∀ m, m ≤ n → ∃ l : List α, l.length = m ∧ (l.flatMap f).length = m * size ∧ ∀ i, i < m * size → W.cell? (a.add i) = (l.flatMap f)[i]? := by
    intro m
    induction m with
    | zero => exact fun _ => ⟨[], rfl, by simp, fun i hi => by omega⟩
    | succ m ih =>
      intro hm
      obtain ⟨l, e1, e2, e3⟩ := ih (by omega)
      obtain ⟨x, hx⟩ := h m (by omega)
      obtain ⟨_, q1, q2⟩ := World.cells?_some hx
      have hlen : ((l ++ [x]).flatMap f).length = (m + 1) * size := by simp [List.flatMap_append, e2, q1, Nat.succ_mul]
      refine ⟨l ++ [x], by simp [e1], hlen, fun i hi => ?_⟩
      rw [List.flatMap_append, List.getElem?_append, e2]
      split
      · exact e3 i (by assumption)
      · rename_i hge
        have := q2 (i - m * size) (by rw [Nat.succ_mul] at hi; omega)
        rw [Deep.add_add, show m * size + (i - m * size) = i by omega] at this
        rw [this]; simp
  obtain ⟨l, e1, e2, e3⟩ := h1 n (Nat.le_refl n)
  refine ⟨l, e1, e2, fun hn => ?_⟩
  obtain ⟨b, o, sp⟩ := a
  have hpos : 0 < n * size := Nat.mul_pos hn hsz
  have h0 := e3 0 hpos
  have hv : (l.flatMap f)[0]? = some ((l.flatMap f)[0]'(by omega)) := List.getElem?_eq_getElem _
  rw [hv] at h0
  have hsp : sp = none := by simpa [Addr.add] using World.cell?_spot h0
  subst hsp
  have hcell : ∀ i, W.cell? ⟨b, o + i, none⟩ = W.cell? ((⟨b, o, none⟩ : Addr).add i) := fun i => by rw [Addr.add_none]
  have hblk : ∃ cs ty fr, W.heap[b]? = some (.cells cs ty fr) := by
    unfold World.cell? at h0
    cases hh : W.heap[b]? with
    | none => simp [Addr.add, hh] at h0
    | some ob =>
      cases ob with
      | cells cs ty fr => exact ⟨cs, ty, fr, rfl⟩
      | _ => simp [Addr.add, hh] at h0
  obtain ⟨cs, ty, fr, hh⟩ := hblk
  refine ⟨b, o, cs, ty, fr, rfl, hh, ?_⟩
  apply List.ext_getElem?
  intro i
  rw [List.getElem?_take]
  split
  · rename_i hi
    rw [← e3 i hi, ← hcell, cell_of_row W b (o + i) cs ty fr hh]
    simp
  · rename_i hi
    exact (List.getElem?_eq_none (by omega)).symm
section
variable {H : Type} {enc : TypeId × Value → H} {w : World} {base : Nat} {spare : Nat → Bool} {held : Bool}
theorem one_byte {fuel : Nat} {cs : List Value} {y : DataW H × List MemPlace} (h : DataW.trod enc Tryz.prog w base spare held fuel 5 cs = some y) : ∃ b : UInt8, cs = [bv b] := by
  obtain ⟨n, rfl, _, hw⟩ := DataW.trod_int Tryz.underlying5 h
  have : 0 ≤ n ∧ n ≤ 255 := by simpa [Lit.wf, IntKind.min, IntKind.max, IntKind.signed, IntKind.bits] using hw
  refine ⟨UInt8.ofNat n.toNat, ?_⟩
  simp only [bv, List.cons.injEq, and_true]
  congr 1
  have : n.toNat < 256 := by omega
  have h2 : (UInt8.ofNat n.toNat).toNat = n.toNat := by simp; omega
  rw [h2]; omega
theorem bytes_of {m : Nat} {fuel : Nat} : ∀ {cs : List Value}, cs.length = m → (∀ i, i < m → ∃ y, DataW.trod enc Tryz.prog w base spare held fuel 5 ((cs.drop i).take 1) = some y) → ∃ l : List UInt8, l.length = m ∧ cs = l.map bv := by
  induction m with
  | zero => intro cs h _; exact ⟨[], rfl, List.eq_nil_of_length_eq_zero h⟩
  | succ m ih =>
    intro cs h hx
    match cs, h with
    | c :: r, h =>
      obtain ⟨y, hy⟩ := hx 0 (by omega)
      obtain ⟨b, hb⟩ := one_byte hy
      obtain ⟨l, e1, e2⟩ := ih (cs := r) (by simpa using h) (fun i hi => by simpa using hx (i + 1) (by omega))
      refine ⟨b :: l, by simp [e1], ?_⟩
      simp at hb
      simp [hb, e2]
theorem one_i64 {t : TypeId} (ht : Tryz.prog.underlying t = some (.int .i64)) {fuel : Nat} {cs : List Value} {y : DataW H × List MemPlace} (h : DataW.trod enc Tryz.prog w base spare held fuel t cs = some y) : ∃ n, cs = [.int .i64 n] := by
  obtain ⟨n, rfl, _, _⟩ := DataW.trod_int ht h
  exact ⟨n, rfl⟩
theorem data_of {fuel : Nat} {cs : List Value} {y : DataW H × List MemPlace} (h : DataW.trod enc Tryz.prog w base spare held fuel 43 cs = some y) : ∃ l : List UInt8, l.length = 16 ∧ cs = dataC l := by
  obtain ⟨xs, m, _, _, hl, hlen, hx⟩ := DataW.trod_array Tryz.underlying43 h
  have h1 : Tryz.prog.cellsOf 5 = 1 := by kernel_rfl
  have h16 : Tryz.prog.cellsOf 43 = 16 := by kernel_rfl
  obtain ⟨l, e1, e2⟩ := bytes_of (m := 16) (hl.trans h16) (fun i hi => by
    have := hx i hi
    rw [h1, Nat.mul_one, List.getElem?_eq_getElem (by omega)] at this
    exact ⟨_, this⟩)
  refine ⟨l, e1, ?_⟩
  match l, e1 with
  | [_, _, _, _, _, _, _, _, _, _, _, _, _, _, _, _], _ => subst e2; rfl
theorem en_of {fuel : Nat} {cs : List Value} {y : DataW H × List MemPlace} (h : DataW.trod enc Tryz.prog w base spare held fuel 45 cs = some y) : ∃ e : En, e.data.length = 16 ∧ cs = enL e := by
  obtain ⟨y0, y1, y2, y3, n, _, hl, h0, h1, h2, h3⟩ := Joins.trod_struct4 Tryz.underlying45 h
  have hlen : cs.length = 19 := hl.trans (by kernel_rfl)
  have c1 : Tryz.prog.cellsOf 3 = 1 := by kernel_rfl
  have c2 : Tryz.prog.cellsOf 2 = 1 := by kernel_rfl
  have c3 : Tryz.prog.cellsOf 43 = 16 := by kernel_rfl
  simp only [c1, c2, c3] at h0 h1 h2 h3
  obtain ⟨n0, q0⟩ := one_i64 Tryz.underlying3 h0
  obtain ⟨n1, q1⟩ := one_i64 Tryz.underlying2 h1
  obtain ⟨n2, q2⟩ := one_i64 Tryz.underlying3 h2
  obtain ⟨d, hd, q3⟩ := data_of h3
  refine ⟨⟨n0, n1, n2, d⟩, hd, ?_⟩
  match cs, hlen with
  | [_, _, _, _, _, _, _, _, _, _, _, _, _, _, _, _, _, _, _], _ =>
    simp at q0 q1 q2
    simp only [List.drop_succ_cons, List.drop_zero, List.take_succ_cons, List.take_zero, dataC] at q3
    subst q0 q1 q2
    simp only [enL, List.cons.injEq] at q3 ⊢
    simp only [true_and]
    exact q3
/-- a slice of entries that came in -/
theorem open_ens {held' : Bool} {fuel : Nat} {a : Option Addr} {len cap : Nat} {x : DataW H × List MemPlace} (h : DataW.trod enc Tryz.prog w base spare held' fuel 31 [.slice a len cap] = some x) :
    len ≤ cap ∧ cap ≤ maxLen ∧ ∃ l : List En, l.length = len ∧ (∀ e ∈ l, e.data.length = 16) ∧ rdP a 19 len (cellsE l) (hl w) := by
  rcases Deep.open_slice Tryz.underlying31 h with ⟨hcs, _⟩ | ⟨a', len', cap', m, n, D, Pl, hcs, hb, hlc, hm, hmm, rfl, hx⟩
  · simp at hcs
    obtain ⟨rfl, rfl, rfl⟩ := hcs
    exact ⟨Nat.le_refl _, Nat.zero_le _, [], rfl, fun _ h => by simp at h, rd_none⟩
  · simp at hcs
    obtain ⟨rfl, rfl, rfl⟩ := hcs
    have c1 : Tryz.prog.cellsOf 45 = 19 := by kernel_rfl
    rw [c1] at hx
    obtain ⟨l, e1, e2⟩ := rd_open (W := w) (base := base) (size := 19) (n := len) (a := a') (fun e : { e : En // e.data.length = 16 } => enL e.1) (by decide) (fun i hi => by
      obtain ⟨cs, q1, q2⟩ := hx i (by rw [hmm]; split <;> omega)
      obtain ⟨e, he, rfl⟩ := en_of q2
      exact ⟨⟨e, he⟩, q1⟩)
    refine ⟨hlc, hm, l.map (·.1), by simpa using e1, fun e he => ?_, ?_⟩
    · obtain ⟨x, _, rfl⟩ := List.mem_map.1 he
      exact x.2
    · unfold cellsE
      rw [List.flatMap_map]
      exact e2
end
end Go.Proofs.YtoideahgjgaddaaGreat
