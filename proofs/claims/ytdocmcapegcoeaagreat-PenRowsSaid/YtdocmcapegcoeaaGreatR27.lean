/- Helpers of the proofs about ostrakonlaw11, proved here: Clm, ClmC, ClmD, LdA, MnT, LdE, LgA, PlPr, BgM, BgN, Pla. No condition. -/
import Derived.Test.YtdocmcapegcoeaaGreatR12
import Derived.Test.YtdocmcapegcoeaaGreatR13
import Derived.Test.YtdocmcapegcoeaaGreatR20
import Derived.Test.YtdocmcapegcoeaaGreatR21
import Derived.Test.YtdocmcapegcoeaaGreatR23
import Derived.Test.YtdocmcapegcoeaaGreatR25
import Derived.Test.YtdocmcapegcoeaaGreatR26
import Derived.Test.YtdocmcapegcoeaaGreatRows
import Derived.ProofKit
import Derived.OpenShut
import Derived.ChangeOld
import Derived.Below
import Derived.Deep.Slices
import Derived.Deep.Strs
import Derived.Lib.SmallJoins
set_option maxRecDepth 20000
set_option linter.unusedVariables false
set_option linter.unusedSimpArgs false
set_option linter.unusedSectionVars false
set_option linter.unnecessarySimpa false
namespace Go.Proofs.YtdocmcapegcoeaaGreat
open Go Go.RowKit
open Go.ChangeShapes Go.WideShapes
def frz (W : World) : Atom := .hp ⟨Hle (hl W), fun _ _ l s => s.trans l⟩
theorem frz_rd {W : World} {a : Option Addr} {size n : Nat} {xs : List Value} (h : rdP a size n xs (hl W)) : Rd (frz W) a size n xs := fun _ s => h.up s
theorem Fn.whole {P : Program} {f : FuncId} {args : List Value} {r : Value} {W : World} (h : Fn P f args [frz W] (fun v As => v = r ∧ As = [frz W])) : Calls P f args.toArray W fun e w' => e = .returned r ∧ Below W.heap.size W w' := by
 have hs : Sep (.hp ⟨fun _ => True, fun _ _ _ s => s⟩ :: [frz W]) (hl W) := by
  refine ⟨fun _ => 1, fun i A hA => ?_⟩
  match i, hA with
  | 0, hA => simp at hA; subst hA; trivial
  | 1, hA =>
   simp at hA; subst hA
   intro b o hb
   exact res_some.2 ⟨rfl, hb⟩
  | i + 2, hA => simp at hA
 refine (h _ W hs).mono fun e w' ⟨v, As, e1, ⟨e2, e3⟩, s, x⟩ => ?_
 subst e2 e3
 have hle : Hle (hl W) (hl w') := s.get (i := 1) rfl
 refine ⟨e1, x.os, x.tape, x.output, x.size, fun k hk => ?_⟩
 have : W.heap[k]? = some W.heap[k] := Array.getElem?_eq_getElem hk
 rw [this]
 exact hle k _ this
theorem rd_none {size : Nat} {h : Hl} : rdP none size 0 [] h := ⟨by simp, fun h => absurd h (by omega)⟩
theorem rd_open {α : Type} {W : World} {base size n : Nat} {a : Addr} (f : α → List Value) (hsz : 0 < size)
  (h : ∀ i, i < n → ∃ x, W.cells? base (a.add (i * size)) size = some (f x)) : ∃ l : List α, l.length = n ∧ rdP (some a) size n (l.flatMap f) (hl W) := by
 have h1 : ∀ m, m ≤ n → ∃ l : List α, l.length = m ∧ (l.flatMap f).length = m * size ∧ ∀ i, i < m * size → W.cell? (a.add i) = (l.flatMap f)[i]? := by
  intro m
  induction m with
  | zero => exact fun _ => ⟨[], rfl, by simp, fun i hi => by omega⟩
  | succ m ih =>
   intro hm
   obtain ⟨l, e1, e2, e3⟩ := ih (by omega)
   obtain ⟨x, hx⟩ := h m (by omega)
   obtain ⟨_, q1, q2⟩ := World.cells?_some hx
   have hlen : ((l ++ [x]).flatMap f).length = (m + 1) * size := by simp [List.flatMap_append, e2, q1, Nat.succ_mul]
   refine ⟨l ++ [x], by simp [e1], hlen, fun i hi => ?_⟩
   rw [List.flatMap_append, List.getElem?_append, e2]
   split
   ·exact e3 i (by assumption)
   ·rename_i hge
    have := q2 (i - m * size) (by rw [Nat.succ_mul] at hi; omega)
    rw [Deep.add_add, show m * size + (i - m * size) = i by omega] at this
    rw [this]; simp
 obtain ⟨l, e1, e2, e3⟩ := h1 n (Nat.le_refl n)
 refine ⟨l, e1, e2, fun hn => ?_⟩
 obtain ⟨b, o, sp⟩ := a
 have hpos : 0 < n * size := Nat.mul_pos hn hsz
 have h0 := e3 0 hpos
 have hv : (l.flatMap f)[0]? = some ((l.flatMap f)[0]'(by omega)) := List.getElem?_eq_getElem _
 rw [hv] at h0
 have hsp : sp = none := by simpa [Addr.add] using World.cell?_spot h0
 subst hsp
 have hcell : ∀ i, W.cell? ⟨b, o + i, none⟩ = W.cell? ((⟨b, o, none⟩ : Addr).add i) := fun i => by rw [Addr.add_none]
 have hblk : ∃ cs ty fr, W.heap[b]? = some (.cells cs ty fr) := by
  unfold World.cell? at h0
  cases hh : W.heap[b]? with
  | none => simp [Addr.add, hh] at h0
  | some ob =>
   cases ob with
   | cells cs ty fr => exact ⟨cs, ty, fr, rfl⟩
   | _ => simp [Addr.add, hh] at h0
 obtain ⟨cs, ty, fr, hh⟩ := hblk
 refine ⟨b, o, cs, ty, fr, rfl, hh, ?_⟩
 apply List.ext_getElem?
 intro i
 rw [List.getElem?_take]
 split
 ·rename_i hi
  rw [← e3 i hi, ← hcell, cell_of_row W b (o + i) cs ty fr hh]
  simp
 ·rename_i hi
  exact (List.getElem?_eq_none (by omega)).symm
section
variable {H : Type} {enc : TypeId × Value → H} {w : World} {base : Nat} {spare : Nat → Bool} {held : Bool}
theorem one_i64 {t : TypeId} (ht : Tryz.prog.underlying t = some (.int .i64)) {fuel : Nat} {cs : List Value} {y : DataW H × List MemPlace} (h : DataW.trod enc Tryz.prog w base spare held fuel t cs = some y) : ∃ n, cs = [.int .i64 n] := by
 obtain ⟨n, rfl, _, _⟩ := DataW.trod_int ht h
 exact ⟨n, rfl⟩
end
end Go.Proofs.YtdocmcapegcoeaaGreat
namespace Go.Proofs.YtdocmcapegcoeaaGreat
open Go Go.RowKit
open Go.ChangeShapes Go.WideShapes Go.ChangeAt
section
variable {H : Type} {enc : TypeId × Value → H} {w : World} {base : Nat} {spare : Nat → Bool} {held : Bool}
theorem open_many {α : Type} {held' : Bool} {fuel : Nat} {st et : TypeId} {size : Nat} (f : α → List Value) (good : α → Prop) (hu : Tryz.prog.underlying st = some (.slice et)) (hc : Tryz.prog.cellsOf et = size) (hsz : 0 < size)
  (hof : ∀ {fuel : Nat} {held : Bool} {cs : List Value} {y : DataW H × List MemPlace}, DataW.trod enc Tryz.prog w base spare held fuel et cs = some y → ∃ x : α, good x ∧ cs = f x)
  {a : Option Addr} {len cap : Nat} {x : DataW H × List MemPlace} (h : DataW.trod enc Tryz.prog w base spare held' fuel st [.slice a len cap] = some x) :
  ∃ l : List α, l.length = len ∧ (∀ e ∈ l, good e) ∧ rdP a size len (l.flatMap f) (hl w) := by
 rcases Deep.open_slice hu h with ⟨hcs, _⟩ | ⟨a', len', cap', m, n, D, Pl, hcs, hb, hlc, hm, hmm, rfl, hx⟩
 ·simp at hcs
  obtain ⟨rfl, rfl, rfl⟩ := hcs
  exact ⟨[], rfl, fun _ h => by simp at h, rd_none⟩
 ·simp at hcs
  obtain ⟨rfl, rfl, rfl⟩ := hcs
  rw [hc] at hx
  obtain ⟨l, e1, e2⟩ := rd_open (W := w) (base := base) (size := size) (n := len) (a := a') (fun e : { e : α // good e } => f e.1) hsz (fun i hi => by
   obtain ⟨cs, q1, q2⟩ := hx i (by rw [hmm]; split <;> omega)
   obtain ⟨e, he, rfl⟩ := hof q2
   exact ⟨⟨e, he⟩, q1⟩)
  refine ⟨l.map (·.1), by simpa using e1, fun e he => ?_, ?_⟩
  ·obtain ⟨x, _, rfl⟩ := List.mem_map.1 he
   exact x.2
  ·rw [List.flatMap_map]
   exact e2
end
end Go.Proofs.YtdocmcapegcoeaaGreat
namespace Go.Proofs.YtdocmcapegcoeaaGreat
open Go Go.RowKit
open Go.ChangeShapes Go.WideShapes Go.ChangeAt
section
variable {H : Type} {enc : TypeId × Value → H} {w : World} {base : Nat} {spare : Nat → Bool} {held : Bool}
theorem int_of {fuel : Nat} {cs : List Value} {y : DataW H × List MemPlace} (h : DataW.trod enc Tryz.prog w base spare held fuel 3 cs = some y) : ∃ x : Int, (-9223372036854775808 ≤ x ∧ x ≤ 9223372036854775807) ∧ cs = [.int .i64 x] := by
 obtain ⟨n, rfl, _, hw⟩ := DataW.trod_int Tryz.underlying3 h
 refine ⟨n, ?_, rfl⟩
 simpa [Lit.wf, IntKind.min, IntKind.max, IntKind.signed, IntKind.bits] using hw
theorem open_ints {held' : Bool} {fuel : Nat} {a : Option Addr} {len cap : Nat} {x : DataW H × List MemPlace} (h : DataW.trod enc Tryz.prog w base spare held' fuel 24 [.slice a len cap] = some x) :
  ∃ l : List Int, l.length = len ∧ (∀ e ∈ l, -9223372036854775808 ≤ e ∧ e ≤ 9223372036854775807) ∧ rdP a 1 len (l.flatMap fun x => [.int .i64 x]) (hl w) :=
 open_many (fun x : Int => [.int .i64 x]) (fun x => -9223372036854775808 ≤ x ∧ x ≤ 9223372036854775807) Tryz.underlying24 (by kernel_rfl) (by decide) int_of h
end
end Go.Proofs.YtdocmcapegcoeaaGreat
namespace Go.Proofs.YtdocmcapegcoeaaGreat
open Go Go.RowKit
def rdA (a : Option Addr) (size n : Nat) (xs : List Value) : Atom := .hp ⟨rdP a size n xs, fun _ _ l s => s.up l⟩
theorem rdA_rd (a : Option Addr) (size n : Nat) (xs : List Value) : Rd (rdA a size n xs) a size n xs := fun _ s => s
def oad2 : Option (Nat × Nat) → Option Addr
 | some x => some ⟨x.1, x.2, none⟩
 | none => none
def cutA (a : Option (Nat × Nat)) (size h c : Nat) : Option (Nat × Nat) := match a with
 | some y => if c = h then some y else some (y.1, y.2 + h * size)
 | none => none
section
variable {P : Program} {T : Tab} {E : Env} {n : Nat} {ac : Act} {w : World}
theorem cutlo2_run (hT : TabOK P T) {o : Oper} {t e size : Nat} {x y : Operand} {k1 k2 t1 t2 : Nat} {g1 g2 : G} {a : Option (Nat × Nat)} {m c h : Nat} {kk : IntKind} {hI : Int} {s1 b1 b2 : Nat} {z1 z2 : List Value} {td : TD} (hop : o.op = .slice t x (some y) none none) (hx : ev E x = some ⟨k1, .slice (oad2 a) m c, t1, g1⟩) (hy : ev E y = some ⟨k2, .int kk hI, t2, g2⟩) (he : EnvOK n E ac) (v1 : g1.on = true) (v2 : g2.on = true)
  (ht : T.get t = some ⟨.slice e size, s1, z1, b1⟩) (hte : T.get e = some ⟨td, size, z2, b2⟩) (hhI : hI = (h : Int)) (hh : h ≤ m) :
  (execOp ac.eval o).run P w = .ok (.value (.slice (oad2 (cutA a size h c)) (m - h) (c - h))) w := by
 subst hhI
 have e1 := ev_spec he hx
 have e2 := ev_spec he hy
 simp only [Slot.val, v1, v2] at e1 e2
 obtain ⟨d, f, zv, ok⟩ := tiOf_spec (hT.get ht)
 obtain ⟨fe, rfl, g1, g2⟩ := ok.slice rfl
 cases a with
 | none =>
  simp only [execOp, hop, Option.map_some, Option.map_none, e1, e2, Instr.sliceAt, Instr.slice, Instr.sliceBounds, Instr.sliceBound, asIntOf, Sem.run_bind, Sem.run_pure, Result.andThen_ok, underlying_run ok.hd, sizeOf_run g1, g2]
  simp [hh, oad2, cutA]
 | some ad =>
  by_cases hne : c = h
  ·simp only [execOp, hop, Option.map_some, Option.map_none, e1, e2, Instr.sliceAt, Instr.slice, Instr.sliceBounds, Instr.sliceBound, asIntOf, Sem.run_bind, Sem.run_pure, Result.andThen_ok, underlying_run ok.hd, sizeOf_run g1, g2]
   simp [hh, hne, Addr.add_none, oad2, cutA]
  ·simp only [execOp, hop, Option.map_some, Option.map_none, e1, e2, Instr.sliceAt, Instr.slice, Instr.sliceBounds, Instr.sliceBound, asIntOf, Sem.run_bind, Sem.run_pure, Result.andThen_ok, underlying_run ok.hd, sizeOf_run g1, g2]
   simp [hh, hne, Addr.add_none, oad2, cutA]
end
section
variable {X : Cx} {P : Program} {K : List KI} {E : Env} {L : List Atom} {N : Nat} {F : HP} {Post : Value → List Atom → Prop} {rs : List ResultVar} {T : Tab}
end
theorem rd_cutA {a : Option (Nat × Nat)} {size n c h : Nat} {xs : List Value} {hh : Hl} (s : rdP (oad2 a) size n xs hh) (hn : h ≤ n) (hc : n ≤ c) : rdP (oad2 (cutA a size h c)) size (n - h) (xs.drop (h * size)) hh := by
 cases a with
 | none =>
  refine ⟨by rw [List.length_drop, s.1, Nat.sub_mul], fun h0 => ?_⟩
  obtain ⟨b, o, _, _, _, e, _⟩ := s.2 (by omega)
  cases e
 | some y =>
  by_cases e : c = h
  ·refine ⟨by rw [List.length_drop, s.1, Nat.sub_mul], fun h0 => by omega⟩
  ·unfold cutA
   simp only [if_neg e]
   exact (rdA_rd (some ⟨y.1, y.2, none⟩) size n xs).drop h hn _ s
theorem ne_selfI (z : Int) : (z != z) = false := by simp
theorem cellsE_drop (L : List En) : ∀ k, (cellsE L).drop (k * 19) = cellsE (L.drop k) := by
 induction L with
 | nil => intro k; simp [cellsE]
 | cons x l ih =>
  intro k
  cases k with
  | zero => simp
  | succ k =>
   have e1 : cellsE (x :: l) = enL x ++ cellsE l := by simp [cellsE]
   rw [e1, List.drop_succ_cons, ← ih k, show (k + 1) * 19 = (enL x).length + k * 19 from by show _ = 19 + k * 19; omega, ← List.drop_drop, List.drop_left' rfl]
theorem rd_drop {a : Option (Nat × Nat)} {n c h : Nat} {L : List En} {hh : Hl} (s : rdP (oad2 a) 19 n (cellsE L) hh) (hl : L.length = n) (hn : h ≤ n) (hc : n ≤ c) : rdP (oad2 (cutA a 19 h c)) 19 (L.drop h).length (cellsE (L.drop h)) hh := by
 have := rd_cutA s hn hc
 rwa [cellsE_drop, ← hl, ← List.length_drop] at this
theorem cutA_none {a : Option (Nat × Nat)} {size h c : Nat} (hz : a = none → c = 0) : cutA a size h c = none → c - h = 0 := by
 cases a with
 | none => intro _; rw [hz rfl]; omega
 | some y => intro e; unfold cutA at e; simp only at e; split at e <;> cases e
theorem geo_all (D : Nat) (h : D ≤ 6) : (1 * 2 ^ min (D : Int).toNat IntKind.i64.bits - 1 : Int) = mAll D := by
 rw [(pow_bd D h).1]
 unfold mAll
 have := Nat.one_le_two_pow (n := D)
 omega
theorem cellsI_flat (xs : List Int) : (xs.flatMap fun x => [Value.int .i64 x]) = cellsI xs := by
 induction xs with
 | nil => rfl
 | cons x xs ih => simp only [List.flatMap_cons, ih]; rfl
theorem mn_Torn (n t l p : Nat) (S : Dv) (k mm : Nat) (A : Atom) (a : Option (Nat × Nat)) (m c : Nat) (es : List En) (hA : Rd A (oad2 a) 19 m (cellsE es)) (hl : es.length = m) (hm : m ≤ 1000000) (hc : m ≤ c) (ha : a = none → c = 0) (hd : ∀ s ∈ es, s.data.length = 16) (hO : S.Ok (Dv.costT * m + k) mm) (hmm : mm ≤ 12) :
  Fn Tryz.prog 50 [.pointer (some ⟨n, 0, none⟩), .pointer (some ⟨t, 0, none⟩), .pointer (some ⟨l, 0, none⟩), .pointer (some ⟨p, 0, none⟩), .slice (oad2 a) m c] (DvP p n t l S ++ [A])
  (fun v As => v = .int .i64 (S.torn es).2 ∧ As = DvP p n t l (S.torn es).1 ++ [A]) := by
 subst hl
 refine Fn.enter [3, 4, 5, 2, 0] Tryz.func50 rfl rfl rfl fun X F hX => ?_
 refine J.r hX tk 400 (fun _ => rfl) fun b1 => ?_
 refine J.lo (α := (Nat × Dv × List En × Option (Nat × Nat) × Nat)) (fun z => z.2.2.1.length ≤ z.1 ∧ z.2.2.1.length ≤ z.2.2.2.2 ∧ z.2.2.1.length ≤ 1000000 ∧ (z.2.2.2.1 = none → z.2.2.2.2 = 0) ∧ Rd A (oad2 z.2.2.2.1) 19 z.2.2.1.length (cellsE z.2.2.1) ∧ (∀ s ∈ z.2.2.1, s.data.length = 16) ∧ z.2.1.Ok (Dv.costT * z.1 + k) mm ∧ Dv.tornGo z.1 z.2.1 z.2.2.1 = S.torn es) (fun z => [⟨4, .slice (oad2 z.2.2.2.1) z.2.2.1.length z.2.2.2.2, 0, .tt⟩, ⟨0, .pointer (some ⟨n, 0, none⟩), 3, .tt⟩, ⟨1, .pointer (some ⟨t, 0, none⟩), 4, .tt⟩, ⟨2, .pointer (some ⟨l, 0, none⟩), 5, .tt⟩, ⟨3, .pointer (some ⟨p, 0, none⟩), 2, .tt⟩]) [1, 2, 3, 4] (fun z => DvP p n t l z.2.1) (fun z => z.1) ((es.length, S, es, a, c)) (⟨Nat.le_refl _, hc, hm, ha, hA, hd, hO, rfl⟩) rfl ?_ (fun _ => rfl) fun z hI => ?_
 ·rfl
 obtain ⟨j, Q, L, a', c'⟩ := z
 dsimp only at hI ⊢
 obtain ⟨hj, hLc, hLm, ha', hAr, hLd, hQ, hw⟩ := hI
 refine J.r hX tk 400 (fun _ => rfl) fun b3 => ?_
 refine J.cond rfl (fun h1 => ?_) (fun h1 => ?_)
 ·simp only [decide_eq_true_eq] at h1
  have hL0 : L.length ≠ 0 := by omega
  obtain ⟨j, rfl⟩ : ∃ i, j = i + 1 := ⟨j - 1, by omega⟩
  rw [Dv.tornGo, if_neg hL0] at hw
  dsimp only at hw
  have hQ1 : Q.Ok (Dv.costM + (8 * Dv.fuel + (Dv.costT * j + k))) mm := hQ.less (by unfold Dv.costT Dv.cost; rw [Nat.mul_succ]; omega)
  have hr := Dv.room_keep hQ1
  refine J.r hX tk 400 (fun _ => rfl) fun b4 => ?_
  refine J.ca hX (by kernel_rfl) (sw_Room n t l p Q _ mm hQ1 hmm) [1, 2, 3, 4] 0 rfl rfl rfl rfl rfl rfl (fun _ => rfl) ?_
  rintro v As ⟨rfl, rfl⟩
  refine ⟨_, rfl, trivial, ?_⟩
  generalize Q.room = W at hw hr ⊢
  obtain ⟨P, er⟩ := W
  dsimp only at hw hr ⊢
  refine J.r hX tk 400 (fun _ => rfl) fun b6 => ?_
  refine J.cond rfl (fun h2 => ?_) (fun h2 => ?_)
  ·simp only [bne_iff_ne, ne_eq] at h2
   rw [if_pos h2] at hw
   refine J.r hX tk 400 (fun _ => rfl) fun b7 => ?_
   refine J.rt hX tk [1, 2, 3, 4, 5] rfl rfl rfl ?_
   rw [← hw]
   exact ⟨rfl, rfl⟩
  simp only [bne_eq_false_iff_eq] at h2
  rw [if_neg (by rw [h2]; decide)] at hw
  have htook := fun h0 => Dv.pen_took hr.1 hLd h0 hL0
  have hkeep := Dv.pen_keep hr.1 hLd
  refine J.r hX tk 400 (fun _ => rfl) fun b8 => ?_
  refine J.ca hX (by kernel_rfl) (pn_Write p n t l P _ mm hr.1 A (oad2 a') L.length c' L hAr rfl hLm hLd) [1, 2, 3, 4, 5] 0 rfl rfl rfl rfl rfl rfl (fun _ => rfl) ?_
  rintro v As ⟨rfl, rfl⟩
  refine ⟨_, rfl, trivial, ?_⟩
  have hpb : 0 ≤ (P.pen L).2.1 ∧ (P.pen L).2.1 ≤ 7 := write_bd _ _ _
  generalize P.pen L = W at hw htook hkeep hpb ⊢
  obtain ⟨P', nn, er2⟩ := W
  dsimp only at hw htook hkeep hpb ⊢
  refine J.r hX tk 400 (fun _ => rfl) fun b10 => ?_
  refine J.cond rfl (fun h3 => ?_) (fun h3 => ?_)
  ·simp only [bne_iff_ne, ne_eq] at h3
   rw [if_pos h3] at hw
   refine J.r hX tk 400 (fun _ => rfl) fun b11 => ?_
   refine J.rt hX tk [1, 2, 3, 4, 5] rfl rfl rfl ?_
   rw [← hw]
   exact ⟨rfl, rfl⟩
  simp only [bne_eq_false_iff_eq] at h3
  rw [if_neg (by rw [h3]; decide)] at hw
  have htk := htook h3
  obtain ⟨v, rfl⟩ := Int.eq_ofNat_of_zero_le hpb.1
  have hvL : v ≤ L.length := by have := htk.2.1; omega
  rw [Int.toNat_natCast] at hw
  refine J.r hX tk 4 (fun _ => rfl) fun b12 => ?_
  refine J.val hX (.slice (oad2 (cutA a' 19 v c')) (L.length - v) (c' - v)) 0 rfl rfl (fun hg aa w he hw => cutlo2_run tk rfl rfl rfl he rfl rfl rfl rfl rfl hvL) rfl trivial ?_
  rw [show L.length - v = (L.drop v).length from by rw [List.length_drop]]
  refine J.r hX tk 400 (fun _ => rfl) fun b13 => ?_
  refine J.nS ((j, P', L.drop v, cutA a' 19 v c', c' - v)) (⟨by dsimp only; rw [List.length_drop]; omega, by dsimp only; rw [List.length_drop]; omega, by dsimp only; rw [List.length_drop]; omega, cutA_none ha', fun h s => rd_drop (hAr h s) rfl hvL hLc, fun s hs => hLd s (List.mem_of_mem_drop hs), hkeep.1, hw⟩) (by dsimp only; omega) [0, 1, 2, 3, 4, 5] rfl rfl
 ·simp only [decide_eq_false_iff_not] at h1
  have hL0 : L.length = 0 := by omega
  have hz : Dv.tornGo j Q L = (Q, 0) := by
   cases j with
   | zero => rfl
   | succ j => rw [Dv.tornGo, if_pos hL0]
  refine J.r hX tk 400 (fun _ => rfl) fun b15 => ?_
  refine J.rt hX tk [1, 2, 3, 4, 5] rfl rfl rfl ?_
  rw [← hw, hz]
  exact ⟨rfl, rfl⟩
theorem u8_val (x : Int) : Value.int .u8 (IntKind.u8.wrap x) = bv (u8 x) := by
 have h : IntKind.u8.wrap x = x % 256 := by simp [IntKind.wrap, IntKind.bits, IntKind.signed]
 rw [h, bv, u8]
 congr 1
 have h1 : 0 ≤ x % 256 ∧ x % 256 < 256 := ⟨Int.emod_nonneg _ (by decide), Int.emod_lt_of_pos _ (by decide)⟩
 have h2 : (UInt8.ofNat (x % 256).toNat).toNat = (x % 256).toNat := by
  rw [UInt8.toNat_ofNat']
  omega
 rw [h2]; omega
def e18 (k s : Int) : En := ⟨k, s, 1, [u8 k, u8 s, u8 (s / 256), 7, 0, 0, 0, 0, 0, 0, 0, 0, 0, 0, 0, 0]⟩
theorem l18_entry (k s : Int) : Fn Tryz.prog 20 [.int .i64 k, .int .i64 s] [] (fun v As => v = enV (e18 k s) ∧ As = []) := by
 refine Fn.enter [0, 0] Tryz.func20 rfl rfl rfl fun X F hX => ?_
 refine J.r hX tk 9 (fun _ => rfl) fun b1 => ?_
 refine J.val hX (bv (u8 k)) 0 rfl rfl (fun hg a w he hs => by rw [← u8_val k]; exact convert_run tk rfl rfl he rfl rfl rfl) rfl trivial ?_
 refine J.r hX tk 1 (fun _ => rfl) fun b2 => ?_
 refine J.val hX (bv (u8 s)) 0 rfl rfl (fun hg a w he hs => by rw [← u8_val s]; exact convert_run tk rfl rfl he rfl rfl rfl) rfl trivial ?_
 refine J.r hX tk 2 (fun _ => rfl) fun b3 => ?_
 rw [show s.fdiv (2 ^ min (Int.toNat 8) IntKind.i64.bits) = s / 256 from Int.fdiv_eq_ediv_of_nonneg s (by decide : (0 : Int) ≤ 256)]
 refine J.val hX (bv (u8 (s / 256))) 0 rfl rfl (fun hg a w he hs => by rw [← u8_val (s / 256)]; exact convert_run tk rfl rfl he rfl rfl rfl) rfl trivial ?_
 refine J.r hX tk 400 (fun _ => rfl) fun b4 => ?_
 refine J.rt hX tk [] rfl rfl rfl ?_
 exact ⟨rfl, rfl⟩
def Dv.new (d b p : Nat) (lg : Int) : Dv := ⟨Nand.new d b p, Tl.new d b p, Tb.new lg, -1, 0, 0, 1⟩
theorem gd_new (d b p : Nat) (h : geoMay d b p = true) (k : Nat) (hk : k ≤ 1000000000000000) : (Nand.new d b p).Gd k 0 := by
 have h0 := Nand.Gd.new d b p h 0 (by omega)
 refine ⟨h0.ok, ?_, ?_, h0.nodup, h0.few⟩
 ·show (0 : Int) + (k : Int) < _; omega
 ·show (0 : Int) + (k : Int) < _; omega
theorem Dv.Ok.new (d b p : Nat) (lg : Int) (h : geoMay d b p = true) (k : Nat) (hk : k ≤ 1000000000000000) : (Dv.new d b p lg).Ok k 0 :=
 ⟨gd_new d b p h k hk, ⟨rfl, rfl, rfl, by show (List.replicate b Sb.zero).length = b; simp⟩, Tb.Ok.new lg, fun x hx => by simp [Dv.new, Tb.new] at hx, by show (0 : Int) ≤ 0 ∧ (0 : Int) ≤ 8; omega, by show (1 : Int) ≤ 1 ∧ (1 : Int) ≤ 1099511627776; omega⟩
theorem l18_bench (d b p : Nat) (h : geoMay d b p = true) (lg : Int) : Fn Tryz.prog 17 [.agg #[.int .i64 d, .int .i64 b, .int .i64 p], .int .i64 lg] []
  (fun v As => ∃ n t l q, v = .tuple #[.pointer (some ⟨n, 0, none⟩), .pointer (some ⟨t, 0, none⟩), .pointer (some ⟨l, 0, none⟩), .pointer (some ⟨q, 0, none⟩)] ∧ As = DvP q n t l (Dv.new d b p lg)) := by
 refine Fn.enter [0, 0] Tryz.func17 rfl rfl rfl fun X F hX => ?_
 refine J.r hX tk 400 (fun _ => rfl) fun b5 => ?_
 refine J.ca hX (by kernel_rfl) (n_New d b p h) [] 0 rfl rfl rfl rfl rfl rfl (fun _ => rfl) ?_
 rintro v As ⟨n, rfl, rfl⟩
 refine ⟨_, rfl, trivial, ?_⟩
 refine J.r hX tk 400 (fun _ => rfl) fun b7 => ?_
 refine J.ca hX (by kernel_rfl) (tl_New d b p h) [] 0 rfl rfl rfl rfl rfl rfl (fun _ => rfl) ?_
 rintro v As ⟨t, rfl, rfl⟩
 refine ⟨_, rfl, trivial, ?_⟩
 refine J.r hX tk 400 (fun _ => rfl) fun b9 => ?_
 refine J.ca hX (by kernel_rfl) (tb_New lg) [] 0 rfl rfl rfl rfl rfl rfl (fun _ => rfl) ?_
 rintro v As ⟨l, rfl, rfl⟩
 refine ⟨_, rfl, trivial, ?_⟩
 refine J.r hX tk 400 (fun _ => rfl) fun b11 => ?_
 refine J.ca hX (by kernel_rfl) (pn_New n t l 1 (by decide) (Nand.new d b p) (Tl.new d b p) (Tb.new lg)) [] 0 rfl rfl rfl rfl rfl rfl (fun _ => rfl) ?_
 rintro v As ⟨q, rfl, rfl⟩
 refine ⟨_, rfl, trivial, ?_⟩
 refine J.r hX tk 400 (fun _ => rfl) fun b13 => ?_
 refine J.rt hX tk [5, 2, 3, 4] rfl rfl rfl ?_
 exact ⟨n, t, l, q, rfl, rfl⟩
end Go.Proofs.YtdocmcapegcoeaaGreat
namespace Go.Proofs.YtdocmcapegcoeaaGreat
open Go
theorem eucl {P q r q' r' : Nat} (h : q * P + r = q' * P + r') (hr : r < P) (hr' : r' < P) : q = q' ∧ r = r' := by
 have hP : 0 < P := by omega
 have e1 : (q * P + r) / P = q := by rw [Nat.mul_comm, Nat.mul_add_div hP, Nat.div_eq_of_lt hr]; omega
 have e2 : (q' * P + r') / P = q' := by rw [Nat.mul_comm, Nat.mul_add_div hP, Nat.div_eq_of_lt hr']; omega
 rw [h, e2] at e1
 subst e1
 omega
theorem pkMin_const {f : Int → Int → Int} (h : ∀ x y, ¬ f x y < 0) : ∀ (l : List Int) (m : Int), pkMin f l m = m
 | [], m => rfl
 | x :: l, m => by rw [pkMin, if_neg (h x m), pkMin_const h l m]
theorem pkSome_head {kind : Int → Bool} {o : Int} {x : Nat} (hx : (((x : Int) != o) && kind x) = true) (hno : ∀ y, y < x → (((y : Nat) : Int) != o && kind (y : Nat)) = false) : ∀ n, (n ≤ x → pkSome kind o n = []) ∧ (x < n → ∃ l, pkSome kind o n = (x : Int) :: l)
 | 0 => ⟨fun _ => rfl, fun h => by omega⟩
 | n + 1 => by
  obtain ⟨h1, h2⟩ := pkSome_head hx hno n
  rw [pkSome_succ]
  refine ⟨fun h => ?_, fun h => ?_⟩
  ·rw [if_neg (by rw [hno n (by omega)]; decide), h1 (by omega)]
  ·rcases Nat.lt_or_ge x n with hlt | hge
   ·obtain ⟨l, hl⟩ := h2 hlt
    rw [hl]
    split
    ·exact ⟨_, rfl⟩
    ·exact ⟨_, rfl⟩
   ·obtain rfl : n = x := by omega
    rw [if_pos hx, h1 (Nat.le_refl _)]
    exact ⟨[], rfl⟩
theorem cmpI_self (x : Int) : ¬ cmpI x x < 0 := by unfold cmpI; simp
namespace Inv
variable {fd : Int} {S : Dv} {k m : Nat}
theorem free_iff (h : Inv fd S) (hO : S.Ok k m) {b : Int} (hb : S.t.has b = true) : pkFree S.t S.T b = S.t.blank b ∧ (S.t.blank b = true → (b != S.op) = true) := by
 have hu := h.usable hO hb
 unfold pkFree
 rw [hu, Bool.true_and]
 have hop : S.t.blank b = true → (b != S.op) = true := fun hbl => by
  simp only [Tl.blank, Bool.and_eq_true, Bool.not_eq_true'] at hbl
  rw [bne_iff_ne]
  intro e
  rcases h.op with e2 | e2
  ·have := (Tl.has_iff.1 hb).1; omega
  ·have := e2.used
   rw [← e, hbl.2] at this; cases this
 refine ⟨?_, hop⟩
 cases hbl : S.t.blank b with
 | false => rfl
 | true =>
  rw [Bool.true_and, beq_iff_eq]
  simp only [Tl.blank, Bool.and_eq_true, Bool.not_eq_true'] at hbl
  rw [hO.T.cnt]
  unfold Tb.cntB
  have : (S.T.at_.countP fun x => x.2.block == b) = 0 := by
   rw [List.countP_eq_zero]
   intro x hx hxb
   simp only [beq_iff_eq] at hxb
   have hlk : Tb.look S.T.at_ x.1 = some x.2 := look_of hO.T hx
   have := (h.st _ _ hlk).used
   rw [hxb, hbl.2] at this; cases this
  rw [this]; rfl
theorem pick_first (h : Inv fd S) (hO : S.Ok k m) (hw : ∀ b, S.t.has b = true → (S.t.at_ b).wear = 0) {q : Nat} (hq : q < S.t.b) (hbl : (S.t.at_ (q : Nat)).used = false) (hno : ∀ y : Nat, y < q → (S.t.at_ (y : Nat)).used = true) : S.pick = q := by
 have hhas : ∀ y : Nat, y < S.t.b → S.t.has (y : Nat) = true := fun y hy => Tl.has_iff.2 (by omega)
 have hwear : ∀ x, S.t.wear x = 0 := fun x => by
  unfold Tl.wear
  split
  ·rename_i hx; exact hw x hx
  ·rfl
 obtain ⟨a1, a2⟩ := h.free_iff hO (hhas q hq)
 have hb1 : S.t.blank (q : Nat) = true := by unfold Tl.blank; rw [hhas q hq, hbl]; rfl
 obtain ⟨l, hl⟩ := (pkSome_head (kind := pkFree S.t S.T) (o := S.op) (x := q) (by rw [a2 hb1, a1, hb1]; rfl) (fun y hy => by
  rw [(h.free_iff hO (hhas y (by omega))).1]
  unfold Tl.blank
  rw [hno y hy]
  simp) S.t.b).2 hq
 unfold Dv.pick
 rw [hl]
 show pkMin _ l (q : Int) = q
 exact pkMin_const (fun x y => by rw [hwear, hwear]; exact cmpI_self 0) l q
theorem pick_none (h : Inv fd S) (hO : S.Ok k m) (hno : ∀ y : Nat, y < S.t.b → (S.t.at_ (y : Nat)).used = true) : S.pick = -1 := by
 have : pkSome (pkFree S.t S.T) S.op S.t.b = [] := by
  rw [List.eq_nil_iff_forall_not_mem]
  intro x hx
  obtain ⟨h1, h2, h3, h4⟩ := mem_pkSome.1 hx
  obtain ⟨y, rfl⟩ := Int.eq_ofNat_of_zero_le h1
  rw [(h.free_iff hO (Tl.has_iff.2 ⟨h1, h2⟩)).1] at h4
  unfold Tl.blank at h4
  rw [hno y (by omega)] at h4
  simp at h4
 unfold Dv.pick
 rw [this]; rfl
end Inv
structure SeqI (D B P rows : Nat) (S : Dv) : Prop where
 inv : Inv (-1) S
 no : NoF S
 dies : S.N.dies = D
 blocks : S.N.blocks = B
 pages : S.N.pages = P
 ops : S.N.ops = ((rows * D : Nat) : Int)
 broken : S.N.broken = 0
 worn : ∀ i j, (S.N.blk i j).worn = 0
 sb : ∀ b : Nat, b < B → (S.t.at_ b).wear = 0 ∧ (S.t.at_ b).held = false ∧ (S.t.at_ b).used = decide (b * P < rows)
 op : (rows = 0 ∧ S.op = -1) ∨ ∃ q r, rows = q * P + r + 1 ∧ r < P ∧ S.op = (q : Nat) ∧ S.row = ((r + 1 : Nat) : Int)
theorem msk_all {D : Nat} {m : Int} (h : Msk D (-1) m) (hD : 3 ≤ D ∧ D ≤ 6) : m = L.all D ∧ G.slots m = (D : Int) - 1 := by
 rcases h.eq hD with ⟨e, _⟩ | ⟨e, _⟩
 ·refine ⟨e, ?_⟩
  rw [e]
  exact (slots_all D (by omega) hD.1).1
 ·omega
namespace SeqI
variable {D B P rows : Nat} {S : Dv} {k m : Nat} {l : List En}
theorem new (D B P : Nat) (lg : Int) : SeqI D B P 0 (Dv.new D B P lg) := by
 refine ⟨Inv.new _ _ _ _ _, NoF.new _ _ _ _, rfl, rfl, rfl, by show (0 : Int) = _; simp, rfl, fun _ _ => rfl, fun b hb => ?_, .inl ⟨rfl, rfl⟩⟩
 have : (Tl.new D B P).at_ b = Sb.zero := by
  unfold Tl.new Tl.at_
  dsimp only
  rw [List.getD_eq_getElem?_getD, List.getElem?_replicate]
  split <;> rfl
 show ((Tl.new D B P).at_ b).wear = 0 ∧ ((Tl.new D B P).at_ b).held = false ∧ ((Tl.new D B P).at_ b).used = _
 rw [this]
 exact ⟨rfl, rfl, by simp [Sb.zero]⟩
theorem at1 (h : SeqI D B P rows S) (hO : S.Ok k m) {q r : Nat} (hq : rows = q * P + r) (hr : r < P) (hB : q < B) : S.at1.op = (q : Nat) ∧ S.at1.row = (r : Nat) ∧ S.at1.mask = L.all D ∧ G.slots S.at1.mask = (D : Int) - 1 ∧ S.at1.left = true := by
 have hg := hO.gd.ok.bd16
 rw [h.dies, h.blocks, h.pages] at hg
 have hb := hO.t.b
 rw [h.blocks] at hb
 have hpick : r = 0 → S.pick = q := fun e => by
  refine h.inv.pick_first hO (fun b hb2 => ?_) (by omega) ?_ fun y hy => ?_
  ·have := Tl.has_iff.1 hb2
   obtain ⟨y, rfl⟩ := Int.eq_ofNat_of_zero_le this.1
   exact (h.sb y (by omega)).1
  ·rw [(h.sb q hB).2.2]
   exact decide_eq_false (by omega)
  ·rw [(h.sb y (by omega)).2.2]
   refine decide_eq_true ?_
   have : (y + 1) * P ≤ q * P := Nat.mul_le_mul_right _ hy
   rw [Nat.succ_mul] at this
   omega
 have hopens : S.left = false → r = 0 → S.at1 = S.opened ∧ ¬ S.pick < 0 := fun hl e => by
  have := hpick e
  refine ⟨?_, by omega⟩
  unfold Dv.at1; rw [hl]; rfl
 have hopen : S.left = false → r = 0 → S.at1.op = (q : Nat) ∧ S.at1.row = (r : Nat) ∧ S.at1.mask = L.all D ∧ G.slots S.at1.mask = (D : Int) - 1 ∧ S.at1.left = true := fun hl e => by
  obtain ⟨e1, e2⟩ := hopens hl e
  obtain ⟨w, w2, w3⟩ := h.inv.opens hO hl e2
  rw [e1]
  have hms := (w.inv.opn w2).mask
  have hd : S.opened.N.dies = D := h.dies
  rw [hd] at hms
  obtain ⟨m1, m2⟩ := msk_all hms hg.1
  exact ⟨hpick e, by rw [e]; rfl, m1, m2, w2⟩
 rcases h.op with ⟨e1, e2⟩ | ⟨q0, r0, e1, e2, e3, e4⟩
 ·have hr0 : r = 0 := by omega
  refine hopen ?_ hr0
  unfold Dv.left
  rw [e2]; rfl
 ·have hopn : Opn (-1) S := by
   rcases h.inv.op with e | e
   ·omega
   ·exact e
  have hms := hopn.mask
  rw [h.dies] at hms
  obtain ⟨m1, m2⟩ := msk_all hms hg.1
  by_cases hlt : r0 + 1 < P
  ·obtain ⟨f1, f2⟩ := eucl (show q0 * P + (r0 + 1) = q * P + r by omega) hlt hr
   have hl : S.left = true := by
    unfold Dv.left
    rw [decide_eq_true (by omega), h.pages, decide_eq_true (by omega), decide_eq_true (by omega)]; rfl
   have : S.at1 = S := by unfold Dv.at1; rw [hl]; rfl
   rw [this]
   exact ⟨by rw [e3, f1], by rw [e4, f2], m1, m2, hl⟩
  ·have hl : S.left = false := by
    unfold Dv.left
    rw [h.pages, decide_eq_false (p := S.row < (P : Int)) (by omega), Bool.and_false, Bool.false_and]
   have : r = 0 := by
    have : q * P + r = (q0 + 1) * P + 0 := by rw [Nat.succ_mul]; omega
    exact (eucl this hr (by omega)).2
   exact hopen hl this
theorem rows_pos (h : SeqI D B P rows S) (hO : S.Ok k m) {q r : Nat} (hq : rows = q * P + r) (hr : r < P) (hB : q < B) : 0 < S.rows := by
 obtain ⟨a1, a2, a3, a4, a5⟩ := h.at1 hO hq hr hB
 have hg := hO.gd.ok.bd16
 rw [h.dies, h.blocks, h.pages] at hg
 unfold Dv.at1 at a5
 cases hl : S.left with
 | true =>
  have := Dv.left_spec hl
  unfold Dv.rows
  rw [if_pos (by omega)]
  omega
 | false =>
  rw [hl, if_neg Bool.false_ne_true] at a5
  unfold Dv.at1 at a1
  rw [hl, if_neg Bool.false_ne_true] at a1
  have hp : S.pick = q := a1
  have hbl := Tl.blanks_open hO.t.len (Dv.pick_blank (S := S) (by omega))
  unfold Dv.rows
  rw [h.pages]
  have : P * 1 ≤ P * S.t.blanks := Nat.mul_le_mul_left _ (by omega)
  omega
theorem pen (h : SeqI D B P rows S) (hO : S.Ok (8 * Dv.fuel + k) m) {q r : Nat} (hq : rows = q * P + r) (hr : r < P) (hB : q < B) (hf : ∀ e ∈ l, FitR e) (hl0 : l.length ≠ 0) (hnx : S.next ≤ 1099511627775 - 7) :
  S.pen l = (wroteP S.at1 l, (S.at1.fit l : Int), (0 : Int)) ∧ S.at1.fit l = min l.length (D - 1) ∧ SeqI D B P (rows + 1) (wroteP S.at1 l) ∧ (wroteP S.at1 l).Ok k m ∧ Went (-1) S S.at1 0 ∧ Last (-1) S.at1 l ∧ S.at1.Ok (8 + k) m := by
 obtain ⟨a1, a2, a3, a4, a5⟩ := h.at1 hO hq hr hB
 have hg := hO.gd.ok.bd16
 rw [h.dies, h.blocks, h.pages] at hg
 obtain ⟨p1, p2, p3, p4⟩ := h.inv.pen_calm hO h.no (h.rows_pos hO hq hr hB) hf hl0 hnx
 have hd : ∀ s ∈ l, s.data.length = 16 := fun e he => (hf e he).len
 have hok := (Dv.pen_keep hO hd).1
 rw [p1] at hok
 have hfit : S.at1.fit l = min l.length (D - 1) := by unfold Dv.fit; rw [a4]; omega
 have hli : Inv (-1) (wroteP S.at1 l) := p4.inv p2.inv p3
 have ht := p4.turn
 have hat1 := Dv.at1_like S
 refine ⟨p1, hfit, ⟨hli, (h.no.went p2).wrote p4, ?_, ?_, ?_, ?_, ?_, fun i j => ?_, fun b hb => ?_, .inr ⟨q, r, by omega, hr, a1, ?_⟩⟩, hok, p2, p4, p3⟩
 ·exact ht.like.dies.trans (by rw [hat1.1]; exact h.dies)
 ·exact ht.like.blocks.trans (by rw [hat1.1]; exact h.blocks)
 ·exact ht.like.pages.trans (by rw [hat1.1]; exact h.pages)
 ·have h1 := ht.ops
  have h2 : ((R.job S.at1.op S.at1.row S.at1.mask (S.at1.es l)).filter fun x => !S.at1.N.dead.getD x.1.toNat false).length = D := by
   rw [List.filter_eq_self.2 (fun x _ => by rw [(h.no.went p2).dead]; rfl)]
   have := Dv.es_len S.at1 l
   rw [job_len, this, a4]; omega
  show (S.at1.wrote l).N.ops = _
  rw [h1, h2, hat1.1, h.ops, Nat.succ_mul]; omega
 ·show (S.at1.wrote l).N.broken = 0
  rw [ht.broken, hat1.1]; exact h.broken
 ·show ((S.at1.wrote l).N.blk i j).worn = 0
  rw [(ht.flags i j).2.2, hat1.1]; exact h.worn i j
 ·have hb' : S.t.has (b : Nat) = true := Tl.has_iff.2 (by have := hO.t.b; rw [h.blocks] at this; omega)
  have hs := p2.sb b hb'
  have h0 := h.sb b hb
  refine ⟨by show (S.at1.t.at_ b).wear = 0; rw [hs.1]; exact h0.1, by show (S.at1.t.at_ b).held = false; rw [hs.2.1]; exact h0.2.1, ?_⟩
  show (S.at1.t.at_ b).used = _
  by_cases e : b = q
  ·subst e
   have := (p2.inv.opn a5).used
   rw [a1] at this
   rw [this]
   exact (decide_eq_true (by omega)).symm
  ·have e2 : (S.at1.t.at_ b).used = (S.t.at_ b).used := by
    unfold Dv.at1 at a1 ⊢
    split
    ·rfl
    ·rename_i hl
     rw [if_neg hl] at a1
     have hp : S.pick = q := a1
     have hpb : S.t.has S.pick = true := Tl.has_iff.2 (by have := hO.t.b; rw [h.blocks] at this; omega)
     show ((S.t.clean S.pick false).at_ b).used = _
     unfold Tl.clean
     rw [Tl.at_set hO.t.len _ hpb hb', if_neg (by omega)]
   rw [e2, h0.2.2, decide_eq_decide]
   rcases Nat.lt_or_ge b q with hlt | hge
   ·have : (b + 1) * P ≤ q * P := Nat.mul_le_mul_right _ hlt
    rw [Nat.succ_mul] at this
    omega
   ·have : (q + 1) * P ≤ b * P := Nat.mul_le_mul_right _ (by omega)
    rw [Nat.succ_mul] at this
    omega
 ·show S.at1.row + 1 = _
  rw [a2]; omega
theorem full (h : SeqI D B P (B * P) S) (hO : S.Ok k m) (hl0 : l.length ≠ 0) : S.pen l = (S, 0, 11) ∧ S.slots = 0 := by
 have hg := hO.gd.ok.bd16
 rw [h.dies, h.blocks, h.pages] at hg
 have hb := hO.t.b
 rw [h.blocks] at hb
 have hpick : S.pick = -1 := h.inv.pick_none hO fun y hy => by
  rw [(h.sb y (by omega)).2.2]
  refine decide_eq_true ?_
  have : (y + 1) * P ≤ B * P := Nat.mul_le_mul_right _ (by omega)
  rw [Nat.succ_mul] at this
  omega
 have hl : S.left = false := by
  rcases h.op with ⟨e1, e2⟩ | ⟨q0, r0, e1, e2, e3, e4⟩
  ·unfold Dv.left
   rw [e2]; rfl
  ·have : r0 + 1 = P := by
    by_cases hlt : r0 + 1 < P
    ·have := eucl (show q0 * P + (r0 + 1) = B * P + 0 by omega) hlt (by omega)
     omega
    ·omega
   unfold Dv.left
   rw [h.pages, decide_eq_false (p := S.row < (P : Int)) (by omega), Bool.and_false, Bool.false_and]
 refine ⟨?_, ?_⟩
 ·show Dv.write (159 + 1) S l = _
  rw [Dv.write_succ, if_neg hl0, if_pos ⟨hl, by omega⟩]
 ·unfold Dv.slots
  rw [if_neg (by rw [hl]; decide), hpick]
  have : S.t.mask (-1) = 0 := by unfold Tl.mask; rw [if_neg (by simp [Tl.has])]
  rw [this]; rfl
end SeqI
end Go.Proofs.YtdocmcapegcoeaaGreat
namespace Go.Proofs.YtdocmcapegcoeaaGreat
open Go Go.RowKit
theorem Dv.Ok.fault0 {S : Dv} {k m : Nat} (h : S.Ok k m) (kd x y z n xx : Int) (hk : kd ≠ 1) : ({ S with N := (S.N.fault kd x y z n xx).2 } : Dv).Ok k m :=
 ⟨h.gd.fault0 kd x y z n xx hk, h.t.like (Nand.like_fault _ _ _ _ _ _ _), h.T, h.sl, h.row, h.next⟩
namespace B18
def S0 : Dv := Dv.new 3 8 2 20
def S1 : Dv := (S0.pen [e18 1 1, e18 2 2, e18 3 3]).1
def S2 : Dv := (S1.pen [e18 3 3]).1
def S3 : Dv := (S2.carry 0 2).1
def S4 : Dv := { S3 with N := (S3.N.fault 4 2 0 0 0 0).2 }
def S5 : Dv := (S4.step 2).1
def S6 : Dv := S5.room.1
def S7 : Dv := (S6.torn [e18 9 9]).1
theorem h1 : (S0.pen [e18 1 1, e18 2 2, e18 3 3]).2 = (2, 0) := by kernel_rfl
theorem h2 : (S1.pen [e18 3 3]).2 = (1, 0) := by kernel_rfl
theorem h3 : (S2.carry 0 2).2 = (2, 0) := by kernel_rfl
theorem h4 : Tb.look S3.T.at_ 1 = some ⟨1, 0, 0, 7, 4, 1⟩ := by kernel_rfl
theorem h5 : S3.op = 1 := by kernel_rfl
theorem h6 : (S4.step 2).2 = (1, 0) := by kernel_rfl
theorem h7 : S5.leftN = 2 := by kernel_rfl
theorem h8 : S5.N.broken = 0 := by kernel_rfl
theorem h9 : S5.room.2 = 0 := by kernel_rfl
theorem h10 : (S6.torn [e18 9 9]).2 = 0 := by kernel_rfl
theorem h11 : S7.clear.2 = 0 := by kernel_rfl
def U : Nat := 10000000000
theorem G0 : S0.Ok (10 * U) 0 := Dv.Ok.new 3 8 2 20 rfl _ (by decide)
theorem d3 : ∀ s ∈ [e18 1 1, e18 2 2, e18 3 3], s.data.length = 16 := by decide
theorem d1 : ∀ s ∈ [e18 3 3], s.data.length = 16 := by decide
theorem d9 : ∀ s ∈ [e18 9 9], s.data.length = 16 := by decide
theorem G1 : S1.Ok (9 * U) 0 := (Dv.pen_keep (G0.less (by decide : 8 * Dv.fuel + 9 * U ≤ _)) d3).1
theorem G2 : S2.Ok (8 * U) 0 := (Dv.pen_keep (G1.less (by decide : 8 * Dv.fuel + 8 * U ≤ _)) d1).1
theorem G3 : S3.Ok (7 * U) 0 := (Dv.carry_keep (G2.less (by decide : Dv.costC + 7 * U ≤ _)) 0 2).1
theorem G4 : S4.Ok (7 * U) 0 := Dv.Ok.fault0 G3 4 2 0 0 0 0 (by decide)
theorem G5 : S5.Ok (6 * U) 0 := (Dv.step_keep (G4.less (by decide : Dv.costS + 6 * U ≤ _)) 2).1
theorem G6 : S6.Ok (5 * U) 0 := (Dv.room_keep (G5.less (by decide : Dv.costM + 5 * U ≤ _))).1
theorem G7 : S7.Ok (4 * U) 0 := (Dv.tornGo_keep 1 S6 [e18 9 9] _ (G6.less (by decide : Dv.costT * 1 + 4 * U ≤ _)) d9).1
end B18
end Go.Proofs.YtdocmcapegcoeaaGreat
namespace Go.Proofs.YtdocmcapegcoeaaGreat
open Go Go.RowKit
open B18
theorem l16_Begun : Fn Tryz.prog 49 [] [] (fun v As => v = .bool true ∧ As = []) := by
 refine Fn.enter [] Tryz.func49 rfl rfl rfl fun X F hX => ?_
 refine J.r hX tk 400 (fun _ => rfl) fun b1 => ?_
 refine J.ca hX (by kernel_rfl) (l16_begun) [] 0 rfl rfl rfl rfl rfl rfl (fun _ => rfl) ?_
 rintro v As ⟨rfl, rfl⟩
 refine ⟨_, rfl, trivial, ?_⟩
 refine J.r hX tk 400 (fun _ => rfl) fun b3 => ?_
 refine J.rt hX tk [] rfl rfl rfl ?_
 exact ⟨rfl, rfl⟩
theorem l18_begun : Fn Tryz.prog 15 [] [] (fun v As => v = .bool true ∧ As = []) := by
 refine Fn.enter [] Tryz.func15 rfl rfl rfl fun X F hX => ?_
 refine J.r hX tk 400 (fun _ => rfl) fun b4 => ?_
 refine J.ca hX (by kernel_rfl) (l18_bench 3 8 2 rfl 20) [] 0 rfl rfl rfl rfl rfl rfl (fun _ => rfl) ?_
 rintro v As ⟨n, t, l, q, rfl, rfl⟩
 refine ⟨_, rfl, trivial, ?_⟩
 rw [show Dv.new 3 8 2 20 = S0 from rfl]
 refine J.r hX tk 400 (fun _ => rfl) fun b6 => ?_
 refine J.cond rfl (fun h => absurd h (by decide)) (fun _ => ?_)
 refine J.r hX tk 400 (fun _ => rfl) fun b7 => ?_
 refine J.ca hX (by kernel_rfl) (l18_entry 1 1) [] 0 rfl rfl rfl rfl rfl rfl (fun _ => rfl) ?_
 rintro v As ⟨rfl, rfl⟩
 refine ⟨_, rfl, trivial, ?_⟩
 refine J.r hX tk 400 (fun _ => rfl) fun b9 => ?_
 refine J.ca hX (by kernel_rfl) (l18_entry 2 2) [] 0 rfl rfl rfl rfl rfl rfl (fun _ => rfl) ?_
 rintro v As ⟨rfl, rfl⟩
 refine ⟨_, rfl, trivial, ?_⟩
 refine J.r hX tk 400 (fun _ => rfl) fun b11 => ?_
 refine J.ca hX (by kernel_rfl) (l18_entry 3 3) [] 0 rfl rfl rfl rfl rfl rfl (fun _ => rfl) ?_
 rintro v As ⟨rfl, rfl⟩
 refine ⟨_, rfl, trivial, ?_⟩
 refine J.r hX tk 400 (fun _ => rfl) fun bx => ?_
 refine J.ca hX (by kernel_rfl) (pn_Write q n t l S0 (9 * U) 0 (G0.less (by decide)) (.pt (bx 0) 38 (cellsE [e18 1 1, e18 2 2, e18 3 3])) (some ⟨bx 0, 0, none⟩) 3 3 [e18 1 1, e18 2 2, e18 3 3] (pt_rd _ _ _ _ _ rfl) rfl (by decide) B18.d3) [1, 2, 3, 4, 5] 0 rfl rfl rfl rfl rfl rfl (fun _ => rfl) ?_
 rintro v As ⟨rfl, rfl⟩
 refine ⟨_, rfl, trivial, ?_⟩
 rw [show (S0.pen [e18 1 1, e18 2 2, e18 3 3]).1 = S1 from rfl, h1]
 refine J.r hX tk 400 (fun _ => rfl) fun b14 => ?_
 refine J.ca hX (by kernel_rfl) (l18_entry 3 3) [] 0 rfl rfl rfl rfl rfl rfl (fun _ => rfl) ?_
 rintro v As ⟨rfl, rfl⟩
 refine ⟨_, rfl, trivial, ?_⟩
 refine J.r hX tk 400 (fun _ => rfl) fun by_ => ?_
 refine J.ca hX (by kernel_rfl) (pn_Write q n t l S1 (8 * U) 0 (G1.less (by decide)) (.pt (by_ 0) 38 (cellsE [e18 3 3])) (some ⟨by_ 0, 0, none⟩) 1 1 [e18 3 3] (pt_rd _ _ _ _ _ rfl) rfl (by decide) B18.d1) [1, 2, 3, 4, 6] 0 rfl rfl rfl rfl rfl rfl (fun _ => rfl) ?_
 rintro v As ⟨rfl, rfl⟩
 refine ⟨_, rfl, trivial, ?_⟩
 rw [show (S1.pen [e18 3 3]).1 = S2 from rfl, h2]
 refine J.r hX tk 400 (fun _ => rfl) fun b17 => ?_
 refine J.ca hX (by kernel_rfl) (sw_Carry n t l q S2 (7 * U) 0 (G2.less (by decide)) 0 2) [1, 2, 3, 4] 0 rfl rfl rfl rfl rfl rfl (fun _ => rfl) ?_
 rintro v As ⟨rfl, rfl⟩
 refine ⟨_, rfl, trivial, ?_⟩
 rw [show (S2.carry 0 2).1 = S3 from rfl, h3]
 refine J.r hX tk 400 (fun _ => rfl) fun b19 => ?_
 refine J.ca hX (by kernel_rfl) (tb_Get l S3.T 1) [4] 0 rfl rfl rfl rfl rfl rfl (fun _ => rfl) ?_
 rintro v As ⟨rfl, rfl⟩
 refine ⟨_, rfl, trivial, ?_⟩
 rw [h4, Option.getD_some, Option.isSome_some]
 refine J.r hX tk 400 (fun _ => rfl) fun ba => ?_
 refine J.ca hX (by kernel_rfl) (pn_Open q n t l S3) [1] 0 rfl rfl rfl rfl rfl rfl (fun _ => rfl) ?_
 rintro v As ⟨rfl, rfl⟩
 refine ⟨_, rfl, trivial, ?_⟩
 rw [h5]
 refine J.r hX tk 400 (fun _ => rfl) fun b22 => ?_
 refine J.ca hX (by kernel_rfl) (n_Fault n S3.N G3.gd.ok 0 4 2 0 0 0 0) [2] 0 rfl rfl rfl rfl rfl rfl (fun _ => rfl) ?_
 rintro v As ⟨rfl, rfl⟩
 refine ⟨_, rfl, trivial, ?_⟩
 rw [show (S3.N.fault 4 2 0 0 0 0).2 = S4.N from rfl, show PenA q n t l S3 = PenA q n t l S4 from rfl, show S3.t = S4.t from rfl, show S3.T = S4.T from rfl]
 refine J.r hX tk 400 (fun _ => rfl) fun b24 => ?_
 refine J.ca hX (by kernel_rfl) (mn_Step n t l q S4 (6 * U) 0 (G4.less (by decide)) (by decide) 2) [1, 2, 3, 4] 0 rfl rfl rfl rfl rfl rfl (fun _ => rfl) ?_
 rintro v As ⟨rfl, rfl⟩
 refine ⟨_, rfl, trivial, ?_⟩
 rw [show (S4.step 2).1 = S5 from rfl, h6]
 refine J.r hX tk 400 (fun _ => rfl) fun b26 => ?_
 refine J.ca hX (by kernel_rfl) (l16_Begun) [] 0 rfl rfl rfl rfl rfl rfl (fun _ => rfl) ?_
 rintro v As ⟨rfl, rfl⟩
 refine ⟨_, rfl, trivial, ?_⟩
 refine J.r hX tk 400 (fun _ => rfl) fun b28 => ?_
 refine J.ca hX (by kernel_rfl) (mn_Left t l S5 (6 * U) 0 G5) [3, 4] 0 rfl rfl rfl rfl rfl rfl (fun _ => rfl) ?_
 rintro v As ⟨rfl, rfl⟩
 refine ⟨_, rfl, trivial, ?_⟩
 rw [h7]
 refine J.r hX tk 400 (fun _ => rfl) fun b30 => ?_
 refine J.ca hX (by kernel_rfl) (n_Broken n S5.N) [2] 0 rfl rfl rfl rfl rfl rfl (fun _ => rfl) ?_
 rintro v As ⟨rfl, rfl⟩
 refine ⟨_, rfl, trivial, ?_⟩
 rw [h8]
 refine J.r hX tk 400 (fun _ => rfl) fun b32 => ?_
 refine J.ca hX (by kernel_rfl) (sw_Room n t l q S5 (5 * U) 0 (G5.less (by decide)) (by decide)) [1, 2, 3, 4] 0 rfl rfl rfl rfl rfl rfl (fun _ => rfl) ?_
 rintro v As ⟨rfl, rfl⟩
 refine ⟨_, rfl, trivial, ?_⟩
 rw [show S5.room.1 = S6 from rfl, h9]
 refine J.r hX tk 400 (fun _ => rfl) fun b34 => ?_
 refine J.ca hX (by kernel_rfl) (l18_entry 9 9) [] 0 rfl rfl rfl rfl rfl rfl (fun _ => rfl) ?_
 rintro v As ⟨rfl, rfl⟩
 refine ⟨_, rfl, trivial, ?_⟩
 refine J.r hX tk 400 (fun _ => rfl) fun b36 => ?_
 refine J.effG hX tk rfl rfl rfl (fun _ => rfl) (by (repeat' (first | exact Conj.nil | refine Conj.cons ?_ ?_ | omega | exact hq0 | (simpa using hq0) | (exact fun h => h) | exact rfl | (intro hq; have hq0 := hq; try simp only [Bool.and_eq_true, Bool.or_eq_true, decide_eq_true_eq, Bool.not_eq_true', decide_eq_false_iff_not] at hq) | (simp; done) | (simp; omega) | decide))) (fun _ => rfl) fun bt => ⟨trivial, ?_⟩
 refine J.r hX tk 400 (fun _ => rfl) fun b37 => ?_
 refine J.ca hX (by kernel_rfl) (mn_Torn n t l q S6 (4 * U) 0 (.pt bt 38 (cellsE [e18 9 9])) (some (bt, 0)) 1 1 [e18 9 9] (pt_rd _ _ _ _ _ rfl) rfl (by decide) (by decide) (fun h => by cases h) B18.d9 (G6.less (by decide)) (by decide)) [1, 2, 3, 4, 8] 0 rfl rfl rfl rfl rfl rfl (fun _ => rfl) ?_
 rintro v As ⟨rfl, rfl⟩
 refine ⟨_, rfl, trivial, ?_⟩
 rw [show (S6.torn [e18 9 9]).1 = S7 from rfl, h10]
 refine J.r hX tk 400 (fun _ => rfl) fun b39 => ?_
 refine J.ca hX (by kernel_rfl) (pn_Open q n t l S7) [1] 0 rfl rfl rfl rfl rfl rfl (fun _ => rfl) ?_
 rintro v As ⟨rfl, rfl⟩
 refine ⟨_, rfl, trivial, ?_⟩
 refine J.r hX tk 400 (fun _ => rfl) fun b41 => ?_
 refine J.ca hX (by kernel_rfl) (sw_Clear n t l S7.N S7.t S7.T (3 * U) 0 (G7.gd.less (by decide) (Nat.le_refl _)) (by decide) G7.t S7.op) [2, 3, 4] 0 rfl rfl rfl rfl rfl rfl (fun _ => rfl) ?_
 rintro v As ⟨rfl, rfl⟩
 refine ⟨_, rfl, trivial, ?_⟩
 rw [show (Dv.clearX S7.N S7.t S7.T S7.op).2.2 = 0 from h11]
 refine J.r hX tk 400 (fun _ => rfl) fun b43 => ?_
 refine J.rt hX tk [] rfl rfl rfl ?_
 exact ⟨rfl, rfl⟩
end Go.Proofs.YtdocmcapegcoeaaGreat
namespace Go.Proofs.YtdocmcapegcoeaaGreat
open Go Go.RowKit
def lvPc : List Lk := [.int .i64, .int .i64, .int .i64]
theorem leavesPc : leaves Tryz.prog 100 44 = some lvPc := by kernel_rfl
theorem fitsPc (b r s : Int) : Fits lvPc (plL b r s) := ⟨rfl, rfl, rfl, trivial⟩
theorem mkPc (zs : List Value) : mkV Tryz.prog 44 zs = .agg zs.toArray := by simp [mkV, Tryz.underlying44]
theorem gdPc : Tryz.prog.eqGuardType Tryz.prog.depth 44 = false := by kernel_rfl
theorem eqPc (b r s x y z : Int) : eqCells (plL b r s) (plL x y z) = ((b == x) && ((r == y) && (s == z))) := by simp [plL, eqCells, cellEq]
end Go.Proofs.YtdocmcapegcoeaaGreat
