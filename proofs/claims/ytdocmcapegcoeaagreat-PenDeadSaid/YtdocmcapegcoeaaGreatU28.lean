/- Helpers, proved here. No condition. -/
import Derived.Test.YtdocmcapegcoeaaGreatU06
import Derived.Test.YtdocmcapegcoeaaGreatU26
set_option maxRecDepth 20000
set_option linter.all false
namespace Go.Proofs.YtdocmcapegcoeaaGreat
open Go
theorem lt_dec : ∀ D, D < 7 → ∀ K, K < 256 → (∀ d, d < 8 → L.has (K : Nat) (d : Nat) = true → d < D) → K < 2 ^ D := by decide +kernel
structure Dd (D : Nat) (K A : Int) (S : Dv) : Prop where
 lit : S.N.Lit
 dies : S.N.dies = D
 plan : S.N.plan = []
 met : ∀ i j, (S.N.blk i j).met = false
 broken : S.N.broken = 0
 setA : L.set A = true
 setK : L.set K = true
 le : ∀ d : Nat, L.has A (d : Nat) = true → L.has K (d : Nat) = true
 lt : ∀ d : Nat, L.has K (d : Nat) = true → d < D
 dead : ∀ i : Nat, i < D → S.N.dead.getD i false = !L.has A (i : Nat)
 tdead : L.set S.t.dead = true ∧ ∀ d : Nat, d < D → L.has S.t.dead (d : Nat) = !L.has K (d : Nat)
 tbad : ∀ b, S.t.has b = true → (S.t.at_ b).bad = 0
 op : S.op = -1 ∨ (0 ≤ S.op ∧ S.op < S.N.blocks) ∧ (S.t.at_ S.op).used = true ∧ (0 ≤ S.row ∧ S.row ≤ S.N.pages) ∧ S.mask = K ∧ ∀ d : Nat, L.has A (d : Nat) = true → ((S.N.blk d S.op.toNat).cells.length : Int) = S.row
 blank : ∀ b, S.t.has b = true → (S.t.at_ b).used = false → ∀ d : Nat, (S.N.blk d b.toNat).cells = []
 st : ∀ i a, Tb.look S.T.at_ i = some a → S.t.has a.block = true ∧ (S.t.at_ a.block).used = true
namespace Dd
variable {D : Nat} {K A : Int} {S : Dv} {k m : Nat}
theorem mask (h : Dd D K A S) (hO : S.Ok k m) {b : Int} (hb : S.t.has b = true) : S.t.mask b = K := by
 have hg := hO.gd.ok.bd16
 have hd := hO.t.d
 rw [h.dies] at hg hd
 obtain ⟨m1, m2⟩ := mask_has (by omega) hb h.tdead.1 (by rw [h.tbad b hb]; decide)
 refine L.ext m1 h.setK fun d hd8 => ?_
 rw [m2, h.tbad b hb, L.has_zero, hd]
 by_cases hlt : d < D
 ·rw [h.tdead.2 d hlt, decide_eq_true (p := (0 : Int) ≤ (d : Int)) (by omega), decide_eq_true (p := (d : Int) < (D : Int)) (by omega)]
  simp
 ·rw [decide_eq_false (p := (d : Int) < (D : Int)) (by omega)]
  cases hh : L.has K (d : Nat) with
  | false => simp
  | true => exact absurd (h.lt d hh) hlt
theorem rng (h : Dd D K A S) (hD : D ≤ 6) : 0 ≤ K ∧ K < 2 ^ D := by
 obtain ⟨x, rfl, hx⟩ := L.set_has h.setK
 have := lt_dec D (by omega) x hx fun d _ hd => h.lt d hd
 exact ⟨by omega, by exact_mod_cast this⟩
theorem rows_pos (h : Dd D K A S) (hO : S.Ok k m) (hs : 0 < G.slots K) (hr : 0 < S.rows) : S.left = true ∨ ¬ S.pick < 0 := by
 have hg := hO.gd.ok.bd16
 by_cases hb : S.t.blanks = 0
 ·left
  unfold Dv.rows at hr
  rw [hb, Nat.mul_zero, Nat.zero_add] at hr
  split at hr
  ·rename_i h0
   rcases h.op with e | ⟨_, _, _, e, _⟩
   ·omega
   ·unfold Dv.left
    rw [e, decide_eq_true h0, decide_eq_true (by omega), decide_eq_true (by omega)]; rfl
  ·omega
 ·right
  obtain ⟨s, hs2, hu⟩ := List.countP_pos_iff.1 (show 0 < S.t.l.countP fun s => !s.used by unfold Tl.blanks at hb; omega)
  obtain ⟨j, hj, rfl⟩ := List.mem_iff_getElem.1 hs2
  have hlen := hO.t.len
  have hhas : S.t.has (j : Nat) = true := Tl.has_iff.2 (by omega)
  have hat : S.t.at_ (j : Nat) = S.t.l[j] := by unfold Tl.at_; rw [Int.toNat_natCast, List.getD_eq_getElem?_getD, List.getElem?_eq_getElem hj, Option.getD_some]
  have hunu : (S.t.at_ (j : Nat)).used = false := by rw [hat]; simpa using hu
  have hcnt : S.T.count (j : Nat) = 0 := by
   rw [hO.T.cnt]
   unfold Tb.cntB
   have : (S.T.at_.countP fun x => x.2.block == (j : Int)) = 0 := by
    rw [List.countP_eq_zero]
    intro x hx hxb
    simp only [beq_iff_eq] at hxb
    have := (h.st _ _ (look_of hO.T hx)).2
    rw [hxb, hunu] at this; cases this
   rw [this]; rfl
  have hop : (j : Int) ≠ S.op := fun e => by
   rcases h.op with e2 | ⟨_, e2, _⟩
   ·omega
   ·rw [← e, hunu] at e2; cases e2
  have hmem : ((j : Nat) : Int) ∈ pkSome (pkFree S.t S.T) S.op S.t.b := mem_pkSome.2 ⟨by omega, by omega, hop, by
   unfold pkFree Tl.usable
   rw [h.mask hO hhas, decide_eq_true (by omega), hcnt]
   simp only [Tl.blank, hhas, hunu]; rfl⟩
  intro hp
  rcases pick_some (fun x y => cmpI (S.t.wear x) (S.t.wear y)) (pkFree S.t S.T) S.op S.t.b with e | e
  ·rw [e.2] at hmem; cases hmem
  ·have := e.2
   unfold Dv.pick at hp; omega
theorem pick_no (h : Dd D K A S) (hO : S.Ok k m) (hs : G.slots K = 0) : S.pick < 0 := by
 rcases S.pick_spec with e | ⟨p1, p2, _, p4⟩
 ·omega
 ·have hhas : S.t.has S.pick = true := Tl.has_iff.2 ⟨p1, p2⟩
  unfold pkFree Tl.usable at p4
  rw [h.mask hO hhas, hs] at p4
  simp at p4
theorem at1 (h : Dd D K A S) (hO : S.Ok k m) (hs : 0 < G.slots K) (hr : 0 < S.rows) : Dd D K A S.at1 ∧ S.at1.left = true ∧ S.at1.rows = S.rows ∧ S.at1.op = S.at1.op ∧ ¬ (S.left = false ∧ S.pick < 0) := by
 have hg := hO.gd.ok.bd16
 rcases h.rows_pos hO hs hr with hl | hp
 ·have : S.at1 = S := by unfold Dv.at1; rw [hl]; rfl
  rw [this]
  exact ⟨h, hl, rfl, rfl, fun e => by rw [hl] at e; cases e.1⟩
 ·cases hl : S.left with
  | true =>
   have : S.at1 = S := by unfold Dv.at1; rw [hl]; rfl
   rw [this]
   exact ⟨h, hl, rfl, rfl, fun e => by cases e.1⟩
  | false =>
   have hat1 : S.at1 = S.opened := by unfold Dv.at1; rw [hl]; rfl
   rcases S.pick_spec with e | ⟨p1, p2, p3, p4⟩
   ·omega
   have hb := hO.t.b
   have hlen := hO.t.len
   have hhas : S.t.has S.pick = true := Tl.has_iff.2 ⟨p1, p2⟩
   have hbl := Dv.pick_blank hp
   have hbl2 := Tl.blanks_open hlen hbl
   have hunu : (S.t.at_ S.pick).used = false := by simp only [Tl.blank, Bool.and_eq_true, Bool.not_eq_true'] at hbl; exact hbl.2
   have hmk : S.opened.mask = K := (Dv.mask_clean hlen _ _ _).trans (h.mask hO hhas)
   have hat : ∀ b, S.t.has b = true → (S.opened.t.at_ b) = if b = S.pick then { S.t.at_ S.pick with used := true } else S.t.at_ b := fun b hb => Tl.at_set hlen _ hhas hb
   have hdd : S.opened.t.dead = S.t.dead := Tl.set_dead _ _ _
   have hhs : ∀ b, S.opened.t.has b = S.t.has b := fun b => Tl.has_set _ _ _ _
   rw [hat1]
   refine ⟨⟨h.lit, h.dies, h.plan, h.met, h.broken, h.setA, h.setK, h.le, h.lt, h.dead, by rw [hdd]; exact h.tdead, fun b hb2 => ?_, .inr ⟨⟨p1, by show S.pick < S.N.blocks; omega⟩, by show (S.opened.t.at_ S.pick).used = true; rw [hat _ hhas, if_pos rfl], by show (0 : Int) ≤ 0 ∧ (0 : Int) ≤ S.N.pages; omega, hmk, fun d _ => ?_⟩, fun b hb2 hu d => ?_, fun i a ha => ?_⟩, ?_, ?_, rfl, fun e => hp e.2⟩
   ·have hb' : S.t.has b = true := by rw [← hhs]; exact hb2
    rw [hat b hb']
    split
    ·exact h.tbad _ hhas
    ·exact h.tbad b hb'
   ·show ((S.N.blk d S.pick.toNat).cells.length : Int) = 0
    rw [h.blank S.pick hhas hunu d]; rfl
   ·have hb' : S.t.has b = true := by rw [← hhs]; exact hb2
    rw [hat b hb'] at hu
    split at hu
    ·cases hu
    ·exact h.blank b hb' hu d
   ·have := h.st i a ha
    refine ⟨by rw [hhs]; exact this.1, ?_⟩
    rw [hat _ this.1]
    split
    ·rfl
    ·exact this.2
   ·unfold Dv.left
    rw [hmk]
    have e1 : S.opened.op = S.pick := rfl
    have e2 : S.opened.row = 0 := rfl
    have e4 : S.opened.N = S.N := rfl
    rw [e1, e2, e4, decide_eq_true (by omega), decide_eq_true (by omega), decide_eq_true (by omega)]; rfl
   ·unfold Dv.rows
    have e1 : S.opened.t.blanks = (S.t.clean S.pick false).blanks := rfl
    have e2 : S.opened.N.pages = S.N.pages := rfl
    have e3 : S.opened.op = S.pick := rfl
    have e4 : S.opened.row = 0 := rfl
    rw [e1, e2, e3, e4, if_pos (by omega)]
    have : S.N.pages * S.t.blanks = S.N.pages * (S.t.clean S.pick false).blanks + S.N.pages := by rw [← hbl2, Nat.mul_succ]
    rw [this]
    by_cases h0 : S.op ≥ 0
    ·have : (S.N.pages : Int) ≤ S.row := by
      rcases h.op with e | ⟨_, _, _, e, _⟩
      ·omega
      ·refine Classical.byContradiction fun hlt => ?_
       have : S.left = true := by
        unfold Dv.left
        rw [e, decide_eq_true h0, decide_eq_true (by omega), decide_eq_true (by omega)]; rfl
       rw [hl] at this; cases this
     rw [if_pos h0]; omega
    ·rw [if_neg h0]; omega
variable {e : En}
theorem turn (h : Dd D K A S) (hO : S.Ok k m) (hl : S.left = true) (he : FitR e) (hnx : S.next ≤ 1099511627775 - 7) :
  (∀ d : Nat, L.has (S.wr [e]).2.1 (d : Nat) = (L.has K (d : Nat) && !L.has A (d : Nat))) ∧ L.set (S.wr [e]).2.1 = true ∧ (S.wr [e]).2.2 = (if (S.wr [e]).2.1 = 0 then 0 else 7) ∧ Dd D K A (S.wrote [e]) ∧ (S.wrote [e]).rows + 1 = S.rows ∧ S.fit [e] = 1 ∧ S.N.Like (S.wrote [e]).N ∧ (S.wrote [e]).N.dead = S.N.dead ∧ S.mask = K ∧ (S.es [e]).getD 0 En.zero = { e with seq := S.next } := by
 have hg := hO.gd.ok.bd16
 have hx := hO.next
 have hs := Dv.left_spec hl
 obtain ⟨o1, o2, o3, o4, o5⟩ : (0 ≤ S.op ∧ S.op < S.N.blocks) ∧ (S.t.at_ S.op).used = true ∧ (0 ≤ S.row ∧ S.row ≤ S.N.pages) ∧ S.mask = K ∧ ∀ d : Nat, L.has A (d : Nat) = true → ((S.N.blk d S.op.toNat).cells.length : Int) = S.row := by
  rcases h.op with x | x
  ·omega
  ·exact x
 have hK := h.rng (by have := h.dies; omega)
 have hf1 : S.fit [e] = 1 := by unfold Dv.fit; simp only [List.length_cons, List.length_nil]; omega
 have hc2 : 2 ≤ L.count S.mask := by
  have h1 := hs.2.2
  unfold G.slots at h1
  split at h1 <;> omega
 have hes0 : (S.es [e]).getD 0 En.zero = { e with seq := S.next } := by
  unfold Dv.es
  rw [num_get (by omega)]
  unfold Dv.numAt
  rw [if_pos (by simp)]
  show ({ e with seq := S.next + ((0 : Nat) : Int) } : En) = _
  simp
 have hR : RowIs S.N S.op S.row S.mask (S.es [e]) := by
  refine ⟨hg.1.2, o1, ⟨o3.1, hs.2.1⟩, by rw [o4, h.dies]; exact hK, Dv.num_data (fun x hx => by simp at hx; rw [hx]; exact he.len) _ _, ?_⟩
  unfold W.parB
  have h1 : decide (((S.es [e]).length : Int) = G.slots S.mask) = true := by rw [Dv.es_len]; exact decide_eq_true (by omega)
  have h2 : (!(S.es [e]).isEmpty) = true := by
   cases hh : S.es [e] with
   | nil => have := Dv.es_len S [e]; rw [hh] at this; simp at this; omega
   | cons x y => rfl
  rw [h1, h2, Bool.true_and, Bool.true_and, List.all_eq_true]
  intro x hx
  rcases num_mem hx with ⟨i, hi, hin, rfl⟩ | rfl
  ·have hi0 : i = 0 := by simpa using hi
   subst hi0
   refine ok_of ⟨o1.1, by omega⟩ ⟨o3.1, by omega⟩ hc2 ⟨?_, ?_⟩ (.inl ⟨he.lpn, he.role, he.len⟩)
   ·show 0 ≤ S.next + ((0 : Nat) : Int); omega
   ·show S.next + ((0 : Nat) : Int) ≤ 1099511627775; omega
  ·exact ok_of ⟨o1.1, by omega⟩ ⟨o3.1, by omega⟩ hc2 ⟨by decide, by decide⟩ (.inr rfl)
 have halive : ∀ d : Nat, L.has K (d : Nat) = true → S.N.dead.getD d false = false → L.has A (d : Nat) = true := fun d hd ha => by
  rw [h.dead d (h.lt d hd)] at ha
  simpa using ha
 have hrdy : RdyW S.N S.op S.row S.mask := ⟨h.lit, fun d hd ha => o5 d (halive d (by rw [← o4]; exact hd) ha)⟩
 obtain ⟨w1, w2, w3⟩ := write_R hrdy hR
 have hin := hR.inn
 have hq8 : ∀ x ∈ R.job S.op S.row S.mask (S.es [e]), 0 ≤ x.1 ∧ x.1 < 8 := fun x hx => by have := hin x hx; omega
 obtain ⟨f1, f2⟩ := failM_set (N := S.N) (b := S.op) (r := S.row) _ 0 (by decide) hq8
 have w3 : WroteR S.N (S.wrote [e]).N S.op S.row (R.job S.op S.row S.mask (S.es [e])) := w3
 have w1 : (S.wr [e]).2.1 = failM S.N S.op S.row (R.job S.op S.row S.mask (S.es [e])) 0 := w1
 have w2 : (S.wr [e]).2.2 = if failM S.N S.op S.row (R.job S.op S.row S.mask (S.es [e])) 0 = 0 then 0 else 7 := w2
 have hfl : ∀ d : Nat, d < D → S.N.failB S.op S.row d = !L.has A (d : Nat) := fun d hd => by
  unfold Nand.failB Nand.fails
  rw [Int.toNat_natCast, h.dead d hd, h.plan, h.met]
  simp
 refine ⟨fun d => ?_, by rw [w1]; exact f1, by rw [w2, w1], ⟨w3.lit, w3.like.dies.trans h.dies, List.eq_nil_iff_forall_not_mem.2 fun a ha => (by have := w3.plan a ha; rw [h.plan] at this; cases this), fun i j => by rw [(w3.flags i j).1]; exact h.met i j, w3.broken.trans h.broken, h.setA, h.setK, h.le, h.lt, fun i hi => by rw [w3.dead]; exact h.dead i hi, h.tdead, h.tbad, .inr ⟨by rw [show (S.wrote [e]).N.blocks = S.N.blocks from w3.like.blocks]; exact o1, o2, by rw [show (S.wrote [e]).N.pages = S.N.pages from w3.like.pages]; show 0 ≤ S.row + 1 ∧ S.row + 1 ≤ _; omega, o4, fun d hd => ?_⟩, fun b hb hu d => ?_, h.st⟩, ?_, hf1, w3.like, w3.dead, o4, hes0⟩
 ·rw [w1, f2, L.has_zero, Bool.false_or, Bool.eq_iff_iff, List.any_eq_true]
  constructor
  ·rintro ⟨x, hx, hh⟩
   simp only [Bool.and_eq_true, decide_eq_true_eq] at hh
   have hxi := hin x hx
   rw [hh.1, o4] at hxi
   rw [hh.1, hfl d (h.lt d hxi.2.2)] at hh
   rw [hxi.2.2, hh.2]; rfl
  ·intro hh
   rw [Bool.and_eq_true] at hh
   obtain ⟨x, hx, hxd⟩ := hR.on (by rw [o4]; exact hh.1)
   exact ⟨x, hx, by rw [hxd, hfl d (h.lt d hh.1), hh.2]; simp⟩
 ·have hd2 : L.has S.mask (d : Nat) = true := by rw [o4]; exact h.le d hd
  obtain ⟨x, hx, hxd⟩ := hR.on hd2
  have hc := w3.cells x hx
  rw [hxd, Int.toNat_natCast, h.dead d (h.lt d (h.le d hd)), hd, if_neg (by decide)] at hc
  show (((S.wrote [e]).N.blk d S.op.toNat).cells.length : Int) = S.row + 1
  rw [hc, List.length_append]
  have := o5 d hd
  simp only [List.length_cons, List.length_nil]
  omega
 ·have hbi := Tl.has_iff.1 hb
  have hne : b ≠ S.op := fun e2 => by rw [show (S.wrote [e]).t = S.t from rfl, e2, o2] at hu; cases hu
  rw [w3.rest _ _ (.inl (by omega))]
  exact h.blank b hb hu d
 ·unfold Dv.rows
  have e1 : (S.wrote [e]).N.pages = S.N.pages := w3.like.pages
  have e2 : (S.wrote [e]).t = S.t := rfl
  have e3 : (S.wrote [e]).op = S.op := rfl
  have e4 : (S.wrote [e]).row = S.row + 1 := rfl
  rw [e1, e2, e3, e4, if_pos (by omega), if_pos (by omega)]
  omega
structure Wn (D : Nat) (A : Int) (S : Dv) (e : En) (W : Dv) : Prop where
 dd : Dd D A A W
 look : ∃ b r s q : Int, Tb.look W.T.at_ e.lpn = some ⟨b, r, s, A, q, e.role⟩
 rest : ∀ i, i ≠ e.lpn → Tb.look W.T.at_ i = Tb.look S.T.at_ i
 logical : W.T.logical = S.T.logical
 next : W.next ≤ S.next + 2
 rows : S.rows ≤ W.rows + 2
theorem write1 (h : Dd D A A S) (hO : S.Ok k m) (hs : 0 < G.slots A) (hr : 0 < S.rows) (he : FitR e) (hnx : S.next ≤ 1099511627775 - 7) (hlg : e.lpn < S.T.logical) (hno : Tb.look S.T.at_ e.lpn = none) (f : Nat) :
  ∃ W, Dv.write (f + 1) S [e] = (W, (1 : Int), (0 : Int)) ∧ Wn D A S e W ∧ W.next ≤ S.next + 1 ∧ S.rows ≤ W.rows + 1 := by
 obtain ⟨a1, a2, a3, _, a4⟩ := h.at1 hO hs hr
 have hat := Dv.at1_like S
 have hnx2 : S.at1.next ≤ 1099511627775 - 7 := by rw [hat.2.2]; exact hnx
 obtain ⟨t1, t2, t3, t4, t5, t6, t7, t8, t9, t10⟩ := a1.turn hO.at1 a2 he hnx2
 have hf0 : (S.at1.wr [e]).2.1 = 0 := L.ext t2 (by decide) fun d _ => by
  rw [t1, L.has_zero]
  cases L.has A (d : Nat) <;> rfl
 rw [if_pos hf0] at t3
 have hput : Tb.putB S.T ({ e with seq := S.at1.next } : En) = true := by
  have e1 : Tb.ok S.T ({ e with seq := S.at1.next } : En) = true := by
   unfold Tb.ok
   have z1 : decide (({ e with seq := S.at1.next } : En).lpn < 0) = false := decide_eq_false (by have := he.lpn; show ¬ e.lpn < 0; omega)
   have z2 : decide (({ e with seq := S.at1.next } : En).lpn ≥ S.T.logical) = false := decide_eq_false (by show ¬ e.lpn ≥ _; omega)
   rw [z1, z2]
   show (!(false || false || (e.role != 1 && e.role != 2 && e.role != 4))) = true
   rcases he.role with z | ⟨z | z, _⟩ <;> rw [z] <;> rfl
  have e2 : Tb.elder S.T ({ e with seq := S.at1.next } : En) = false := by
   unfold Tb.elder
   rw [show ({ e with seq := S.at1.next } : En).lpn = e.lpn from rfl, hno]
  unfold Tb.putB
  rw [e1, e2]; rfl
 have hT : ({ S.at1.wrote [e] with T := Dv.puts S.at1.T S.at1.op S.at1.row S.at1.mask (S.at1.es [e]) 1 } : Dv).T = S.T.put { e with seq := S.at1.next } S.at1.op S.at1.row ((0 : Nat) : Int) A := by
  show Dv.puts _ _ _ _ _ (0 + 1) = _
  rw [Dv.puts_succ, t10, t9, hat.2.1]
  rfl
 have hlk : ∀ i, Tb.look (S.T.put { e with seq := S.at1.next } S.at1.op S.at1.row ((0 : Nat) : Int) A).at_ i = if i = e.lpn then some ⟨S.at1.op, S.at1.row, ((0 : Nat) : Int), A, S.at1.next, e.role⟩ else Tb.look S.T.at_ i := fun i => by
  rw [V.look_put]
  by_cases z : i = e.lpn
  ·rw [if_pos ⟨hput, z⟩, if_pos z]
  ·rw [if_neg (fun w => z w.2), if_neg z]
 refine ⟨{ S.at1.wrote [e] with T := Dv.puts S.at1.T S.at1.op S.at1.row S.at1.mask (S.at1.es [e]) 1 }, ?_, ⟨⟨t4.lit, t4.dies, t4.plan, t4.met, t4.broken, t4.setA, t4.setK, t4.le, t4.lt, t4.dead, t4.tdead, t4.tbad, t4.op, t4.blank, fun i a ha => ?_⟩, ⟨S.at1.op, S.at1.row, ((0 : Nat) : Int), S.at1.next, ?_⟩, fun i hi => ?_, ?_, ?_, ?_⟩, ?_, ?_⟩
 ·rw [Dv.write_succ, if_neg (by simp), if_neg a4, if_neg (by rw [t6]; omega), if_neg (by rw [t3]; decide), if_pos t3, t6]
  rfl
 ·rw [hT, hlk] at ha
  split at ha
  ·injection ha with ha
   subst ha
   have := t4.op
   have hs2 := Dv.left_spec a2
   rcases this with z | z
   ·have : S.at1.op = -1 := z; omega
   ·have z1 : S.at1.op < (S.at1.wrote [e]).N.blocks := z.1.2
    refine ⟨Tl.has_iff.2 ⟨by show 0 ≤ S.at1.op; omega, ?_⟩, z.2.1⟩
    have hb := hO.at1.t.b
    have : (S.at1.wrote [e]).N.blocks = S.at1.N.blocks := t7.blocks
    show S.at1.op < S.at1.t.b
    omega
  ·exact t4.st i a (by show Tb.look S.at1.T.at_ i = some a; rw [hat.2.1]; exact ha)
 ·rw [hT, hlk, if_pos rfl]
 ·rw [hT, hlk, if_neg hi]
 ·rw [hT, Tb.put_logical]
 ·show S.at1.next + (S.at1.fit [e] : Int) ≤ _
  rw [t6, hat.2.2]; omega
 ·show S.rows ≤ (S.at1.wrote [e]).rows + 2
  omega
 ·show S.at1.next + (S.at1.fit [e] : Int) ≤ _
  rw [t6, hat.2.2]; omega
 ·show S.rows ≤ (S.at1.wrote [e]).rows + 1
  omega
theorem write2 {d0 : Nat} (h : Dd D K A S) (hO : S.Ok (8 + k) m) (hK : L.has K (d0 : Nat) = true) (hA : A = L.without K (d0 : Nat)) (hs : 0 < G.slots K) (hr : 2 ≤ S.rows) (he : FitR e) (hnx : S.next ≤ 1099511627775 - 9) (hlg : e.lpn < S.T.logical) (hno : Tb.look S.T.at_ e.lpn = none) (f : Nat) :
  (G.slots A = 0 → ∃ W, Dv.write (f + 1 + 1) S [e] = (W, (0 : Int), (11 : Int))) ∧ (0 < G.slots A → ∃ W, Dv.write (f + 1 + 1) S [e] = (W, (1 : Int), (0 : Int)) ∧ Wn D A S e W) := by
 have hd0 := h.lt d0 hK
 have hg := hO.gd.ok.bd16
 rw [h.dies] at hg
 obtain ⟨a1, a2, a3, _, a4⟩ := h.at1 hO hs (by omega)
 have hat := Dv.at1_like S
 have hnx2 : S.at1.next ≤ 1099511627775 - 7 := by rw [hat.2.2]; omega
 obtain ⟨t1, t2, t3, t4, t5, t6, t7, t8, t9, t10⟩ := a1.turn hO.at1 a2 he hnx2
 have hwo := fun x : Int => L.without_has h.setK (d := (d0 : Int)) (by omega) x
 have hAh : ∀ d : Nat, L.has A (d : Nat) = (L.has K (d : Nat) && !decide ((d : Int) = d0)) := fun d => by rw [hA]; exact hwo d
 have hfh : ∀ d : Nat, L.has (S.at1.wr [e]).2.1 (d : Nat) = decide (d = d0) := fun d => by
  rw [t1, hAh]
  by_cases z : d = d0
  ·subst z; rw [hK, decide_eq_true rfl]; simp
  ·rw [decide_eq_false z, decide_eq_false (p := (d : Int) = d0) (by omega)]
   cases L.has K (d : Nat) <;> rfl
 have hf0 : (S.at1.wr [e]).2.1 ≠ 0 := fun z => by
  have := hfh d0
  rw [z, L.has_zero] at this
  simp at this
 rw [if_neg hf0] at t3
 have hlose : (S.at1.wrote [e]).loses (S.at1.wr [e]).2.1 = { S.at1.wrote [e] with t := S.at1.t.die d0, mask := A } := by
  unfold Dv.loses
  rw [loses_range hfh, if_pos (by rw [t4.dies]; exact hd0)]
  unfold Dv.lose
  rw [hfh, decide_eq_true rfl, if_pos rfl]
  have hdd : (S.at1.wrote [e]).N.deadAt d0 = true := by
   unfold Nand.deadAt
   rw [Int.toNat_natCast, t4.dies, t4.dead d0 hd0, hAh, hK]
   simp; omega
  rw [hdd, if_pos rfl]
  show ({ S.at1.wrote [e] with t := S.at1.t.die d0, mask := L.without S.at1.mask d0 } : Dv) = _
  rw [t9, hA]
 have hWO : ((S.at1.wrote [e]).loses (S.at1.wr [e]).2.1).Ok k m := (hO.at1.wrote (fun x hx => by simp at hx; rw [hx]; exact he.len) (Dv.left_spec a2).2.1 (by rw [t6]; omega)).loses _
 have hwr : Dv.write (f + 1 + 1) S [e] = Dv.write (f + 1) ((S.at1.wrote [e]).loses (S.at1.wr [e]).2.1) [e] := by
  rw [Dv.write_succ, if_neg (by simp), if_neg a4, if_neg (by rw [t6]; omega), if_neg (by rw [t3]; decide), if_neg (by rw [t3]; decide), if_neg (by rw [t3]; decide)]
 have hdie : S.at1.t.die d0 = ⟨S.at1.t.d, S.at1.t.b, S.at1.t.p, S.at1.t.l, L.with_ S.at1.t.dead d0⟩ := by
  unfold Tl.die
  rw [if_pos]
  unfold Tl.hasDie
  have := hO.at1.t.d
  rw [a1.dies] at this
  rw [decide_eq_true (by omega), decide_eq_true (by omega)]; rfl
 have hdd2 : Dd D A A ((S.at1.wrote [e]).loses (S.at1.wr [e]).2.1) := by
  rw [hlose]
  refine ⟨t4.lit, t4.dies, t4.plan, t4.met, t4.broken, t4.setA, t4.setA, fun _ h => h, fun d hd => t4.lt d (t4.le d hd), t4.dead, ?_, ?_, ?_, ?_, ?_⟩
  ·show L.set (S.at1.t.die d0).dead = true ∧ _
   rw [hdie]
   refine ⟨L.set_with a1.tdead.1 (by omega), fun d hd => ?_⟩
   show L.has (L.with_ S.at1.t.dead d0) (d : Nat) = _
   rw [L.with_has a1.tdead.1 (by omega), a1.tdead.2 d hd, hAh]
   cases L.has K (d : Nat) <;> simp
  ·intro b hb
   show ((S.at1.t.die d0).at_ b).bad = 0
   rw [hdie]
   exact t4.tbad b (by have hb : (S.at1.t.die d0).has b = true := hb; rw [hdie] at hb; exact hb)
  ·rcases t4.op with z | z
   ·exact .inl z
   ·refine .inr ⟨z.1, ?_, z.2.2.1, rfl, z.2.2.2.2⟩
    show ((S.at1.t.die d0).at_ _).used = true
    rw [hdie]; exact z.2.1
  ·intro b hb hu d
   have hb : (S.at1.t.die d0).has b = true := hb
   have hu : ((S.at1.t.die d0).at_ b).used = false := hu
   rw [hdie] at hb hu
   exact t4.blank b hb hu d
  ·intro i a ha
   have := t4.st i a ha
   show (S.at1.t.die d0).has _ = true ∧ ((S.at1.t.die d0).at_ _).used = true
   rw [hdie]; exact this
 have hT2 : ((S.at1.wrote [e]).loses (S.at1.wr [e]).2.1).T = S.T := by rw [hlose]; exact hat.2.1
 have hnx3 : ((S.at1.wrote [e]).loses (S.at1.wr [e]).2.1).next = S.next + 1 := by
  rw [hlose]
  show S.at1.next + (S.at1.fit [e] : Int) = _
  rw [t6, hat.2.2]; rfl
 have hrw : ((S.at1.wrote [e]).loses (S.at1.wr [e]).2.1).rows + 1 = S.rows := by
  rw [← a3, ← t5, hlose]
  congr 1
  unfold Dv.rows
  show (S.at1.wrote [e]).N.pages * (S.at1.t.die d0).blanks + _ = _
  rw [hdie]; rfl
 have hmk2 : ((S.at1.wrote [e]).loses (S.at1.wr [e]).2.1).mask = A := by rw [hlose]
 rw [hwr]
 generalize (S.at1.wrote [e]).loses (S.at1.wr [e]).2.1 = Q at hWO hdd2 hT2 hnx3 hrw hmk2
 refine ⟨fun h0 => ⟨Q, ?_⟩, fun h0 => ?_⟩
 ·have hl : Q.left = false := by
   unfold Dv.left
   rw [hmk2, h0]; simp
  rw [Dv.write_succ, if_neg (by simp), if_pos ⟨hl, hdd2.pick_no hWO h0⟩]
 ·obtain ⟨W, w1, w2, w3, w4⟩ := hdd2.write1 hWO h0 (by omega) he (by omega) (by rw [hT2]; exact hlg) (by rw [hT2]; exact hno) f
  exact ⟨W, w1, ⟨w2.dd, w2.look, fun i hi => by rw [w2.rest i hi, hT2], by rw [w2.logical, hT2], by omega, by omega⟩⟩
theorem fault (h : Dd D K K S) {d0 : Nat} (hd : d0 < D) (h8 : D ≤ 6) (hlen : S.N.dead.length = D) : Dd D K (L.without K (d0 : Nat)) { S with N := { S.N with dead := S.N.dead.set d0 true } } := by
 have hwo := fun x : Int => L.without_has h.setK (d := (d0 : Int)) (by omega) x
 refine ⟨⟨h.lit.off, h.lit.cuts⟩, h.dies, h.plan, h.met, h.broken, L.set_without h.setK (by omega), h.setK, fun d hd => ?_, h.lt, fun i hi => ?_, h.tdead, h.tbad, ?_, h.blank, h.st⟩
 ·rw [hwo] at hd
  simp only [Bool.and_eq_true] at hd
  exact hd.1
 ·show (S.N.dead.set d0 true).getD i false = _
  rw [hwo, List.getD_eq_getElem?_getD, List.getElem?_set]
  by_cases z : d0 = i
  ·subst z
   rw [if_pos rfl, if_pos (by omega)]; simp
  ·rw [if_neg z, ← List.getD_eq_getElem?_getD, h.dead i hi, decide_eq_false (p := (i : Int) = d0) (by omega)]; simp
 ·rcases h.op with z | z
  ·exact .inl z
  ·refine .inr ⟨z.1, z.2.1, z.2.2.1, z.2.2.2.1, fun d hd => z.2.2.2.2 d ?_⟩
   rw [hwo] at hd
   simp only [Bool.and_eq_true] at hd
   exact hd.1
theorem new {D B P : Nat} (h3 : 3 ≤ D) (hD : D ≤ 6) (lg : Int) : Dd D (L.all D) (L.all D) (Dv.new D B P lg) := by
 have hat : ∀ b, (Tl.new D B P).at_ b = Sb.zero := fun b => by
  unfold Tl.new Tl.at_
  dsimp only
  rw [List.getD_eq_getElem?_getD, List.getElem?_replicate]
  split <;> rfl
 have hal : ∀ d : Nat, L.has (L.all (D : Nat)) (d : Nat) = decide (d < D) := fun d => by
  rw [L.all_has D (by omega), decide_eq_true (p := (0 : Int) ≤ (d : Int)) (by omega), Bool.true_and, decide_eq_decide]
  omega
 refine ⟨Nand.Lit.new D B P, rfl, rfl, fun _ _ => rfl, rfl, L.set_all D (by omega), L.set_all D (by omega), fun _ h => h, fun d hd => ?_, fun i hi => ?_, ⟨by show L.set 0 = true; decide, fun d hd => ?_⟩, fun b _ => ?_, .inl rfl, fun _ _ _ _ => rfl, fun i a ha => (by cases ha)⟩
 ·rw [hal] at hd; exact of_decide_eq_true hd
 ·rw [show (Dv.new D B P lg).N.dead.getD i false = false from (NoF.new D B P lg).dead i, hal, decide_eq_true hi]; rfl
 ·show L.has 0 _ = _
  rw [L.has_zero, hal, decide_eq_true hd]; rfl
 ·show ((Tl.new D B P).at_ b).bad = 0
  rw [hat]; rfl
end Dd
end Go.Proofs.YtdocmcapegcoeaaGreat
namespace Go.Proofs.YtdocmcapegcoeaaGreat
open Go Go.RowKit
theorem wo_dec : ∀ K, K < 64 → ∀ d, d < 6 → IntKind.i64.wrap ((BitVec.ofInt IntKind.i64.bits (K : Nat) &&& ~~~BitVec.ofInt IntKind.i64.bits ((2 ^ d : Nat) : Int)).toNat : Int) = L.without (K : Nat) (d : Nat) := by decide +kernel
theorem one_dec : ∀ K, K < 64 → (IntKind.i64.wrap ((BitVec.ofInt IntKind.i64.bits ((K : Nat) : Int) &&& BitVec.ofInt IntKind.i64.bits (((K : Nat) : Int) - 1)).toNat : Int) == 0) = decide (G.slots (K : Nat) = 0) := by decide +kernel
theorem rows_new (D B P : Nat) (lg : Int) : (Dv.new D B P lg).rows = P * B := by
 unfold Dv.rows
 have e1 : (Dv.new D B P lg).op = -1 := rfl
 have e2 : (Dv.new D B P lg).t.blanks = B := by
  show (List.replicate B Sb.zero).countP _ = B
  rw [List.countP_replicate]; rfl
 have e3 : (Dv.new D B P lg).N.pages = P := rfl
 rw [e1, e2, e3, if_neg (by decide)]; omega
theorem s_PenDead (g0 g1 g2 : Int) (A : Atom) (ao : Option Addr) (no co : Nat) (xs : List Int) (hA : Rd A ao 1 no (xs.flatMap fun x => [Value.int .i64 x])) (hlo : xs.length = no) (hdo : ∀ x ∈ xs, -9223372036854775808 ≤ x ∧ x ≤ 9223372036854775807) :
  Fn Tryz.prog 5 [.agg #[.int .i64 g0, .int .i64 g1, .int .i64 g2], .slice ao no co] [A] (fun v As => v = .bool true ∧ As = [A]) := by
 rw [cellsI_flat] at hA
 refine Fn.enter [0, 0] Tryz.func5 rfl rfl rfl fun X F hX => ?_
 refine J.q hX fun bb => ?_
 refine J.cb hX (l18_begun) [] ?_
 refine cpq ⟨_, rfl, trivial, ?_⟩
 refine J.q hX fun b2 => ?_
 refine J.cF ?_
 refine J.q hX fun b3 => ?_
 refine J.cb hX (l6_Geo g0 g1 g2) [] ?_
 rintro v As ⟨D, B, P, rfl, hD, hB, hP, rfl⟩
 refine ⟨_, rfl, trivial, ?_⟩
 have hgm : geoMay D B P = true := by simp [geoMay]; omega
 have hpw := pow_bd D hD.2
 refine J.q hX fun b5 => ?_
 refine J.cb hX (l18_bench D B P hgm 2000) [] ?_
 rintro v As ⟨n, t, l, q, rfl, rfl⟩
 refine ⟨_, rfl, trivial, ?_⟩
 have hBP : 16 ≤ P * B := by
  have : 2 * 8 ≤ P * B := Nat.mul_le_mul hP.1 hB.1
  omega
 have hO0 : (Dv.new D B P 2000).Ok (2000 * 20) 0 := Dv.Ok.new D B P 2000 hgm _ (by decide)
 have hd0 : Dd D (L.all D) (L.all D) (Dv.new D B P 2000) := Dd.new hD.1 hD.2 2000
 have hs0 : 0 < G.slots (L.all (D : Nat)) := by have := (slots_all D (by omega) hD.1).1; omega
 have hr0 := rows_new D B P 2000
 refine J.q hX fun b7 => ?_
 rw [geo_all D hD.2, ← all_mAll D (by omega)]
 refine J.q hX fun b8 => ?_
 refine J.lo (α := (Nat × Int × Dv)) (fun z => (z.1 ≤ no ∧ z.1 ≤ 8) ∧ Dd D z.2.1 z.2.1 z.2.2 ∧ 0 < G.slots z.2.1 ∧ z.2.2.next ≤ 1 + 2 * (z.1 : Int) ∧ z.2.2.T.logical = 2000 ∧ 16 ≤ z.2.2.rows + 2 * z.1 ∧ (∀ j : Nat, z.1 ≤ j → Tb.look z.2.2.T.at_ (j : Int) = none) ∧ z.2.2.Ok (2000 * (20 - z.1)) 0) (fun z => [⟨11, .int .i64 z.1, 0, .tt⟩, ⟨10, .int .i64 z.2.1, 0, .tt⟩, ⟨2, .pointer (some ⟨bb 0, 0, none⟩), 3, .tt⟩, ⟨1, .slice ao no co, 0, .tt⟩, ⟨6, .pointer (some ⟨n, 0, none⟩), 0, .tt⟩, ⟨8, .pointer (some ⟨l, 0, none⟩), 0, .tt⟩, ⟨9, .pointer (some ⟨q, 0, none⟩), 0, .tt⟩]) [3, 4, 5, 6] (fun z => DvP q n t l z.2.2) (fun z => no - z.1) ((0, L.all D, Dv.new D B P 2000)) (⟨⟨Nat.zero_le _, Nat.zero_le 8⟩, hd0, hs0, by show (1 : Int) ≤ 1 + 2 * 0; omega, rfl, by dsimp only; omega, fun _ _ => rfl, hO0⟩) rfl ?_ (fun _ => rfl) fun z hI => ?_
 ·rfl
 obtain ⟨i, K, S⟩ := z
 dsimp only at hI ⊢
 obtain ⟨⟨hi, hi8⟩, hS, hsl, hnx, hlog, hrw, hno, hO⟩ := hI
 refine J.q hX fun b9 => ?_
 refine J.cond rfl (fun h1 => ?_) (fun h1 => ?_)
 ·simp only [Bool.and_eq_true, decide_eq_true_eq] at h1
  have hi1 : i < no ∧ i < 8 := by omega
  obtain ⟨x, hx⟩ : ∃ x, xs[i]? = some x := ⟨_, List.getElem?_eq_getElem (by omega)⟩
  have hd1 := tm_bd x D (by omega)
  have hd2 := tm_2 x D (by omega)
  obtain ⟨d, hde⟩ := Int.eq_ofNat_of_zero_le hd2.1
  have hdD : d < D := by rw [hde] at hd2; omega
  obtain ⟨κ, rfl, hκ8⟩ := L.set_has hS.setK
  have hκ : κ < 64 := by
   have h1 := hS.rng hD.2
   have h2 : (2 : Int) ^ D ≤ 64 := by
    have : ∀ D : Nat, D < 7 → (2 : Int) ^ D ≤ 64 := by decide
    exact this D (by omega)
   omega
  have hO1 : S.Ok (8 * Dv.fuel + (8 + 2000 * (20 - (i + 1)))) 0 := hO.less (by unfold Dv.fuel; omega)
  have hft : S.N.fault 4 d 0 0 0 0 = (true, { S.N with dead := S.N.dead.set d true }) := by
   have h1 := hO1.gd.ok.bd16
   rw [fault_4 (by rw [hS.dies]; unfold geoIn; simp; omega)]; rfl
  have hO2 : ({ S with N := { S.N with dead := S.N.dead.set d true } } : Dv).Ok (8 * Dv.fuel + (8 + 2000 * (20 - (i + 1)))) 0 := by
   have hg := hO1.gd.fault0 4 d 0 0 0 0 (by decide)
   have hl := Nand.like_fault S.N 4 d 0 0 0 0
   rw [hft] at hg hl
   exact ⟨hg, hO1.t.like hl, hO1.T, hO1.sl, hO1.row, hO1.next⟩
  have hft2 := hS.fault hdD hD.2 (by rw [hO1.gd.ok.dead, hS.dies])
  have hrw2 : ({ S with N := { S.N with dead := S.N.dead.set d true } } : Dv).rows = S.rows := rfl
  have hef : FitR (e18 i ((i : Int) + 1)) := e18_fit (by omega)
  have hdt : ∀ x ∈ [e18 i ((i : Int) + 1)], x.data.length = 16 := fun x hx => by
   simp at hx; rw [hx]; rfl
  have hwo := fun x : Int => L.without_has hS.setK (d := (d : Int)) (by omega) x
  have hcase : (G.slots (L.without ((κ : Nat) : Int) (d : Nat)) = 0 → ∃ W, ({ S with N := { S.N with dead := S.N.dead.set d true } } : Dv).pen [e18 i ((i : Int) + 1)] = (W, (0 : Int), (11 : Int))) ∧ (0 < G.slots (L.without ((κ : Nat) : Int) (d : Nat)) → ∃ W, ({ S with N := { S.N with dead := S.N.dead.set d true } } : Dv).pen [e18 i ((i : Int) + 1)] = (W, (1 : Int), (0 : Int)) ∧ Dd.Wn D (L.without ((κ : Nat) : Int) (d : Nat)) { S with N := { S.N with dead := S.N.dead.set d true } } (e18 i ((i : Int) + 1)) W) := by
   cases hh : L.has ((κ : Nat) : Int) (d : Nat) with
   | true => exact hft2.write2 (k := 8 * Dv.fuel + (2000 * (20 - (i + 1)))) (hO2.less (by omega)) hh rfl hsl (by rw [hrw2]; omega) hef (by show S.next ≤ _; omega) (by show (i : Int) < S.T.logical; omega) (hno i (Nat.le_refl _)) 158
   | false =>
    have hsame : L.without ((κ : Nat) : Int) (d : Nat) = (κ : Nat) := L.ext (L.set_without hS.setK (by omega)) hS.setK fun y _ => by
     rw [hwo]
     by_cases z : y = d
     ·subst z; rw [hh]; rfl
     ·rw [decide_eq_false (p := (y : Int) = d) (by omega)]; simp
    rw [hsame] at hft2 ⊢
    refine ⟨fun h0 => by omega, fun _ => ?_⟩
    obtain ⟨W, w1, w2, _⟩ := hft2.write1 hO2 hsl (by rw [hrw2]; omega) hef (by show S.next ≤ _; omega) (by show (i : Int) < S.T.logical; omega) (hno i (Nat.le_refl _)) 159
    exact ⟨W, w1, w2⟩
  refine J.know (p := ∃ g o, ao = some ⟨g, o, none⟩) (fun h' s => Rd.addr (hA _ (s.get (i := 1) rfl)) (by omega)) fun hk => ?_
  obtain ⟨gm, om, rfl⟩ := hk
  have hpw2 := pow_bd d (by omega)
  refine J.q hX fun b10 => ?_
  refine J.plan (.of [0,4,8,13,16,21,24,28,33,36,40,45,48,52]) [13] [1,2] (by rw [hX.hP]; kernel_rfl) (by kernel_rfl) ?_
  refine J.q hX fun b11 => ?_
  refine J.valT hX (.int .i64 x) 0 rfl rfl (fun hg aa w he hC => rd1_run tk rfl rfl he rfl rfl rfl (hA _ (hC rfl _ (cget_mem (i := 1) rfl))) (by omega) (j := i) (by omega) (cellsI_get hx)) rfl ?_
  refine J.qn hX 9 fun b12 => ?_
  rw [hde]
  refine J.q hX fun b13 => ?_
  refine J.cb hX (n_Fault n S.N hO1.gd.ok 0 4 d 0 0 0 0) [4] ?_
  refine cpq ⟨_, rfl, trivial, ?_⟩
  rw [hft]
  dsimp only
  refine J.q hX fun b15 => ?_
  rw [hpw2.1, Int.one_mul, wo_dec κ hκ d (by omega)]
  refine J.q hX fun b16 => ?_
  refine J.cb hX (l18_entry i (i + 1)) [] ?_
  refine cpq ⟨_, rfl, trivial, ?_⟩
  refine J.q hX fun by_ => ?_
  refine J.ca hX (by kernel_rfl) (pn_Write q n t l ({ S with N := { S.N with dead := S.N.dead.set d true } } : Dv) _ _ hO2 (.pt (by_ 0) 38 (cellsE [e18 i ((i : Int) + 1)])) (some ⟨by_ 0, 0, none⟩) 1 1 [e18 i ((i : Int) + 1)] (pt_rd _ _ _ _ _ rfl) rfl (by decide) hdt) [3, 4, 5, 6, 7] 0 rfl rfl rfl rfl rfl rfl (fun _ => rfl) ?_
  refine cpq ⟨_, rfl, trivial, ?_⟩
  obtain ⟨a, hae, ha⟩ : ∃ a : Nat, L.without ((κ : Nat) : Int) (d : Nat) = (a : Int) ∧ a < 64 := by
   have : ∀ K, K < 64 → ∀ d, d < 6 → 0 ≤ L.without ((K : Nat) : Int) (d : Nat) ∧ L.without ((K : Nat) : Int) (d : Nat) < 64 := by decide +kernel
   have h1 := this κ hκ d (by omega)
   exact ⟨(L.without ((κ : Nat) : Int) (d : Nat)).toNat, by omega, by omega⟩
  rw [hae] at hcase ⊢
  rcases Int.lt_or_le 0 (G.slots (a : Nat)) with h0 | h0
  ·obtain ⟨W, w1, w2⟩ := hcase.2 h0
   have hkeep := Dv.pen_keep hO2 hdt
   rw [w1] at hkeep ⊢
   dsimp only at hkeep ⊢
   refine J.q hX fun b18 => ?_
   rw [one_dec a ha, decide_eq_false (by omega)]
   refine J.q hX fun b19 => ?_
   refine J.cF ?_
   obtain ⟨b, r, s, sq, hlk⟩ := w2.look
   have hlk : Tb.look W.T.at_ (i : Int) = some ⟨b, r, s, (a : Nat), sq, 1⟩ := hlk
   refine J.q hX fun b20 => ?_
   refine J.cb hX (tb_Get l W.T i) [6] ?_
   refine cpq ⟨_, rfl, trivial, ?_⟩
   rw [hlk, Option.getD_some, Option.isSome_some]
   refine J.q hX fun bp => ?_
   rw [ne_selfI ((a : Nat) : Int)]
   refine J.q hX fun b22 => ?_
   refine J.cF ?_
   refine J.q hX fun b23 => ?_
   refine J.nS ((i + 1, (a : Int), W)) (⟨⟨by dsimp only; omega, by dsimp only; omega⟩, w2.dd, h0, by have := w2.next; dsimp only at this ⊢; omega, w2.logical.trans hlog, by have := w2.rows; rw [hrw2] at this; dsimp only; omega, fun j hj => (by rw [w2.rest j (by show (j : Int) ≠ (i : Int); dsimp only at hj; omega)]; exact hno j (by dsimp only at hj; omega)), hkeep.1.less (by dsimp only; omega)⟩) (by dsimp only; omega) [0, 1, 2, 3, 4, 5, 6] rfl rfl
  ·have hsl0 : G.slots (a : Nat) = 0 := by have := Dv.slots_le (a : Nat); omega
   obtain ⟨W, w1⟩ := hcase.1 hsl0
   rw [w1]
   dsimp only
   refine J.q hX fun b25 => ?_
   rw [one_dec a ha, decide_eq_true hsl0]
   refine J.q hX fun b26 => ?_
   refine J.cT ?_
   refine J.q hX fun b27 => ?_
   exact J.ru hX [1] ⟨rfl, rfl⟩
 refine J.q hX fun b28 => ?_
 refine J.cb hX (n_Broken n S.N) [4] ?_
 refine cpq ⟨_, rfl, trivial, ?_⟩
 rw [hS.broken]
 refine J.q hX fun b30 => ?_
 exact J.ru hX [1] ⟨rfl, rfl⟩
end Go.Proofs.YtdocmcapegcoeaaGreat
