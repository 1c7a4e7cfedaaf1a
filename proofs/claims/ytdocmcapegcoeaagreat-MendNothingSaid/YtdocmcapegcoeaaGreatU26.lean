/- Helpers, proved here. No condition. -/
import Derived.Test.YtdocmcapegcoeaaGreatRows
import Derived.Test.YtdocmcapegcoeaaGreatU06
import Derived.Test.YtdocmcapegcoeaaGreatU13
import Derived.Test.YtdocmcapegcoeaaGreatU20
import Derived.Test.YtdocmcapegcoeaaGreatU24
import Derived.Test.YtdocmcapegcoeaaGreatU25
import Derived.JoinedOf
set_option maxRecDepth 20000
set_option linter.all false
namespace Go.Proofs.YtdocmcapegcoeaaGreat
open Go
theorem eucl {P q r q' r' : Nat} (h : q * P + r = q' * P + r') (hr : r < P) (hr' : r' < P) : q = q' ∧ r = r' := by
 have hP : 0 < P := by omega
 have e1 : (q * P + r) / P = q := by rw [Nat.mul_comm, Nat.mul_add_div hP, Nat.div_eq_of_lt hr]; omega
 have e2 : (q' * P + r') / P = q' := by rw [Nat.mul_comm, Nat.mul_add_div hP, Nat.div_eq_of_lt hr']; omega
 rw [h, e2] at e1
 subst e1
 omega
theorem pkMin_const {f : Int → Int → Int} (h : ∀ x y, ¬ f x y < 0) : ∀ (l : List Int) (m : Int), pkMin f l m = m
 | [], m => rfl
 | x :: l, m => by rw [pkMin, if_neg (h x m), pkMin_const h l m]
theorem pkSome_head {kind : Int → Bool} {o : Int} {x : Nat} (hx : (((x : Int) != o) && kind x) = true) (hno : ∀ y, y < x → (((y : Nat) : Int) != o && kind (y : Nat)) = false) : ∀ n, (n ≤ x → pkSome kind o n = []) ∧ (x < n → ∃ l, pkSome kind o n = (x : Int) :: l)
 | 0 => ⟨fun _ => rfl, fun h => by omega⟩
 | n + 1 => by
  obtain ⟨h1, h2⟩ := pkSome_head hx hno n
  rw [pkSome_succ]
  refine ⟨fun h => ?_, fun h => ?_⟩
  ·rw [if_neg (by rw [hno n (by omega)]; decide), h1 (by omega)]
  ·rcases Nat.lt_or_ge x n with hlt | hge
   ·obtain ⟨l, hl⟩ := h2 hlt
    rw [hl]
    split
    ·exact ⟨_, rfl⟩
    ·exact ⟨_, rfl⟩
   ·obtain rfl : n = x := by omega
    rw [if_pos hx, h1 (Nat.le_refl _)]
    exact ⟨[], rfl⟩
theorem cmpI_self (x : Int) : ¬ cmpI x x < 0 := by unfold cmpI; simp
namespace Inv
variable {fd : Int} {S : Dv} {k m : Nat}
theorem free_iff (h : Inv fd S) (hO : S.Ok k m) {b : Int} (hb : S.t.has b = true) : pkFree S.t S.T b = S.t.blank b ∧ (S.t.blank b = true → (b != S.op) = true) := by
 have hu := h.usable hO hb
 unfold pkFree
 rw [hu, Bool.true_and]
 have hop : S.t.blank b = true → (b != S.op) = true := fun hbl => by
  simp only [Tl.blank, Bool.and_eq_true, Bool.not_eq_true'] at hbl
  rw [bne_iff_ne]
  intro e
  rcases h.op with e2 | e2
  ·have := (Tl.has_iff.1 hb).1; omega
  ·have := e2.used
   rw [← e, hbl.2] at this; cases this
 refine ⟨?_, hop⟩
 cases hbl : S.t.blank b with
 | false => rfl
 | true =>
  rw [Bool.true_and, beq_iff_eq]
  simp only [Tl.blank, Bool.and_eq_true, Bool.not_eq_true'] at hbl
  rw [hO.T.cnt]
  unfold Tb.cntB
  have : (S.T.at_.countP fun x => x.2.block == b) = 0 := by
   rw [List.countP_eq_zero]
   intro x hx hxb
   simp only [beq_iff_eq] at hxb
   have hlk : Tb.look S.T.at_ x.1 = some x.2 := look_of hO.T hx
   have := (h.st _ _ hlk).used
   rw [hxb, hbl.2] at this; cases this
  rw [this]; rfl
theorem pick_first (h : Inv fd S) (hO : S.Ok k m) (hw : ∀ b, S.t.has b = true → (S.t.at_ b).wear = 0) {q : Nat} (hq : q < S.t.b) (hbl : (S.t.at_ (q : Nat)).used = false) (hno : ∀ y : Nat, y < q → (S.t.at_ (y : Nat)).used = true) : S.pick = q := by
 have hhas : ∀ y : Nat, y < S.t.b → S.t.has (y : Nat) = true := fun y hy => Tl.has_iff.2 (by omega)
 have hwear : ∀ x, S.t.wear x = 0 := fun x => by
  unfold Tl.wear
  split
  ·rename_i hx; exact hw x hx
  ·rfl
 obtain ⟨a1, a2⟩ := h.free_iff hO (hhas q hq)
 have hb1 : S.t.blank (q : Nat) = true := by unfold Tl.blank; rw [hhas q hq, hbl]; rfl
 obtain ⟨l, hl⟩ := (pkSome_head (kind := pkFree S.t S.T) (o := S.op) (x := q) (by rw [a2 hb1, a1, hb1]; rfl) (fun y hy => by
  rw [(h.free_iff hO (hhas y (by omega))).1]
  unfold Tl.blank
  rw [hno y hy]
  simp) S.t.b).2 hq
 unfold Dv.pick
 rw [hl]
 show pkMin _ l (q : Int) = q
 exact pkMin_const (fun x y => by rw [hwear, hwear]; exact cmpI_self 0) l q
end Inv
structure SeqI (D B P rows : Nat) (S : Dv) : Prop where
 inv : Inv (-1) S
 no : NoF S
 dies : S.N.dies = D
 blocks : S.N.blocks = B
 pages : S.N.pages = P
 ops : S.N.ops = ((rows * D : Nat) : Int)
 broken : S.N.broken = 0
 worn : ∀ i j, (S.N.blk i j).worn = 0
 sb : ∀ b : Nat, b < B → (S.t.at_ b).wear = 0 ∧ (S.t.at_ b).held = false ∧ (S.t.at_ b).used = decide (b * P < rows)
 op : (rows = 0 ∧ S.op = -1) ∨ ∃ q r, rows = q * P + r + 1 ∧ r < P ∧ S.op = (q : Nat) ∧ S.row = ((r + 1 : Nat) : Int)
theorem msk_all {D : Nat} {m : Int} (h : Msk D (-1) m) (hD : 3 ≤ D ∧ D ≤ 6) : m = L.all D ∧ G.slots m = (D : Int) - 1 := by
 rcases h.eq hD with ⟨e, _⟩ | ⟨e, _⟩
 ·refine ⟨e, ?_⟩
  rw [e]
  exact (slots_all D (by omega) hD.1).1
 ·omega
namespace SeqI
variable {D B P rows : Nat} {S : Dv} {k m : Nat} {l : List En}
theorem new (D B P : Nat) (lg : Int) : SeqI D B P 0 (Dv.new D B P lg) := by
 refine ⟨Inv.new _ _ _ _ _, NoF.new _ _ _ _, rfl, rfl, rfl, by show (0 : Int) = _; simp, rfl, fun _ _ => rfl, fun b hb => ?_, .inl ⟨rfl, rfl⟩⟩
 have : (Tl.new D B P).at_ b = Sb.zero := by
  unfold Tl.new Tl.at_
  dsimp only
  rw [List.getD_eq_getElem?_getD, List.getElem?_replicate]
  split <;> rfl
 show ((Tl.new D B P).at_ b).wear = 0 ∧ ((Tl.new D B P).at_ b).held = false ∧ ((Tl.new D B P).at_ b).used = _
 rw [this]
 exact ⟨rfl, rfl, by simp [Sb.zero]⟩
theorem at1 (h : SeqI D B P rows S) (hO : S.Ok k m) {q r : Nat} (hq : rows = q * P + r) (hr : r < P) (hB : q < B) : S.at1.op = (q : Nat) ∧ S.at1.row = (r : Nat) ∧ S.at1.mask = L.all D ∧ G.slots S.at1.mask = (D : Int) - 1 ∧ S.at1.left = true := by
 have hg := hO.gd.ok.bd16
 rw [h.dies, h.blocks, h.pages] at hg
 have hb := hO.t.b
 rw [h.blocks] at hb
 have hpick : r = 0 → S.pick = q := fun e => by
  refine h.inv.pick_first hO (fun b hb2 => ?_) (by omega) ?_ fun y hy => ?_
  ·have := Tl.has_iff.1 hb2
   obtain ⟨y, rfl⟩ := Int.eq_ofNat_of_zero_le this.1
   exact (h.sb y (by omega)).1
  ·rw [(h.sb q hB).2.2]
   exact decide_eq_false (by omega)
  ·rw [(h.sb y (by omega)).2.2]
   refine decide_eq_true ?_
   have : (y + 1) * P ≤ q * P := Nat.mul_le_mul_right _ hy
   rw [Nat.succ_mul] at this
   omega
 have hopens : S.left = false → r = 0 → S.at1 = S.opened ∧ ¬ S.pick < 0 := fun hl e => by
  have := hpick e
  refine ⟨?_, by omega⟩
  unfold Dv.at1; rw [hl]; rfl
 have hopen : S.left = false → r = 0 → S.at1.op = (q : Nat) ∧ S.at1.row = (r : Nat) ∧ S.at1.mask = L.all D ∧ G.slots S.at1.mask = (D : Int) - 1 ∧ S.at1.left = true := fun hl e => by
  obtain ⟨e1, e2⟩ := hopens hl e
  obtain ⟨w, w2, w3⟩ := h.inv.opens hO hl e2
  rw [e1]
  have hms := (w.inv.opn w2).mask
  have hd : S.opened.N.dies = D := h.dies
  rw [hd] at hms
  obtain ⟨m1, m2⟩ := msk_all hms hg.1
  exact ⟨hpick e, by rw [e]; rfl, m1, m2, w2⟩
 rcases h.op with ⟨e1, e2⟩ | ⟨q0, r0, e1, e2, e3, e4⟩
 ·have hr0 : r = 0 := by omega
  refine hopen ?_ hr0
  unfold Dv.left
  rw [e2]; rfl
 ·have hopn : Opn (-1) S := by
   rcases h.inv.op with e | e
   ·omega
   ·exact e
  have hms := hopn.mask
  rw [h.dies] at hms
  obtain ⟨m1, m2⟩ := msk_all hms hg.1
  by_cases hlt : r0 + 1 < P
  ·obtain ⟨f1, f2⟩ := eucl (show q0 * P + (r0 + 1) = q * P + r by omega) hlt hr
   have hl : S.left = true := by
    unfold Dv.left
    rw [decide_eq_true (by omega), h.pages, decide_eq_true (by omega), decide_eq_true (by omega)]; rfl
   have : S.at1 = S := by unfold Dv.at1; rw [hl]; rfl
   rw [this]
   exact ⟨by rw [e3, f1], by rw [e4, f2], m1, m2, hl⟩
  ·have hl : S.left = false := by
    unfold Dv.left
    rw [h.pages, decide_eq_false (p := S.row < (P : Int)) (by omega), Bool.and_false, Bool.false_and]
   have : r = 0 := by
    have : q * P + r = (q0 + 1) * P + 0 := by rw [Nat.succ_mul]; omega
    exact (eucl this hr (by omega)).2
   exact hopen hl this
theorem rows_pos (h : SeqI D B P rows S) (hO : S.Ok k m) {q r : Nat} (hq : rows = q * P + r) (hr : r < P) (hB : q < B) : 0 < S.rows := by
 obtain ⟨a1, a2, a3, a4, a5⟩ := h.at1 hO hq hr hB
 have hg := hO.gd.ok.bd16
 rw [h.dies, h.blocks, h.pages] at hg
 unfold Dv.at1 at a5
 cases hl : S.left with
 | true =>
  have := Dv.left_spec hl
  unfold Dv.rows
  rw [if_pos (by omega)]
  omega
 | false =>
  rw [hl, if_neg Bool.false_ne_true] at a5
  unfold Dv.at1 at a1
  rw [hl, if_neg Bool.false_ne_true] at a1
  have hp : S.pick = q := a1
  have hbl := Tl.blanks_open hO.t.len (Dv.pick_blank (S := S) (by omega))
  unfold Dv.rows
  rw [h.pages]
  have : P * 1 ≤ P * S.t.blanks := Nat.mul_le_mul_left _ (by omega)
  omega
theorem pen (h : SeqI D B P rows S) (hO : S.Ok (8 * Dv.fuel + k) m) {q r : Nat} (hq : rows = q * P + r) (hr : r < P) (hB : q < B) (hf : ∀ e ∈ l, FitR e) (hl0 : l.length ≠ 0) (hnx : S.next ≤ 1099511627775 - 7) :
  S.pen l = (wroteP S.at1 l, (S.at1.fit l : Int), (0 : Int)) ∧ S.at1.fit l = min l.length (D - 1) ∧ SeqI D B P (rows + 1) (wroteP S.at1 l) ∧ (wroteP S.at1 l).Ok k m ∧ Went (-1) S S.at1 0 ∧ Last (-1) S.at1 l ∧ S.at1.Ok (8 + k) m := by
 obtain ⟨a1, a2, a3, a4, a5⟩ := h.at1 hO hq hr hB
 have hg := hO.gd.ok.bd16
 rw [h.dies, h.blocks, h.pages] at hg
 obtain ⟨p1, p2, p3, p4⟩ := h.inv.pen_calm hO h.no (h.rows_pos hO hq hr hB) hf hl0 hnx
 have hd : ∀ s ∈ l, s.data.length = 16 := fun e he => (hf e he).len
 have hok := (Dv.pen_keep hO hd).1
 rw [p1] at hok
 have hfit : S.at1.fit l = min l.length (D - 1) := by unfold Dv.fit; rw [a4]; omega
 have hli : Inv (-1) (wroteP S.at1 l) := p4.inv p2.inv p3
 have ht := p4.turn
 have hat1 := Dv.at1_like S
 refine ⟨p1, hfit, ⟨hli, (h.no.went p2).wrote p4, ?_, ?_, ?_, ?_, ?_, fun i j => ?_, fun b hb => ?_, .inr ⟨q, r, by omega, hr, a1, ?_⟩⟩, hok, p2, p4, p3⟩
 ·exact ht.like.dies.trans (by rw [hat1.1]; exact h.dies)
 ·exact ht.like.blocks.trans (by rw [hat1.1]; exact h.blocks)
 ·exact ht.like.pages.trans (by rw [hat1.1]; exact h.pages)
 ·have h1 := ht.ops
  have h2 : ((R.job S.at1.op S.at1.row S.at1.mask (S.at1.es l)).filter fun x => !S.at1.N.dead.getD x.1.toNat false).length = D := by
   rw [List.filter_eq_self.2 (fun x _ => by rw [(h.no.went p2).dead]; rfl)]
   have := Dv.es_len S.at1 l
   rw [job_len, this, a4]; omega
  show (S.at1.wrote l).N.ops = _
  rw [h1, h2, hat1.1, h.ops, Nat.succ_mul]; omega
 ·show (S.at1.wrote l).N.broken = 0
  rw [ht.broken, hat1.1]; exact h.broken
 ·show ((S.at1.wrote l).N.blk i j).worn = 0
  rw [(ht.flags i j).2.2, hat1.1]; exact h.worn i j
 ·have hb' : S.t.has (b : Nat) = true := Tl.has_iff.2 (by have := hO.t.b; rw [h.blocks] at this; omega)
  have hs := p2.sb b hb'
  have h0 := h.sb b hb
  refine ⟨by show (S.at1.t.at_ b).wear = 0; rw [hs.1]; exact h0.1, by show (S.at1.t.at_ b).held = false; rw [hs.2.1]; exact h0.2.1, ?_⟩
  show (S.at1.t.at_ b).used = _
  by_cases e : b = q
  ·subst e
   have := (p2.inv.opn a5).used
   rw [a1] at this
   rw [this]
   exact (decide_eq_true (by omega)).symm
  ·have e2 : (S.at1.t.at_ b).used = (S.t.at_ b).used := by
    unfold Dv.at1 at a1 ⊢
    split
    ·rfl
    ·rename_i hl
     rw [if_neg hl] at a1
     have hp : S.pick = q := a1
     have hpb : S.t.has S.pick = true := Tl.has_iff.2 (by have := hO.t.b; rw [h.blocks] at this; omega)
     show ((S.t.clean S.pick false).at_ b).used = _
     unfold Tl.clean
     rw [Tl.at_set hO.t.len _ hpb hb', if_neg (by omega)]
   rw [e2, h0.2.2, decide_eq_decide]
   rcases Nat.lt_or_ge b q with hlt | hge
   ·have : (b + 1) * P ≤ q * P := Nat.mul_le_mul_right _ hlt
    rw [Nat.succ_mul] at this
    omega
   ·have : (q + 1) * P ≤ b * P := Nat.mul_le_mul_right _ (by omega)
    rw [Nat.succ_mul] at this
    omega
 ·show S.at1.row + 1 = _
  rw [a2]; omega
end SeqI
end Go.Proofs.YtdocmcapegcoeaaGreat
namespace Go.Proofs.YtdocmcapegcoeaaGreat
open Go Go.RowKit
theorem Dv.Ok.fault0 {S : Dv} {k m : Nat} (h : S.Ok k m) (kd x y z n xx : Int) (hk : kd ≠ 1) : ({ S with N := (S.N.fault kd x y z n xx).2 } : Dv).Ok k m :=
 ⟨h.gd.fault0 kd x y z n xx hk, h.t.like (Nand.like_fault _ _ _ _ _ _ _), h.T, h.sl, h.row, h.next⟩
namespace B18
def S0 : Dv := Dv.new 3 8 2 20
def S1 : Dv := (S0.pen [e18 1 1, e18 2 2, e18 3 3]).1
def S2 : Dv := (S1.pen [e18 3 3]).1
def S3 : Dv := (S2.carry 0 2).1
def S4 : Dv := { S3 with N := (S3.N.fault 4 2 0 0 0 0).2 }
def S5 : Dv := (S4.step 2).1
def S6 : Dv := S5.room.1
def S7 : Dv := (S6.torn [e18 9 9]).1
theorem h1 : (S0.pen [e18 1 1, e18 2 2, e18 3 3]).2 = (2, 0) := by kernel_rfl
theorem h2 : (S1.pen [e18 3 3]).2 = (1, 0) := by kernel_rfl
theorem h3 : (S2.carry 0 2).2 = (2, 0) := by kernel_rfl
theorem h4 : Tb.look S3.T.at_ 1 = some ⟨1, 0, 0, 7, 4, 1⟩ := by kernel_rfl
theorem h5 : S3.op = 1 := by kernel_rfl
theorem h6 : (S4.step 2).2 = (1, 0) := by kernel_rfl
theorem h7 : S5.leftN = 2 := by kernel_rfl
theorem h8 : S5.N.broken = 0 := by kernel_rfl
theorem h9 : S5.room.2 = 0 := by kernel_rfl
theorem h10 : (S6.torn [e18 9 9]).2 = 0 := by kernel_rfl
theorem h11 : S7.clear.2 = 0 := by kernel_rfl
def U : Nat := 10000000000
theorem G0 : S0.Ok (10 * U) 0 := Dv.Ok.new 3 8 2 20 rfl _ (by decide)
theorem d3 : ∀ s ∈ [e18 1 1, e18 2 2, e18 3 3], s.data.length = 16 := by decide
theorem d1 : ∀ s ∈ [e18 3 3], s.data.length = 16 := by decide
theorem d9 : ∀ s ∈ [e18 9 9], s.data.length = 16 := by decide
theorem G1 : S1.Ok (9 * U) 0 := (Dv.pen_keep (G0.less (by decide : 8 * Dv.fuel + 9 * U ≤ _)) d3).1
theorem G2 : S2.Ok (8 * U) 0 := (Dv.pen_keep (G1.less (by decide : 8 * Dv.fuel + 8 * U ≤ _)) d1).1
theorem G3 : S3.Ok (7 * U) 0 := (Dv.carry_keep (G2.less (by decide : Dv.costC + 7 * U ≤ _)) 0 2).1
theorem G4 : S4.Ok (7 * U) 0 := Dv.Ok.fault0 G3 4 2 0 0 0 0 (by decide)
theorem G5 : S5.Ok (6 * U) 0 := (Dv.step_keep (G4.less (by decide : Dv.costS + 6 * U ≤ _)) 2).1
theorem G6 : S6.Ok (5 * U) 0 := (Dv.room_keep (G5.less (by decide : Dv.costM + 5 * U ≤ _))).1
theorem G7 : S7.Ok (4 * U) 0 := (Dv.tornGo_keep 1 S6 [e18 9 9] _ (G6.less (by decide : Dv.costT * 1 + 4 * U ≤ _)) d9).1
end B18
end Go.Proofs.YtdocmcapegcoeaaGreat
namespace Go.Proofs.YtdocmcapegcoeaaGreat
open Go Go.RowKit
open B18
theorem l16_Begun : Fn Tryz.prog 49 [] [] (fun v As => v = .bool true ∧ As = []) := by
 refine Fn.enter [] Tryz.func49 rfl rfl rfl fun X F hX => ?_
 refine J.q hX fun b1 => ?_
 refine J.cb hX (l16_begun) [] ?_
 refine cpq ⟨_, rfl, trivial, ?_⟩
 refine J.q hX fun b3 => ?_
 exact J.ru hX [] ⟨rfl, rfl⟩
theorem l18_begun : Fn Tryz.prog 15 [] [] (fun v As => v = .bool true ∧ As = []) := by
 refine Fn.enter [] Tryz.func15 rfl rfl rfl fun X F hX => ?_
 refine J.q hX fun b4 => ?_
 refine J.cb hX (l18_bench 3 8 2 rfl 20) [] ?_
 rintro v As ⟨n, t, l, q, rfl, rfl⟩
 refine ⟨_, rfl, trivial, ?_⟩
 rw [show Dv.new 3 8 2 20 = S0 from rfl]
 refine J.q hX fun b6 => ?_
 refine J.cF ?_
 refine J.q hX fun b7 => ?_
 refine J.cb hX (l18_entry 1 1) [] ?_
 refine cpq ⟨_, rfl, trivial, ?_⟩
 refine J.q hX fun b9 => ?_
 refine J.cb hX (l18_entry 2 2) [] ?_
 refine cpq ⟨_, rfl, trivial, ?_⟩
 refine J.q hX fun b11 => ?_
 refine J.cb hX (l18_entry 3 3) [] ?_
 refine cpq ⟨_, rfl, trivial, ?_⟩
 refine J.q hX fun bx => ?_
 refine J.ca hX (by kernel_rfl) (pn_Write q n t l S0 (9 * U) 0 (G0.less (by decide)) (.pt (bx 0) 38 (cellsE [e18 1 1, e18 2 2, e18 3 3])) (some ⟨bx 0, 0, none⟩) 3 3 [e18 1 1, e18 2 2, e18 3 3] (pt_rd _ _ _ _ _ rfl) rfl (by decide) B18.d3) [1, 2, 3, 4, 5] 0 rfl rfl rfl rfl rfl rfl (fun _ => rfl) ?_
 refine cpq ⟨_, rfl, trivial, ?_⟩
 rw [show (S0.pen [e18 1 1, e18 2 2, e18 3 3]).1 = S1 from rfl, h1]
 refine J.q hX fun b14 => ?_
 refine J.cb hX (l18_entry 3 3) [] ?_
 refine cpq ⟨_, rfl, trivial, ?_⟩
 refine J.q hX fun by_ => ?_
 refine J.ca hX (by kernel_rfl) (pn_Write q n t l S1 (8 * U) 0 (G1.less (by decide)) (.pt (by_ 0) 38 (cellsE [e18 3 3])) (some ⟨by_ 0, 0, none⟩) 1 1 [e18 3 3] (pt_rd _ _ _ _ _ rfl) rfl (by decide) B18.d1) [1, 2, 3, 4, 6] 0 rfl rfl rfl rfl rfl rfl (fun _ => rfl) ?_
 refine cpq ⟨_, rfl, trivial, ?_⟩
 rw [show (S1.pen [e18 3 3]).1 = S2 from rfl, h2]
 refine J.q hX fun b17 => ?_
 refine J.cb hX (sw_Carry n t l q S2 (7 * U) 0 (G2.less (by decide)) 0 2) [1, 2, 3, 4] ?_
 refine cpq ⟨_, rfl, trivial, ?_⟩
 rw [show (S2.carry 0 2).1 = S3 from rfl, h3]
 refine J.q hX fun b19 => ?_
 refine J.cb hX (tb_Get l S3.T 1) [4] ?_
 refine cpq ⟨_, rfl, trivial, ?_⟩
 rw [h4, Option.getD_some, Option.isSome_some]
 refine J.q hX fun ba => ?_
 refine J.cb hX (pn_Open q n t l S3) [1] ?_
 refine cpq ⟨_, rfl, trivial, ?_⟩
 rw [h5]
 refine J.q hX fun b22 => ?_
 refine J.cb hX (n_Fault n S3.N G3.gd.ok 0 4 2 0 0 0 0) [2] ?_
 refine cpq ⟨_, rfl, trivial, ?_⟩
 rw [show (S3.N.fault 4 2 0 0 0 0).2 = S4.N from rfl, show PenA q n t l S3 = PenA q n t l S4 from rfl, show S3.t = S4.t from rfl, show S3.T = S4.T from rfl]
 refine J.q hX fun b24 => ?_
 refine J.cb hX (mn_Step n t l q S4 (6 * U) 0 (G4.less (by decide)) (by decide) 2) [1, 2, 3, 4] ?_
 refine cpq ⟨_, rfl, trivial, ?_⟩
 rw [show (S4.step 2).1 = S5 from rfl, h6]
 refine J.q hX fun b26 => ?_
 refine J.cb hX (l16_Begun) [] ?_
 refine cpq ⟨_, rfl, trivial, ?_⟩
 refine J.q hX fun b28 => ?_
 refine J.cb hX (mn_Left t l S5 (6 * U) 0 G5) [3, 4] ?_
 refine cpq ⟨_, rfl, trivial, ?_⟩
 rw [h7]
 refine J.q hX fun b30 => ?_
 refine J.cb hX (n_Broken n S5.N) [2] ?_
 refine cpq ⟨_, rfl, trivial, ?_⟩
 rw [h8]
 refine J.q hX fun b32 => ?_
 refine J.cb hX (sw_Room n t l q S5 (5 * U) 0 (G5.less (by decide)) (by decide)) [1, 2, 3, 4] ?_
 refine cpq ⟨_, rfl, trivial, ?_⟩
 rw [show S5.room.1 = S6 from rfl, h9]
 refine J.q hX fun b34 => ?_
 refine J.cb hX (l18_entry 9 9) [] ?_
 refine cpq ⟨_, rfl, trivial, ?_⟩
 refine J.q hX fun b36 => ?_
 refine J.effG hX tk rfl rfl rfl (fun _ => rfl) (by (repeat' (first | exact Conj.nil | refine Conj.cons ?_ ?_ | omega | exact hq0 | (simpa using hq0) | (exact fun h => h) | exact rfl | (intro hq; have hq0 := hq; try simp only [Bool.and_eq_true, Bool.or_eq_true, decide_eq_true_eq, Bool.not_eq_true', decide_eq_false_iff_not] at hq) | (simp; done) | (simp; omega) | decide))) (fun _ => rfl) fun bt => ⟨trivial, ?_⟩
 refine J.q hX fun b37 => ?_
 refine J.ca hX (by kernel_rfl) (mn_Torn n t l q S6 (4 * U) 0 (.pt bt 38 (cellsE [e18 9 9])) (some (bt, 0)) 1 1 [e18 9 9] (pt_rd _ _ _ _ _ rfl) rfl (by decide) (by decide) (fun h => by cases h) B18.d9 (G6.less (by decide)) (by decide)) [1, 2, 3, 4, 8] 0 rfl rfl rfl rfl rfl rfl (fun _ => rfl) ?_
 refine cpq ⟨_, rfl, trivial, ?_⟩
 rw [show (S6.torn [e18 9 9]).1 = S7 from rfl, h10]
 refine J.q hX fun b39 => ?_
 refine J.cb hX (pn_Open q n t l S7) [1] ?_
 refine cpq ⟨_, rfl, trivial, ?_⟩
 refine J.q hX fun b41 => ?_
 refine J.ca hX (by kernel_rfl) (sw_Clear n t l S7.N S7.t S7.T (3 * U) 0 (G7.gd.less (by decide) (Nat.le_refl _)) (by decide) G7.t S7.op) [2, 3, 4] 0 rfl rfl rfl rfl rfl rfl (fun _ => rfl) ?_
 refine cpq ⟨_, rfl, trivial, ?_⟩
 rw [show (Dv.clearX S7.N S7.t S7.T S7.op).2.2 = 0 from h11]
 refine J.q hX fun b43 => ?_
 exact J.ru hX [] ⟨rfl, rfl⟩
end Go.Proofs.YtdocmcapegcoeaaGreat
namespace Go.Proofs.YtdocmcapegcoeaaGreat
open Go Go.RowKit
theorem e18_fit {k s : Int} (h : 0 ≤ k ∧ k ≤ 65535) : FitR (e18 k s) := ⟨h, .inl rfl, rfl⟩
theorem all_mAll : ∀ D, D < 7 → L.all (D : Nat) = mAll D := by decide +kernel
end Go.Proofs.YtdocmcapegcoeaaGreat
namespace Go.Proofs.YtdocmcapegcoeaaGreat
open Go
theorem Msk.any {D : Nat} {fd m : Int} (h : Msk D (-1) m) : Msk D fd m := ⟨h.set, h.lt, fun d hd _ => h.all d hd (by omega)⟩
theorem Full.any {fd : Int} {N : Nand} {b r m : Int} {l : List En} (h : Full (-1) N b r m l) : Full fd N b r m l := ⟨h.is, fun x hx _ => h.good x hx (by have := h.is.inn x hx; omega), h.inn⟩
theorem Inv.any {fd : Int} {S : Dv} (h : Inv (-1) S) (hn : S.N.plan = []) : Inv fd S := by
 refine ⟨h.lit, fun i _ => h.dead i (by omega), fun a ha => (by rw [hn] at ha; cases ha), fun i j _ => h.flags i j (by omega), ⟨h.tdead.1, fun d hd => ?_⟩, fun b hb => ⟨(h.tbad b hb).1, fun d hd => ?_⟩, ?_, h.blank, fun i a ha => ?_⟩
 ·have := h.tdead.2 d hd
  obtain ⟨x, hx, _⟩ := L.has_rng hd
  omega
 ·have := (h.tbad b hb).2 d hd
  obtain ⟨x, hx, _⟩ := L.has_rng hd
  omega
 ·rcases h.op with e | e
  ·exact .inl e
  ·exact .inr ⟨e.blk, e.used, e.row, e.mask.any, e.cells⟩
 ·have hs := h.st i a ha
  obtain ⟨l, g1, g2⟩ := hs.row
  exact ⟨⟨l, g1.any, g2⟩, hs.used, hs.below, hs.seq⟩
theorem Inv.planned {fd : Int} {S : Dv} (h : Inv fd S) (p : List A3') (hp : ∀ a ∈ p, a.1 = fd) : Inv fd { S with N := { S.N with plan := p } } := by
 have hl : S.N.Like { S.N with plan := p } := ⟨rfl, rfl, rfl⟩
 refine ⟨⟨h.lit.off, h.lit.cuts⟩, h.dead, hp, h.flags, h.tdead, h.tbad, ?_, h.blank, fun i a ha => ?_⟩
 ·rcases h.op with e | e
  ·exact .inl e
  ·exact .inr ⟨e.blk, e.used, e.row, e.mask, e.cells⟩
 ·have hs := h.st i a ha
  obtain ⟨l, g1, g2⟩ := hs.row
  exact ⟨⟨l, g1.keep hl fun _ _ => rfl, g2⟩, hs.used, hs.below, hs.seq⟩
theorem Inv.went1 {fd : Int} {S : Dv} {k m : Nat} (h : Inv fd S) (hO : S.Ok k m) (hl : S.at1.left = true) : Went fd S S.at1 0 := by
 unfold Dv.at1 at hl ⊢
 split
 ·exact Went.refl h
 ·rename_i hh
  rw [if_neg hh] at hl
  have hf : S.left = false := by simpa using hh
  have := (Dv.left_spec hl).1
  exact (h.opens hO hf (by show ¬ S.pick < 0; have : 0 ≤ S.pick := this; omega)).1
theorem loses_range {S : Dv} {f : Int} {d0 : Nat} (hf : ∀ d : Nat, L.has f (d : Nat) = decide (d = d0)) : ∀ n, (List.range n).foldl (Dv.lose f) S = if d0 < n then Dv.lose f S d0 else S
 | 0 => rfl
 | n + 1 => by
  have hno : ∀ X : Dv, ∀ d : Nat, d ≠ d0 → Dv.lose f X d = X := fun X d hd => by
   unfold Dv.lose
   rw [hf, decide_eq_false hd, if_neg Bool.false_ne_true]
  rw [List.range_succ, List.foldl_append, loses_range hf n]
  show Dv.lose f (if d0 < n then Dv.lose f S d0 else S) n = _
  by_cases e : n = d0
  ·subst e
   rw [if_neg (Nat.lt_irrefl _), if_pos (Nat.lt_succ_self _)]
  ·rw [hno _ n e]
   by_cases h : d0 < n
   ·rw [if_pos h, if_pos (by omega)]
   ·rw [if_neg h, if_neg (by omega)]
theorem SeqI.fails {D B P at_ die : Nat} {S : Dv} {k m : Nat} {e : En} (h : SeqI D B P at_ S) (hO : S.Ok (8 * Dv.fuel + k) m) (hO' : ({ S with N := { S.N with plan := [((die : Int), 0, (at_ : Int))] } } : Dv).Ok (8 * Dv.fuel + k) (m + 1)) (ha : at_ + 1 < P) (hd : die < D) (he : FitR e) (hlg : e.lpn < S.T.logical) (hnx : S.next ≤ 1099511627775 - 7) :
  ∃ (W : Dv) (sq : Int), ({ S with N := { S.N with plan := [((die : Int), 0, (at_ : Int))] } } : Dv).pen [e] = (W, (1 : Int), (0 : Int)) ∧ Tb.look W.T.at_ e.lpn = some ⟨0, ((at_ + 1 : Nat) : Int), 0, L.without (L.all D) die, sq, e.role⟩ ∧ W.t.mask 0 = L.without (L.all D) die ∧ W.t.mask 1 = L.all D ∧ W.N.broken = 0 := by
 obtain ⟨N', hN'⟩ : ∃ N' : Nand, { S.N with plan := [((die : Int), 0, (at_ : Int))] } = N' := ⟨_, rfl⟩
 have hg := hO.gd.ok.bd16
 rw [h.dies, h.blocks, h.pages] at hg
 obtain ⟨a1, a2, a3, a4, a5⟩ := h.at1 hO (q := 0) (r := at_) (by omega) (by omega) (by omega)
 have i0 := h.inv.went1 hO a5
 have iS : Inv die { S with N := N' } := by
  rw [← hN']
  exact (h.inv.any h.no.plan).planned _ fun a ha => by simp at ha; rw [ha]
 have hmet : ∀ i j, (N'.blk i j).met = false := fun i j => by rw [← hN']; exact h.no.met i j
 have hdead : ∀ i : Nat, N'.dead.getD i false = false := fun i => by rw [← hN']; exact h.no.dead i
 have hplan : N'.plan = [((die : Int), 0, (at_ : Int))] := by rw [← hN']
 have hpd : N'.dies = D ∧ N'.pages = P ∧ N'.blocks = B ∧ N'.broken = 0 := by rw [← hN']; exact ⟨h.dies, h.pages, h.blocks, h.broken⟩
 rw [hN'] at hO' ⊢
 have hat1 : ({ S with N := N' } : Dv).at1 = { S.at1 with N := N' } := by
  have e1 : ({ S with N := N' } : Dv).left = S.left := by unfold Dv.left; rw [show ({ S with N := N' } : Dv).N.pages = S.N.pages from by rw [hpd.2.1, h.pages]]
  unfold Dv.at1
  rw [e1]
  split <;> rfl
 obtain ⟨Q, hQ⟩ : ∃ Q, ({ S.at1 with N := N' } : Dv) = Q := ⟨_, rfl⟩
 rw [hQ] at hat1
 have hql : Q.left = true := by
  rw [← hQ]
  have := Dv.left_spec a5
  unfold Dv.left
  dsimp only
  rw [decide_eq_true (by omega), decide_eq_true (by rw [hpd.2.1, a2]; omega), decide_eq_true (by omega)]; rfl
 have q1 : Q.op = 0 := by rw [← hQ]; exact a1
 have q2 : Q.row = (at_ : Nat) := by rw [← hQ]; exact a2
 have q3 : Q.t = S.at1.t := by rw [← hQ]
 have q4 : Q.N = N' := by rw [← hQ]
 have q5 : Q.T = S.T := by rw [← hQ]; exact (Dv.at1_like S).2.1
 have q6 : Q.next = S.next := by rw [← hQ]; exact (Dv.at1_like S).2.2
 have q7 : Q.mask = L.all D := by rw [← hQ]; exact a3
 have hQO : Q.Ok (8 * Dv.fuel + k) (m + 1) := by rw [← hat1]; exact hO'.at1
 have w1 : Went die { S with N := N' } Q 0 := by
  have := iS.went1 hO' (by rw [hat1]; exact hql)
  rwa [hat1] at this
 have hf : ∀ x ∈ [e], FitR x := fun x hx => by simp at hx; rw [hx]; exact he
 have hfitQ := Dv.fit_le Q [e]
 have hn : ¬ Q.next > 1099511627775 - (Q.fit [e] : Int) + 1 := by rw [q6]; omega
 have ht := w1.inv.turn hQO hql hf hn
 have hfb : ∀ d : Nat, N'.failB 0 (at_ : Nat) d = decide (d = die) := fun d => by
  unfold Nand.failB Nand.fails
  rw [hplan, Int.toNat_natCast, hdead, hmet, Bool.false_or, Bool.or_false, decide_eq_decide]
  rw [List.mem_singleton]
  exact ⟨fun h => by injection h with h _; omega, fun h => by rw [h]⟩
 obtain ⟨f, hfe⟩ : ∃ f, (Q.wr [e]).2.1 = f := ⟨_, rfl⟩
 have hfh : ∀ d : Nat, L.has f (d : Nat) = decide (d = die) := fun d => by
  by_cases hlt : d < D
  ·have := ht.fail d (by rw [q7, L.all_has D (by omega)]; simp; omega)
   rw [hfe, q4, q1, q2, hfb] at this
   exact this
  ·cases hh : L.has f (d : Nat) with
   | false => exact (decide_eq_false (by omega)).symm
   | true =>
    have := ht.only d (by rw [hfe]; exact hh)
    omega
 have hf0 : (Q.wr [e]).2.1 ≠ 0 := fun e0 => by
  have := hfh die
  rw [← hfe, e0, L.has_zero] at this
  simp at this
 have herr := ht.err
 rw [if_neg hf0] at herr
 have hQO8 : Q.Ok (8 + (8 * 159 + k)) (m + 1) := hQO.less (by unfold Dv.fuel; omega)
 obtain ⟨b1, b2, b3, b4, b5, b6, b7⟩ := w1.inv.burn hQO8 hql hf hn hf0
 have hdt : ∀ s ∈ [e], s.data.length = 16 := fun x hx => (hf x hx).len
 have hWO := (hQO8.wrote hdt (Dv.left_spec hql).2.1 hn).loses (Q.wr [e]).2.1
 have hWt := (hQO8.wrote hdt (Dv.left_spec hql).2.1 hn).t
 have hns : ¬ (({ S with N := N' } : Dv).left = false ∧ ({ S with N := N' } : Dv).pick < 0) := fun ⟨e1, e2⟩ => by
  unfold Dv.at1 at hat1
  rw [e1, if_neg Bool.false_ne_true] at hat1
  have : Q.op = ({ S with N := N' } : Dv).pick := by rw [← hat1]; rfl
  omega
 have hwr : Dv.write 160 ({ S with N := N' } : Dv) [e] = Dv.write 159 ((Q.wrote [e]).loses (Q.wr [e]).2.1) [e] := by
  rw [Dv.write_succ, if_neg (by simp), if_neg hns, hat1, if_neg hn, if_neg (by rw [herr]; decide), if_neg (by rw [herr]; decide), if_neg (by rw [herr]; decide)]
 have hlose : (Q.wrote [e]).loses (Q.wr [e]).2.1 = Dv.lose f (Q.wrote [e]) die := by
  rw [hfe]
  unfold Dv.loses
  rw [loses_range hfh, if_pos]
  rw [show (Q.wrote [e]).N.dies = Q.N.dies from ht.like.dies, q4, hpd.1]; exact hd
 have hnd : (Q.wrote [e]).N.deadAt die = false := by
  unfold Nand.deadAt
  rw [ht.dead, q4, Int.toNat_natCast, hdead]; simp
 have hlt : (Dv.lose f (Q.wrote [e]) die).t = Q.t.bad die 0 := by
  unfold Dv.lose
  rw [hfh, decide_eq_true rfl, if_pos rfl]
  show (if (Q.wrote [e]).N.deadAt die = true then _ else _) = _
  rw [hnd, if_neg Bool.false_ne_true]
  show Q.t.bad die Q.op = _
  rw [q1]
 rw [hlose] at b1 b2 b4 b5 hWO hwr
 generalize hS2 : Dv.lose f (Q.wrote [e]) die = S2 at *
 have hi2 := b1.inv
 have hd2 : S2.N.dies = D := by rw [b1.like.dies, q4]; exact hpd.1
 have hp2 : S2.N.pages = P := by rw [b1.like.pages, q4]; exact hpd.2.1
 have hopn : Opn die S2 := by
  rcases hi2.op with x | x
  ·omega
  ·exact x
 have hmk := hopn.mask
 rw [hd2] at hmk
 have hmkE : ∀ x : Int, Msk D die x → L.has x die = false → x = L.without (L.all D) die := fun x hx hh => by
  rcases hx.eq hg.1 with ⟨_, y⟩ | ⟨_, _, _, y⟩
  ·have := y (by omega); rw [hh] at this; cases this
  ·exact y
 have hmask2 := hmkE _ hmk b2
 have hl2 : S2.left = true := by
  have := (hmk.pos hg.1).1
  unfold Dv.left
  rw [decide_eq_true (by omega), decide_eq_true (by omega), decide_eq_true (by omega)]; rfl
 have hat2 : S2.at1 = S2 := by unfold Dv.at1; rw [hl2]; rfl
 have hfit2 := Dv.fit_le S2 [e]
 have hnx2 := b1.next
 have hn2 : ¬ S2.next > 1099511627775 - (S2.fit [e] : Int) + 1 := by rw [q6] at hnx2; simp at hfit2; omega
 have ht2 := hi2.turn hWO hl2 hf hn2
 have hf2 : (S2.wr [e]).2.1 = 0 := L.ext ht2.set (by decide) fun d _ => by
  rw [L.has_zero]
  cases hh : L.has (S2.wr [e]).2.1 (d : Nat) with
  | false => rfl
  | true => have := (ht2.only d hh).2; rw [b2] at this; cases this
 have herr2 := ht2.err
 rw [if_pos hf2] at herr2
 have hlast : Last die S2 [e] := ⟨hl2, hf2, hn2, ht2⟩
 have hf1 : S2.fit [e] = 1 := by
  have := (hmk.pos hg.1).1
  unfold Dv.fit
  simp only [List.length_cons, List.length_nil]
  omega
 have hlook := hlast.look hi2 hWO hf (fun x hx => by simp at hx; rw [hx, b1.T, q5]; exact hlg) (by simp)
 refine ⟨wroteP S2 [e], S2.next, ?_, ?_, ?_, ?_, ?_⟩
 ·show Dv.write 160 _ [e] = _
  rw [hwr, Dv.write_succ, if_neg (by simp), hat2, if_neg (by rw [hl2]; simp), if_neg hn2, if_neg (by rw [herr2]; decide), if_pos herr2, hf1]
  unfold wroteP
  rw [hf1]; rfl
 ·have := hlook.1 0 (by omega)
  rw [b5, b4, q1, q2, hmask2] at this
  simpa using this
 all_goals clear hlook
 ·have hhas : S2.t.has 0 = true := Tl.has_iff.2 (by have := hWO.t.b; rw [b1.like.blocks, q4, hpd.2.2.1] at this; omega)
  have := hi2.msk hWO hhas
  rw [hd2] at this
  refine hmkE _ this ?_
  show L.has (S2.t.mask 0) die = false
  rw [(mask_has (by have := hWO.t.d; omega) hhas hi2.tdead.1 (hi2.tbad 0 hhas).1).2 die]
  have : L.has (S2.t.at_ 0).bad die = true := by
   rw [hlt]
   have hQh : Q.t.has 0 = true := Tl.has_iff.2 (by have := hQO.t.b; rw [q4, hpd.2.2.1] at this; omega)
   unfold Tl.bad
   rw [if_pos (by unfold Tl.hasDie; rw [hQO.t.d, q4, hpd.1]; simp; omega), Tl.at_set hQO.t.len _ hQh hQh, if_pos rfl]
   dsimp only
   rw [L.with_has (w1.inv.tbad 0 hQh).1 (by omega)]; simp
  rw [this]; simp
 ·have hhas : S2.t.has 1 = true := Tl.has_iff.2 (by have := hWO.t.b; rw [b1.like.blocks, q4, hpd.2.2.1] at this; omega)
  have := hi2.msk hWO hhas
  rw [hd2] at this
  have hh : L.has (S2.t.mask 1) die = true := by
   rw [(mask_has (by have := hWO.t.d; omega) hhas hi2.tdead.1 (hi2.tbad 1 hhas).1).2 die]
   have hQ1 : Q.t.has 1 = true := Tl.has_iff.2 (by have := hQO.t.b; rw [q4, hpd.2.2.1] at this; omega)
   have hQh : Q.t.has 0 = true := Tl.has_iff.2 (by have := hQO.t.b; rw [q4, hpd.2.2.1] at this; omega)
   have e1 : L.has (S2.t.at_ 1).bad die = false := by
    rw [hlt]
    unfold Tl.bad
    rw [if_pos (by unfold Tl.hasDie; rw [hQO.t.d, q4, hpd.1]; simp; omega), Tl.at_set hQO.t.len _ hQh hQ1, if_neg (by decide)]
    cases hx : L.has (Q.t.at_ 1).bad die with
    | false => rfl
    | true => rw [q3] at hx hQ1; have := (i0.inv.tbad 1 hQ1).2 _ hx; omega
   have e2 : L.has S2.t.dead die = false := by
    rw [hlt]
    unfold Tl.bad
    have e3 : L.has Q.t.dead die = false := by
     cases hx : L.has Q.t.dead die with
     | false => rfl
     | true => rw [q3] at hx; have := i0.inv.tdead.2 _ hx; omega
    split
    ·rw [Tl.set_dead]; exact e3
    ·exact e3
   rw [e1, e2, hWO.t.d, hd2]; simp; omega
  rcases this.eq hg.1 with ⟨y, _⟩ | ⟨_, _, y, _⟩
  ·exact y
  ·rw [hh] at y; cases y
 ·show (S2.wrote [e]).N.broken = 0
  rw [ht2.broken, b1.broken, q4]; exact hpd.2.2.2
end Go.Proofs.YtdocmcapegcoeaaGreat
namespace Go.Proofs.YtdocmcapegcoeaaGreat
open Go Go.RowKit
theorem wo_but : ∀ D, D < 7 → ∀ d, d < D → 3 ≤ D → L.without (L.all (D : Nat)) (d : Nat) = mBut D d ∧ ((2 ^ D : Nat) : Int) - 1 - ((2 ^ d : Nat) : Int) = mBut D d := by decide +kernel
theorem beqI (z : Int) : (z == z) = true := by simp
theorem s_PenFails (g0 g1 g2 di at0 : Int) (A : Atom) :
  Fn Tryz.prog 4 [.agg #[.int .i64 g0, .int .i64 g1, .int .i64 g2], .int .i64 di, .int .i64 at0] [A] (fun v As => v = .bool true ∧ As = [A]) := by
 refine Fn.enter [0, 0, 0] Tryz.func4 rfl rfl rfl fun X F hX => ?_
 refine J.q hX fun bb => ?_
 refine J.cb hX (l18_begun) [] ?_
 refine cpq ⟨_, rfl, trivial, ?_⟩
 refine J.q hX fun b2 => ?_
 refine J.cF ?_
 refine J.q hX fun b3 => ?_
 refine J.cb hX (l6_Geo g0 g1 g2) [] ?_
 rintro v As ⟨D, B, P, rfl, hD, hB, hP, rfl⟩
 refine ⟨_, rfl, trivial, ?_⟩
 have hgm : geoMay D B P = true := by simp [geoMay]; omega
 have hpw := pow_bd D hD.2
 have hd1 := tm_bd di D (by omega)
 have hd2 := tm_2 di D (by omega)
 refine J.q hX fun b5 => ?_
 refine J.plan (.of [0,4,9,12,16,21,24,28,33,36,40]) [9,10] [2] (by rw [hX.hP]; kernel_rfl) (by kernel_rfl) ?_
 refine J.qn hX 22 fun b6 => ?_
 obtain ⟨d, hde⟩ := Int.eq_ofNat_of_zero_le hd2.1
 rw [hde] at hd2
 have hdD : d < D := by omega
 rw [hde]
 have ha1 := tm_bd at0 ((P : Int) - 1) (by omega)
 have ha2 := tm_2 at0 ((P : Int) - 1) (by omega)
 rw [← Int.add_sub_assoc] at ha2
 refine J.q hX fun b7 => ?_
 refine J.plan (.of [0,4,9,12,16,20,25,28,32,36,41,44,48,52]) [] [2] (by rw [hX.hP]; kernel_rfl) (by kernel_rfl) ?_
 refine J.qn hX 28 fun b8 => ?_
 obtain ⟨a, hae⟩ := Int.eq_ofNat_of_zero_le ha2.1
 rw [hae] at ha2
 rw [hae]
 have haP : a + 1 < P := by omega
 refine J.q hX fun b9 => ?_
 refine J.cb hX (l18_bench D B P hgm 2000) [] ?_
 rintro v As ⟨n, t, l, q, rfl, rfl⟩
 refine ⟨_, rfl, trivial, ?_⟩
 have hO0 : (Dv.new D B P 2000).Ok (1280 * 20) 0 := Dv.Ok.new D B P 2000 hgm _ (by decide)
 refine J.q hX fun b11 => ?_
 refine J.lo (α := (Nat × Dv)) (fun z => z.1 ≤ a ∧ SeqI D B P z.1 z.2 ∧ z.2.next = (z.1 : Int) + 1 ∧ z.2.T.logical = 2000 ∧ z.2.Ok (1280 * (20 - z.1)) 0) (fun z => [⟨13, .int .i64 z.1, 0, .tt⟩, ⟨12, .int .i64 z.1, 0, .tt⟩, ⟨1, .int .i64 d, 0, .tt⟩, ⟨2, .int .i64 a, 0, .tt⟩, ⟨3, .pointer (some ⟨bb 0, 0, none⟩), 3, .tt⟩, ⟨8, .pointer (some ⟨n, 0, none⟩), 0, .tt⟩, ⟨9, .pointer (some ⟨t, 0, none⟩), 0, .tt⟩, ⟨10, .pointer (some ⟨l, 0, none⟩), 0, .tt⟩, ⟨11, .pointer (some ⟨q, 0, none⟩), 0, .tt⟩]) [3, 4, 5, 6] (fun z => DvP q n t l z.2) (fun z => a - z.1) ((0, Dv.new D B P 2000)) (⟨Nat.zero_le _, SeqI.new D B P 2000, rfl, rfl, hO0⟩) rfl ?_ (fun _ => rfl) fun z hI => ?_
 ·rfl
 obtain ⟨r, S⟩ := z
 dsimp only at hI ⊢
 obtain ⟨hr, hS, hnx, hlog, hO⟩ := hI
 have hf : ∀ x ∈ [e18 r ((r : Int) + 1)], FitR x := fun x hx => by
  simp at hx
  rw [hx]
  exact e18_fit (by omega)
 have hdt : ∀ x ∈ [e18 r ((r : Int) + 1)], x.data.length = 16 := fun x hx => (hf x hx).len
 refine J.q hX fun b13 => ?_
 refine J.cond rfl (fun h1 => ?_) (fun h1 => ?_)
 ·simp only [decide_eq_true_eq, Int.ofNat_lt] at h1
  have hO1 : S.Ok (8 * Dv.fuel + 1280 * (20 - (r + 1))) 0 := hO.less (by unfold Dv.fuel; omega)
  obtain ⟨hp1, hp2, hp3, hp4, hp5, hp6, hp7⟩ := hS.pen (l := [e18 r ((r : Int) + 1)]) hO1 (q := 0) (r := r) (by omega) (by omega) (by omega) hf (by simp) (by omega)
  have hf1 : S.at1.fit [e18 r ((r : Int) + 1)] = 1 := by rw [hp2]; simp; omega
  refine J.q hX fun b14 => ?_
  refine J.cb hX (l18_entry r (r + 1)) [] ?_
  refine cpq ⟨_, rfl, trivial, ?_⟩
  refine J.q hX fun by_ => ?_
  refine J.ca hX (by kernel_rfl) (pn_Write q n t l S _ 0 hO1 (.pt (by_ 0) 38 (cellsE [e18 r ((r : Int) + 1)])) (some ⟨by_ 0, 0, none⟩) 1 1 [e18 r ((r : Int) + 1)] (pt_rd _ _ _ _ _ rfl) rfl (by decide) hdt) [3, 4, 5, 6, 7] 0 rfl rfl rfl rfl rfl rfl (fun _ => rfl) ?_
  refine cpq ⟨_, rfl, trivial, ?_⟩
  rw [hp1, hf1]
  have hnx2 : (wroteP S.at1 [e18 r ((r : Int) + 1)]).next = (r : Int) + 1 + 1 := by
   show S.at1.next + (S.at1.fit _ : Int) = _
   rw [hf1, (Dv.at1_like S).2.2, hnx]; rfl
  have hlog2 : (wroteP S.at1 [e18 r ((r : Int) + 1)]).T.logical = 2000 := by
   have := (Dv.pen_keep hO1 hdt).2.2
   rw [hp1] at this
   exact this.trans hlog
  generalize wroteP S.at1 [e18 r ((r : Int) + 1)] = W at hp3 hp4 hnx2 hlog2 ⊢
  dsimp only
  refine J.q hX fun b17 => ?_
  refine J.cF ?_
  refine J.q hX fun b19 => ?_
  refine J.nS ((r + 1, W)) (⟨by dsimp only; omega, hp3, by dsimp only; omega, hlog2, hp4⟩) (by dsimp only; omega) [0, 1, 2, 3, 4, 5, 6] rfl rfl
 simp only [decide_eq_false_iff_not, Int.ofNat_lt] at h1
 obtain rfl : r = a := by omega
 have hO1 : S.Ok (8 * Dv.fuel + 0) 0 := hO.less (by unfold Dv.fuel; omega)
 have hft : S.N.fault 1 d 0 r 0 0 = (true, { S.N with plan := [((d : Int), 0, (r : Int))] }) := by
  rw [fault_1 (by rw [hS.dies, hS.blocks, hS.pages]; unfold geoIn; simp; omega), hS.no.plan]; rfl
 have hO2 : ({ S with N := { S.N with plan := [((d : Int), 0, (r : Int))] } } : Dv).Ok (8 * Dv.fuel + 0) (0 + 1) := by
  have hg := hO1.gd.fault 1 d 0 r 0 0
  have hl := Nand.like_fault S.N 1 d 0 r 0 0
  rw [hft] at hg hl
  exact ⟨hg, hO1.t.like hl, hO1.T, hO1.sl, hO1.row, hO1.next⟩
 obtain ⟨W, sq, w1, w2, w3, w4, w5⟩ := hS.fails (e := e18 r ((r : Int) + 1)) hO1 hO2 haP hdD (hf _ (by simp)) (by rw [hlog]; show (r : Int) < 2000; omega) (by omega)
 refine J.q hX fun b21 => ?_
 refine J.cb hX (n_Fault n S.N hO1.gd.ok 0 1 d 0 r 0 0) [4] ?_
 refine cpq ⟨_, rfl, trivial, ?_⟩
 rw [hft]
 dsimp only
 refine J.q hX fun b23 => ?_
 refine J.cF ?_
 refine J.q hX fun b25 => ?_
 refine J.cb hX (l18_entry r (r + 1)) [] ?_
 refine cpq ⟨_, rfl, trivial, ?_⟩
 refine J.q hX fun by_ => ?_
 refine J.ca hX (by kernel_rfl) (pn_Write q n t l ({ S with N := { S.N with plan := [((d : Int), 0, (r : Int))] } } : Dv) _ _ hO2 (.pt (by_ 0) 38 (cellsE [e18 r ((r : Int) + 1)])) (some ⟨by_ 0, 0, none⟩) 1 1 [e18 r ((r : Int) + 1)] (pt_rd _ _ _ _ _ rfl) rfl (by decide) hdt) [3, 4, 5, 6, 7] 0 rfl rfl rfl rfl rfl rfl (fun _ => rfl) ?_
 refine cpq ⟨_, rfl, trivial, ?_⟩
 have hkeep := Dv.pen_keep hO2 hdt
 rw [w1] at hkeep ⊢
 dsimp only at hkeep ⊢
 have hWt := hkeep.1.t
 have hWb : W.t.b ≤ 1000 := by have := hkeep.1.gd.ok.bd16; have := hWt.b; omega
 have w2 : Tb.look W.T.at_ (r : Int) = some ⟨0, ((r + 1 : Nat) : Int), 0, L.without (L.all D) d, sq, 1⟩ := w2
 obtain ⟨x1, x2⟩ := wo_but D (by omega) d hdD hD.1
 rw [x1, show ((r + 1 : Nat) : Int) = (r : Int) + 1 from by omega] at w2
 rw [x1] at w3
 rw [all_mAll D (by omega)] at w4
 refine J.q hX fun b28 => ?_
 refine J.cb hX (tb_Get l W.T r) [6] ?_
 refine cpq ⟨_, rfl, trivial, ?_⟩
 rw [w2, Option.getD_some, Option.isSome_some]
 have hpw2 := pow_bd d (by omega)
 refine J.q hX fun bp => ?_
 have ebut : (1 * 2 ^ min (D : Int).toNat IntKind.i64.bits - 1 - 1 * 2 ^ min (d : Int).toNat IntKind.i64.bits : Int) = mBut D d := by
  rw [hpw.1, hpw2.1, ← x2]; omega
 rw [ebut]
 refine J.q hX fun b30 => ?_
 refine J.plan (.of [0,4,8,12,16,20,24,28,32,36,40,44,49,52,56,60,64,68,73,76,80,84,88,92,96,101,104,108,112,116,120,128,126,132,136,140,144,152,157,160,164,168,150,172,176,180,184,190,192,196,200]) [50] [1,2,3,4,5,6,7,8] (by rw [hX.hP]; kernel_rfl) (by kernel_rfl) ?_
 refine J.qn hX 24 fun b31 => ?_
 dsimp only
 rw [beqI ((r : Int) + 1)]
 refine J.qn hX 6 fun b32 => ?_
 rw [beqI (mBut D d)]
 refine J.q hX fun b33 => ?_
 refine J.cb hX (tl_Mask t W.t hWb hWt.len 0) [5] ?_
 refine cpq ⟨_, rfl, (by first | exact trivial | (repeat' (first | exact trivial | refine ⟨rfl, ?_⟩))), ?_⟩
 rw [w3]
 refine J.qn hX 3 fun b35 => ?_
 rw [beqI (mBut D d)]
 refine J.q hX fun b36 => ?_
 refine J.cb hX (tl_Mask t W.t hWb hWt.len 1) [5] ?_
 refine cpq ⟨_, rfl, (by first | exact trivial | (repeat' (first | exact trivial | refine ⟨rfl, ?_⟩))), ?_⟩
 rw [w4]
 refine J.qn hX 7 fun b38 => ?_
 rw [geo_all D hD.2, beqI (mAll D)]
 refine J.q hX fun b39 => ?_
 refine J.cb hX (n_Broken n W.N) [4] ?_
 refine cpq ⟨_, rfl, (by first | exact trivial | (repeat' (first | exact trivial | refine ⟨rfl, ?_⟩))), ?_⟩
 rw [w5]
 refine J.q hX fun b41 => ?_
 exact J.ru hX [1] ⟨rfl, rfl⟩
end Go.Proofs.YtdocmcapegcoeaaGreat
namespace Go.Proofs.YtdocmcapegcoeaaGreat
open Go
theorem andT {a b : Bool} (ha : a = true) (hb : b = true) : (a && b) = true := by rw [ha, hb]; rfl
theorem joined_of {P : Program} {f : FuncId} {fn : Func} {s : ChangeSpec} {c : OpenClaim} (k0 : (c.wf (OpenSpec.ofChange s)) = true) (k1 : (laidOutB P) = true) (k2 : (mapsRowed P) = true) (k3 : (fn.params.all (P.readableRec ·)) = true) (k4 : (namedTie P c.named s.vars) = true) (k5 : (c.stops == []) = true) (k6 : (P.stops == []) = true) (k7 : (c.knobs == []) = true) (k8 : (P.stopKnobs == []) = true) (k9 : (c.inPlace == P.inPlace f) = true) (k10 : (c.unfollowed == P.unfollowed f) = true) (k11 : (c.recurses == P.recurses f) = true) (k12 : (c.named == P.varsNamed f) = true) (k13 : (c.maps == (fn.params.toList ++ s.plain.varTypes P).any (P.mapsRec ·)) = true) (k14 : (c.ifaces == (fn.params.toList ++ s.plain.varTypes P).any (P.ifacesRec ·)) = true) (k15 : (c.mapsOut == P.mapsAmong fn.resultTypes.toList) = true) (k16 : (c.loops == (fn.params.toList ++ s.plain.varTypes P).any (P.loopsFrom ·)) = true) (k17 : (c.wideKeys == (fn.params.toList ++ s.plain.varTypes P ++ fn.resultTypes.toList).any (P.wideKeysFrom ·)) = true) (k18 : (s.vars.all (P.varReadable ·)) = true) (k19 : (fn.resultTypes.all (fun t => P.readableRec t && decide (t < P.types.size))) = true) (k20 : (c.ifacesOut == fn.resultTypes.toList.any (P.ifacesRec ·)) = true) (k21 : (c.loopsOut == fn.resultTypes.toList.any (P.loopsFrom ·)) = true) (k22 : (c.plainKeys == P.plainKeys) = true) (k23 : (c.shortTexts.isNone) = true) (k24 : (P.stopsHeard) = true) (k25 : (P.mayEnter) = true) (k26 : (c.lifted == P.liftsFinal) = true) (k27 : (P.make == some c.make) = true) (k28a : c.domain.isEmpty = true) (k28 : (c.kinds == []) = true) (k29 : (c.pinned == c.pinnedBy) = true) (k30 : (c.veiled == (fn.params.toList ++ s.plain.varTypes P ++ fn.resultTypes.toList).any (P.veiledRec ·)) = true) (k31 : (c.veiledFits P fn.params.toList (fn.params.toList ++ s.plain.varTypes P ++ fn.resultTypes.toList)) = true) : joinedFacts P f fn s c = true := by
 unfold joinedFacts
 rw [if_pos k28a]
 exact (andT (andT (andT (andT (andT (andT (andT (andT (andT (andT (andT (andT (andT (andT (andT (andT (andT (andT (andT (andT (andT (andT (andT (andT (andT (andT (andT (andT (andT (andT (andT k0 k1) k2) k3) k4) k5) k6) k7) k8) k9) k10) k11) k12) k13) k14) k15) k16) k17) k18) k19) k20) k21) k22) k23) k24) k25) k26) k27) k28) k29) k30) k31)
theorem j_laid : laidOutB Tryz.prog = true := by kernel_rfl
theorem j_rowed : mapsRowed Tryz.prog = true := by kernel_rfl
theorem j_stops : (Tryz.prog.stops == []) = true := by kernel_rfl
theorem j_knobs : (Tryz.prog.stopKnobs == []) = true := by kernel_rfl
theorem j_heard : Tryz.prog.stopsHeard = true := by kernel_rfl
theorem j_enter : Tryz.prog.mayEnter = true := by kernel_rfl
end Go.Proofs.YtdocmcapegcoeaaGreat
