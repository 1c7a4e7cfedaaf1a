/- Helpers, proved here. No condition. -/
import Derived.Test.YtdocmcapegcoeaaGreatU06
import Derived.Test.YtdocmcapegcoeaaGreatU22
import Derived.Test.YtdocmcapegcoeaaGreatU26
set_option maxRecDepth 20000
set_option linter.all false
namespace Go.Proofs.YtdocmcapegcoeaaGreat
open Go
namespace Inv
variable {fd : Int} {S : Dv} {k m : Nat}
end Inv
namespace Inv
variable {fd : Int} {S : Dv} {k m : Nat}
end Inv
namespace Inv
variable {fd : Int} {S : Dv} {k m : Nat}
end Inv
namespace Inv
variable {fd : Int} {S : Dv} {k m : Nat}
theorem countP_range_get {α : Type} (p : α → Bool) (z : α) (l : List α) : l.countP p = (List.range l.length).countP fun i => p (l.getD i z) := by
 induction l with
 | nil => rfl
 | cons x l ih =>
  rw [List.countP_cons, List.length_cons, List.range_succ_eq_map, List.countP_cons, List.countP_map, ih]
  rfl
theorem free_len (h : Inv fd S) (hO : S.Ok k m) : S.free = S.t.blanks := by
 unfold Dv.free pkSome
 rw [List.length_map, ← List.countP_eq_length_filter]
 have hlen := hO.t.len
 unfold Tl.blanks
 rw [countP_range_get _ Sb.zero, hlen]
 refine List.countP_congr fun i hi => ?_
 have hi := List.mem_range.1 hi
 have hhas : S.t.has (i : Nat) = true := Tl.has_iff.2 (by omega)
 obtain ⟨a1, a2⟩ := h.free_iff hO hhas
 rw [a1]
 have e : S.t.blank (i : Nat) = !(S.t.l.getD i Sb.zero).used := by unfold Tl.blank Tl.at_; rw [hhas, Int.toNat_natCast]; rfl
 cases hb : S.t.blank (i : Nat) with
 | false => rw [e] at hb; rw [hb]; simp
 | true => rw [a2 hb]; rw [e] at hb; rw [hb]; simp
end Inv
theorem pkSome_nil {kind : Int → Bool} {o : Int} : ∀ n : Nat, (∀ x : Nat, x < n → (((x : Int) != o) && kind x) = false) → pkSome kind o n = []
 | 0, _ => rfl
 | n + 1, h => by rw [pkSome_succ, if_neg (by rw [h n (by omega)]; decide), pkSome_nil n fun x hx => h x (by omega)]
theorem pkSome_one {kind : Int → Bool} {o : Int} {x : Nat} (hx : (((x : Int) != o) && kind x) = true) (hno : ∀ y : Nat, y ≠ x → (((y : Int) != o) && kind y) = false) : ∀ n : Nat, pkSome kind o n = if x < n then [(x : Int)] else []
 | 0 => rfl
 | n + 1 => by
  rw [pkSome_succ, pkSome_one hx hno n]
  by_cases e : n = x
  ·subst e
   rw [if_pos hx, if_neg (Nat.lt_irrefl _), if_pos (Nat.lt_succ_self _)]; rfl
  ·rw [if_neg (by rw [hno n e]; decide)]
   by_cases h : x < n
   ·rw [if_pos h, if_pos (by omega)]
   ·rw [if_neg h, if_neg (by omega)]
def T1 (m : Int) : Tb := ⟨40, [(1, ⟨0, 0, 0, m, 1, 1⟩)], [(0, 1)], 2⟩
theorem T1_ins0 (m : Int) : (T1 m).ins 0 = [1] := rfl
theorem T1_ins {m b : Int} (h : b ≠ 0) : (T1 m).ins b = [] := by
 unfold Tb.ins
 rw [if_pos]
 unfold Tb.count T1
 simp only [Tb.look]
 rw [if_neg h]; rfl
theorem new_ins (b : Int) : (Tb.new 40).ins b = [] := rfl
theorem lost_dec : ∀ D, D < 7 → 3 ≤ D → (IntKind.i64.wrap ((BitVec.ofInt IntKind.i64.bits (L.all (D : Nat)) &&& BitVec.ofInt IntKind.i64.bits (Tl.andN (L.all (D : Nat)) (L.all (D : Nat)))).toNat : Int) != 0) = false ∧ ∀ d, d < D → (IntKind.i64.wrap ((BitVec.ofInt IntKind.i64.bits (L.all (D : Nat)) &&& BitVec.ofInt IntKind.i64.bits (Tl.andN (L.all (D : Nat)) (Tl.andN (Tl.andN (L.all (D : Nat)) (L.with_ 0 (d : Nat))) 0))).toNat : Int) != 0) = true := by decide +kernel
theorem hurt_T1 {t : Tl} {m : Int} (b : Nat) : pkHurt t (T1 m) b = if b = 0 then (IntKind.i64.wrap ((BitVec.ofInt IntKind.i64.bits m &&& BitVec.ofInt IntKind.i64.bits (Tl.andN (L.all t.d) (t.mask 0))).toNat : Int) != 0) else false := by
 unfold pkHurt
 split
 ·rename_i e; subst e
  show ((T1 m).ins 0).any _ = _
  rw [T1_ins0]
  show (pkLost t (T1 m) 0 1 || false) = _
  rw [Bool.or_false]; rfl
 ·rename_i e
  rw [T1_ins (by omega)]; rfl
theorem seeDead_no {N : Nand} {t : Tl} (h : ∀ i : Nat, N.dead.getD i false = false) : Dv.seeDead N t = t := by
 unfold Dv.seeDead
 have : ∀ (q : List Nat), q.foldl (fun t (d : Nat) => if N.deadAt d then t.die d else t) t = t := by
  intro q
  induction q with
  | nil => rfl
  | cons d q ih =>
   rw [List.foldl_cons]
   have : N.deadAt d = false := by unfold Nand.deadAt; rw [Int.toNat_natCast, h]; simp
   rw [this, if_neg Bool.false_ne_true]; exact ih
 exact this _
theorem SeqI.room {D B P rows : Nat} {S : Dv} {k m : Nat} (h : SeqI D B P rows S) (hO : S.Ok k m) (h1 : 1 ≤ rows) (hP : rows ≤ P) : S.clear = (S, 0) ∧ S.room = (S, 0) := by
 have hg := hO.gd.ok.bd16
 rw [h.dies, h.blocks, h.pages] at hg
 have hb := hO.t.b
 rw [h.blocks] at hb
 have hop : S.op = 0 := by
  rcases h.op with ⟨e, _⟩ | ⟨q, r, e1, e2, e3, e4⟩
  ·omega
  ·have : q = 0 := by
    rcases Nat.eq_zero_or_pos q with e | e
    ·exact e
    ·have : 1 * P ≤ q * P := Nat.mul_le_mul_right _ e
     omega
   rw [e3, this]; rfl
 have hused : ∀ b : Nat, b < B → b ≠ 0 → (S.t.at_ b).used = false := fun b hb h0 => by
  rw [(h.sb b hb).2.2]
  refine decide_eq_false ?_
  have : 1 * P ≤ b * P := Nat.mul_le_mul_right _ (by omega)
  omega
 have hsp : pkSome (pkSpent S.t S.T) S.op S.t.b = [] := pkSome_nil _ fun x hx => by
  by_cases e : x = 0
  ·rw [e, hop]; rfl
  ·unfold pkSpent Tl.blank
   rw [hused x (by omega) e, Tl.has_iff.2 (by omega)]
   simp
 have hc : S.clear = (S, 0) := by
  unfold Dv.clear Dv.clearX
  rw [hsp]; rfl
 have hfr : (S.free : Int) > 4 := by
  have h1 := h.inv.free_len hO
  rw [h1]
  have hlen := hO.t.len
  have : S.t.blanks = (List.range S.t.l.length).countP fun i => !(S.t.at_ (i : Nat)).used := by
   unfold Tl.blanks Tl.at_
   rw [Inv.countP_range_get _ Sb.zero]
   simp
  rw [this, hlen, hb]
  have h2 : (List.range B).countP (fun i => !(S.t.at_ (i : Nat)).used) ≥ (List.range B).countP fun i => decide (i ≠ 0) := by
   refine List.countP_mono_left fun x hx h0 => ?_
   rw [hused x (List.mem_range.1 hx) (of_decide_eq_true h0)]; rfl
  have h3 : ∀ B : Nat, B < 17 → 8 ≤ B → 7 ≤ (List.range B).countP fun i => decide (i ≠ 0) := by decide
  have := h3 B (by omega) (by omega)
  omega
 refine ⟨hc, ?_⟩
 unfold Dv.room
 rw [hc, if_neg (by simp)]
 obtain ⟨c, hc2⟩ : ∃ c, S.t.b = c + 1 := ⟨S.t.b - 1, by omega⟩
 rw [hc2]
 show Dv.roomGo (c + 1) S = _
 unfold Dv.roomGo
 rw [if_pos hfr]
theorem mend_none {D B P : Nat} (hgm : geoMay D B P = true) {k : Nat} (hO : (Dv.new D B P 40).Ok (8 * Dv.fuel + k) 0) :
  ∃ W, (Dv.new D B P 40).pen [e18 1 1] = (W, (1 : Int), (0 : Int)) ∧ SeqI D B P 1 W ∧ W.Ok k 0 ∧ W.T = T1 (L.all D) ∧ W.step 4 = (W, 0, 0) ∧ W.leftN = 0 ∧
   ∀ d : Nat, d < D → pkSome (pkHurt (W.t.die d) (Tb.new 40)) (-1) (W.t.die d).b = [] ∧ pkSome (pkHurt (W.t.die d) W.T) (-1) (W.t.die d).b = [0] := by
 have hg := hO.gd.ok.bd16
 have hg : (3 ≤ D ∧ D ≤ 6) ∧ (8 ≤ B ∧ B ≤ 16) ∧ (2 ≤ P ∧ P ≤ 8) := hg
 have hS := SeqI.new D B P 40
 have hf : ∀ e ∈ [e18 1 1], FitR e := fun e he => by
  simp at he; rw [he]
  exact ⟨by decide, .inl rfl, rfl⟩
 obtain ⟨p1, p2, p3, p4, p5, p6, p7⟩ := hS.pen (l := [e18 1 1]) hO (q := 0) (r := 0) (by omega) (by omega) (by omega) hf (by simp) (by show (1 : Int) ≤ _; omega)
 obtain ⟨a1, a2, a3, a4, a5⟩ := hS.at1 hO (q := 0) (r := 0) (by omega) (by omega) (by omega)
 have hf1 : (Dv.new D B P 40).at1.fit [e18 1 1] = 1 := by rw [p2]; simp; omega
 have hseq := (p6.seqs p7 (i := 0) (by omega)).2.1
 have hat := Dv.at1_like (Dv.new D B P 40)
 have hT : (wroteP (Dv.new D B P 40).at1 [e18 1 1]).T = T1 (L.all D) := by
  show Dv.puts _ _ _ _ _ ((Dv.new D B P 40).at1.fit [e18 1 1]) = _
  rw [hf1, Dv.puts_succ, hseq, a1, a2, a3, hat.2.1, hat.2.2]
  rfl
 rw [hf1] at p1
 generalize wroteP (Dv.new D B P 40).at1 [e18 1 1] = W at p1 p3 p4 hT
 have hWb : W.t.b = B := by have := p4.t.b; rw [p3.blocks] at this; exact this
 have hWd : W.t.d = D := by have := p4.t.d; rw [p3.dies] at this; exact this
 have hhas : W.t.has 0 = true := Tl.has_iff.2 (by omega)
 have hmask : W.t.mask 0 = L.all D := by
  have := p3.inv.msk p4 hhas
  rw [p3.dies] at this
  exact (msk_all this hg.1).1
 obtain ⟨l1, l2⟩ := lost_dec D (by omega) hg.1.1
 have hh : W.hurts = [] := pkSome_nil _ fun x hx => by
  rw [hT, hurt_T1, hWd, hmask, l1]
  simp
 have hroom := (p3.room p4 (by omega) (by omega)).2
 have hseen : W.seen = W := by
  unfold Dv.seen
  rw [seeDead_no p3.no.dead]
 refine ⟨W, p1, p3, p4, hT, ?_, ?_, fun d hd => ?_⟩
 ·unfold Dv.step
  rw [hseen, hroom]
  dsimp only
  rw [if_neg (by decide), hh]
 ·unfold Dv.leftN
  rw [hh]; rfl
 ·have hdb : (W.t.die d).b = B ∧ (W.t.die d).d = D ∧ (W.t.die d).mask 0 = Tl.andN (Tl.andN (L.all (D : Nat)) (L.with_ 0 (d : Nat))) 0 := by
   have htd : W.t.dead = 0 := L.ext p3.inv.tdead.1 (by decide) fun e he => by
    rw [L.has_zero]
    cases hx : L.has W.t.dead (e : Nat) with
    | false => rfl
    | true => have := p3.inv.tdead.2 _ hx; omega
   have htb : (W.t.at_ 0).bad = 0 := L.ext (p3.inv.tbad 0 hhas).1 (by decide) fun e he => by
    rw [L.has_zero]
    cases hx : L.has (W.t.at_ 0).bad (e : Nat) with
    | false => rfl
    | true => have := (p3.inv.tbad 0 hhas).2 _ hx; omega
   have hdie : W.t.die d = ⟨W.t.d, W.t.b, W.t.p, W.t.l, L.with_ W.t.dead d⟩ := by
    unfold Tl.die
    rw [if_pos]
    unfold Tl.hasDie
    rw [decide_eq_true (by omega), decide_eq_true (by omega)]; rfl
   rw [hdie, htd]
   refine ⟨hWb, hWd, ?_⟩
   unfold Tl.mask
   rw [if_pos (by exact hhas)]
   show Tl.andN (Tl.andN (L.all W.t.d) (L.with_ 0 d)) (W.t.at_ 0).bad = _
   rw [htb, hWd]
  refine ⟨pkSome_nil _ fun x hx => ?_, ?_⟩
  ·unfold pkHurt
   rw [new_ins]; simp
  ·rw [hT, pkSome_one (x := 0) ?_ (fun y hy => ?_), hdb.1, if_pos (by omega)]
   ·rfl
   ·rw [hurt_T1, hdb.2.1, hdb.2.2, if_pos rfl, l2 d hd]; rfl
   ·rw [hurt_T1, if_neg hy]; simp
end Go.Proofs.YtdocmcapegcoeaaGreat
namespace Go.Proofs.YtdocmcapegcoeaaGreat
open Go Go.RowKit
theorem s_MendNothing (g0 g1 g2 di : Int) (A : Atom) :
  Fn Tryz.prog 14 [.agg #[.int .i64 g0, .int .i64 g1, .int .i64 g2], .int .i64 di] [A] (fun v As => v = .bool true ∧ As = [A]) := by
 refine Fn.enter [0, 0] Tryz.func14 rfl rfl rfl fun X F hX => ?_
 refine J.q hX fun bb => ?_
 refine J.cb hX (l18_begun) [] ?_
 refine cpq ⟨_, rfl, trivial, ?_⟩
 refine J.q hX fun b2 => ?_
 refine J.cF ?_
 refine J.q hX fun b3 => ?_
 refine J.cb hX (l6_Geo g0 g1 g2) [] ?_
 rintro v As ⟨D, B, P, rfl, hD, hB, hP, rfl⟩
 refine ⟨_, rfl, trivial, ?_⟩
 have hgm : geoMay D B P = true := by simp [geoMay]; omega
 have hd1 := tm_bd di D (by omega)
 have hd2 := tm_2 di D (by omega)
 refine J.q hX fun b5 => ?_
 refine J.cb hX (l18_bench D B P hgm 40) [] ?_
 rintro v As ⟨n, t, l, q, rfl, rfl⟩
 refine ⟨_, rfl, trivial, ?_⟩
 have hO0 : (Dv.new D B P 40).Ok (8 * Dv.fuel + (Dv.costS + 0)) 0 := Dv.Ok.new D B P 40 hgm _ (by decide)
 obtain ⟨W, w1, w2, w3, w4, w5, w6, w7⟩ := mend_none hgm hO0
 have hf : ∀ x ∈ [e18 1 1], x.data.length = 16 := fun x hx => by
  simp at hx
  rw [hx]; rfl
 refine J.q hX fun b7 => ?_
 refine J.cb hX (l18_entry 1 1) [] ?_
 refine cpq ⟨_, rfl, trivial, ?_⟩
 refine J.q hX fun by_ => ?_
 refine J.ca hX (by kernel_rfl) (pn_Write q n t l (Dv.new D B P 40) _ 0 hO0 (.pt (by_ 0) 38 (cellsE [e18 1 1])) (some ⟨by_ 0, 0, none⟩) 1 1 [e18 1 1] (pt_rd _ _ _ _ _ rfl) rfl (by decide) hf) [3, 4, 5, 6, 7] 0 rfl rfl rfl rfl rfl rfl (fun _ => rfl) ?_
 refine cpq ⟨_, rfl, trivial, ?_⟩
 rw [w1]
 dsimp only
 refine J.q hX fun b10 => ?_
 refine J.cF ?_
 refine J.q hX fun b12 => ?_
 refine J.cb hX (n_Ops n W.N) [4] ?_
 refine cpq ⟨_, rfl, trivial, ?_⟩
 refine J.q hX fun b14 => ?_
 refine J.cb hX (mn_Step n t l q W 0 0 w3 (by decide) 4) [3, 4, 5, 6] ?_
 refine cpq ⟨_, rfl, trivial, ?_⟩
 rw [w5]
 dsimp only
 refine J.q hX fun b16 => ?_
 refine J.cb hX (n_Ops n W.N) [4] ?_
 refine cpq ⟨_, rfl, trivial, ?_⟩
 refine J.qn hX 3 fun b18 => ?_
 rw [ne_selfI W.N.ops]
 refine J.q hX fun b19 => ?_
 refine J.cb hX (mn_Left t l W _ _ w3) [5, 6] ?_
 refine cpq ⟨_, rfl, trivial, ?_⟩
 rw [w6]
 refine J.q hX fun b21 => ?_
 refine J.cF ?_
 refine J.q hX fun b23 => ?_
 refine J.cb hX (tb_New 40) [] ?_
 rintro v As ⟨m, rfl, rfl⟩
 refine ⟨_, rfl, trivial, ?_⟩
 obtain ⟨d, hde⟩ := Int.eq_ofNat_of_zero_le hd2.1
 have hdD : d < D := by rw [hde] at hd2; omega
 obtain ⟨z1, z2⟩ := w7 d hdD
 have hdt : (W.t.die d).b ≤ 1000 ∧ (W.t.die d).l.length = (W.t.die d).b := by
  have h1 := w3.t.die d
  have h2 := w3.gd.ok.bd16
  have h3 := h1.b
  exact ⟨by omega, h1.len⟩
 refine J.q hX fun b25 => ?_
 refine J.plan (.of [0,4,8,13,16,20,25,28,32,37,40,46]) [] [2] (by rw [hX.hP]; kernel_rfl) (by kernel_rfl) ?_
 refine J.q hX fun b26 => ?_
 rw [hde]
 refine J.q hX fun b27 => ?_
 refine J.cb hX (tl_Dead t W.t d) [5] ?_
 refine cpq ⟨_, rfl, (by first | exact trivial | (repeat' (first | exact trivial | refine ⟨rfl, ?_⟩))), ?_⟩
 refine J.q hX fun b28 => ?_
 refine J.cb hX (p_Hurt t (W.t.die d) hdt.1 hdt.2 m (Tb.new 40) 40 rfl (by decide)) [5, 8] ?_
 rintro v As ⟨a, c, rfl, rfl⟩
 refine ⟨_, rfl, trivial, ?_⟩
 rw [z1]
 refine J.q hX fun b30 => ?_
 refine J.cb hX (p_Hurt t (W.t.die d) hdt.1 hdt.2 l W.T 40 (by rw [w4]; rfl) (by decide)) [5, 6] ?_
 rintro v As ⟨a2, c2, rfl, rfl⟩
 refine ⟨_, rfl, trivial, ?_⟩
 rw [z2]
 refine J.q hX fun b32 => ?_
 exact J.ru hX [1] ⟨rfl, rfl⟩
end Go.Proofs.YtdocmcapegcoeaaGreat
