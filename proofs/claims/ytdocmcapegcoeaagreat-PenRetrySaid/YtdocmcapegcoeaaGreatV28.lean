/- Helpers, proved here. No condition. -/
import Derived.Test.YtdocmcapegcoeaaGreatRows
import Derived.Test.YtdocmcapegcoeaaGreatV06
import Derived.Test.YtdocmcapegcoeaaGreatV09
import Derived.Test.YtdocmcapegcoeaaGreatV13
import Derived.Test.YtdocmcapegcoeaaGreatV21
import Derived.Test.YtdocmcapegcoeaaGreatV23
import Derived.Test.YtdocmcapegcoeaaGreatV25
import Derived.Test.YtdocmcapegcoeaaGreatV26
import Derived.Test.YtdocmcapegcoeaaGreatV27
import Derived.JoinedOf
set_option maxRecDepth 20000
set_option linter.all false
namespace Go.Proofs.YtdocmcapegcoeaaGreat
open Go
theorem puts_look {T : Tb} {b r mk : Int} {es : List En} : ∀ n : Nat, (∀ j, j < n → Tb.ok T (es.getD j En.zero) = true) → (∀ j, j < n → ∀ a, Tb.look T.at_ (es.getD j En.zero).lpn = some a → a.seq ≤ (es.getD j En.zero).seq) → (∀ i j, i < j → j < n → (es.getD i En.zero).lpn ≠ (es.getD j En.zero).lpn) →
  (∀ j, j < n → Tb.look (Dv.puts T b r mk es n).at_ (es.getD j En.zero).lpn = some ⟨b, r, j, mk, (es.getD j En.zero).seq, (es.getD j En.zero).role⟩) ∧ (∀ i, (∀ j, j < n → (es.getD j En.zero).lpn ≠ i) → Tb.look (Dv.puts T b r mk es n).at_ i = Tb.look T.at_ i)
 | 0, _, _, _ => ⟨fun j hj => by omega, fun i _ => rfl⟩
 | n + 1, h1, h2, h3 => by
  obtain ⟨i1, i2⟩ := puts_look n (fun j hj => h1 j (by omega)) (fun j hj => h2 j (by omega)) (fun i j hij hj => h3 i j hij (by omega))
  have hlog : (Dv.puts T b r mk es n).logical = T.logical := by
   clear i1 i2 h1 h2 h3
   induction n with
   | zero => rfl
   | succ n ih => rw [Dv.puts_succ, Tb.put_logical]; exact ih
  have hlk : Tb.look (Dv.puts T b r mk es n).at_ (es.getD n En.zero).lpn = Tb.look T.at_ (es.getD n En.zero).lpn := i2 _ fun j hj => h3 j n hj (by omega)
  have hp : Tb.putB (Dv.puts T b r mk es n) (es.getD n En.zero) = true := by
   unfold Tb.putB
   have e1 : Tb.ok (Dv.puts T b r mk es n) (es.getD n En.zero) = Tb.ok T (es.getD n En.zero) := by unfold Tb.ok; rw [hlog]
   have e2 : Tb.elder (Dv.puts T b r mk es n) (es.getD n En.zero) = false := by
    unfold Tb.elder
    rw [hlk]
    cases hh : Tb.look T.at_ (es.getD n En.zero).lpn with
    | none => rfl
    | some a => have := h2 n (by omega) a hh; exact decide_eq_false (by omega)
   rw [e1, e2, h1 n (by omega)]; rfl
  rw [Dv.puts_succ]
  refine ⟨fun j hj => ?_, fun i hi => ?_⟩
  ·rw [V.look_put]
   by_cases e : j = n
   ·subst e; rw [if_pos ⟨hp, rfl⟩]
   ·rw [if_neg (fun hh => h3 j n (by omega) (by omega) hh.2)]
    exact i1 j (by omega)
  ·rw [V.look_put, if_neg (fun hh => hi n (by omega) hh.2.symm)]
   exact i2 i fun j hj => hi j (by omega)
namespace Last
variable {fd : Int} {Q : Dv} {l : List En} {k m : Nat}
theorem opn (h : Last fd Q l) (hQ : Inv fd Q) : Opn fd Q := hQ.opn h.left
theorem seqs (_h : Last fd Q l) (hO : Q.Ok k m) {i : Nat} (hi : i < Q.fit l) : i < l.length ∧ (Q.es l).getD i En.zero = { l.getD i En.zero with seq := Q.next + i } ∧ i < (Q.es l).length := by
 have := Dv.fit_le Q l
 have hs := Dv.slots_le Q.mask
 have hi2 : i < (G.slots Q.mask).toNat := by omega
 refine ⟨by omega, ?_, by rw [Dv.es_len]; exact hi2⟩
 unfold Dv.es
 rw [num_get hi2]
 unfold Dv.numAt
 rw [if_pos (by omega)]
theorem inv (h : Last fd Q l) (hQ : Inv fd Q) (hO : Q.Ok k m) : Inv fd (wroteP Q l) := by
 have ho := h.opn hQ
 have hnx := hO.next
 have hf := Dv.fit_le Q l
 have he := Dv.es_len Q l
 have := h.turn.inv.puts h.turn.full (show ((Q.wrote l).t.at_ Q.op).used = true from ho.used) (fun _ => by show Q.row < Q.row + 1; omega) Q.T rfl (Q.fit l) (by omega) (fun i hi => by
  obtain ⟨_, e2, _⟩ := h.seqs hO hi
  rw [e2]
  show 1 ≤ Q.next + (i : Int) ∧ Q.next + (i : Int) < Q.next + (Q.fit l : Int)
  omega)
 exact this
theorem look (h : Last fd Q l) (hQ : Inv fd Q) (hO : Q.Ok k m) (hf : ∀ e ∈ l, FitR e) (hlg : ∀ e ∈ l, e.lpn < Q.T.logical) (hnd : (l.map (·.lpn)).Nodup) :
  (∀ j, j < Q.fit l → Tb.look (wroteP Q l).T.at_ (l.getD j En.zero).lpn = some ⟨Q.op, Q.row, j, Q.mask, Q.next + j, (l.getD j En.zero).role⟩) ∧ (∀ i, (∀ j, j < Q.fit l → (l.getD j En.zero).lpn ≠ i) → Tb.look (wroteP Q l).T.at_ i = Tb.look Q.T.at_ i) := by
 have hes := fun j (hj : j < Q.fit l) => h.seqs hO hj
 have hmem : ∀ j, j < Q.fit l → l.getD j En.zero ∈ l := fun j hj => getD_mem (hes j hj).1
 obtain ⟨a1, a2⟩ := puts_look (T := Q.T) (b := Q.op) (r := Q.row) (mk := Q.mask) (es := Q.es l) (Q.fit l) (fun j hj => by
   rw [(hes j hj).2.1]
   have hfe := hf _ (hmem j hj)
   have := hlg _ (hmem j hj)
   unfold Tb.ok
   have e1 : decide (({ l.getD j En.zero with seq := Q.next + (j : Int) } : En).lpn < 0) = false := decide_eq_false (by have := hfe.lpn; show ¬ (l.getD j En.zero).lpn < 0; omega)
   have e2 : decide (({ l.getD j En.zero with seq := Q.next + (j : Int) } : En).lpn ≥ Q.T.logical) = false := decide_eq_false (by show ¬ (l.getD j En.zero).lpn ≥ Q.T.logical; omega)
   rw [e1, e2]
   show (!(false || false || ((l.getD j En.zero).role != 1 && (l.getD j En.zero).role != 2 && (l.getD j En.zero).role != 4))) = true
   rcases hfe.role with e | ⟨e | e, _⟩ <;> rw [e] <;> rfl)
  (fun j hj a ha => by
   rw [(hes j hj).2.1] at ha ⊢
   have := (hQ.st _ a ha).seq
   show a.seq ≤ Q.next + (j : Int)
   omega)
  (fun i j hij hj => by
   rw [(hes j hj).2.1, (hes i (by omega)).2.1]
   show (l.getD i En.zero).lpn ≠ (l.getD j En.zero).lpn
   intro e
   have g1 := (hes j hj).1
   have g2 := (hes i (by omega)).1
   have : (l.map (·.lpn))[i]? = (l.map (·.lpn))[j]? := by
    rw [List.getElem?_map, List.getElem?_map, List.getElem?_eq_getElem g1, List.getElem?_eq_getElem g2]
    rw [List.getD_eq_getElem?_getD, List.getD_eq_getElem?_getD, List.getElem?_eq_getElem g1, List.getElem?_eq_getElem g2] at e
    exact congrArg some e
   have := (List.getElem?_inj (by rw [List.length_map]; exact g2) hnd).1 this
   omega)
 refine ⟨fun j hj => ?_, fun i hi => ?_⟩
 ·have := a1 j hj
  rw [(hes j hj).2.1] at this
  exact this
 ·refine a2 i fun j hj => ?_
  rw [(hes j hj).2.1]
  exact hi j hj
theorem stay (h : Last fd Q l) (hQ : Inv fd Q) (hO : Q.Ok k m) (hf : ∀ e ∈ l, FitR e) {i : Int} {a : AtV} (ha : Std fd Q i a) : R.read (wroteP Q l).N a.block a.row a.slot a.mask = R.read Q.N a.block a.row a.slot a.mask :=
 (hQ.turn_std h.turn hO h.left hf h.bd ha).2
theorem reads (h : Last fd Q l) (hQ : Inv fd Q) (hO : Q.Ok k m) {j : Nat} (hj : j < Q.fit l) : R.read (wroteP Q l).N Q.op Q.row j Q.mask = ({ l.getD j En.zero with seq := Q.next + j }, 0) := by
 obtain ⟨_, e2, e3⟩ := h.seqs hO hj
 rw [← e2]
 exact h.turn.full.read h.turn.inv.lit.off h.turn.inv.dead e3
end Last
theorem NoF.new (d b p : Nat) (lg : Int) : NoF (Dv.mk (Nand.new d b p) (Tl.new d b p) (Tb.new lg) (-1) 0 0 1) :=
 ⟨fun i => by
  show (List.replicate d false).getD i false = false
  rw [List.getD_eq_getElem?_getD, List.getElem?_replicate]
  split <;> rfl, rfl, fun _ _ => rfl⟩
theorem Inv.new (fd : Int) (d b p : Nat) (lg : Int) : Inv fd (Dv.mk (Nand.new d b p) (Tl.new d b p) (Tb.new lg) (-1) 0 0 1) := by
 refine ⟨Nand.Lit.new d b p, fun i _ => (NoF.new d b p lg).dead i, fun a ha => (by cases ha), fun _ _ _ => ⟨rfl, rfl⟩, ⟨by show L.set 0 = true; decide, fun d hd => (by have : L.has 0 d = true := hd; rw [L.has_zero] at this; cases this)⟩, fun bb hb => ?_, .inl rfl, fun bb hb hu e he => rfl, fun i a ha => (by cases ha)⟩
 have : (Tl.new d b p).at_ bb = Sb.zero := by
  unfold Tl.new Tl.at_
  dsimp only
  rw [List.getD_eq_getElem?_getD, List.getElem?_replicate]
  split <;> rfl
 show L.set ((Tl.new d b p).at_ bb).bad = true ∧ _
 rw [this]
 refine ⟨by decide, fun e he => ?_⟩
 have he : L.has 0 e = true := he
 rw [L.has_zero] at he; cases he
namespace Inv
variable {fd : Int} {S : Dv} {k m : Nat}
end Inv
namespace SeqI
variable {D B P rows : Nat} {S : Dv} {k m : Nat} {l : List En}
end SeqI
end Go.Proofs.YtdocmcapegcoeaaGreat
namespace Go.Proofs.YtdocmcapegcoeaaGreat
open Go Go.RowKit
theorem Dv.Ok.fault0 {S : Dv} {k m : Nat} (h : S.Ok k m) (kd x y z n xx : Int) (hk : kd ≠ 1) : ({ S with N := (S.N.fault kd x y z n xx).2 } : Dv).Ok k m :=
 ⟨h.gd.fault0 kd x y z n xx hk, h.t.like (Nand.like_fault _ _ _ _ _ _ _), h.T, h.sl, h.row, h.next⟩
namespace B18
def S0 : Dv := Dv.new 3 8 2 20
def S1 : Dv := (S0.pen [e18 1 1, e18 2 2, e18 3 3]).1
def S2 : Dv := (S1.pen [e18 3 3]).1
def S3 : Dv := (S2.carry 0 2).1
def S4 : Dv := { S3 with N := (S3.N.fault 4 2 0 0 0 0).2 }
def S5 : Dv := (S4.step 2).1
def S6 : Dv := S5.room.1
def S7 : Dv := (S6.torn [e18 9 9]).1
theorem h1 : (S0.pen [e18 1 1, e18 2 2, e18 3 3]).2 = (2, 0) := by kernel_rfl
theorem h2 : (S1.pen [e18 3 3]).2 = (1, 0) := by kernel_rfl
theorem h3 : (S2.carry 0 2).2 = (2, 0) := by kernel_rfl
theorem h4 : Tb.look S3.T.at_ 1 = some ⟨1, 0, 0, 7, 4, 1⟩ := by kernel_rfl
theorem h5 : S3.op = 1 := by kernel_rfl
theorem h6 : (S4.step 2).2 = (1, 0) := by kernel_rfl
theorem h7 : S5.leftN = 2 := by kernel_rfl
theorem h8 : S5.N.broken = 0 := by kernel_rfl
theorem h9 : S5.room.2 = 0 := by kernel_rfl
theorem h10 : (S6.torn [e18 9 9]).2 = 0 := by kernel_rfl
theorem h11 : S7.clear.2 = 0 := by kernel_rfl
def U : Nat := 10000000000
theorem G0 : S0.Ok (10 * U) 0 := Dv.Ok.new 3 8 2 20 rfl _ (by decide)
theorem d3 : ∀ s ∈ [e18 1 1, e18 2 2, e18 3 3], s.data.length = 16 := by decide
theorem d1 : ∀ s ∈ [e18 3 3], s.data.length = 16 := by decide
theorem d9 : ∀ s ∈ [e18 9 9], s.data.length = 16 := by decide
theorem G1 : S1.Ok (9 * U) 0 := (Dv.pen_keep (G0.less (by decide : 8 * Dv.fuel + 9 * U ≤ _)) d3).1
theorem G2 : S2.Ok (8 * U) 0 := (Dv.pen_keep (G1.less (by decide : 8 * Dv.fuel + 8 * U ≤ _)) d1).1
theorem G3 : S3.Ok (7 * U) 0 := (Dv.carry_keep (G2.less (by decide : Dv.costC + 7 * U ≤ _)) 0 2).1
theorem G4 : S4.Ok (7 * U) 0 := Dv.Ok.fault0 G3 4 2 0 0 0 0 (by decide)
theorem G5 : S5.Ok (6 * U) 0 := (Dv.step_keep (G4.less (by decide : Dv.costS + 6 * U ≤ _)) 2).1
theorem G6 : S6.Ok (5 * U) 0 := (Dv.room_keep (G5.less (by decide : Dv.costM + 5 * U ≤ _))).1
theorem G7 : S7.Ok (4 * U) 0 := (Dv.tornGo_keep 1 S6 [e18 9 9] _ (G6.less (by decide : Dv.costT * 1 + 4 * U ≤ _)) d9).1
end B18
end Go.Proofs.YtdocmcapegcoeaaGreat
namespace Go.Proofs.YtdocmcapegcoeaaGreat
open Go Go.RowKit
open B18
theorem l16_Begun : Fn Tryz.prog 49 [] [] (fun v As => v = .bool true ∧ As = []) := by
 refine Fn.enter [] Tryz.func49 rfl rfl rfl fun X F hX => ?_
 refine J.q hX fun b1 => ?_
 refine J.cb hX (l16_begun) [] ?_
 refine cpq ⟨_, rfl, trivial, ?_⟩
 refine J.q hX fun b3 => ?_
 exact J.ru hX [] ⟨rfl, rfl⟩
theorem l18_begun : Fn Tryz.prog 15 [] [] (fun v As => v = .bool true ∧ As = []) := by
 refine Fn.enter [] Tryz.func15 rfl rfl rfl fun X F hX => ?_
 refine J.q hX fun b4 => ?_
 refine J.cb hX (l18_bench 3 8 2 rfl 20) [] ?_
 rintro v As ⟨n, t, l, q, rfl, rfl⟩
 refine ⟨_, rfl, trivial, ?_⟩
 rw [show Dv.new 3 8 2 20 = S0 from rfl]
 refine J.q hX fun b6 => ?_
 refine J.cF ?_
 refine J.q hX fun b7 => ?_
 refine J.cb hX (l18_entry 1 1) [] ?_
 refine cpq ⟨_, rfl, trivial, ?_⟩
 refine J.q hX fun b9 => ?_
 refine J.cb hX (l18_entry 2 2) [] ?_
 refine cpq ⟨_, rfl, trivial, ?_⟩
 refine J.q hX fun b11 => ?_
 refine J.cb hX (l18_entry 3 3) [] ?_
 refine cpq ⟨_, rfl, trivial, ?_⟩
 refine J.q hX fun bx => ?_
 refine J.ca hX (by kernel_rfl) (pn_Write q n t l S0 (9 * U) 0 (G0.less (by decide)) (.pt (bx 0) 38 (cellsE [e18 1 1, e18 2 2, e18 3 3])) (some ⟨bx 0, 0, none⟩) 3 3 [e18 1 1, e18 2 2, e18 3 3] (pt_rd _ _ _ _ _ rfl) rfl (by decide) B18.d3) [1, 2, 3, 4, 5] 0 rfl rfl rfl rfl rfl rfl (fun _ => rfl) ?_
 refine cpq ⟨_, rfl, trivial, ?_⟩
 rw [show (S0.pen [e18 1 1, e18 2 2, e18 3 3]).1 = S1 from rfl, h1]
 refine J.q hX fun b14 => ?_
 refine J.cb hX (l18_entry 3 3) [] ?_
 refine cpq ⟨_, rfl, trivial, ?_⟩
 refine J.q hX fun by_ => ?_
 refine J.ca hX (by kernel_rfl) (pn_Write q n t l S1 (8 * U) 0 (G1.less (by decide)) (.pt (by_ 0) 38 (cellsE [e18 3 3])) (some ⟨by_ 0, 0, none⟩) 1 1 [e18 3 3] (pt_rd _ _ _ _ _ rfl) rfl (by decide) B18.d1) [1, 2, 3, 4, 6] 0 rfl rfl rfl rfl rfl rfl (fun _ => rfl) ?_
 refine cpq ⟨_, rfl, trivial, ?_⟩
 rw [show (S1.pen [e18 3 3]).1 = S2 from rfl, h2]
 refine J.q hX fun b17 => ?_
 refine J.cb hX (sw_Carry n t l q S2 (7 * U) 0 (G2.less (by decide)) 0 2) [1, 2, 3, 4] ?_
 refine cpq ⟨_, rfl, trivial, ?_⟩
 rw [show (S2.carry 0 2).1 = S3 from rfl, h3]
 refine J.q hX fun b19 => ?_
 refine J.cb hX (tb_Get l S3.T 1) [4] ?_
 refine cpq ⟨_, rfl, trivial, ?_⟩
 rw [h4, Option.getD_some, Option.isSome_some]
 refine J.q hX fun ba => ?_
 refine J.cb hX (pn_Open q n t l S3) [1] ?_
 refine cpq ⟨_, rfl, trivial, ?_⟩
 rw [h5]
 refine J.q hX fun b22 => ?_
 refine J.cb hX (n_Fault n S3.N G3.gd.ok 0 4 2 0 0 0 0) [2] ?_
 refine cpq ⟨_, rfl, trivial, ?_⟩
 rw [show (S3.N.fault 4 2 0 0 0 0).2 = S4.N from rfl, show PenA q n t l S3 = PenA q n t l S4 from rfl, show S3.t = S4.t from rfl, show S3.T = S4.T from rfl]
 refine J.q hX fun b24 => ?_
 refine J.cb hX (mn_Step n t l q S4 (6 * U) 0 (G4.less (by decide)) (by decide) 2) [1, 2, 3, 4] ?_
 refine cpq ⟨_, rfl, trivial, ?_⟩
 rw [show (S4.step 2).1 = S5 from rfl, h6]
 refine J.q hX fun b26 => ?_
 refine J.cb hX (l16_Begun) [] ?_
 refine cpq ⟨_, rfl, trivial, ?_⟩
 refine J.q hX fun b28 => ?_
 refine J.cb hX (mn_Left t l S5 (6 * U) 0 G5) [3, 4] ?_
 refine cpq ⟨_, rfl, trivial, ?_⟩
 rw [h7]
 refine J.q hX fun b30 => ?_
 refine J.cb hX (n_Broken n S5.N) [2] ?_
 refine cpq ⟨_, rfl, trivial, ?_⟩
 rw [h8]
 refine J.q hX fun b32 => ?_
 refine J.cb hX (sw_Room n t l q S5 (5 * U) 0 (G5.less (by decide)) (by decide)) [1, 2, 3, 4] ?_
 refine cpq ⟨_, rfl, trivial, ?_⟩
 rw [show S5.room.1 = S6 from rfl, h9]
 refine J.q hX fun b34 => ?_
 refine J.cb hX (l18_entry 9 9) [] ?_
 refine cpq ⟨_, rfl, trivial, ?_⟩
 refine J.q hX fun b36 => ?_
 refine J.effG hX tk rfl rfl rfl (fun _ => rfl) (by (repeat' (first | exact Conj.nil | refine Conj.cons ?_ ?_ | omega | exact hq0 | (simpa using hq0) | (exact fun h => h) | exact rfl | (intro hq; have hq0 := hq; try simp only [Bool.and_eq_true, Bool.or_eq_true, decide_eq_true_eq, Bool.not_eq_true', decide_eq_false_iff_not] at hq) | (simp; done) | (simp; omega) | decide))) (fun _ => rfl) fun bt => ⟨trivial, ?_⟩
 refine J.q hX fun b37 => ?_
 refine J.ca hX (by kernel_rfl) (mn_Torn n t l q S6 (4 * U) 0 (.pt bt 38 (cellsE [e18 9 9])) (some (bt, 0)) 1 1 [e18 9 9] (pt_rd _ _ _ _ _ rfl) rfl (by decide) (by decide) (fun h => by cases h) B18.d9 (G6.less (by decide)) (by decide)) [1, 2, 3, 4, 8] 0 rfl rfl rfl rfl rfl rfl (fun _ => rfl) ?_
 refine cpq ⟨_, rfl, trivial, ?_⟩
 rw [show (S6.torn [e18 9 9]).1 = S7 from rfl, h10]
 refine J.q hX fun b39 => ?_
 refine J.cb hX (pn_Open q n t l S7) [1] ?_
 refine cpq ⟨_, rfl, trivial, ?_⟩
 refine J.q hX fun b41 => ?_
 refine J.ca hX (by kernel_rfl) (sw_Clear n t l S7.N S7.t S7.T (3 * U) 0 (G7.gd.less (by decide) (Nat.le_refl _)) (by decide) G7.t S7.op) [2, 3, 4] 0 rfl rfl rfl rfl rfl rfl (fun _ => rfl) ?_
 refine cpq ⟨_, rfl, trivial, ?_⟩
 rw [show (Dv.clearX S7.N S7.t S7.T S7.op).2.2 = 0 from h11]
 refine J.q hX fun b43 => ?_
 exact J.ru hX [] ⟨rfl, rfl⟩
end Go.Proofs.YtdocmcapegcoeaaGreat
namespace Go.Proofs.YtdocmcapegcoeaaGreat
open Go Go.RowKit
theorem e18_fit {k s : Int} (h : 0 ≤ k ∧ k ≤ 65535) : FitR (e18 k s) := ⟨h, .inl rfl, rfl⟩
end Go.Proofs.YtdocmcapegcoeaaGreat
namespace Go.Proofs.YtdocmcapegcoeaaGreat
open Go
theorem Inv.planned {fd : Int} {S : Dv} (h : Inv fd S) (p : List A3') (hp : ∀ a ∈ p, a.1 = fd) : Inv fd { S with N := { S.N with plan := p } } := by
 have hl : S.N.Like { S.N with plan := p } := ⟨rfl, rfl, rfl⟩
 refine ⟨⟨h.lit.off, h.lit.cuts⟩, h.dead, hp, h.flags, h.tdead, h.tbad, ?_, h.blank, fun i a ha => ?_⟩
 ·rcases h.op with e | e
  ·exact .inl e
  ·exact .inr ⟨e.blk, e.used, e.row, e.mask, e.cells⟩
 ·have hs := h.st i a ha
  obtain ⟨l, g1, g2⟩ := hs.row
  exact ⟨⟨l, g1.keep hl fun _ _ => rfl, g2⟩, hs.used, hs.below, hs.seq⟩
theorem Inv.went1 {fd : Int} {S : Dv} {k m : Nat} (h : Inv fd S) (hO : S.Ok k m) (hl : S.at1.left = true) : Went fd S S.at1 0 := by
 unfold Dv.at1 at hl ⊢
 split
 ·exact Went.refl h
 ·rename_i hh
  rw [if_neg hh] at hl
  have hf : S.left = false := by simpa using hh
  have := (Dv.left_spec hl).1
  exact (h.opens hO hf (by show ¬ S.pick < 0; have : 0 ≤ S.pick := this; omega)).1
end Go.Proofs.YtdocmcapegcoeaaGreat
namespace Go.Proofs.YtdocmcapegcoeaaGreat
open Go Go.RowKit
theorem beqI (z : Int) : (z == z) = true := by simp
theorem l18_alike (l s1 s2 r : Int) (d : List UInt8) (hd : d.length = 16) : Fn Tryz.prog 35 [enV ⟨l, s1, r, d⟩, enV ⟨l, s2, r, d⟩] [] (fun v As => v = .bool true ∧ As = []) := by
 refine Fn.enter [0, 0] Tryz.func35 rfl rfl rfl fun X F hX => ?_
 refine J.qn hX 13 fun b1 => ?_
 rw [beqI l]
 refine J.qn hX 6 fun b2 => ?_
 rw [beqI r]
 refine J.qn hX 6 fun b3 => ?_
 refine J.val hX (.bool true) 0 rfl rfl (fun hg a w he hw => (eqAgg_run (xs := dataC d) (ys := dataC d) rfl rfl rfl he rfl rfl leavesD (fitsD _) (fitsD _) mkD gdD).trans (by rw [eqD _ _ hd hd, decide_eq_true rfl])) rfl trivial ?_
 refine J.q hX fun b4 => ?_
 exact J.ru hX [] ⟨rfl, rfl⟩
theorem umapE : Tryz.prog.underlying 60 = some (.map 3 38) := by kernel_rfl
def wM (l : List (Int × En)) : List (Int × Value) := l.map fun x => (x.1, enV x.2)
theorem aput_wM (l : List (Int × En)) (k : Int) (v : En) : aput (wM l) k (enV v) = wM (Tb.put1 l k v) := aput_map enV k v l
theorem wM_get {l : List (Int × En)} {j : Nat} {y : Int × Value} (h : (wM l)[j]? = some y) : ∃ x ∈ l, y = (x.1, enV x.2) := by
 unfold wM at h
 rw [List.getElem?_map] at h
 cases hx : l[j]? with
 | none => rw [hx] at h; cases h
 | some x => rw [hx] at h; injection h with h; exact ⟨x, List.mem_of_getElem? hx, h.symm⟩
structure Sts (N : Nand) (T : Tb) (W : List (Int × En)) : Prop where
 each : ∀ x ∈ W, ∃ a y, Tb.look T.at_ x.1 = some a ∧ R.read N a.block a.row a.slot a.mask = (y, 0) ∧ y.lpn = x.2.lpn ∧ y.role = x.2.role ∧ y.data = x.2.data ∧ y.seq = a.seq ∧ y.data.length = 16
 len : T.at_.length = W.length
theorem l18_stands (n l b : Nat) (N : Nand) (hN : N.Ok) (hR : N.Room) (hoff : N.off = false) (T : Tb) (W : List (Int × En)) (h : Sts N T W) : Fn Tryz.prog 31 [.pointer (some ⟨n, 0, none⟩), .pointer (some ⟨l, 0, none⟩), .map (some b)] [NandA n N, TbA l T, mapA b kI (wM W)]
  (fun v As => v = .bool true ∧ As = [NandA n N, TbA l T, mapA b kI (wM W)]) := by
 have hlen : (wM W).length = W.length := by unfold wM; rw [List.length_map]
 refine Fn.enter [2, 3, 4] Tryz.func31 rfl rfl rfl fun X F hX => ?_
 refine J.q hX fun b5 => ?_
 refine J.rangeMap hX 3 umapE rfl rfl rfl rfl rfl rfl rfl (fun _ => rfl) (fun _ => rfl) fun r => ⟨trivial, ?_⟩
 refine J.q hX fun b6 => ?_
 refine J.lo (α := (List Nat)) (fun z => True) (fun z => [⟨14, .pointer (some ⟨r, 0, none⟩), 0, .tt⟩, ⟨0, .pointer (some ⟨n, 0, none⟩), 2, .tt⟩, ⟨1, .pointer (some ⟨l, 0, none⟩), 3, .tt⟩, ⟨2, .map (some b), 4, .tt⟩]) [3] (fun z => [itA b r kI (wM W) z]) (fun z => W.length - z.length) ([]) (trivial) rfl ?_ (fun _ => rfl) fun z hI => ?_
 ·rfl
 refine J.q hX fun b8 => ?_
 refine J.know (p := z.Nodup ∧ ∀ i ∈ z, i < W.length) (fun h s => ?_) fun hk => ?_
 ·obtain ⟨_, _, _, _, _, _, _, _, h1, h2, _⟩ := s.get (i := 3) rfl
  exact ⟨h1, fun i hi => by have := h2 i hi; omega⟩
 have hle := nodup_le _ _ hk.1 hk.2
 refine J.rangeNext hX 3 rfl rfl rfl rfl rfl rfl rfl (fun _ => rfl) (fun _ => rfl) (fun hp => ⟨trivial, ?_⟩) (fun j y hj hy => ⟨trivial, ?_⟩)
 ·refine J.q hX fun b9 => ?_
  refine J.cF ?_
  refine J.turn1 [3] rfl (As := [mapA b kI (wM W)]) (fun h s => it_map s) rfl ?_
  refine J.q hX fun b10 => ?_
  refine J.cb hX (tb_Len l T) [2] ?_
  refine cpq ⟨_, rfl, trivial, ?_⟩
  rw [h.len]
  refine J.q hX fun b12 => ?_
  refine J.val hX (.int .i64 W.length) 0 rfl rfl (fun hg a w he hs => ?_) rfl trivial ?_
  ·refine (len_map_run umapE rfl rfl he rfl (hs.get (i := 3) rfl)).trans ?_
   rw [hlen]
  refine J.qn hX 2 fun b13 => ?_
  rw [beqI]
  refine J.q hX fun b14 => ?_
  exact J.ru hX [1, 2, 3] ⟨rfl, rfl⟩
 ·obtain ⟨x, hx, rfl⟩ := wM_get hy
  obtain ⟨a, e, e1, e2, e3, e4, e5, e6, e7⟩ := h.each x hx
  obtain ⟨kx, lx, sx, rx, dx⟩ := x
  obtain ⟨le, se, re, de⟩ := e
  dsimp only at e3 e4 e5 e6 e7
  subst e3 e4 e5 e6
  have hjl : j < W.length := by have := (List.getElem?_eq_some_iff.1 hy).1; omega
  refine J.q hX fun b15 => ?_
  refine J.cT ?_
  refine J.q hX fun b16 => ?_
  have hlt : (z ++ [j]).length ≤ W.length := nodup_le _ _ (by
   rw [List.nodup_append]
   exact ⟨hk.1, by simp, fun a ha b hb => by simp at hb; subst hb; rintro rfl; exact hj ha⟩) (fun i hi => by
   rw [List.mem_append] at hi
   rcases hi with hi | hi
   ·exact hk.2 i hi
   ·simp at hi; subst hi; exact hjl)
  rw [List.length_append, List.length_singleton] at hlt
  refine J.rangeEntry hX 3 rfl rfl rfl rfl rfl rfl rfl hy rfl ⟨trivial, ?_⟩
  refine J.q hX fun bb => ?_
  refine J.cb hX (tb_Get l T kx) [2] ?_
  refine cpq ⟨_, rfl, trivial, ?_⟩
  rw [e1, Option.getD_some, Option.isSome_some]
  refine J.q hX fun bp => ?_
  refine J.cF ?_
  refine J.q hX fun b19 => ?_
  refine J.cb hX (f9_Read n N hN hR hoff a.block a.row a.slot a.mask) [1] ?_
  refine cpq ⟨_, rfl, trivial, ?_⟩
  rw [e2]
  dsimp only
  refine J.q hX fun bq => ?_
  refine J.cb hX (l18_alike le a.seq sx re de e7) [] ?_
  refine cpq ⟨_, rfl, trivial, ?_⟩
  refine J.qn hX 8 fun b22 => ?_
  rw [ne_selfI a.seq]
  refine J.q hX fun b23 => ?_
  refine J.cF ?_
  refine J.q hX fun b24 => ?_
  refine J.nS ((z ++ [j])) (trivial) (by simp only [List.length_append, List.length_singleton]; omega) [0, 1, 2, 3] rfl rfl
end Go.Proofs.YtdocmcapegcoeaaGreat
namespace Go.Proofs.YtdocmcapegcoeaaGreat
open Go
namespace Inv
variable {fd : Int} {S : Dv} {k m : Nat} {l : List En}
theorem full (h : Inv fd S) (hO : S.Ok k m) (hr : S.rows = 0) : S.left = false ∧ S.pick < 0 := by
 have hg := hO.gd.ok.bd16
 unfold Dv.rows at hr
 have h1 : S.N.pages * S.t.blanks = 0 := by omega
 have h2 : S.t.blanks = 0 := by
  rcases Nat.mul_eq_zero.1 h1 with e | e
  ·omega
  ·exact e
 refine ⟨?_, ?_⟩
 ·cases hl : S.left with
  | false => rfl
  | true =>
   have := Dv.left_spec hl
   rw [if_pos (by omega)] at hr
   omega
 ·refine Classical.byContradiction fun hp => ?_
  have := Tl.blanks_open hO.t.len (Dv.pick_blank hp)
  omega
theorem write_any : ∀ (ρ f : Nat) (S : Dv) (k : Nat), Inv fd S → S.Ok (8 * (f + ρ + 1) + k) m → S.rows ≤ ρ → (∀ e ∈ l, FitR e) → l.length ≠ 0 → S.next + 7 * ((ρ : Int) + 1) ≤ 1099511627775 →
  ∃ γ Q, Went fd S Q γ ∧ ((Q.Ok (8 + k) m ∧ Last fd Q l ∧ Dv.write (f + ρ + 1) S l = (wroteP Q l, (Q.fit l : Int), (0 : Int))) ∨ Dv.write (f + ρ + 1) S l = (Q, (0 : Int), (11 : Int)))
 | ρ, f, S, k, h, hO, hr, hf, hl0, hnx => by
  have hd : ∀ s ∈ l, s.data.length = 16 := fun e he => (hf e he).len
  by_cases h0 : S.rows = 0
  ·obtain ⟨e1, e2⟩ := h.full hO h0
   exact ⟨0, S, Went.refl h, .inr (by rw [Dv.write_succ, if_neg hl0, if_pos ⟨e1, e2⟩])⟩
  ·have hns : ¬ (S.left = false ∧ S.pick < 0) := fun e => by
    rcases h.rows_pos hO (by omega) with e2 | e2
    ·rw [e.1] at e2; cases e2
    ·exact e2 e.2
   have hl : S.at1.left = true := Dv.at1_left' hO hns
   have w1 := h.went1 hO hl
   have hQO : S.at1.Ok (8 * (f + ρ + 1) + k) m := hO.at1
   have hfit := Dv.fit_le S.at1 l
   have hn : ¬ S.at1.next > 1099511627775 - (S.at1.fit l : Int) + 1 := by rw [(Dv.at1_like S).2.2]; omega
   have ht := w1.inv.turn hQO hl hf hn
   by_cases he : (S.at1.wr l).2.1 = 0
   ·have herr := ht.err
    rw [if_pos he] at herr
    refine ⟨0, S.at1, w1, .inl ⟨hQO.less (by omega), ⟨hl, he, hn, ht⟩, ?_⟩⟩
    rw [Dv.write_succ, if_neg hl0, if_neg hns, if_neg hn, if_neg (by rw [herr]; decide), if_pos herr]
    rfl
   ·have herr := ht.err
    rw [if_neg he] at herr
    obtain ⟨ρ', rfl⟩ : ∃ ρ', ρ = ρ' + 1 := ⟨ρ - 1, by omega⟩
    have hQO8 : S.at1.Ok (8 + (8 * (f + ρ' + 1) + k)) m := hQO.less (by omega)
    obtain ⟨b1, _⟩ := w1.inv.burn hQO8 hl hf hn he
    have hWO := (hQO8.wrote hd (Dv.left_spec hl).2.1 hn).loses (S.at1.wr l).2.1
    have hwr : Dv.write (f + (ρ' + 1) + 1) S l = Dv.write (f + ρ' + 1) ((S.at1.wrote l).loses (S.at1.wr l).2.1) l := by
     rw [Dv.write_succ, if_neg hl0, if_neg hns, if_neg hn, if_neg (by rw [herr]; decide), if_neg (by rw [herr]; decide), if_neg (by rw [herr]; decide)]
     rfl
    generalize (S.at1.wrote l).loses (S.at1.wr l).2.1 = S2 at b1 hWO hwr
    have hW2 : Went fd S S2 1 := by
     have := w1.trans (has_same hO.t hQO.t w1.like) b1
     rwa [Nat.zero_add] at this
    have h1 := hW2.rows
    have h2 := hW2.next
    obtain ⟨γ, Q, c1, c2⟩ := write_any ρ' f S2 k hW2.inv hWO (by omega) hf hl0 (by omega)
    refine ⟨1 + γ, Q, hW2.trans (has_same hO.t hWO.t hW2.like) c1, ?_⟩
    rw [hwr]; exact c2
end Inv
namespace Tb
theorem put1_keys2 {α β : Type} (k : Int) (v : α) (v' : β) : ∀ (l : List (Int × α)) (l' : List (Int × β)), l.map (·.1) = l'.map (·.1) → (put1 l k v).map (·.1) = (put1 l' k v').map (·.1)
 | [], [], _ => rfl
 | [], y :: l', h => by cases h
 | x :: l, [], h => by cases h
 | x :: l, y :: l', h => by
  simp only [List.map_cons, List.cons.injEq] at h
  simp only [put1]
  rw [h.1]
  split
  ·simp only [List.map_cons, h.2]
  ·simp only [List.map_cons, h.1, put1_keys2 k v v' l l' h.2]
end Tb
def wput (W : List (Int × En)) (l : List En) (n : Nat) : List (Int × En) := (List.range n).foldl (fun W (i : Nat) => Tb.put1 W (l.getD i En.zero).lpn (l.getD i En.zero)) W
theorem wput_succ (W : List (Int × En)) (l : List En) (n : Nat) : wput W l (n + 1) = Tb.put1 (wput W l n) (l.getD n En.zero).lpn (l.getD n En.zero) := by unfold wput; rw [List.range_succ, List.foldl_append]; rfl
theorem wput_look {W : List (Int × En)} {l : List En} : ∀ n : Nat, (∀ i j, i < j → j < n → (l.getD i En.zero).lpn ≠ (l.getD j En.zero).lpn) → (∀ j, j < n → Tb.look (wput W l n) (l.getD j En.zero).lpn = some (l.getD j En.zero)) ∧ ∀ i, (∀ j, j < n → (l.getD j En.zero).lpn ≠ i) → Tb.look (wput W l n) i = Tb.look W i
 | 0, _ => ⟨fun j hj => by omega, fun i _ => rfl⟩
 | n + 1, h => by
  obtain ⟨i1, i2⟩ := wput_look (W := W) n fun i j hij hj => h i j hij (by omega)
  rw [wput_succ]
  refine ⟨fun j hj => ?_, fun i hi => ?_⟩
  ·rw [Tb.look_put1]
   by_cases e : j = n
   ·subst e; rw [if_pos rfl]
   ·rw [if_neg (h j n (by omega) (by omega))]
    exact i1 j (by omega)
  ·rw [Tb.look_put1, if_neg (fun e => hi n (by omega) e.symm)]
   exact i2 i fun j hj => hi j (by omega)
structure Hd (S : Dv) (W : List (Int × En)) : Prop where
 keys : S.T.at_.map (·.1) = W.map (·.1)
 each : ∀ i e, Tb.look W i = some e → e.data.length = 16 ∧ ∃ a, Tb.look S.T.at_ i = some a ∧ R.read S.N a.block a.row a.slot a.mask = ({ e with seq := a.seq }, 0)
namespace Hd
variable {fd : Int} {S Q : Dv} {W : List (Int × En)} {k m : Nat} {l : List En}
theorem went (h : Hd S W) (hi : Inv fd S) {β : Nat} (w : Went fd S Q β) : Hd Q W := by
 refine ⟨by rw [w.T]; exact h.keys, fun i e he => ?_⟩
 obtain ⟨h1, a, h2, h3⟩ := h.each i e he
 exact ⟨h1, a, by rw [w.T]; exact h2, by rw [w.reads i a (hi.st i a h2)]; exact h3⟩
theorem wrote (h : Hd Q W) (hQ : Inv fd Q) (hO : Q.Ok k m) (hl : Last fd Q l) (hf : ∀ e ∈ l, FitR e) (hlg : ∀ e ∈ l, e.lpn < Q.T.logical) (hnd : (l.map (·.lpn)).Nodup) : Hd (wroteP Q l) (wput W l (Q.fit l)) := by
 obtain ⟨l1, l2⟩ := hl.look hQ hO hf hlg hnd
 have hes := fun j (hj : j < Q.fit l) => hl.seqs hO hj
 have hdis : ∀ i j, i < j → j < Q.fit l → (l.getD i En.zero).lpn ≠ (l.getD j En.zero).lpn := fun i j hij hj e => by
  have g1 := (hes j hj).1
  have g2 := (hes i (by omega)).1
  have : (l.map (·.lpn))[i]? = (l.map (·.lpn))[j]? := by
   rw [List.getElem?_map, List.getElem?_map, List.getElem?_eq_getElem g1, List.getElem?_eq_getElem g2]
   rw [List.getD_eq_getElem?_getD, List.getD_eq_getElem?_getD, List.getElem?_eq_getElem g1, List.getElem?_eq_getElem g2] at e
   exact congrArg some e
  have := (List.getElem?_inj (by rw [List.length_map]; exact g2) hnd).1 this
  omega
 obtain ⟨w1, w2⟩ := wput_look (W := W) (l := l) (Q.fit l) hdis
 refine ⟨?_, fun i e he => ?_⟩
 ·have key : ∀ n, n ≤ Q.fit l → (Dv.puts Q.T Q.op Q.row Q.mask (Q.es l) n).at_.map (·.1) = (wput W l n).map (·.1) := by
   intro n
   induction n with
   | zero => intro _; exact h.keys
   | succ n ih =>
    intro hn
    have hb := (hes n (by omega))
    have hin := getD_mem hb.1
    have hfe := hf _ hin
    have hl2 : Tb.look (Dv.puts Q.T Q.op Q.row Q.mask (Q.es l) n).at_ (l.getD n En.zero).lpn = Tb.look Q.T.at_ (l.getD n En.zero).lpn := by
     have hp := (puts_look (T := Q.T) (b := Q.op) (r := Q.row) (mk := Q.mask) (es := Q.es l) n (fun j hj => ?_) (fun j hj a ha => ?_) (fun i j hij hj => ?_)).2
     ·refine hp _ fun j hj => ?_
      rw [(hes j (by omega)).2.1]
      exact hdis j n hj (by omega)
     ·rw [(hes j (by omega)).2.1]
      have hfe := hf _ (getD_mem (hes j (by omega)).1)
      have := hlg _ (getD_mem (hes j (by omega)).1)
      unfold Tb.ok
      have e1 : decide (({ l.getD j En.zero with seq := Q.next + (j : Int) } : En).lpn < 0) = false := decide_eq_false (by have := hfe.lpn; show ¬ (l.getD j En.zero).lpn < 0; omega)
      have e2 : decide (({ l.getD j En.zero with seq := Q.next + (j : Int) } : En).lpn ≥ Q.T.logical) = false := decide_eq_false (by show ¬ (l.getD j En.zero).lpn ≥ Q.T.logical; omega)
      rw [e1, e2]
      show (!(false || false || ((l.getD j En.zero).role != 1 && (l.getD j En.zero).role != 2 && (l.getD j En.zero).role != 4))) = true
      rcases hfe.role with e | ⟨e | e, _⟩ <;> rw [e] <;> rfl
     ·rw [(hes j (by omega)).2.1] at ha ⊢
      have := (hQ.st _ a ha).seq
      show a.seq ≤ Q.next + (j : Int)
      omega
     ·rw [(hes j (by omega)).2.1, (hes i (by omega)).2.1]
      exact hdis i j hij (by omega)
    have hp : Tb.putB (Dv.puts Q.T Q.op Q.row Q.mask (Q.es l) n) ((Q.es l).getD n En.zero) = true := by
     have hlog : ∀ n, (Dv.puts Q.T Q.op Q.row Q.mask (Q.es l) n).logical = Q.T.logical := by
      intro n
      induction n with
      | zero => rfl
      | succ n ih => rw [Dv.puts_succ, Tb.put_logical]; exact ih
     rw [hb.2.1]
     have := hlg _ hin
     have e1 : Tb.ok (Dv.puts Q.T Q.op Q.row Q.mask (Q.es l) n) ({ l.getD n En.zero with seq := Q.next + (n : Int) } : En) = true := by
      unfold Tb.ok
      rw [hlog]
      have e1 : decide (({ l.getD n En.zero with seq := Q.next + (n : Int) } : En).lpn < 0) = false := decide_eq_false (by have := hfe.lpn; show ¬ (l.getD n En.zero).lpn < 0; omega)
      have e2 : decide (({ l.getD n En.zero with seq := Q.next + (n : Int) } : En).lpn ≥ Q.T.logical) = false := decide_eq_false (by show ¬ (l.getD n En.zero).lpn ≥ Q.T.logical; omega)
      rw [e1, e2]
      show (!(false || false || ((l.getD n En.zero).role != 1 && (l.getD n En.zero).role != 2 && (l.getD n En.zero).role != 4))) = true
      rcases hfe.role with e | ⟨e | e, _⟩ <;> rw [e] <;> rfl
     have e2 : Tb.elder (Dv.puts Q.T Q.op Q.row Q.mask (Q.es l) n) ({ l.getD n En.zero with seq := Q.next + (n : Int) } : En) = false := by
      unfold Tb.elder
      rw [show ({ l.getD n En.zero with seq := Q.next + (n : Int) } : En).lpn = (l.getD n En.zero).lpn from rfl, hl2]
      cases hh : Tb.look Q.T.at_ (l.getD n En.zero).lpn with
      | none => rfl
      | some a => have := (hQ.st _ a hh).seq; exact decide_eq_false (by show ¬ (Q.next + (n : Int)) < a.seq; omega)
     unfold Tb.putB
     rw [e1, e2]; rfl
    rw [Dv.puts_succ, wput_succ]
    unfold Tb.put
    rw [if_pos hp]
    show (Tb.put1 _ _ _).map (·.1) = _
    rw [hb.2.1]
    exact Tb.put1_keys2 _ _ _ _ _ (ih (by omega))
  exact key _ (Nat.le_refl _)
 ·by_cases hex : ∃ j, j < Q.fit l ∧ (l.getD j En.zero).lpn = i
  ·obtain ⟨j, hj, rfl⟩ := hex
   rw [w1 j hj] at he
   injection he with he
   subst he
   refine ⟨(hf _ (getD_mem (hes j hj).1)).len, _, l1 j hj, ?_⟩
   exact hl.reads hQ hO hj
  ·have hno : ∀ j, j < Q.fit l → (l.getD j En.zero).lpn ≠ i := fun j hj e => hex ⟨j, hj, e⟩
   rw [w2 i hno] at he
   obtain ⟨h1, a, h2, h3⟩ := h.each i e he
   refine ⟨h1, a, by rw [l2 i hno]; exact h2, ?_⟩
   rw [hl.stay hQ hO hf (hQ.st i a h2)]; exact h3
end Hd
theorem look_in {α : Type} : ∀ {l : List (Int × α)}, (l.map (·.1)).Nodup → ∀ x ∈ l, Tb.look l x.1 = some x.2
 | [], _, x, hx => by cases hx
 | y :: l, h, x, hx => by
  simp only [List.map_cons, List.nodup_cons] at h
  simp only [Tb.look]
  rcases List.mem_cons.1 hx with rfl | hx
  ·rw [if_pos rfl]
  ·rw [if_neg (fun e => h.1 (by rw [← e]; exact List.mem_map_of_mem hx))]
   exact look_in h.2 x hx
theorem Dv.rows_le {S : Dv} {k m : Nat} (hO : S.Ok k m) : S.rows ≤ 136 := by
 have hg := hO.gd.ok.bd16
 have h1 := Tl.blanks_le hO.t.len
 have h2 := hO.t.b
 have h3 := hO.row
 have : S.N.pages * S.t.blanks ≤ 8 * 16 := Nat.mul_le_mul hg.2.2.2 (by omega)
 unfold Dv.rows
 split <;> omega
theorem Inv.pen_retry {fd : Int} {S : Dv} {k m : Nat} {W : List (Int × En)} {e : En} (h : Inv fd S) (hO : S.Ok (8 * Dv.fuel + k) m) (hW : Hd S W) (he : FitR e) (hlg : e.lpn < S.T.logical) (hnx : S.next ≤ 1099511627775 - 1000) :
  ∃ V, Inv fd V ∧ V.Ok k m ∧ V.N.broken = S.N.broken ∧ ((S.pen [e] = (V, (1 : Int), (0 : Int)) ∧ Hd V (Tb.put1 W e.lpn e) ∧ V.next ≤ S.next + 1000 ∧ V.T.logical = S.T.logical) ∨ (S.pen [e] = (V, (0 : Int), (11 : Int)) ∧ Hd V W ∧ S.rows ≤ 2)) := by
 have hf : ∀ x ∈ [e], FitR x := fun x hx => by simp at hx; rw [hx]; exact he
 have hdt : ∀ x ∈ [e], x.data.length = 16 := fun x hx => (hf x hx).len
 have hrw := Dv.rows_le hO
 have hg := hO.gd.ok.bd16
 have hkeep := Dv.pen_keep hO hdt
 have good : ∀ Q γ, Went fd S Q γ → Q.Ok 8 m → Last fd Q [e] → S.pen [e] = (wroteP Q [e], (Q.fit [e] : Int), (0 : Int)) → ∃ V, Inv fd V ∧ V.Ok k m ∧ V.N.broken = S.N.broken ∧ ((S.pen [e] = (V, (1 : Int), (0 : Int)) ∧ Hd V (Tb.put1 W e.lpn e) ∧ V.next ≤ S.next + 1000 ∧ V.T.logical = S.T.logical) ∨ (S.pen [e] = (V, (0 : Int), (11 : Int)) ∧ Hd V W ∧ S.rows ≤ 2)) := fun Q γ w1 w2 w3 w4 => by
  have hs := Dv.left_spec w3.left
  have hf1 : Q.fit [e] = 1 := by unfold Dv.fit; simp only [List.length_cons, List.length_nil]; omega
  have hH := (hW.went h w1).wrote (l := [e]) w1.inv w2 w3 hf (fun x hx => by simp at hx; rw [hx, w1.T]; exact hlg) (by simp)
  rw [w4] at hkeep
  refine ⟨wroteP Q [e], w3.inv w1.inv w2, hkeep.1, w3.turn.broken.trans w1.broken, .inl ⟨by rw [w4, hf1]; rfl, ?_, ?_, hkeep.2.2⟩⟩
  ·rw [hf1] at hH
   exact hH
  ·show Q.next + (Q.fit [e] : Int) ≤ _
   rw [hf1]
   have h1 := w1.next
   have h2 := w1.rows
   omega
 by_cases h2 : 2 < S.rows
 ·obtain ⟨γ, Q, _, w1, w2, w3, w4, _⟩ := h.write_go (l := [e]) 2 157 S k (m := m) hO .any h2 hf (by simp) (by omega)
  exact good Q γ w1 (w2.less (by omega)) w3 w4
 ·obtain ⟨γ, Q, w1, ⟨w2, w3, w4⟩ | w2⟩ := h.write_any (l := [e]) 2 157 S k (m := m) hO (by omega) hf (by simp) (by omega)
  ·exact good Q γ w1 (w2.less (by omega)) w3 w4
  ·have w2 : S.pen [e] = (Q, (0 : Int), (11 : Int)) := w2
   rw [w2] at hkeep
   exact ⟨Q, w1.inv, hkeep.1, w1.broken, .inr ⟨w2, hW.went h w1, by omega⟩⟩
theorem rows_new2 (D B P : Nat) (lg : Int) : (Dv.new D B P lg).rows = P * B := by
 unfold Dv.rows
 have e1 : (Dv.new D B P lg).op = -1 := rfl
 have e2 : (Dv.new D B P lg).t.blanks = B := by
  show (List.replicate B Sb.zero).countP _ = B
  rw [List.countP_replicate]; rfl
 have e3 : (Dv.new D B P lg).N.pages = P := rfl
 rw [e1, e2, e3, if_neg (by decide)]; omega
end Go.Proofs.YtdocmcapegcoeaaGreat
namespace Go.Proofs.YtdocmcapegcoeaaGreat
open Go Go.RowKit
theorem Hd.sts {S : Dv} {W : List (Int × En)} (h : Hd S W) (hT : S.T.Ok) : Sts S.N S.T W := by
 have hnd : (W.map (·.1)).Nodup := by rw [← h.keys]; exact hT.keys
 refine ⟨fun x hx => ?_, ?_⟩
 ·obtain ⟨h1, a, h2, h3⟩ := h.each x.1 x.2 (look_in hnd x hx)
  exact ⟨a, _, h2, h3, rfl, rfl, rfl, rfl, h1⟩
 ·have := congrArg List.length h.keys
  simpa using this
theorem s_PenRetry (g0 g1 g2 di : Int) (A : Atom) (ao : Option Addr) (no co : Nat) (xs : List Int) (hA : Rd A ao 1 no (xs.flatMap fun x => [Value.int .i64 x])) (hlo : xs.length = no) (hdo : ∀ x ∈ xs, -9223372036854775808 ≤ x ∧ x ≤ 9223372036854775807) :
  Fn Tryz.prog 13 [.agg #[.int .i64 g0, .int .i64 g1, .int .i64 g2], .int .i64 di, .slice ao no co] [A] (fun v As => v = .bool true ∧ As = [A]) := by
 rw [cellsI_flat] at hA
 refine Fn.enter [0, 0, 0] Tryz.func13 rfl rfl rfl fun X F hX => ?_
 refine J.q hX fun bb => ?_
 refine J.cb hX (l18_begun) [] ?_
 refine cpq ⟨_, rfl, trivial, ?_⟩
 refine J.q hX fun b2 => ?_
 refine J.cF ?_
 refine J.q hX fun b3 => ?_
 refine J.cb hX (l6_Geo g0 g1 g2) [] ?_
 rintro v As ⟨D, B, P, rfl, hD, hB, hP, rfl⟩
 refine ⟨_, rfl, trivial, ?_⟩
 have hgm : geoMay D B P = true := by simp [geoMay]; omega
 have hpw := pow_bd D hD.2
 have hd1 := tm_bd di D (by omega)
 have hd2 := tm_2 di D (by omega)
 refine J.q hX fun b5 => ?_
 refine J.plan (.of [0,4,9,12,16,21,24,28,33,36,40]) [9,10] [2] (by rw [hX.hP]; kernel_rfl) (by kernel_rfl) ?_
 refine J.qn hX 22 fun b6 => ?_
 obtain ⟨d, hde⟩ := Int.eq_ofNat_of_zero_le hd2.1
 rw [hde] at hd2
 have hdD : d < D := by omega
 rw [hde]
 refine J.q hX fun b7 => ?_
 refine J.cb hX (l18_bench D B P hgm 500) [] ?_
 rintro v As ⟨n, t, l, q, rfl, rfl⟩
 refine ⟨_, rfl, trivial, ?_⟩
 have hO0 : (Dv.new D B P 500).Ok (1280 * 20) 0 := Dv.Ok.new D B P 500 hgm _ (by decide)
 have hi0 : Inv d (Dv.new D B P 500) := Inv.new d D B P 500
 have hr0 := rows_new2 D B P 500
 have hBP : 16 ≤ P * B := by
  have : 2 * 8 ≤ P * B := Nat.mul_le_mul hP.1 hB.1
  omega
 refine J.q hX fun b9 => ?_
 refine J.lo (α := (Nat × Dv)) (fun z => (z.1 ≤ no ∧ z.1 ≤ 20) ∧ Inv d z.2 ∧ z.2.T = Tb.new 500 ∧ z.2.next = 1 ∧ z.2.rows = P * B ∧ z.2.N.broken = 0 ∧ (z.2.N.dies = D ∧ z.2.N.blocks = B ∧ z.2.N.pages = P) ∧ z.2.Ok (1280 * 20) z.1) (fun z => [⟨12, .int .i64 z.1, 0, .tt⟩, ⟨1, .int .i64 d, 0, .tt⟩, ⟨2, .slice ao no co, 0, .tt⟩, ⟨3, .pointer (some ⟨bb 0, 0, none⟩), 3, .tt⟩, ⟨8, .pointer (some ⟨n, 0, none⟩), 0, .tt⟩, ⟨10, .pointer (some ⟨l, 0, none⟩), 0, .tt⟩, ⟨11, .pointer (some ⟨q, 0, none⟩), 0, .tt⟩]) [3, 4, 5, 6] (fun z => DvP q n t l z.2) (fun z => no - z.1) ((0, Dv.new D B P 500)) (⟨⟨Nat.zero_le _, Nat.zero_le 20⟩, hi0, rfl, rfl, hr0, rfl, ⟨rfl, rfl, rfl⟩, hO0⟩) rfl ?_ (fun _ => rfl) fun z hI => ?_
 ·rfl
 obtain ⟨i, S⟩ := z
 dsimp only at hI ⊢
 obtain ⟨⟨hi, hi20⟩, hS, hT, hnx, hrw, hbr, hgeo, hO⟩ := hI
 refine J.q hX fun b11 => ?_
 refine J.cond rfl (fun h1 => ?_) (fun h1 => ?_)
 ·simp only [Bool.and_eq_true, decide_eq_true_eq] at h1
  have hi1 : i < no ∧ i < 20 := by omega
  obtain ⟨x, hx⟩ : ∃ x, xs[i]? = some x := ⟨_, List.getElem?_eq_getElem (by omega)⟩
  have hb1 := tm_bd x B (by omega)
  have hb2 := tm_2 x B (by omega)
  have hxr := hdo x (List.mem_of_getElem? hx)
  have hq16 : -9223372036854775808 ≤ x.tdiv 16 ∧ x.tdiv 16 ≤ 9223372036854775807 := by
   obtain ⟨z, rfl | rfl⟩ := Int.eq_nat_or_neg x
   ·rw [Int.tdiv_eq_ediv_of_nonneg (by omega)]; omega
   ·rw [Int.neg_tdiv, Int.tdiv_eq_ediv_of_nonneg (by omega)]; omega
  have hp1 := tm_bd (x.tdiv 16) P (by omega)
  have hp2 := tm_2 (x.tdiv 16) P (by omega)
  refine J.know (p := ∃ g o, ao = some ⟨g, o, none⟩) (fun h' s => Rd.addr (hA _ (s.get (i := 1) rfl)) (by omega)) fun hk => ?_
  obtain ⟨gm, om, rfl⟩ := hk
  refine J.q hX fun b12 => ?_
  refine J.plan (.of [0,4,8,12,16,21,24,29,32,36,41,44,48,53,56,60,64,68,73,76,80,85,88,92,97,100,104,109,112,116,120,126]) [] [1,2] (by rw [hX.hP]; kernel_rfl) (by kernel_rfl) ?_
  refine J.q hX fun b13 => ?_
  refine J.valT hX (.int .i64 x) 0 rfl rfl (fun hg aa w he hC => rd1_run tk rfl rfl he rfl rfl rfl (hA _ (hC rfl _ (cget_mem (i := 1) rfl))) (by omega) (j := i) (by omega) (cellsI_get hx)) rfl ?_
  refine J.q hX fun b14 => ?_
  refine J.valT hX (.int .i64 x) 0 rfl rfl (fun hg aa w he hC => rd1_run tk rfl rfl he rfl rfl rfl (hA _ (hC rfl _ (cget_mem (i := 1) rfl))) (by omega) (j := i) (by omega) (cellsI_get hx)) rfl ?_
  refine J.q hX fun b15 => ?_
  obtain ⟨bx, hbx⟩ := Int.eq_ofNat_of_zero_le hb2.1
  obtain ⟨px, hpx⟩ := Int.eq_ofNat_of_zero_le hp2.1
  rw [hbx] at hb2
  rw [hpx] at hp2
  rw [hbx, hpx]
  have hft : S.N.fault 1 d bx px 0 0 = (true, { S.N with plan := addS S.N.plan ((d : Int), (bx : Int), (px : Int)) }) := fault_1 (by rw [hgeo.1, hgeo.2.1, hgeo.2.2]; unfold geoIn; simp; omega)
  have hO2 : ({ S with N := { S.N with plan := addS S.N.plan ((d : Int), (bx : Int), (px : Int)) } } : Dv).Ok (1280 * 20) (i + 1) := by
   have hg := hO.gd.fault 1 d bx px 0 0
   have hl := Nand.like_fault S.N 1 d bx px 0 0
   rw [hft] at hg hl
   exact ⟨hg, hO.t.like hl, hO.T, hO.sl, hO.row, hO.next⟩
  have hS2 : Inv d { S with N := { S.N with plan := addS S.N.plan ((d : Int), (bx : Int), (px : Int)) } } := hS.planned _ fun a ha => by
   have ha : a ∈ addS S.N.plan _ := ha
   unfold addS at ha
   split at ha
   ·exact hS.plan a ha
   ·rcases List.mem_append.1 ha with h | h
    ·exact hS.plan a h
    ·simp at h; rw [h]
  refine J.q hX fun b16 => ?_
  refine J.cb hX (n_Fault n S.N hO.gd.ok 0 1 d bx px 0 0) [4] ?_
  refine cpq ⟨_, rfl, (by first | exact trivial | (repeat' (first | exact trivial | refine ⟨rfl, ?_⟩))), ?_⟩
  rw [hft]
  dsimp only
  refine J.q hX fun b17 => ?_
  refine J.nS ((i + 1, ({ S with N := { S.N with plan := addS S.N.plan ((d : Int), (bx : Int), (px : Int)) } } : Dv))) (⟨⟨by dsimp only; omega, by dsimp only; omega⟩, hS2, hT, hnx, hrw, hbr, hgeo, hO2⟩) (by dsimp only; omega) [0, 1, 2, 3, 4, 5, 6] rfl rfl
 refine J.q hX fun bm => ?_
 refine J.turn1 [7] rfl (As := [mapA (bm 0) kI (wM [])]) (fun h s => ?_) rfl ?_
 ·refine ⟨fun _ => 0, fun i A hA => ?_⟩
  cases i with
  | zero => simp at hA; subst hA; exact ⟨#[], 0, res_some.2 ⟨rfl, s.get (i := 0) rfl⟩, rfl, by simp, by simp⟩
  | succ k => simp at hA
 have hOs : S.Ok (1280 * 20) 20 := ⟨hO.gd.less (Nat.le_refl _) hi20, hO.t, hO.T, hO.sl, hO.row, hO.next⟩
 have hH0 : Hd S [] := ⟨by rw [hT]; rfl, fun i e he => by cases he⟩
 refine J.q hX fun b19 => ?_
 refine J.lo (α := (Nat × Dv × List (Int × En))) (fun z => z.1 ≤ B ∧ Inv d z.2.1 ∧ Hd z.2.1 z.2.2 ∧ z.2.1.next ≤ 1 + 1000 * (z.1 : Int) ∧ z.2.1.T.logical = 500 ∧ (z.1 = 0 → 16 ≤ z.2.1.rows) ∧ z.2.1.N.broken = 0 ∧ z.2.1.Ok (1280 * (20 - z.1)) 20) (fun z => [⟨14, .int .i64 z.1, 0, .tt⟩, ⟨13, .map (some (bm 0)), 8, .tt⟩, ⟨3, .pointer (some ⟨bb 0, 0, none⟩), 3, .tt⟩, ⟨8, .pointer (some ⟨n, 0, none⟩), 0, .tt⟩, ⟨10, .pointer (some ⟨l, 0, none⟩), 0, .tt⟩, ⟨11, .pointer (some ⟨q, 0, none⟩), 0, .tt⟩]) [3, 4, 5, 6, 7] (fun z => (DvP q n t l z.2.1 ++ [mapA (bm 0) kI (wM z.2.2)])) (fun z => B - z.1) ((0, S, [])) (⟨Nat.zero_le _, hS, hH0, by rw [hnx]; show (1 : Int) ≤ 1 + 1000 * 0; omega, by rw [hT]; rfl, fun _ => by rw [hrw]; exact hBP, hbr, hOs⟩) rfl ?_ (fun _ => rfl) fun z hI => ?_
 ·rfl
 clear hS hT hnx hrw hbr hgeo hO hOs hH0 h1 hi hi20
 obtain ⟨i, S, W⟩ := z
 dsimp only at hI ⊢
 obtain ⟨hi, hS, hH, hnx, hlog, hrw, hbr, hO⟩ := hI
 have hoff : S.N.off = false := hS.lit.off
 have hsts := hH.sts hO.T
 refine J.q hX fun b20 => ?_
 refine J.cond rfl (fun h1 => ?_) (fun h1 => ?_)
 ·simp only [decide_eq_true_eq, Int.ofNat_lt] at h1
  have hO1 : S.Ok (8 * Dv.fuel + 1280 * (20 - (i + 1))) 20 := hO.less (by unfold Dv.fuel; omega)
  have hdt : ∀ x ∈ [e18 i ((i : Int) + 1)], x.data.length = 16 := fun x hx => by
   simp at hx; rw [hx]; rfl
  obtain ⟨V, v1, v2, v3, v4⟩ := hS.pen_retry (e := e18 i ((i : Int) + 1)) hO1 hH (e18_fit (by omega)) (by rw [hlog]; show (i : Int) < 500; omega) (by omega)
  refine J.q hX fun b21 => ?_
  refine J.cb hX (l18_entry i (i + 1)) [] ?_
  refine cpq ⟨_, rfl, trivial, ?_⟩
  refine J.q hX fun by_ => ?_
  refine J.ca hX (by kernel_rfl) (pn_Write q n t l S _ _ hO1 (.pt (by_ 0) 38 (cellsE [e18 i ((i : Int) + 1)])) (some ⟨by_ 0, 0, none⟩) 1 1 [e18 i ((i : Int) + 1)] (pt_rd _ _ _ _ _ rfl) rfl (by decide) hdt) [3, 4, 5, 6, 8] 0 rfl rfl rfl rfl rfl rfl (fun _ => rfl) ?_
  refine cpq ⟨_, rfl, trivial, ?_⟩
  rcases v4 with ⟨w1, w2, w3, w4⟩ | ⟨w1, w2, w3⟩
  ·rw [w1]
   dsimp only
   refine J.q hX fun b24 => ?_
   refine J.cF ?_
   refine J.q hX fun b26 => ?_
   refine J.cF ?_
   refine J.q hX fun b28 => ?_
   refine J.cb hX (l18_entry i (i + 1)) [] ?_
   refine cpq ⟨_, rfl, trivial, ?_⟩
   refine J.mapUpdate hX keyI umapE (i : Int) 7 rfl rfl rfl rfl rfl rfl rfl rfl rfl rfl rfl rfl (fun _ => rfl) (by rw [aput_wM]; rfl) ⟨trivial, ?_⟩
   refine J.q hX fun b30 => ?_
   have w2 : Hd V (Tb.put1 W (i : Int) (e18 i ((i : Int) + 1))) := w2
   refine J.q hX fun b31 => ?_
   refine J.nS ((i + 1, V, Tb.put1 W (i : Int) (e18 i ((i : Int) + 1)))) (⟨by dsimp only; omega, v1, w2, by dsimp only at w3 ⊢; omega, w4.trans hlog, fun h => by dsimp only at h; omega, v3.trans hbr, v2⟩) (by dsimp only; omega) [0, 1, 2, 3, 4, 5, 6, 7] rfl rfl
  ·have hi0 : (i : Int) > 0 := by
    rcases Nat.eq_zero_or_pos i with e | e
    ·have := hrw e; omega
    ·omega
   rw [w1]
   dsimp only
   refine J.q hX fun b32 => ?_
   refine J.cT ?_
   refine J.qn hX 4 fun b34 => ?_
   rw [decide_eq_true hi0]
   refine J.q hX fun b35 => ?_
   refine J.cb hX (l18_stands n l (bm 0) V.N v2.gd.ok v2.gd.room v1.lit.off V.T W (w2.sts v2.T)) [4, 6, 7] ?_
   refine cpq ⟨_, rfl, trivial, ?_⟩
   refine J.q hX fun b37 => ?_
   exact J.ru hX [1] ⟨rfl, rfl⟩
 refine J.q hX fun b38 => ?_
 refine J.cb hX (l18_stands n l (bm 0) S.N hO.gd.ok hO.gd.room hoff S.T W hsts) [4, 6, 7] ?_
 refine cpq ⟨_, rfl, trivial, ?_⟩
 refine J.q hX fun b40 => ?_
 refine J.cb hX (n_Broken n S.N) [4] ?_
 refine cpq ⟨_, rfl, trivial, ?_⟩
 rw [hbr]
 refine J.q hX fun b42 => ?_
 exact J.ru hX [1] ⟨rfl, rfl⟩
end Go.Proofs.YtdocmcapegcoeaaGreat
namespace Go.Proofs.YtdocmcapegcoeaaGreat
open Go
theorem andT {a b : Bool} (ha : a = true) (hb : b = true) : (a && b) = true := by rw [ha, hb]; rfl
theorem joined_of {P : Program} {f : FuncId} {fn : Func} {s : ChangeSpec} {c : OpenClaim} (k0 : (c.wf (OpenSpec.ofChange s)) = true) (k1 : (laidOutB P) = true) (k2 : (mapsRowed P) = true) (k3 : (fn.params.all (P.readableRec ·)) = true) (k4 : (namedTie P c.named s.vars) = true) (k5 : (c.stops == []) = true) (k6 : (P.stops == []) = true) (k7 : (c.knobs == []) = true) (k8 : (P.stopKnobs == []) = true) (k9 : (c.inPlace == P.inPlace f) = true) (k10 : (c.unfollowed == P.unfollowed f) = true) (k11 : (c.recurses == P.recurses f) = true) (k12 : (c.named == P.varsNamed f) = true) (k13 : (c.maps == (fn.params.toList ++ s.plain.varTypes P).any (P.mapsRec ·)) = true) (k14 : (c.ifaces == (fn.params.toList ++ s.plain.varTypes P).any (P.ifacesRec ·)) = true) (k15 : (c.mapsOut == P.mapsAmong fn.resultTypes.toList) = true) (k16 : (c.loops == (fn.params.toList ++ s.plain.varTypes P).any (P.loopsFrom ·)) = true) (k17 : (c.wideKeys == (fn.params.toList ++ s.plain.varTypes P ++ fn.resultTypes.toList).any (P.wideKeysFrom ·)) = true) (k18 : (s.vars.all (P.varReadable ·)) = true) (k19 : (fn.resultTypes.all (fun t => P.readableRec t && decide (t < P.types.size))) = true) (k20 : (c.ifacesOut == fn.resultTypes.toList.any (P.ifacesRec ·)) = true) (k21 : (c.loopsOut == fn.resultTypes.toList.any (P.loopsFrom ·)) = true) (k22 : (c.plainKeys == P.plainKeys) = true) (k23 : (c.shortTexts.isNone) = true) (k24 : (P.stopsHeard) = true) (k25 : (P.mayEnter) = true) (k26 : (c.lifted == P.liftsFinal) = true) (k27 : (P.make == some c.make) = true) (k28a : c.domain.isEmpty = true) (k28 : (c.kinds == []) = true) (k29 : (c.pinned == c.pinnedBy) = true) (k30 : (c.veiled == (fn.params.toList ++ s.plain.varTypes P ++ fn.resultTypes.toList).any (P.veiledRec ·)) = true) (k31 : (c.veiledFits P fn.params.toList (fn.params.toList ++ s.plain.varTypes P ++ fn.resultTypes.toList)) = true) : joinedFacts P f fn s c = true := by
 unfold joinedFacts
 rw [if_pos k28a]
 exact (andT (andT (andT (andT (andT (andT (andT (andT (andT (andT (andT (andT (andT (andT (andT (andT (andT (andT (andT (andT (andT (andT (andT (andT (andT (andT (andT (andT (andT (andT (andT k0 k1) k2) k3) k4) k5) k6) k7) k8) k9) k10) k11) k12) k13) k14) k15) k16) k17) k18) k19) k20) k21) k22) k23) k24) k25) k26) k27) k28) k29) k30) k31)
theorem j_laid : laidOutB Tryz.prog = true := by kernel_rfl
theorem j_rowed : mapsRowed Tryz.prog = true := by kernel_rfl
theorem j_stops : (Tryz.prog.stops == []) = true := by kernel_rfl
theorem j_knobs : (Tryz.prog.stopKnobs == []) = true := by kernel_rfl
theorem j_heard : Tryz.prog.stopsHeard = true := by kernel_rfl
theorem j_enter : Tryz.prog.mayEnter = true := by kernel_rfl
end Go.Proofs.YtdocmcapegcoeaaGreat
