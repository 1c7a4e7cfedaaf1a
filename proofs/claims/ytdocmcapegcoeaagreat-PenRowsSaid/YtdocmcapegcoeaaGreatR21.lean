/- Helpers of the proofs about ostrakonlaw11, proved here: PlIy, PlIz, TalB, Pn, EnF. No condition. -/
import Derived.Test.YtdocmcapegcoeaaGreatR08
import Derived.Test.YtdocmcapegcoeaaGreatR12
import Derived.Test.YtdocmcapegcoeaaGreatR16
import Derived.Test.YtdocmcapegcoeaaGreatR17
import Derived.Test.YtdocmcapegcoeaaGreatR20
set_option maxRecDepth 20000
set_option linter.unusedVariables false
set_option linter.unusedSimpArgs false
set_option linter.unusedSectionVars false
set_option linter.unnecessarySimpa false
namespace Go.Proofs.YtdocmcapegcoeaaGreat
open Go
theorem Went.refl {fd : Int} {S : Dv} (h : Inv fd S) : Went fd S S 0 :=
 ⟨h, rfl, by omega, rfl, rfl, Nand.Like.refl _, fun _ h => h, fun _ _ => ⟨rfl, rfl, rfl⟩, rfl, fun _ _ _ => rfl, fun _ _ h => h, fun _ _ => ⟨rfl, rfl, fun h => h⟩, fun _ h => h⟩
theorem Went.trans {fd : Int} {S Q P : Dv} {β γ : Nat} (h : Went fd S Q β) (hh : ∀ b, Q.t.has b = S.t.has b) (g : Went fd Q P γ) : Went fd S P (β + γ) := by
 have h1 := h.next
 have h2 := g.next
 have h3 := h.rows
 have h4 := g.rows
 refine ⟨g.inv, g.T.trans h.T, by omega, g.dead.trans h.dead, g.broken.trans h.broken, h.like.trans g.like, fun a ha => h.plan a (g.plan a ha), fun i j => ?_, by omega, fun i a ha => (g.reads i a (h.stay i a ha)).trans (h.reads i a ha), fun i a ha => g.stay i a (h.stay i a ha), fun b hb => ?_, fun d hd => g.td d (h.td d hd)⟩
 ·have a1 := h.flags i j
  have a2 := g.flags i j
  exact ⟨a2.1.trans a1.1, a2.2.1.trans a1.2.1, a2.2.2.trans a1.2.2⟩
 ·have a1 := h.sb b hb
  have a2 := g.sb b (by rw [hh]; exact hb)
  exact ⟨a2.1.trans a1.1, a2.2.1.trans a1.2.1, fun hu => a2.2.2 (a1.2.2 hu)⟩
inductive Hot (fd : Int) (S : Dv) : Nat → Prop
 | calm : NoF S → Hot fd S 0
 | cold : L.has S.t.dead fd = true → L.has S.mask fd = false → Hot fd S 0
 | there : S.left = true → L.has S.mask fd = false → Hot fd S 0
 | once : L.has S.t.dead fd = true → Hot fd S 1
 | burnt : L.has S.mask fd = false → Hot fd S 1
 | any : Hot fd S 2
structure Last (fd : Int) (Q : Dv) (l : List En) : Prop where
 left : Q.left = true
 err : (Q.wr l).2.1 = 0
 bd : ¬ Q.next > 1099511627775 - (Q.fit l : Int) + 1
 turn : Inv.Turn fd Q l
def wroteP (Q : Dv) (l : List En) : Dv := { Q.wrote l with T := Dv.puts Q.T Q.op Q.row Q.mask (Q.es l) (Q.fit l) }
namespace Inv
variable {fd : Int} {S : Dv} {k m : Nat} {l : List En}
theorem has_same {Q : Dv} (hO : S.t.Fit S.N) (hQ : Q.t.Fit Q.N) (hl : S.N.Like Q.N) (b : Int) : Q.t.has b = S.t.has b := by
 unfold Tl.has
 rw [show Q.t.b = S.t.b from by rw [hQ.b, hO.b, hl.blocks]]
theorem rows_pos (h : Inv fd S) (hO : S.Ok k m) (hr : 0 < S.rows) : S.left = true ∨ ¬ S.pick < 0 := by
 have hg := hO.gd.ok.bd16
 by_cases hb : S.t.blanks = 0
 ·left
  unfold Dv.rows at hr
  rw [hb, Nat.mul_zero, Nat.zero_add] at hr
  split at hr
  ·rename_i h0
   rcases h.op with e | e
   ·omega
   ·have := (e.mask.pos hg.1).1
    unfold Dv.left
    rw [decide_eq_true h0, decide_eq_true (by omega), decide_eq_true (by omega)]; rfl
  ·omega
 ·right
  obtain ⟨s, hs, hu⟩ := List.countP_pos_iff.1 (show 0 < S.t.l.countP fun s => !s.used by unfold Tl.blanks at hb; omega)
  obtain ⟨j, hj, rfl⟩ := List.mem_iff_getElem.1 hs
  have hlen := hO.t.len
  have hhas : S.t.has (j : Nat) = true := Tl.has_iff.2 (by omega)
  have hat : S.t.at_ (j : Nat) = S.t.l[j] := by unfold Tl.at_; rw [Int.toNat_natCast, List.getD_eq_getElem?_getD, List.getElem?_eq_getElem hj, Option.getD_some]
  have hunu : (S.t.at_ (j : Nat)).used = false := by rw [hat]; simpa using hu
  have hcnt : S.T.count (j : Nat) = 0 := by
   rw [hO.T.cnt]
   unfold Tb.cntB
   congr 1
   rw [List.countP_eq_zero]
   intro x hx hxb
   simp only [beq_iff_eq] at hxb
   have hlk : Tb.look S.T.at_ x.1 = some x.2 := by
    cases hh : Tb.look S.T.at_ x.1 with
    | none => rw [Tb.look_none] at hh; exact absurd (List.mem_map.2 ⟨x, hx, rfl⟩) hh
    | some a =>
     have hm := Tb.look_mem hh
     have hn := hO.T.keys
     obtain ⟨i1, g1, e1⟩ := List.mem_iff_getElem.1 hm
     obtain ⟨i2, g2, e2⟩ := List.mem_iff_getElem.1 hx
     have : i1 = i2 := (List.getElem?_inj (by rw [List.length_map]; exact g1) hn).1 (by rw [List.getElem?_map, List.getElem?_map, List.getElem?_eq_getElem g1, List.getElem?_eq_getElem g2, e1, e2]; rfl)
     subst this
     rw [e1] at e2
     rw [← e2]
   have := (h.st _ _ hlk).used
   rw [hxb, hunu] at this; cases this
  have hop : (j : Int) ≠ S.op := fun e => by
   rcases h.op with e2 | e2
   ·omega
   ·have := e2.used
    rw [← e, hunu] at this; cases this
  have hmem : ((j : Nat) : Int) ∈ pkSome (pkFree S.t S.T) S.op S.t.b := mem_pkSome.2 ⟨by omega, by omega, hop, by
   unfold pkFree
   rw [h.usable hO hhas, hcnt]
   simp only [Tl.blank, hhas, hunu]; rfl⟩
  intro hp
  rcases pick_some (fun x y => cmpI (S.t.wear x) (S.t.wear y)) (pkFree S.t S.T) S.op S.t.b with e | e
  ·rw [e.2] at hmem; cases hmem
  ·have := e.2
   unfold Dv.pick at hp; omega
theorem write_go : ∀ (β f : Nat) (S : Dv) (k : Nat), Inv fd S → S.Ok (8 * (f + β + 1) + k) m → Hot fd S β → β < S.rows → (∀ e ∈ l, FitR e) → l.length ≠ 0 → S.next + 7 * (β : Int) ≤ 1099511627775 - 7 →
  ∃ γ Q, γ ≤ β ∧ Went fd S Q γ ∧ Q.Ok (8 + k) m ∧ Last fd Q l ∧ Dv.write (f + β + 1) S l = (wroteP Q l, (Q.fit l : Int), (0 : Int)) ∧ (NoF S → Q = S.at1 ∧ γ = 0) ∧ (0 < γ → L.has S.t.dead fd = true → L.has Q.mask fd = false) ∧ (∀ d : Int, L.has S.t.dead d = true → L.has S.mask d = false → L.has Q.mask d = false)
 | β, f, S, k, h, hO, hH, hr, hf, hl0, hnx => by
  have hg := hO.gd.ok.bd16
  have h8 : S.t.d ≤ 8 := by have := hO.t.d; omega
  have hd : ∀ s ∈ l, s.data.length = 16 := fun e he => (hf e he).len
  have hns : ¬ (S.left = false ∧ S.pick < 0) := fun e => by
   rcases h.rows_pos hO (by omega) with e2 | e2
   ·rw [e.1] at e2; cases e2
   ·exact e2 e.2
  -- the one that is written
  obtain ⟨Q, hQ⟩ : ∃ Q, S.at1 = Q := ⟨_, rfl⟩
  have hW : Went fd S Q 0 ∧ Q.left = true ∧ ((Q = S) ∨ (Q = S.opened ∧ Q.mask = S.t.mask S.pick ∧ S.t.has S.pick = true)) := by
   cases hl : S.left with
   | true =>
    have : S.at1 = S := by unfold Dv.at1; rw [hl, if_pos rfl]
    rw [← hQ, this]
    exact ⟨Went.refl h, hl, .inl rfl⟩
   | false =>
    have hp : ¬ S.pick < 0 := fun e => hns ⟨hl, e⟩
    have e1 : S.at1 = S.opened := by unfold Dv.at1; rw [hl, if_neg Bool.false_ne_true]
    have := h.opens hO hl hp
    rw [← hQ, e1]
    rcases S.pick_spec with e | ⟨p1, p2, _, _⟩
    ·omega
    ·exact ⟨this.1, this.2.1, .inr ⟨rfl, this.2.2, Tl.has_iff.2 ⟨p1, p2⟩⟩⟩
  obtain ⟨w1, w2, w3⟩ := hW
  have hQO : Q.Ok (8 * (f + β + 1) + k) m := by rw [← hQ]; exact hO.at1
  have hfit := Dv.fit_le Q l
  have hn : ¬ Q.next > 1099511627775 - (Q.fit l : Int) + 1 := by have := w1.next; omega
  have ht := w1.inv.turn hQO w2 hf hn
  have hmaskd : ∀ d : Int, L.has S.t.dead d = true → L.has S.mask d = false → L.has Q.mask d = false := fun d h1 h2 => by
   rcases w3 with e | ⟨e, e2, e3⟩
   ·rw [e]; exact h2
   ·rw [e2]
    have := (mask_has h8 e3 h.tdead.1 (h.tbad _ e3).1).2 d
    rw [this, h1]; simp
  have hmaskd2 : Q ≠ S → ∀ d : Int, L.has S.t.dead d = true → L.has Q.mask d = false := fun hne d h1 => by
   rcases w3 with e | ⟨e, e2, e3⟩
   ·exact absurd e hne
   ·rw [e2]
    have := (mask_has h8 e3 h.tdead.1 (h.tbad _ e3).1).2 d
    rw [this, h1]; simp
  by_cases he : (Q.wr l).2.1 = 0
  ·refine ⟨0, Q, by omega, w1, hQO.less (by omega), ⟨w2, he, hn, ht⟩, ?_, fun _ => ⟨hQ.symm, rfl⟩, fun h0 => by omega, hmaskd⟩
   have herr := ht.err
   rw [if_pos he] at herr
   rw [Dv.write_succ, if_neg hl0, if_neg hns, hQ, if_neg hn, if_neg (by rw [herr]; decide), if_pos herr]
   rfl
  ·have herr := ht.err
   rw [if_neg he] at herr
   have hQO8 : Q.Ok (8 + (8 * (f + β) + k)) m := hQO.less (by omega)
   obtain ⟨b1, b2, b3, b4, b5, b6, b7⟩ := w1.inv.burn hQO8 w2 hf hn he
   have hWO := (hQO8.wrote hd (Dv.left_spec w2).2.1 hn).loses (Q.wr l).2.1
   have hwr : Dv.write (f + β + 1) S l = Dv.write (f + β) ((Q.wrote l).loses (Q.wr l).2.1) l := by
    rw [Dv.write_succ, if_neg hl0, if_neg hns, hQ, if_neg hn, if_neg (by rw [herr]; decide), if_neg (by rw [herr]; decide), if_neg (by rw [herr]; decide)]
   have hnof : ¬ NoF S := fun hno => by
    have : NoF Q := ⟨fun i => by rw [w1.dead]; exact hno.dead i, List.eq_nil_iff_forall_not_mem.2 fun a ha => (by have := w1.plan a ha; rw [hno.plan] at this; cases this), fun i j => by rw [(w1.flags i j).1]; exact hno.met i j⟩
    have hfl := this.fails Q.op Q.row fd.toNat
    obtain ⟨x, hx, _⟩ := L.has_rng b3
    rw [hx, Int.toNat_natCast] at hfl
    rw [hx, hfl] at b6; cases b6
   generalize hS2 : (Q.wrote l).loses (Q.wr l).2.1 = S2 at b1 b2 b4 b5 b7 hWO hwr
   have hW2 : Went fd S S2 1 := by
    have := w1.trans (has_same hO.t hQO.t w1.like) b1
    rwa [Nat.zero_add] at this
   obtain ⟨β', hβ, hH'⟩ : ∃ β', β = β' + 1 ∧ Hot fd S2 β' := by
    cases hH with
    | calm hno => exact absurd hno hnof
    | cold h1 h2 => rw [hmaskd fd h1 h2] at b3; cases b3
    | there h1 h2 =>
     rcases w3 with e | ⟨e, _⟩
     ·rw [e, h2] at b3; cases b3
     ·have : S.at1 = S := by unfold Dv.at1; rw [h1, if_pos rfl]
      rw [← hQ, this, h2] at b3; cases b3
    | once h1 => exact ⟨0, rfl, .cold (hW2.td fd h1) b2⟩
    | burnt h1 =>
     refine ⟨0, rfl, .there ?_ b2⟩
     rcases w3 with e | ⟨e, _⟩
     ·rw [e, h1] at b3; cases b3
     ·have hi := b1.inv
      have hQop := (w1.inv.opn w2).blk
      have e0 : Q.row = 0 := by rw [e]; rfl
      have hpg : S2.N.pages = Q.N.pages := b1.like.pages
      have hpg2 : Q.N.pages = S.N.pages := w1.like.pages
      have hop2 : Opn fd S2 := by
       rcases hi.op with e2 | e2
       ·omega
       ·exact e2
      have := (hop2.mask.pos (hWO.gd.ok.bd16.1)).1
      unfold Dv.left
      rw [decide_eq_true (by omega), decide_eq_true (by omega), decide_eq_true (by omega)]; rfl
    | any => exact ⟨1, rfl, .burnt b2⟩
   subst hβ
   have hrows := hW2.rows
   have hnx2 := hW2.next
   obtain ⟨γ, P, c1, c2, c3, c4, c5, c6, c7, c8⟩ := write_go β' f S2 k hW2.inv (by rw [show f + β' + 1 = f + (β' + 1) from by omega]; exact hWO) hH' (by omega) hf hl0 (by omega)
   refine ⟨1 + γ, P, by omega, hW2.trans (has_same hO.t hWO.t hW2.like) c2, c3, c4, ?_, fun hno => absurd hno hnof, fun _ hdd => c8 fd (hW2.td fd hdd) b2, fun d h1 h2 => c8 d (hW2.td d h1) ?_⟩
   ·rw [hwr, show f + (β' + 1) = f + β' + 1 from by omega, c5]
   ·cases hh : L.has S2.mask d with
    | false => rfl
    | true => have := b7 d hh; rw [hmaskd d h1 h2] at this; cases this
end Inv
theorem look_of {T : Tb} (h : T.Ok) {x : Int × AtV} (hx : x ∈ T.at_) : Tb.look T.at_ x.1 = some x.2 := by
 cases hh : Tb.look T.at_ x.1 with
 | none => rw [Tb.look_none] at hh; exact absurd (List.mem_map.2 ⟨x, hx, rfl⟩) hh
 | some a =>
  have hm := Tb.look_mem hh
  obtain ⟨i1, g1, e1⟩ := List.mem_iff_getElem.1 hm
  obtain ⟨i2, g2, e2⟩ := List.mem_iff_getElem.1 hx
  have : i1 = i2 := (List.getElem?_inj (by rw [List.length_map]; exact g1) h.keys).1 (by rw [List.getElem?_map, List.getElem?_map, List.getElem?_eq_getElem g1, List.getElem?_eq_getElem g2, e1, e2]; rfl)
  subst this
  rw [e1] at e2
  rw [← e2]
theorem puts_look {T : Tb} {b r mk : Int} {es : List En} : ∀ n : Nat, (∀ j, j < n → Tb.ok T (es.getD j En.zero) = true) → (∀ j, j < n → ∀ a, Tb.look T.at_ (es.getD j En.zero).lpn = some a → a.seq ≤ (es.getD j En.zero).seq) → (∀ i j, i < j → j < n → (es.getD i En.zero).lpn ≠ (es.getD j En.zero).lpn) →
  (∀ j, j < n → Tb.look (Dv.puts T b r mk es n).at_ (es.getD j En.zero).lpn = some ⟨b, r, j, mk, (es.getD j En.zero).seq, (es.getD j En.zero).role⟩) ∧ (∀ i, (∀ j, j < n → (es.getD j En.zero).lpn ≠ i) → Tb.look (Dv.puts T b r mk es n).at_ i = Tb.look T.at_ i)
 | 0, _, _, _ => ⟨fun j hj => by omega, fun i _ => rfl⟩
 | n + 1, h1, h2, h3 => by
  obtain ⟨i1, i2⟩ := puts_look n (fun j hj => h1 j (by omega)) (fun j hj => h2 j (by omega)) (fun i j hij hj => h3 i j hij (by omega))
  have hlog : (Dv.puts T b r mk es n).logical = T.logical := by
   clear i1 i2 h1 h2 h3
   induction n with
   | zero => rfl
   | succ n ih => rw [Dv.puts_succ, Tb.put_logical]; exact ih
  have hlk : Tb.look (Dv.puts T b r mk es n).at_ (es.getD n En.zero).lpn = Tb.look T.at_ (es.getD n En.zero).lpn := i2 _ fun j hj => h3 j n hj (by omega)
  have hp : Tb.putB (Dv.puts T b r mk es n) (es.getD n En.zero) = true := by
   unfold Tb.putB
   have e1 : Tb.ok (Dv.puts T b r mk es n) (es.getD n En.zero) = Tb.ok T (es.getD n En.zero) := by unfold Tb.ok; rw [hlog]
   have e2 : Tb.elder (Dv.puts T b r mk es n) (es.getD n En.zero) = false := by
    unfold Tb.elder
    rw [hlk]
    cases hh : Tb.look T.at_ (es.getD n En.zero).lpn with
    | none => rfl
    | some a => have := h2 n (by omega) a hh; exact decide_eq_false (by omega)
   rw [e1, e2, h1 n (by omega)]; rfl
  rw [Dv.puts_succ]
  refine ⟨fun j hj => ?_, fun i hi => ?_⟩
  ·rw [V.look_put]
   by_cases e : j = n
   ·subst e; rw [if_pos ⟨hp, rfl⟩]
   ·rw [if_neg (fun hh => h3 j n (by omega) (by omega) hh.2)]
    exact i1 j (by omega)
  ·rw [V.look_put, if_neg (fun hh => hi n (by omega) hh.2.symm)]
   exact i2 i fun j hj => hi j (by omega)
namespace Last
variable {fd : Int} {Q : Dv} {l : List En} {k m : Nat}
theorem opn (h : Last fd Q l) (hQ : Inv fd Q) : Opn fd Q := hQ.opn h.left
theorem seqs (_h : Last fd Q l) (hO : Q.Ok k m) {i : Nat} (hi : i < Q.fit l) : i < l.length ∧ (Q.es l).getD i En.zero = { l.getD i En.zero with seq := Q.next + i } ∧ i < (Q.es l).length := by
 have := Dv.fit_le Q l
 have hs := Dv.slots_le Q.mask
 have hi2 : i < (G.slots Q.mask).toNat := by omega
 refine ⟨by omega, ?_, by rw [Dv.es_len]; exact hi2⟩
 unfold Dv.es
 rw [num_get hi2]
 unfold Dv.numAt
 rw [if_pos (by omega)]
theorem inv (h : Last fd Q l) (hQ : Inv fd Q) (hO : Q.Ok k m) : Inv fd (wroteP Q l) := by
 have ho := h.opn hQ
 have hnx := hO.next
 have hf := Dv.fit_le Q l
 have he := Dv.es_len Q l
 have := h.turn.inv.puts h.turn.full (show ((Q.wrote l).t.at_ Q.op).used = true from ho.used) (fun _ => by show Q.row < Q.row + 1; omega) Q.T rfl (Q.fit l) (by omega) (fun i hi => by
  obtain ⟨_, e2, _⟩ := h.seqs hO hi
  rw [e2]
  show 1 ≤ Q.next + (i : Int) ∧ Q.next + (i : Int) < Q.next + (Q.fit l : Int)
  omega)
 exact this
theorem look (h : Last fd Q l) (hQ : Inv fd Q) (hO : Q.Ok k m) (hf : ∀ e ∈ l, FitR e) (hlg : ∀ e ∈ l, e.lpn < Q.T.logical) (hnd : (l.map (·.lpn)).Nodup) :
  (∀ j, j < Q.fit l → Tb.look (wroteP Q l).T.at_ (l.getD j En.zero).lpn = some ⟨Q.op, Q.row, j, Q.mask, Q.next + j, (l.getD j En.zero).role⟩) ∧ (∀ i, (∀ j, j < Q.fit l → (l.getD j En.zero).lpn ≠ i) → Tb.look (wroteP Q l).T.at_ i = Tb.look Q.T.at_ i) := by
 have hes := fun j (hj : j < Q.fit l) => h.seqs hO hj
 have hmem : ∀ j, j < Q.fit l → l.getD j En.zero ∈ l := fun j hj => getD_mem (hes j hj).1
 obtain ⟨a1, a2⟩ := puts_look (T := Q.T) (b := Q.op) (r := Q.row) (mk := Q.mask) (es := Q.es l) (Q.fit l) (fun j hj => by
   rw [(hes j hj).2.1]
   have hfe := hf _ (hmem j hj)
   have := hlg _ (hmem j hj)
   unfold Tb.ok
   have e1 : decide (({ l.getD j En.zero with seq := Q.next + (j : Int) } : En).lpn < 0) = false := decide_eq_false (by have := hfe.lpn; show ¬ (l.getD j En.zero).lpn < 0; omega)
   have e2 : decide (({ l.getD j En.zero with seq := Q.next + (j : Int) } : En).lpn ≥ Q.T.logical) = false := decide_eq_false (by show ¬ (l.getD j En.zero).lpn ≥ Q.T.logical; omega)
   rw [e1, e2]
   show (!(false || false || ((l.getD j En.zero).role != 1 && (l.getD j En.zero).role != 2 && (l.getD j En.zero).role != 4))) = true
   rcases hfe.role with e | ⟨e | e, _⟩ <;> rw [e] <;> rfl)
  (fun j hj a ha => by
   rw [(hes j hj).2.1] at ha ⊢
   have := (hQ.st _ a ha).seq
   show a.seq ≤ Q.next + (j : Int)
   omega)
  (fun i j hij hj => by
   rw [(hes j hj).2.1, (hes i (by omega)).2.1]
   show (l.getD i En.zero).lpn ≠ (l.getD j En.zero).lpn
   intro e
   have g1 := (hes j hj).1
   have g2 := (hes i (by omega)).1
   have : (l.map (·.lpn))[i]? = (l.map (·.lpn))[j]? := by
    rw [List.getElem?_map, List.getElem?_map, List.getElem?_eq_getElem g1, List.getElem?_eq_getElem g2]
    rw [List.getD_eq_getElem?_getD, List.getD_eq_getElem?_getD, List.getElem?_eq_getElem g1, List.getElem?_eq_getElem g2] at e
    exact congrArg some e
   have := (List.getElem?_inj (by rw [List.length_map]; exact g2) hnd).1 this
   omega)
 refine ⟨fun j hj => ?_, fun i hi => ?_⟩
 ·have := a1 j hj
  rw [(hes j hj).2.1] at this
  exact this
 ·refine a2 i fun j hj => ?_
  rw [(hes j hj).2.1]
  exact hi j hj
end Last
theorem Inv.pen_calm {fd : Int} {S : Dv} {k m : Nat} {l : List En} (h : Inv fd S) (hO : S.Ok (8 * Dv.fuel + k) m) (hno : NoF S) (hr : 0 < S.rows) (hf : ∀ e ∈ l, FitR e) (hl0 : l.length ≠ 0) (hnx : S.next ≤ 1099511627775 - 7) :
  S.pen l = (wroteP S.at1 l, (S.at1.fit l : Int), (0 : Int)) ∧ Went fd S S.at1 0 ∧ S.at1.Ok (8 + k) m ∧ Last fd S.at1 l := by
 obtain ⟨γ, Q, h1, h2, h3, h4, h5, h6, _⟩ := h.write_go (l := l) 0 159 S k (m := m) hO (.calm hno) hr hf hl0 (by omega)
 obtain ⟨e1, e2⟩ := h6 hno
 subst e1; subst e2
 exact ⟨h5, h2, h3, h4⟩
theorem NoF.went {fd : Int} {S Q : Dv} {β : Nat} (h : NoF S) (w : Went fd S Q β) : NoF Q :=
 ⟨fun i => by rw [w.dead]; exact h.dead i, List.eq_nil_iff_forall_not_mem.2 fun a ha => (by have := w.plan a ha; rw [h.plan] at this; cases this), fun i j => by rw [(w.flags i j).1]; exact h.met i j⟩
theorem NoF.wrote {fd : Int} {Q : Dv} {l : List En} (h : NoF Q) (w : Last fd Q l) : NoF (wroteP Q l) :=
 ⟨fun i => by show (Q.wrote l).N.dead.getD i false = false; rw [w.turn.dead]; exact h.dead i, List.eq_nil_iff_forall_not_mem.2 fun a ha => (by have := w.turn.plan a ha; rw [h.plan] at this; cases this), fun i j => by show ((Q.wrote l).N.blk i j).met = false; rw [(w.turn.flags i j).1]; exact h.met i j⟩
theorem NoF.new (d b p : Nat) (lg : Int) : NoF (Dv.mk (Nand.new d b p) (Tl.new d b p) (Tb.new lg) (-1) 0 0 1) :=
 ⟨fun i => by
  show (List.replicate d false).getD i false = false
  rw [List.getD_eq_getElem?_getD, List.getElem?_replicate]
  split <;> rfl, rfl, fun _ _ => rfl⟩
theorem Inv.new (fd : Int) (d b p : Nat) (lg : Int) : Inv fd (Dv.mk (Nand.new d b p) (Tl.new d b p) (Tb.new lg) (-1) 0 0 1) := by
 refine ⟨Nand.Lit.new d b p, fun i _ => (NoF.new d b p lg).dead i, fun a ha => (by cases ha), fun _ _ _ => ⟨rfl, rfl⟩, ⟨by show L.set 0 = true; decide, fun d hd => (by have : L.has 0 d = true := hd; rw [L.has_zero] at this; cases this)⟩, fun bb hb => ?_, .inl rfl, fun bb hb hu e he => rfl, fun i a ha => (by cases ha)⟩
 have : (Tl.new d b p).at_ bb = Sb.zero := by
  unfold Tl.new Tl.at_
  dsimp only
  rw [List.getD_eq_getElem?_getD, List.getElem?_replicate]
  split <;> rfl
 show L.set ((Tl.new d b p).at_ bb).bad = true ∧ _
 rw [this]
 refine ⟨by decide, fun e he => ?_⟩
 have he : L.has 0 e = true := he
 rw [L.has_zero] at he; cases he
end Go.Proofs.YtdocmcapegcoeaaGreat
namespace Go.Proofs.YtdocmcapegcoeaaGreat
open Go Go.RowKit
theorem tl_Clean (q : Nat) (t : Tl) (hb : t.b ≤ 1000) (hl : t.l.length = t.b) (k : Int) (on : Bool) : Fn Tryz.prog 104 [.pointer (some ⟨q, 0, none⟩), .int .i64 k, .bool on] [TlA q t] (fun v As => v = .tuple #[] ∧ As = [TlA q (t.clean k on)]) := by
 refine Fn.enter [2, 0, 0] Tryz.func104 rfl rfl rfl fun X F hX => ?_
 refine J.open_ (α := Nat) 1 rfl rfl (fun _ => rfl) fun g => ?_
 refine J.r hX tk 400 (fun _ => rfl) fun b1 => ?_
 refine J.ca hX (by kernel_rfl) (tl_at q t hb g k) [1, 2] 0 rfl rfl rfl rfl rfl rfl (fun _ => rfl) ?_
 rintro v As ⟨rfl, rfl⟩
 refine ⟨_, rfl, trivial, ?_⟩
 cases hh : t.has k with
 | false =>
  rw [Tl.adr, hh, if_neg (by simp)]
  refine J.r hX tk 400 (fun _ => rfl) fun b3 => ?_
  refine J.cond rfl (fun h => by simp at h) (fun _ => ?_)
  refine J.r hX tk 400 (fun _ => rfl) fun b4 => ?_
  refine J.close (f := fun g : Nat => TlP q t g) g [1, 2] rfl rfl rfl ?_
  refine J.r hX tk 400 (fun _ => rfl) fun b5 => ?_
  refine J.fi hX tk [1] rfl rfl rfl ?_
  exact ⟨rfl, by rw [Tl.clean, Tl.set, hh]; rfl⟩
 | true =>
  rw [Tl.adr, hh, if_pos rfl]
  refine J.r hX tk 400 (fun _ => rfl) fun b6 => ?_
  refine J.cond rfl (fun _ => ?_) (fun h => by simp at h)
  refine J.r hX tk 400 (fun _ => rfl) fun b7 => ?_
  refine J.store1 hX tk 2 rfl rfl rfl rfl rfl rfl rfl rfl rfl rfl rfl rfl rfl ?_ ((t.clean k on).l.flatMap sbL) ?_ rfl (fun _ => rfl) ⟨trivial, ?_⟩
  ·rw [t.len_l, hl]; simp only [Tl.has, Bool.and_eq_true, decide_eq_true_eq] at hh; omega
  ·exact t.set_at hl hh 2 (by omega) _ _ rfl
  refine J.close (f := fun g : Nat => TlP q (t.clean k on) g) g [1, 2] rfl (by simp only [TlP, Tl.clean, Tl.set_d, Tl.set_b, Tl.set_p, Tl.set_dead]; rfl) rfl ?_
  refine J.r hX tk 400 (fun _ => rfl) fun b8 => ?_
  refine J.fi hX tk [1] rfl rfl rfl ?_
  exact ⟨rfl, rfl⟩
theorem tl_Dead (q : Nat) (t : Tl) (d : Int) : Fn Tryz.prog 47 [.pointer (some ⟨q, 0, none⟩), .int .i64 d] [TlA q t] (fun v As => v = .tuple #[] ∧ As = [TlA q (t.die d)]) := by
 refine Fn.enter [2, 0] Tryz.func47 rfl rfl rfl fun X F hX => ?_
 refine J.open_ (α := Nat) 1 rfl rfl (fun _ => rfl) fun g => ?_
 refine J.r hX tk 400 (fun _ => rfl) fun b9 => ?_
 refine J.ca hX (by kernel_rfl) (tl_die q t g d) [1, 2] 0 rfl rfl rfl rfl rfl rfl (fun _ => rfl) ?_
 rintro v As ⟨rfl, rfl⟩
 refine ⟨_, rfl, trivial, ?_⟩
 refine J.r hX tk 400 (fun _ => rfl) fun b11 => ?_
 refine J.cond rfl (fun h1 => ?_) (fun h1 => ?_)
 ·refine J.r hX tk 400 (fun _ => rfl) fun b12 => ?_
  refine J.ca hX (by kernel_rfl) (l_With t.dead d) [] 0 rfl rfl rfl rfl rfl rfl (fun _ => rfl) ?_
  rintro v As ⟨rfl, rfl⟩
  refine ⟨_, rfl, trivial, ?_⟩
  have he : t.die d = ⟨t.d, t.b, t.p, t.l, L.with_ t.dead d⟩ := by rw [Tl.die, if_pos h1]
  refine J.r hX tk 400 (fun _ => rfl) fun b14 => ?_
  refine J.close (f := fun g : Nat => TlP q (t.die d) g) g [1, 2] rfl (by rw [he]; rfl) rfl ?_
  refine J.r hX tk 400 (fun _ => rfl) fun b15 => ?_
  refine J.fi hX tk [1] rfl rfl rfl ?_
  exact ⟨rfl, rfl⟩
 ·refine J.r hX tk 400 (fun _ => rfl) fun b16 => ?_
  refine J.close (f := fun g : Nat => TlP q t g) g [1, 2] rfl rfl rfl ?_
  refine J.r hX tk 400 (fun _ => rfl) fun b17 => ?_
  refine J.fi hX tk [1] rfl rfl rfl ?_
  exact ⟨rfl, by rw [Tl.die, if_neg (by rw [h1]; simp)]; rfl⟩
theorem pn_max (a b : Int) : (if b > a then b else a) = max a b := by split <;> omega
def PenA (p n t l : Nat) (S : Dv) : Atom := .pt p 96 [.pointer (some ⟨n, 0, none⟩), .pointer (some ⟨t, 0, none⟩), .pointer (some ⟨l, 0, none⟩), .int .i64 S.op, .int .i64 S.row, .int .i64 S.mask, .int .i64 S.next]
def DvP (p n t l : Nat) (S : Dv) : List Atom := [PenA p n t l S, NandA n S.N, TlA t S.t, TbA l S.T]
theorem pn_New (n t l : Nat) (next : Int) (h : -9223372036854775808 ≤ next ∧ next ≤ 9223372036854775807) (N : Nand) (tl : Tl) (T : Tb) : Fn Tryz.prog 52 [.pointer (some ⟨n, 0, none⟩), .pointer (some ⟨t, 0, none⟩), .pointer (some ⟨l, 0, none⟩), .int .i64 next] [] (fun v As => ∃ p, v = .pointer (some ⟨p, 0, none⟩) ∧ As = [PenA p n t l ⟨N, tl, T, -1, 0, 0, max next 1⟩]) := by
 refine Fn.enter [0, 0, 0, 0] Tryz.func52 rfl rfl rfl fun X F hX => ?_
 refine J.r hX tk 400 (fun _ => rfl) fun bb => ?_
 rw [pn_max]
 refine J.r hX tk 400 (fun _ => rfl) fun b1 => ?_
 refine J.rt hX tk [1] rfl rfl rfl ?_
 exact ⟨bb 0, rfl, rfl⟩
theorem pn_Open (p n t l : Nat) (S : Dv) : Fn Tryz.prog 18 [.pointer (some ⟨p, 0, none⟩)] [PenA p n t l S] (fun v As => v = .int .i64 S.op ∧ As = [PenA p n t l S]) := by
 refine Fn.enter [2] Tryz.func18 rfl rfl rfl fun X F hX => ?_
 refine J.r hX tk 400 (fun _ => rfl) fun b2 => ?_
 refine J.cond rfl (fun h => by simp at h) (fun _ => ?_)
 refine J.r hX tk 400 (fun _ => rfl) fun b3 => ?_
 refine J.rt hX tk [1] rfl rfl rfl ?_
 exact ⟨rfl, rfl⟩
theorem pn_left (p n t l : Nat) (S : Dv) : Fn Tryz.prog 53 [.pointer (some ⟨p, 0, none⟩)] (DvP p n t l S) (fun v As => v = .bool S.left ∧ As = DvP p n t l S) := by
 refine Fn.enter [2] Tryz.func53 rfl rfl rfl fun X F hX => ?_
 refine J.r hX tk 400 (fun _ => rfl) fun b4 => ?_
 refine J.plan (.of [0,4,8,13,16,20,24,28,32,37,40,44,48,53,58,60,64,68,72,76,80,84,89,94,96,100,104]) [26] [1,2,3,4] (by rw [hX.hP]; kernel_rfl) (by kernel_rfl) ?_
 refine J.r hX tk 6 (fun _ => rfl) fun b5 => ?_
 cases h1 : decide (S.op ≥ 0) with
 | false =>
  refine J.r hX tk 400 (fun _ => rfl) fun b6 => ?_
  refine J.val hX (.agg #[.int .i64 0, .int .i64 0, .int .i64 0]) 0 rfl rfl (fun hg a w he hs => absurd hg (by simp [G.on])) rfl (by first | exact trivial | (repeat' (first | exact trivial | refine ⟨rfl, ?_⟩))) ?_
  refine J.r hX tk 400 (fun _ => rfl) fun b7 => ?_
  refine J.val hX (.int .i64 0) 0 rfl rfl (fun hg a w he hs => absurd hg (by simp [G.on])) rfl (by first | exact trivial | (repeat' (first | exact trivial | refine ⟨rfl, ?_⟩))) ?_
  refine J.r hX tk 400 (fun _ => rfl) fun b8 => ?_
  refine J.rt hX tk [1, 2, 3, 4] rfl rfl rfl ?_
  exact ⟨by unfold Dv.left; rw [h1]; rfl, rfl⟩
 | true =>
  refine J.r hX tk 400 (fun _ => rfl) fun b9 => ?_
  refine J.ca hX (by kernel_rfl) (n_Geo n S.N) [2] 0 rfl rfl rfl rfl rfl rfl (fun _ => rfl) ?_
  rintro v As ⟨rfl, rfl⟩
  refine ⟨_, rfl, (by first | exact trivial | (repeat' (first | exact trivial | refine ⟨rfl, ?_⟩))), ?_⟩
  refine J.r hX tk 2 (fun _ => rfl) fun b11 => ?_
  cases h2 : decide (S.row < (S.N.pages : Int)) with
  | false =>
   refine J.r hX tk 400 (fun _ => rfl) fun b12 => ?_
   refine J.val hX (.int .i64 0) 0 rfl rfl (fun hg a w he hs => absurd hg (by simp [G.on])) rfl (by first | exact trivial | (repeat' (first | exact trivial | refine ⟨rfl, ?_⟩))) ?_
   refine J.r hX tk 400 (fun _ => rfl) fun b13 => ?_
   refine J.rt hX tk [1, 2, 3, 4] rfl rfl rfl ?_
   exact ⟨by unfold Dv.left; rw [h1, h2]; rfl, rfl⟩
  | true =>
   refine J.r hX tk 400 (fun _ => rfl) fun b14 => ?_
   refine J.ca hX (by kernel_rfl) (g_Slots S.mask) [] 0 rfl rfl rfl rfl rfl rfl (fun _ => rfl) ?_
   rintro v As ⟨rfl, rfl⟩
   refine ⟨_, rfl, (by first | exact trivial | (repeat' (first | exact trivial | refine ⟨rfl, ?_⟩))), ?_⟩
   refine J.r hX tk 400 (fun _ => rfl) fun b16 => ?_
   refine J.rt hX tk [1, 2, 3, 4] rfl rfl rfl ?_
   exact ⟨by unfold Dv.left; rw [h1, h2], rfl⟩
theorem pn_Slots (p n t l : Nat) (S : Dv) (hb : S.t.b ≤ 1000) (hl : S.t.l.length = S.t.b) : Fn Tryz.prog 19 [.pointer (some ⟨p, 0, none⟩)] (DvP p n t l S) (fun v As => v = .int .i64 S.slots ∧ As = DvP p n t l S) := by
 refine Fn.enter [2] Tryz.func19 rfl rfl rfl fun X F hX => ?_
 refine J.r hX tk 400 (fun _ => rfl) fun b17 => ?_
 refine J.cond rfl (fun h => by simp at h) (fun _ => ?_)
 refine J.r hX tk 400 (fun _ => rfl) fun b18 => ?_
 refine J.ca hX (by kernel_rfl) (pn_left p n t l S) [1, 2, 3, 4] 0 rfl rfl rfl rfl rfl rfl (fun _ => rfl) ?_
 rintro v As ⟨rfl, rfl⟩
 refine ⟨_, rfl, trivial, ?_⟩
 refine J.r hX tk 400 (fun _ => rfl) fun b20 => ?_
 refine J.cond rfl (fun h1 => ?_) (fun h1 => ?_)
 ·refine J.r hX tk 400 (fun _ => rfl) fun b21 => ?_
  refine J.ca hX (by kernel_rfl) (g_Slots S.mask) [] 0 rfl rfl rfl rfl rfl rfl (fun _ => rfl) ?_
  rintro v As ⟨rfl, rfl⟩
  refine ⟨_, rfl, trivial, ?_⟩
  refine J.r hX tk 400 (fun _ => rfl) fun b23 => ?_
  refine J.rt hX tk [1, 2, 3, 4] rfl rfl rfl ?_
  exact ⟨by unfold Dv.slots; rw [if_pos h1], rfl⟩
 refine J.r hX tk 400 (fun _ => rfl) fun b24 => ?_
 refine J.plan (.of [0,4,8,13,16,20,24,29,32,36,40,45,48,52,56,61,66,70,74,76]) [19] [1,2,3,4] (by rw [hX.hP]; kernel_rfl) (by kernel_rfl) ?_
 refine J.r hX tk 400 (fun _ => rfl) fun b25 => ?_
 refine J.ca hX (by kernel_rfl) (p_Open t S.t hb hl l S.T S.op) [3, 4] 0 rfl rfl rfl rfl rfl rfl (fun _ => rfl) ?_
 rintro v As ⟨rfl, rfl⟩
 refine ⟨_, rfl, (by first | exact trivial | (repeat' (first | exact trivial | refine ⟨rfl, ?_⟩))), ?_⟩
 refine J.r hX tk 400 (fun _ => rfl) fun b27 => ?_
 refine J.ca hX (by kernel_rfl) (tl_Mask t S.t hb hl S.pick) [3] 0 rfl rfl rfl rfl rfl rfl (fun _ => rfl) ?_
 rintro v As ⟨rfl, rfl⟩
 refine ⟨_, rfl, (by first | exact trivial | (repeat' (first | exact trivial | refine ⟨rfl, ?_⟩))), ?_⟩
 refine J.r hX tk 400 (fun _ => rfl) fun b29 => ?_
 refine J.ca hX (by kernel_rfl) (g_Slots (S.t.mask S.pick)) [] 0 rfl rfl rfl rfl rfl rfl (fun _ => rfl) ?_
 rintro v As ⟨rfl, rfl⟩
 refine ⟨_, rfl, (by first | exact trivial | (repeat' (first | exact trivial | refine ⟨rfl, ?_⟩))), ?_⟩
 refine J.r hX tk 400 (fun _ => rfl) fun b31 => ?_
 refine J.rt hX tk [1, 2, 3, 4] rfl rfl rfl ?_
 exact ⟨by unfold Dv.slots; rw [if_neg (by rw [h1]; decide)], rfl⟩
theorem pn_opens (p n t l : Nat) (S : Dv) (hb : S.t.b ≤ 1000) (hl : S.t.l.length = S.t.b) : Fn Tryz.prog 56 [.pointer (some ⟨p, 0, none⟩)] (DvP p n t l S) (fun v As => v = .int .i64 (if S.pick < 0 then 11 else 0) ∧ As = DvP p n t l (if S.pick < 0 then S else S.opened)) := by
 refine Fn.enter [2] Tryz.func56 rfl rfl rfl fun X F hX => ?_
 refine J.r hX tk 400 (fun _ => rfl) fun b32 => ?_
 refine J.plan (.of [0,4,8,13,16,20,24,29,32,36,40,45,51,52]) [12,13] [1,2,3,4] (by rw [hX.hP]; kernel_rfl) (by kernel_rfl) ?_
 refine J.r hX tk 400 (fun _ => rfl) fun b33 => ?_
 refine J.ca hX (by kernel_rfl) (p_Open t S.t hb hl l S.T S.op) [3, 4] 0 rfl rfl rfl rfl rfl rfl (fun _ => rfl) ?_
 rintro v As ⟨rfl, rfl⟩
 refine ⟨_, rfl, (by first | exact trivial | (repeat' (first | exact trivial | refine ⟨rfl, ?_⟩))), ?_⟩
 refine J.r hX tk 400 (fun _ => rfl) fun b35 => ?_
 refine J.cond rfl (fun h1 => ?_) (fun h1 => ?_)
 ·simp only [decide_eq_true_eq] at h1
  have h1 : S.pick < 0 := h1
  refine J.r hX tk 400 (fun _ => rfl) fun b36 => ?_
  refine J.rt hX tk [1, 2, 3, 4] rfl rfl rfl ?_
  rw [if_pos h1, if_pos h1]
  exact ⟨rfl, rfl⟩
 simp only [decide_eq_false_iff_not] at h1
 have h1 : ¬ S.pick < 0 := h1
 refine J.r hX tk 400 (fun _ => rfl) fun b37 => ?_
 refine J.ca hX (by kernel_rfl) (tl_Clean t S.t hb hl S.pick false) [3] 0 rfl rfl rfl rfl rfl rfl (fun _ => rfl) ?_
 rintro v As ⟨rfl, rfl⟩
 refine ⟨_, rfl, trivial, ?_⟩
 refine J.r hX tk 400 (fun _ => rfl) fun b39 => ?_
 refine J.ca hX (by kernel_rfl) (tl_Mask t (S.t.clean S.pick false) (by unfold Tl.clean; rw [Tl.set_b]; exact hb) (by unfold Tl.clean; rw [Tl.set_len, Tl.set_b]; exact hl) S.pick) [3] 0 rfl rfl rfl rfl rfl rfl (fun _ => rfl) ?_
 rintro v As ⟨rfl, rfl⟩
 refine ⟨_, rfl, trivial, ?_⟩
 refine J.r hX tk 400 (fun _ => rfl) fun b41 => ?_
 refine J.rt hX tk [1, 2, 3, 4] rfl rfl rfl ?_
 rw [if_neg h1, if_neg h1]
 exact ⟨rfl, rfl⟩
theorem pn_loses (p n t l : Nat) (S : Dv) (hN : S.N.Ok) (hF : S.t.Fit S.N) (f : Int) : Fn Tryz.prog 60 [.pointer (some ⟨p, 0, none⟩), .int .i64 f] (DvP p n t l S) (fun v As => v = .tuple #[] ∧ As = DvP p n t l (S.loses f)) := by
 have hbd := hN.bd16
 refine Fn.enter [2, 0] Tryz.func60 rfl rfl rfl fun X F hX => ?_
 refine J.r hX tk 400 (fun _ => rfl) fun b42 => ?_
 refine J.ca hX (by kernel_rfl) (n_Geo n S.N) [2] 0 rfl rfl rfl rfl rfl rfl (fun _ => rfl) ?_
 rintro v As ⟨rfl, rfl⟩
 refine ⟨_, rfl, trivial, ?_⟩
 refine J.r hX tk 400 (fun _ => rfl) fun b44 => ?_
 refine J.lo (α := (Nat × Dv)) (fun z => z.1 ≤ S.N.dies ∧ z.2 = (List.range z.1).foldl (Dv.lose f) S) (fun z => [⟨11, .int .i64 z.1, 0, .tt⟩, ⟨10, .int .i64 S.N.dies, 0, .tt⟩, ⟨0, .pointer (some ⟨p, 0, none⟩), 2, .tt⟩, ⟨1, .int .i64 f, 0, .tt⟩]) [1, 2, 3, 4] (fun z => DvP p n t l z.2) (fun z => S.N.dies - z.1) ((0, S)) (⟨Nat.zero_le _, rfl⟩) rfl ?_ (fun _ => rfl) fun z hI => ?_
 ·rfl
 obtain ⟨k, Q⟩ := z
 dsimp only at hI ⊢
 obtain ⟨hk, hQ⟩ := hI
 obtain ⟨q1, q2, q3, q4, q5, q6, q7⟩ := Dv.foldl_lose f (List.range k) S hF
 rw [← hQ] at q1 q2 q3 q4 q5 q6 q7
 have hlb : Q.t.l.length = Q.t.b := q6.len
 have hbb : Q.t.b ≤ 1000 := by have := q6.b; omega
 refine J.r hX tk 400 (fun _ => rfl) fun b45 => ?_
 refine J.cond rfl (fun h1 => ?_) (fun h1 => ?_)
 ·simp only [decide_eq_true_eq, Int.ofNat_lt] at h1
  have hs : (List.range (k + 1)).foldl (Dv.lose f) S = Dv.lose f Q k := by rw [List.range_succ, List.foldl_append, ← hQ]; rfl
  refine J.r hX tk 400 (fun _ => rfl) fun b46 => ?_
  refine J.ca hX (by kernel_rfl) (l_Has f k) [] 0 rfl rfl rfl rfl rfl rfl (fun _ => rfl) ?_
  rintro v As ⟨rfl, rfl⟩
  refine ⟨_, rfl, trivial, ?_⟩
  refine J.r hX tk 400 (fun _ => rfl) fun b48 => ?_
  refine J.cond rfl (fun h2 => ?_) (fun h2 => ?_)
  ·simp only [Bool.not_eq_true'] at h2
   have hz : Dv.lose f Q k = Q := by unfold Dv.lose; rw [if_neg (by rw [h2]; decide)]
   refine J.r hX tk 400 (fun _ => rfl) fun b49 => ?_
   refine J.nS ((k + 1, Q)) (⟨by dsimp only; omega, by dsimp only; rw [hs, hz]⟩) (by dsimp only; omega) [0, 1, 2, 3, 4] rfl rfl
  simp only [Bool.not_eq_false'] at h2
  refine J.r hX tk 400 (fun _ => rfl) fun b51 => ?_
  refine J.ca hX (by kernel_rfl) (n_Dead n Q.N (by rw [q1]; exact hN) k) [2] 0 rfl rfl rfl rfl rfl rfl (fun _ => rfl) ?_
  rintro v As ⟨rfl, rfl⟩
  refine ⟨_, rfl, trivial, ?_⟩
  refine J.r hX tk 400 (fun _ => rfl) fun b53 => ?_
  refine J.cond rfl (fun h3 => ?_) (fun h3 => ?_)
  ·have hz : Dv.lose f Q k = { Q with t := Q.t.die k, mask := L.without Q.mask k } := by unfold Dv.lose; rw [if_pos h2, if_pos h3]
   refine J.r hX tk 400 (fun _ => rfl) fun b54 => ?_
   refine J.ca hX (by kernel_rfl) (tl_Dead t Q.t k) [3] 0 rfl rfl rfl rfl rfl rfl (fun _ => rfl) ?_
   rintro v As ⟨rfl, rfl⟩
   refine ⟨_, rfl, trivial, ?_⟩
   refine J.r hX tk 400 (fun _ => rfl) fun b56 => ?_
   refine J.ca hX (by kernel_rfl) (l_Without Q.mask k) [] 0 rfl rfl rfl rfl rfl rfl (fun _ => rfl) ?_
   rintro v As ⟨rfl, rfl⟩
   refine ⟨_, rfl, trivial, ?_⟩
   refine J.r hX tk 400 (fun _ => rfl) fun b58 => ?_
   refine J.nS ((k + 1, { Q with t := Q.t.die k, mask := L.without Q.mask k })) (⟨by dsimp only; omega, by dsimp only; rw [hs, hz]⟩) (by dsimp only; omega) [0, 1, 2, 3, 4] rfl rfl
  ·have hz : Dv.lose f Q k = { Q with t := Q.t.bad k Q.op, mask := L.without Q.mask k } := by unfold Dv.lose; rw [if_pos h2, if_neg (by rw [h3]; decide)]
   refine J.r hX tk 400 (fun _ => rfl) fun b60 => ?_
   refine J.plan (.of [0,4,8,13,16,20,24,28,33,38]) [] [1,2,4] (by rw [hX.hP]; kernel_rfl) (by kernel_rfl) ?_
   refine J.r hX tk 400 (fun _ => rfl) fun b61 => ?_
   refine J.ca hX (by kernel_rfl) (tl_Bad t Q.t hbb hlb k Q.op) [3] 0 rfl rfl rfl rfl rfl rfl (fun _ => rfl) ?_
   rintro v As ⟨rfl, rfl⟩
   refine ⟨_, rfl, (by first | exact trivial | (repeat' (first | exact trivial | refine ⟨rfl, ?_⟩))), ?_⟩
   refine J.r hX tk 400 (fun _ => rfl) fun b63 => ?_
   refine J.ca hX (by kernel_rfl) (l_Without Q.mask k) [] 0 rfl rfl rfl rfl rfl rfl (fun _ => rfl) ?_
   rintro v As ⟨rfl, rfl⟩
   refine ⟨_, rfl, trivial, ?_⟩
   refine J.r hX tk 400 (fun _ => rfl) fun b65 => ?_
   refine J.nS ((k + 1, { Q with t := Q.t.bad k Q.op, mask := L.without Q.mask k })) (⟨by dsimp only; omega, by dsimp only; rw [hs, hz]⟩) (by dsimp only; omega) [0, 1, 2, 3, 4] rfl rfl
 ·simp only [decide_eq_false_iff_not, Int.ofNat_lt] at h1
  obtain rfl : k = S.N.dies := by omega
  refine J.r hX tk 400 (fun _ => rfl) fun b67 => ?_
  refine J.fi hX tk [1, 2, 3, 4] rfl rfl rfl ?_
  exact ⟨rfl, by rw [hQ]; rfl⟩
theorem cellsE_set : ∀ (l : List En) (r : List Value) (k : Nat) (x : En), k < l.length → (cellsE l ++ r).take (k * 19) ++ enL x ++ (cellsE l ++ r).drop (k * 19 + 19) = cellsE (l.set k x) ++ r
 | [], _, _, _, h => by simp at h
 | y :: l, r, 0, x, h => by simp [cellsE, enL]
 | y :: l, r, k + 1, x, h => by
  have := cellsE_set l r k x (by simpa using h)
  have hy : (enL y).length = 19 := rfl
  have e1 : cellsE (y :: l) ++ r = enL y ++ (cellsE l ++ r) := by simp [cellsE]
  have e2 : cellsE ((y :: l).set (k + 1) x) ++ r = enL y ++ (cellsE (l.set k x) ++ r) := by simp [cellsE]
  rw [e1, e2, ← this, show (k + 1) * 19 = (enL y).length + k * 19 from by omega, List.take_length_add_append, show (enL y).length + k * 19 + 19 = (enL y).length + (k * 19 + 19) from by omega, ← List.drop_drop, List.drop_left' rfl]
  simp only [List.append_assoc]
theorem cellsE_len : ∀ l : List En, (cellsE l).length = l.length * 19
 | [] => rfl
 | x :: l => by
  have := cellsE_len l
  have e1 : cellsE (x :: l) = enL x ++ cellsE l := by simp [cellsE]
  have hy : (enL x).length = 19 := rfl
  rw [e1, List.length_append, this, hy, List.length_cons]; omega
def idxE (p : En → Bool) (l : List En) : Int := match l.findIdx? p with
 | some k => k
 | none => -1
theorem idxE_step {p : En → Bool} {l : List En} {k : Nat} {x : En} (h : l[k]? = some x) (h0 : ∀ i < k, p (l.getD i En.zero) = false) (hp : p x = true) : l.findIdx? p = some k := by
 rw [List.findIdx?_eq_some_iff_getElem]
 obtain ⟨h1, h2⟩ := List.getElem?_eq_some_iff.1 h
 refine ⟨h1, by rw [h2]; exact hp, fun j hj => ?_⟩
 have := h0 j hj
 rw [List.getD_eq_getElem?_getD, List.getElem?_eq_getElem (by omega), Option.getD_some] at this
 simp [this]
theorem idxE_none {p : En → Bool} {l : List En} (h0 : ∀ i < l.length, p (l.getD i En.zero) = false) : l.findIdx? p = none := by
 rw [List.findIdx?_eq_none_iff]
 intro x hx
 obtain ⟨i, hi, rfl⟩ := List.mem_iff_getElem.1 hx
 have := h0 i hi
 rwa [List.getD_eq_getElem?_getD, List.getElem?_eq_getElem hi, Option.getD_some] at this
theorem idxE_any (p : En → Bool) (l : List En) : decide (idxE p l ≥ 0) = l.any p := by
 unfold idxE
 cases h : l.findIdx? p with
 | none =>
  rw [List.findIdx?_eq_none_iff] at h
  have : l.any p = false := by rw [List.any_eq_false]; exact fun x hx => by simp [h x hx]
  rw [this]; rfl
 | some k =>
  rw [List.findIdx?_eq_some_iff_getElem] at h
  obtain ⟨h1, h2, _⟩ := h
  have : l.any p = true := List.any_eq_true.2 ⟨l[k], List.getElem_mem _, h2⟩
  rw [this]; simp
theorem x_IndexE (c : Nat) (cs : List Value) (p : En → Bool) (A : Atom) (hcal : callable Tryz.prog c = true) (l : List En) (hf : ∀ x ∈ l, Fn Tryz.prog c (enV x :: cs) [A] (fun v As => v = .bool (p x) ∧ As = [A]))
  (a : Option Nat) (n cap : Nat) (hl : l.length = n) (hn : n ≤ 4611686018427387904) : Fn Tryz.prog 179 [slv a n cap, fnC c cs] [ownA 38 19 a n cap (cellsE l), A]
  (fun v As => v = .int .i64 (idxE p l) ∧ As = [ownA 38 19 a n cap (cellsE l), A]) := by
 refine Fn.enter [0, 0] Tryz.func179 rfl rfl rfl fun X F hX => ?_
 refine J.r hX tk 400 (fun _ => rfl) fun b1 => ?_
 refine J.lo (α := Nat) (fun k => k ≤ n ∧ ∀ i < k, p (l.getD i En.zero) = false) (fun k => [⟨8, .int .i64 k, 0, .tt⟩, ⟨7, .int .i64 n, 0, .tt⟩, ⟨0, slv a n cap, 0, .tt⟩, ⟨1, fnC c cs, 0, .tt⟩]) [] (fun k => []) (fun k => n - k) (0) (⟨by omega, by omega⟩) rfl ?_ (fun _ => rfl) fun k hI => ?_
 ·rfl
 refine J.r hX tk 400 (fun _ => rfl) fun b3 => ?_
 refine J.cond rfl (fun h1 => ?_) (fun h1 => ?_)
 ·simp only [decide_eq_true_eq, Int.ofNat_lt] at h1
  cases a with
  | none =>
   refine J.know (fun h' s => (s.get (i := 1) rfl).2.1) fun hn0 => ?_
   omega
  | some g =>
   have hk : l[k]? = some (l.getD k En.zero) := by rw [List.getD_eq_getElem?_getD, List.getElem?_eq_getElem (by omega), Option.getD_some]
   refine J.r hX tk 400 (fun _ => rfl) fun b4 => ?_
   refine J.val hX (enV (l.getD k En.zero)) 0 rfl rfl (fun hg a w he hs => ?_) rfl trivial ?_
   ·exact ownN_run tk rfl rfl he rfl rfl rfl (hs.get (i := 1) rfl) (by rw [show 0 + (k : Int).toNat * 19 = k * 19 from by omega]; have := cellsE_at l [] k _ hk; rwa [List.append_nil] at this) rfl
   refine J.r hX tk 400 (fun _ => rfl) fun b5 => ?_
   refine J.call hX hcal (hf (l.getD k En.zero) (List.mem_of_getElem? hk)) [2] 0 rfl rfl rfl rfl (by (repeat' (first | exact Conj.nil | refine Conj.cons ?_ ?_ | omega | exact hq0 | (simpa using hq0) | (exact fun h => h) | exact rfl | (intro hq; have hq0 := hq; try simp only [Bool.and_eq_true, Bool.or_eq_true, decide_eq_true_eq, Bool.not_eq_true', decide_eq_false_iff_not] at hq) | (simp; done) | (simp; omega) | decide))) rfl rfl (fun _ => rfl) ?_
   rintro v As ⟨rfl, rfl⟩
   refine ⟨_, rfl, trivial, ?_⟩
   refine J.r hX tk 400 (fun _ => rfl) fun b6 => ?_
   refine J.cond rfl (fun h2 => ?_) (fun h2 => ?_)
   ·refine J.r hX tk 400 (fun _ => rfl) fun b7 => ?_
    refine J.rt hX tk [1, 2] rfl rfl rfl ?_
    exact ⟨by rw [idxE, idxE_step hk hI.2 h2], rfl⟩
   ·refine J.r hX tk 400 (fun _ => rfl) fun b8 => ?_
    refine J.nx (k + 1) (⟨by omega, fun i hi => by
     rcases Nat.lt_succ_iff_lt_or_eq.1 hi with h3 | h3
     ·exact hI.2 i h3
     ·rw [h3]; exact h2⟩) (by omega) (fun _ s => s)
 ·simp only [decide_eq_false_iff_not, Int.ofNat_lt] at h1
  refine J.r hX tk 400 (fun _ => rfl) fun b9 => ?_
  refine J.rt hX tk [1, 2] rfl rfl rfl ?_
  exact ⟨by rw [idxE, idxE_none (fun i hi => hI.2 i (by omega))], rfl⟩
theorem cellsE_one (l : List En) : ∀ u ∈ cellsE l, u.oneCell' = true := by
 intro u hu
 simp only [cellsE, List.mem_flatMap] at hu
 obtain ⟨s, _, hu⟩ := hu
 simp only [enL, List.mem_cons, List.not_mem_nil, or_false] at hu
 rcases hu with rfl | rfl | rfl | rfl | rfl | rfl | rfl | rfl | rfl | rfl | rfl | rfl | rfl | rfl | rfl | rfl | rfl | rfl | rfl <;> rfl
def DelE (p : En → Bool) (l m : List En) (i j : Nat) : Prop := m.length = l.length ∧ i < j ∧ j ≤ l.length ∧ m.drop j = l.drop j ∧ m.take i ++ (l.drop j).filter (fun x => !p x) = l.filter (fun x => !p x)
theorem DelE.start {p : En → Bool} {l : List En} {k : Nat} (h : l.findIdx? p = some k) : DelE p l l k (k + 1) := by
 rw [List.findIdx?_eq_some_iff_getElem] at h
 obtain ⟨h1, h2, h3⟩ := h
 refine ⟨rfl, by omega, by omega, rfl, ?_⟩
 have e : l = l.take k ++ l[k] :: l.drop (k + 1) := by rw [← List.drop_eq_getElem_cons h1, List.take_append_drop]
 have e2 : (l.take k).filter (fun x => !p x) = l.take k := by
  rw [List.filter_eq_self]
  intro x hx
  obtain ⟨i, hi, rfl⟩ := List.mem_iff_getElem.1 hx
  rw [List.getElem_take]
  have := h3 i (by simp at hi; omega)
  simpa using this
 conv => rhs; rw [e]
 rw [List.filter_append, e2, List.filter_cons_of_neg (by simp [h2])]
theorem DelE.skip {p : En → Bool} {l m : List En} {i j : Nat} (h : DelE p l m i j) (hj : j < l.length) (hp : p (m.getD j En.zero) = true) : DelE p l m i (j + 1) := by
 obtain ⟨h1, h2, h3, h4, h5⟩ := h
 have e1 : m[j]? = l[j]? := by have := congrArg (fun z => z[0]?) h4; simpa using this
 have hx : l[j] = m.getD j En.zero := by rw [List.getD_eq_getElem?_getD, e1, List.getElem?_eq_getElem hj, Option.getD_some]
 refine ⟨h1, by omega, by omega, ?_, ?_⟩
 ·have := congrArg (List.drop 1) h4
  simpa [List.drop_drop] using this
 ·rw [← h5, List.drop_eq_getElem_cons hj, List.filter_cons_of_neg (by rw [hx, hp]; simp)]
theorem DelE.keep {p : En → Bool} {l m : List En} {i j : Nat} (h : DelE p l m i j) (hj : j < l.length) (hp : p (m.getD j En.zero) = false) : DelE p l (m.set i (m.getD j En.zero)) (i + 1) (j + 1) := by
 obtain ⟨h1, h2, h3, h4, h5⟩ := h
 have e1 : m[j]? = l[j]? := by have := congrArg (fun z => z[0]?) h4; simpa using this
 have hx : l[j] = m.getD j En.zero := by rw [List.getD_eq_getElem?_getD, e1, List.getElem?_eq_getElem hj, Option.getD_some]
 refine ⟨by simp [h1], by omega, by omega, ?_, ?_⟩
 ·rw [List.drop_set_of_lt (by omega)]
  have := congrArg (List.drop 1) h4
  simpa [List.drop_drop] using this
 ·rw [← h5, List.drop_eq_getElem_cons hj, List.filter_cons_of_pos (by rw [hx, hp]; simp), hx, List.take_set, List.take_add_one, List.getElem?_eq_getElem (by omega)]
  rw [List.set_append_right _ _ (by simp; omega)]
  simp [List.length_take, Nat.min_eq_left (show i ≤ m.length by omega)]
theorem x_DeleteE (c : Nat) (cs : List Value) (p : En → Bool) (A : Atom) (hcal : callable Tryz.prog c = true) (hf : ∀ x, Fn Tryz.prog c (enV x :: cs) [A] (fun v As => v = .bool (p x) ∧ As = [A]))
  (a : Option Nat) (n cap : Nat) (l : List En) (hl : l.length = n) (hn : n ≤ 4611686018427387904) : Fn Tryz.prog 176 [slv a n cap, fnC c cs] [ownA 38 19 a n cap (cellsE l), A]
  (fun v As => ∃ l', l' = l.filter (fun x => !p x) ∧ v = slv a l'.length cap ∧ As = [ownA 38 19 a l'.length cap (cellsE l'), A]) := by
 refine Fn.enter [0, 0] Tryz.func176 rfl rfl rfl fun X F hX => ?_
 refine J.r hX tk 400 (fun _ => rfl) fun b18 => ?_
 refine J.ca hX (by kernel_rfl) (x_IndexE c cs p A hcal l (fun x _ => hf x) a n cap hl hn) [1, 2] 0 rfl rfl rfl rfl rfl rfl (fun _ => rfl) ?_
 rintro v As ⟨rfl, rfl⟩
 refine ⟨_, rfl, trivial, ?_⟩
 rw [idxE]
 cases hx : l.findIdx? p with
 | none =>
  dsimp only
  refine J.r hX tk 400 (fun _ => rfl) fun b20 => ?_
  refine J.cond rfl (fun _ => ?_) (fun h => by simp at h)
  refine J.r hX tk 400 (fun _ => rfl) fun b21 => ?_
  refine J.rt hX tk [1, 2] rfl rfl rfl ?_
  have : l.filter (fun x => !p x) = l := by
   rw [List.filter_eq_self]
   intro x hm
   rw [List.findIdx?_eq_none_iff] at hx
   simp [hx x hm]
  exact ⟨l, this.symm, by rw [hl], by rw [hl]; rfl⟩
 | some k =>
  dsimp only
  refine J.r hX tk 400 (fun _ => rfl) fun b22 => ?_
  refine J.cond rfl (fun h0 => ?_) (fun h0 => ?_)
  ·simp only [beq_iff_eq] at h0; omega
  have hk : k < n := by rw [List.findIdx?_eq_some_iff_getElem] at hx; obtain ⟨h1, _⟩ := hx; omega
  cases a with
  | none =>
   refine J.know (fun h' s => (s.get (i := 1) rfl).2.1) fun hn0 => ?_
   omega
  | some g =>
   refine J.openOwn 1 rfl rfl (fun _ => rfl) fun r q1 q2 q3 q4 => ?_
   refine J.r hX tk 400 (fun _ => rfl) fun b23 => ?_
   rw [show (k : Int) + 1 = ((k + 1 : Nat) : Int) from by omega]
   refine J.r hX tk 400 (fun _ => rfl) fun b24 => ?_
   refine J.lo (α := (Nat × Nat × List En)) (fun x => DelE p l x.2.2 x.1 x.2.1) (fun x => [⟨6, .int .i64 x.2.1, 0, .tt⟩, ⟨5, .int .i64 x.1, 0, .tt⟩, ⟨0, slv (some g) n cap, 0, .tt⟩, ⟨1, fnC c cs, 0, .tt⟩]) [1] (fun x => [.pt g 38 (cellsE x.2.2 ++ r)]) (fun x => n - x.2.1) ((k, k + 1, l)) (DelE.start hx) rfl ?_ (fun _ => rfl) fun x hI => ?_
   ·rfl
   obtain ⟨i, j, m⟩ := x
   dsimp only at hI ⊢
   have hml : m.length = n := hI.1.trans hl
   have hij : i < j := hI.2.1
   have hjn : j ≤ n := by have := hI.2.2.1; omega
   refine J.r hX tk 400 (fun _ => rfl) fun b25 => ?_
   refine J.cond rfl (fun h1 => ?_) (fun h1 => ?_)
   ·simp only [decide_eq_true_eq, Int.ofNat_lt] at h1
    have hget : m[j]? = some (m.getD j En.zero) := by rw [List.getD_eq_getElem?_getD, List.getElem?_eq_getElem (by omega), Option.getD_some]
    refine J.r hX tk 400 (fun _ => rfl) fun b26 => ?_
    refine J.val hX (enV (m.getD j En.zero)) 0 rfl rfl (fun hg a w he hs => ?_) rfl trivial ?_
    ·exact loadN_run tk rfl rfl he rfl rfl rfl (hs.get (i := 1) rfl) (by rw [show 0 + (j : Int).toNat * 19 = j * 19 from by omega]; exact cellsE_at m r _ _ hget) rfl
    refine J.r hX tk 400 (fun _ => rfl) fun b27 => ?_
    refine J.call hX hcal (hf (m.getD j En.zero)) [2] 0 rfl rfl rfl rfl (by (repeat' (first | exact Conj.nil | refine Conj.cons ?_ ?_ | omega | exact hq0 | (simpa using hq0) | (exact fun h => h) | exact rfl | (intro hq; have hq0 := hq; try simp only [Bool.and_eq_true, Bool.or_eq_true, decide_eq_true_eq, Bool.not_eq_true', decide_eq_false_iff_not] at hq) | (simp; done) | (simp; omega) | decide))) rfl rfl (fun _ => rfl) ?_
    rintro v As ⟨rfl, rfl⟩
    refine ⟨_, rfl, trivial, ?_⟩
    refine J.r hX tk 400 (fun _ => rfl) fun b28 => ?_
    refine J.cond rfl (fun h2 => ?_) (fun h2 => ?_)
    ·simp only [Bool.not_eq_true'] at h2
     refine J.r hX tk 400 (fun _ => rfl) fun b29 => ?_
     refine J.storeN hX tk 1 rfl rfl rfl rfl rfl rfl rfl rfl rfl rfl rfl rfl rfl ?_ (cellsE (m.set i (m.getD j En.zero)) ++ r) ?_ rfl (fun _ => rfl) ⟨trivial, ?_⟩
     ·rw [List.length_append, cellsE_len]; show 0 + (i : Int).toNat * 19 + 19 ≤ _; omega
     ·rw [show 0 + (i : Int).toNat * 19 = i * 19 from by omega]; exact cellsE_set m r i _ (by omega)
     refine J.r hX tk 400 (fun _ => rfl) fun b30 => ?_
     refine J.nS ((i + 1, j + 1, m.set i (m.getD j En.zero))) (hI.keep (by omega) h2) (by dsimp only; omega) [0, 1, 2] rfl rfl
    ·simp only [Bool.not_eq_false'] at h2
     refine J.r hX tk 400 (fun _ => rfl) fun b31 => ?_
     refine J.nS ((i, j + 1, m)) (hI.skip (by omega) h2) (by dsimp only; omega) [0, 1, 2] rfl rfl
   ·simp only [decide_eq_false_iff_not, Int.ofNat_lt] at h1
    obtain rfl : j = n := by omega
    have hfil : m.take i = l.filter (fun x => !p x) := by
     have h5 := hI.2.2.2.2
     rw [List.drop_of_length_le (by omega)] at h5
     simpa using h5
    refine J.r hX tk 400 (fun _ => rfl) fun b32 => ?_
    refine J.clear hX tk 1 rfl rfl rfl rfl rfl rfl rfl rfl rfl rfl rfl ?_ (fun _ => rfl) (fun _ => rfl) fun cs' z1 z2 => ⟨trivial, ?_⟩
    ·rw [List.length_append, cellsE_len]; rw [cellsE_len] at q4
     show 0 + (i : Int).toNat * 19 + (j - (i : Int).toNat) * 19 ≤ _
     have : (i : Int).toNat = i := by omega
     rw [this]; omega
    have hilen : (l.filter (fun x => !p x)).length = i := by rw [← hfil, List.length_take]; omega
    refine J.closeOwn (e := 38) (size := 19) (n := i) (cap := cap) (xs := cellsE (l.filter (fun x => !p x))) 1 rfl rfl (by rw [cellsE_len, hilen]) (by omega) q3 (by rw [z1, List.length_append, cellsE_len, hml]; rw [cellsE_len, hl] at q4; exact q4) ?_ rfl ?_
    ·have z3 : (0 + (i : Int).toNat * 19) = i * 19 := by omega
     rw [z3] at z2
     rw [z2, ← hfil]
     have e : cellsE m = cellsE (m.take i) ++ cellsE (m.drop i) := by
      conv => lhs; rw [← List.take_append_drop i m]
      simp only [cellsE, List.flatMap_append]
     rw [e, List.append_assoc, List.take_left' (by rw [cellsE_len, List.length_take, Nat.min_eq_left (by omega)])]
    refine J.r hX tk 400 (fun _ => rfl) fun b33 => ?_
    refine J.rt hX tk [1, 2] rfl rfl rfl ?_
    exact ⟨_, rfl, by rw [hilen]; rfl, by rw [hilen]; rfl⟩
end Go.Proofs.YtdocmcapegcoeaaGreat
