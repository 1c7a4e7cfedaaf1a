/- Helpers, proved here. No condition. -/
import Derived.Test.YtdocmcapegcoeaaGreatV06
import Derived.Test.YtdocmcapegcoeaaGreatV08
import Derived.Test.YtdocmcapegcoeaaGreatV12
import Derived.Test.YtdocmcapegcoeaaGreatV15
import Derived.Test.YtdocmcapegcoeaaGreatV16
set_option maxRecDepth 20000
set_option linter.all false
namespace Go.Proofs.YtdocmcapegcoeaaGreat
theorem pkMin_mem (f : Int → Int → Int) : ∀ (l : List Int) (m : Int), pkMin f l m = m ∨ pkMin f l m ∈ l
 | [], m => .inl rfl
 | x :: l, m => by
  rw [pkMin]
  rcases pkMin_mem f l (if f x m < 0 then x else m) with h | h
  ·rw [h]
   split
   ·exact .inr (List.mem_cons_self ..)
   ·exact .inl rfl
  ·exact .inr (List.mem_cons_of_mem _ h)
theorem pkLeast_mem (f : Int → Int → Int) {l : List Int} (h : l ≠ []) : pkLeast f l ∈ l := by
 cases l with
 | nil => exact absurd rfl h
 | cons x l =>
  rcases pkMin_mem f l x with e | e
  ·show pkMin f l x ∈ _
   rw [e]; exact List.mem_cons_self ..
  ·exact List.mem_cons_of_mem _ e
theorem mem_pkSome {kind : Int → Bool} {o x : Int} {n : Nat} : x ∈ pkSome kind o n ↔ 0 ≤ x ∧ x < n ∧ x ≠ o ∧ kind x = true := by
 simp only [pkSome, List.mem_map, List.mem_filter, List.mem_range, Bool.and_eq_true, bne_iff_ne, ne_eq]
 constructor
 ·rintro ⟨k, ⟨h1, h2, h3⟩, rfl⟩
  exact ⟨by omega, by omega, h2, h3⟩
 ·rintro ⟨h1, h2, h3, h4⟩
  obtain ⟨k, rfl⟩ := Int.eq_ofNat_of_zero_le h1
  exact ⟨k, ⟨by omega, h3, h4⟩, rfl⟩
theorem pick_some (f : Int → Int → Int) (kind : Int → Bool) (o : Int) (n : Nat) : (pkLeast f (pkSome kind o n) = -1 ∧ pkSome kind o n = []) ∨ (pkLeast f (pkSome kind o n) ∈ pkSome kind o n ∧ 0 ≤ pkLeast f (pkSome kind o n)) := by
 by_cases h : pkSome kind o n = []
 ·left; rw [h]; exact ⟨rfl, rfl⟩
 ·right
  have := pkLeast_mem f h
  exact ⟨this, (mem_pkSome.1 this).1⟩
structure Tl.Fit (t : Tl) (N : Nand) : Prop where
 d : t.d = N.dies
 b : t.b = N.blocks
 p : t.p = N.pages
 len : t.l.length = t.b
namespace Tl
theorem set_len (t : Tl) (k : Int) (s : Sb) : (t.set k s).l.length = t.l.length := by unfold set; split <;> simp
theorem Fit.set {t : Tl} {N : Nand} (h : t.Fit N) (k : Int) (s : Sb) : (t.set k s).Fit N :=
 ⟨by rw [set_d]; exact h.d, by rw [set_b]; exact h.b, by rw [set_p]; exact h.p, by rw [set_len, set_b]; exact h.len⟩
theorem Fit.wore {t : Tl} {N : Nand} (h : t.Fit N) (k n : Int) : (t.wore k n).Fit N := h.set _ _
theorem Fit.clean {t : Tl} {N : Nand} (h : t.Fit N) (k : Int) (on : Bool) : (t.clean k on).Fit N := h.set _ _
theorem Fit.bad {t : Tl} {N : Nand} (h : t.Fit N) (d k : Int) : (t.bad d k).Fit N := by unfold Tl.bad; split; (· exact h.set _ _); exact h
theorem Fit.die {t : Tl} {N : Nand} (h : t.Fit N) (d : Int) : (t.die d).Fit N := by unfold Tl.die; split; (· exact ⟨h.d, h.b, h.p, h.len⟩); exact h
theorem Fit.like {t : Tl} {N N' : Nand} (h : t.Fit N) (l : N.Like N') : t.Fit N' := ⟨h.d.trans l.dies.symm, h.b.trans l.blocks.symm, h.p.trans l.pages.symm, h.len⟩
def blanks (t : Tl) : Nat := t.l.countP fun s => !s.used
theorem countP_set {α : Type} (p : α → Bool) (x y : α) : ∀ (l : List α) (k : Nat), l[k]? = some x → (l.set k y).countP p + (if p x then 1 else 0) = l.countP p + (if p y then 1 else 0)
 | [], k, h => by simp at h
 | z :: l, 0, h => by
  simp only [List.getElem?_cons_zero, Option.some.injEq] at h
  subst h
  simp only [List.set_cons_zero, List.countP_cons]; omega
 | z :: l, k + 1, h => by
  have := countP_set p x y l k (by simpa using h)
  simp only [List.set_cons_succ, List.countP_cons]; omega
theorem blanks_same {t : Tl} (hl : t.l.length = t.b) (k : Int) (s : Sb) (h : s.used = (t.at_ k).used) : (t.set k s).blanks = t.blanks := by
 unfold set blanks
 split
 ·rename_i hh
  have := countP_set (fun s : Sb => !s.used) (t.at_ k) s t.l k.toNat (get_at hl hh)
  dsimp only
  rw [h] at this; omega
 ·rfl
theorem blanks_bad {t : Tl} (hl : t.l.length = t.b) (d k : Int) : (t.bad d k).blanks = t.blanks := by
 unfold Tl.bad; split
 ·exact blanks_same hl _ _ rfl
 ·rfl
theorem blanks_die (t : Tl) (d : Int) : (t.die d).blanks = t.blanks := by unfold Tl.die; split <;> rfl
theorem blanks_open {t : Tl} (hl : t.l.length = t.b) {k : Int} (h : t.blank k = true) : (t.clean k false).blanks + 1 = t.blanks := by
 simp only [blank, Bool.and_eq_true, Bool.not_eq_true'] at h
 have := countP_set (fun s : Sb => !s.used) (t.at_ k) { t.at_ k with used := !false } t.l k.toNat (get_at hl h.1)
 unfold clean set blanks
 rw [if_pos h.1]
 simp only [h.2] at this
 simpa using this
theorem blanks_le {t : Tl} (hl : t.l.length = t.b) : t.blanks ≤ t.b := by unfold blanks; rw [← hl]; exact List.countP_le_length
end Tl
structure Dv.Ok (S : Dv) (k m : Nat) : Prop where
 gd : S.N.Gd k m
 t : S.t.Fit S.N
 T : S.T.Ok
 sl : ∀ x ∈ S.T.at_, 0 ≤ x.2.slot ∧ x.2.slot ≤ 1000
 row : 0 ≤ S.row ∧ S.row ≤ 8
 next : 1 ≤ S.next ∧ S.next ≤ 1099511627776
theorem Nand.Ok.bd16 {N : Nand} (h : N.Ok) : (3 ≤ N.dies ∧ N.dies ≤ 6) ∧ (8 ≤ N.blocks ∧ N.blocks ≤ 16) ∧ (2 ≤ N.pages ∧ N.pages ≤ 8) := by
 have := h.geo
 simp [geoMay] at this; omega
theorem Tb.put_slot {T : Tb} {e : En} {b r s m : Int} (h : ∀ x ∈ T.at_, 0 ≤ x.2.slot ∧ x.2.slot ≤ 1000) (hs : 0 ≤ s ∧ s ≤ 1000) : ∀ x ∈ (T.put e b r s m).at_, 0 ≤ x.2.slot ∧ x.2.slot ≤ 1000 := by
 have key : ∀ (l : List (Int × AtV)) (k : Int) (v : AtV), (∀ x ∈ l, 0 ≤ x.2.slot ∧ x.2.slot ≤ 1000) → (0 ≤ v.slot ∧ v.slot ≤ 1000) → ∀ x ∈ Tb.put1 l k v, 0 ≤ x.2.slot ∧ x.2.slot ≤ 1000 := by
  intro l k v
  induction l with
  | nil => intro _ hv x hx; simp [Tb.put1] at hx; subst hx; exact hv
  | cons y l ih =>
   intro hl hv x hx
   simp only [Tb.put1] at hx
   split at hx
   ·rcases List.mem_cons.1 hx with rfl | hx
    ·exact hv
    ·exact hl x (List.mem_cons_of_mem _ hx)
   ·rcases List.mem_cons.1 hx with rfl | hx
    ·exact hl _ (List.mem_cons_self ..)
    ·exact ih (fun z hz => hl z (List.mem_cons_of_mem _ hz)) hv x hx
 unfold Tb.put
 split
 ·exact key _ _ _ h hs
 ·exact h
namespace Dv
variable {S : Dv} {k m : Nat}
theorem Ok.less (h : S.Ok k m) {k' : Nat} (hk : k' ≤ k) : S.Ok k' m := ⟨h.gd.less hk (Nat.le_refl _), h.t, h.T, h.sl, h.row, h.next⟩
theorem slots_le (x : Int) : 0 ≤ G.slots x ∧ G.slots x ≤ 7 := by
 have := L.count_le x
 unfold G.slots; split <;> omega
theorem num_len (l : List En) (next : Int) (n : Nat) : (num l next n).length = n := by simp [num]
theorem es_len (S : Dv) (l : List En) : (S.es l).length = (G.slots S.mask).toNat := num_len _ _ _
theorem getD_data {l : List En} (hd : ∀ s ∈ l, s.data.length = 16) {i : Nat} (h : i < l.length) : (l.getD i En.zero).data.length = 16 := by
 rw [List.getD_eq_getElem?_getD, List.getElem?_eq_getElem h]; exact hd _ (List.getElem_mem _)
theorem num_data {l : List En} (hd : ∀ s ∈ l, s.data.length = 16) (next : Int) (n : Nat) : ∀ s ∈ num l next n, s.data.length = 16 := by
 intro s hs
 simp only [num, List.mem_map] at hs
 obtain ⟨i, _, rfl⟩ := hs
 unfold numAt
 split
 ·rename_i h; exact getD_data hd h
 ·rfl
theorem fit_le (S : Dv) (l : List En) : S.fit l ≤ 7 ∧ S.fit l ≤ l.length ∧ (S.fit l : Int) ≤ G.slots S.mask := by
 have := slots_le S.mask
 unfold fit; omega
theorem lose_N (f : Int) (S : Dv) (d : Nat) : (lose f S d).N = S.N ∧ (lose f S d).T = S.T ∧ (lose f S d).op = S.op ∧ (lose f S d).row = S.row ∧ (lose f S d).next = S.next := by
 unfold lose; split <;> exact ⟨rfl, rfl, rfl, rfl, rfl⟩
theorem lose_t (f : Int) (S : Dv) (d : Nat) (h : S.t.Fit S.N) : (lose f S d).t.Fit S.N ∧ (lose f S d).t.blanks = S.t.blanks := by
 unfold lose
 split
 ·dsimp only
  split
  ·exact ⟨h.die _, Tl.blanks_die _ _⟩
  ·exact ⟨h.bad _ _, Tl.blanks_bad h.len _ _⟩
 ·exact ⟨h, rfl⟩
theorem foldl_lose (f : Int) : ∀ (q : List Nat) (S : Dv), (S.t.Fit S.N) → (q.foldl (lose f) S).N = S.N ∧ (q.foldl (lose f) S).T = S.T ∧ (q.foldl (lose f) S).op = S.op ∧ (q.foldl (lose f) S).row = S.row ∧ (q.foldl (lose f) S).next = S.next ∧ (q.foldl (lose f) S).t.Fit S.N ∧ (q.foldl (lose f) S).t.blanks = S.t.blanks
 | [], S, h => ⟨rfl, rfl, rfl, rfl, rfl, h, rfl⟩
 | d :: q, S, h => by
  obtain ⟨e1, e2, e3, e4, e5⟩ := lose_N f S d
  have ht := lose_t f S d h
  have ih := foldl_lose f q (lose f S d) (by rw [e1]; exact ht.1)
  rw [List.foldl_cons]
  rw [e1, e2, e3, e4, e5, ht.2] at ih
  exact ih
theorem loses_same (S : Dv) (f : Int) (h : S.t.Fit S.N) : (S.loses f).N = S.N ∧ (S.loses f).T = S.T ∧ (S.loses f).op = S.op ∧ (S.loses f).row = S.row ∧ (S.loses f).next = S.next ∧ (S.loses f).t.Fit S.N ∧ (S.loses f).t.blanks = S.t.blanks := foldl_lose f _ S h
theorem Ok.loses (h : S.Ok k m) (f : Int) : (S.loses f).Ok k m := by
 obtain ⟨e1, e2, _, e4, e5, e6, _⟩ := loses_same S f h.t
 exact ⟨by rw [e1]; exact h.gd, by rw [e1]; exact e6, by rw [e2]; exact h.T, by rw [e2]; exact h.sl, by rw [e4]; exact h.row, by rw [e5]; exact h.next⟩
theorem pick_spec (S : Dv) : S.pick = -1 ∨ (0 ≤ S.pick ∧ S.pick < S.t.b ∧ S.pick ≠ S.op ∧ pkFree S.t S.T S.pick = true) := by
 rcases pick_some (fun x y => cmpI (S.t.wear x) (S.t.wear y)) (pkFree S.t S.T) S.op S.t.b with h | h
 ·exact .inl h.1
 ·exact .inr (mem_pkSome.1 h.1)
theorem pick_blank {S : Dv} (h : ¬ S.pick < 0) : S.t.blank S.pick = true := by
 rcases S.pick_spec with e | ⟨_, _, _, e⟩
 ·omega
 ·simp only [pkFree, Bool.and_eq_true] at e; exact e.1.2
theorem Ok.opened (h : S.Ok k m) : S.opened.Ok k m := ⟨h.gd, h.t.clean _ _, h.T, h.sl, by show (0 : Int) ≤ 0 ∧ (0 : Int) ≤ 8; omega, h.next⟩
theorem puts_ok {T : Tb} (h : T.Ok) (hs : ∀ x ∈ T.at_, 0 ≤ x.2.slot ∧ x.2.slot ≤ 1000) (b r mk : Int) (es : List En) : ∀ n, n ≤ 1000 → (puts T b r mk es n).Ok ∧ (∀ x ∈ (puts T b r mk es n).at_, 0 ≤ x.2.slot ∧ x.2.slot ≤ 1000) ∧ (puts T b r mk es n).logical = T.logical
 | 0, _ => ⟨h, hs, rfl⟩
 | n + 1, hn => by
  have ih := puts_ok h hs b r mk es n (by omega)
  have e : puts T b r mk es (n + 1) = (puts T b r mk es n).put (es.getD n En.zero) b r (n : Nat) mk := by unfold puts; rw [List.range_succ, List.foldl_append]; rfl
  rw [e]
  exact ⟨ih.1.put _ _ _ _ _, Tb.put_slot ih.2.1 (by omega), by rw [Tb.put_logical]; exact ih.2.2⟩
theorem puts_succ (T : Tb) (b r mk : Int) (es : List En) (n : Nat) : puts T b r mk es (n + 1) = (puts T b r mk es n).put (es.getD n En.zero) b r (n : Nat) mk := by unfold puts; rw [List.range_succ, List.foldl_append]; rfl
def mu (S : Dv) : Nat := 9 * S.t.blanks + (if S.left then (S.N.pages - S.row).toNat else 0)
theorem mu_le (h : S.Ok k m) : S.mu ≤ 152 := by
 have h1 := Tl.blanks_le h.t.len
 have h2 := h.gd.ok.bd16
 have h3 := h.t.b
 have h4 := h.row
 unfold mu
 split <;> omega
theorem left_spec (h : S.left = true) : 0 ≤ S.op ∧ S.row < S.N.pages ∧ 0 < G.slots S.mask := by
 simp only [left, Bool.and_eq_true, decide_eq_true_eq] at h; omega
def at1 (S : Dv) : Dv := if S.left then S else S.opened
theorem Ok.at1 (h : S.Ok k m) : S.at1.Ok k m := by unfold Dv.at1; split; (· exact h); exact h.opened
theorem at1_like (S : Dv) : S.at1.N = S.N ∧ S.at1.T = S.T ∧ S.at1.next = S.next := by unfold at1; split <;> exact ⟨rfl, rfl, rfl⟩
theorem usable_slots {t : Tl} {b : Int} (h : t.usable b = true) : 0 < G.slots (t.mask b) := by simpa [Tl.usable] using h
theorem mask_clean {t : Tl} (hl : t.l.length = t.b) (k : Int) (on : Bool) (j : Int) : (t.clean k on).mask j = t.mask j := by
 unfold Tl.clean Tl.mask Tl.alive
 have e1 : (t.set k { t.at_ k with used := !on }).has j = t.has j := by unfold Tl.has; rw [Tl.set_b]
 rw [e1, Tl.set_d, Tl.set_dead]
 split
 ·rename_i hj
  congr 1
  unfold Tl.set
  split
  ·rename_i hk
   unfold Tl.at_
   dsimp only
   by_cases e : k.toNat = j.toNat
   ·simp only [Tl.has, Bool.and_eq_true, decide_eq_true_eq] at hk hj
    have : k = j := by omega
    subst this
    rw [List.getD_eq_getElem?_getD, List.getElem?_set_self (by omega)]; rfl
   ·rw [List.getD_eq_getElem?_getD, List.getElem?_set_ne e, ← List.getD_eq_getElem?_getD]
  ·rfl
 ·rfl
theorem at1_left (h : S.Ok k m) (h0 : ¬ (S.left = false ∧ S.pick < 0)) : S.at1.left = true ∧ S.at1.op < S.N.blocks ∨ S.left = true := by
 unfold at1
 cases hl : S.left with
 | true => exact .inr rfl
 | false =>
  left
  rw [if_neg Bool.false_ne_true]
  have hp : ¬ S.pick < 0 := fun e => h0 ⟨hl, e⟩
  rcases S.pick_spec with e | ⟨e1, e2, _, e4⟩
  ·omega
  ·have hb := h.gd.ok.bd16
   have htb := h.t.b
   simp only [pkFree, Bool.and_eq_true] at e4
   have hu := usable_slots e4.1.1
   refine ⟨?_, by show S.pick < _; omega⟩
   have g1 : S.opened.op = S.pick := rfl
   have g2 : S.opened.row = 0 := rfl
   have g3 : S.opened.mask = S.t.mask S.pick := mask_clean h.t.len _ _ _
   have g4 : S.opened.N = S.N := rfl
   unfold left
   rw [g1, g2, g3, g4, decide_eq_true (by omega), decide_eq_true (by omega), decide_eq_true (by omega)]; rfl
theorem at1_left' (h : S.Ok k m) (h0 : ¬ (S.left = false ∧ S.pick < 0)) : S.at1.left = true := by
 rcases at1_left h h0 with e | e
 ·exact e.1
 ·unfold at1; rw [if_pos e]; exact e
theorem mu_at1 (h : S.Ok k m) (h0 : ¬ (S.left = false ∧ S.pick < 0)) : S.at1.mu ≤ S.mu := by
 unfold at1
 cases hl : S.left with
 | true => rw [if_pos rfl]; exact Nat.le_refl _
 | false =>
  rw [if_neg Bool.false_ne_true]
  have hp : ¬ S.pick < 0 := fun e => h0 ⟨hl, e⟩
  have h1 := Tl.blanks_open h.t.len (pick_blank hp)
  have h2 := h.gd.ok.bd16
  have e1 : S.opened.t.blanks = (S.t.clean S.pick false).blanks := rfl
  have e2 : S.opened.N.pages = S.N.pages := rfl
  have e3 : S.opened.row = 0 := rfl
  unfold mu
  rw [e1, e2, e3, hl]
  split <;> simp only [Bool.false_eq_true, if_false] <;> omega
theorem wr_gd (h : S.Ok (8 + k) m) {l : List En} (hd : ∀ s ∈ l, s.data.length = 16) : (S.wr l).1.Gd k m := write_Gd (num_data hd _ _) h.gd
theorem wr_like (S : Dv) (l : List En) : S.N.Like (S.wr l).1 := write_like _ _ _ _ _
theorem Ok.wrote (h : S.Ok (8 + k) m) {l : List En} (hd : ∀ s ∈ l, s.data.length = 16) (hr : S.row < S.N.pages) (hn : ¬ S.next > 1099511627775 - (S.fit l : Int) + 1) : (S.wrote l).Ok k m := by
 have h1 := h.gd.ok.bd16
 have h2 := h.row
 have h3 := h.next
 exact ⟨wr_gd h hd, h.t.like (S.wr_like l), h.T, h.sl, by show 0 ≤ S.row + 1 ∧ S.row + 1 ≤ 8; omega, by show 1 ≤ S.next + (S.fit l : Int) ∧ S.next + (S.fit l : Int) ≤ 1099511627776; omega⟩
theorem mu_wrote (h : S.Ok (8 + k) m) (hl : S.left = true) (l : List En) (f : Int) : ((S.wrote l).loses f).mu < S.mu := by
 have ht : (S.wrote l).t.Fit (S.wrote l).N := h.t.like (S.wr_like l)
 obtain ⟨e1, _, _, e4, _, _, e7⟩ := loses_same (S.wrote l) f ht
 have hs := left_spec hl
 have hp := (S.wr_like l).pages
 unfold mu
 rw [e7, e1, e4, hl]
 have e8 : (S.wrote l).row = S.row + 1 := rfl
 have e9 : (S.wrote l).N.pages = S.N.pages := hp
 have e10 : (S.wrote l).t = S.t := rfl
 rw [e8, e9, e10, if_pos rfl]
 split <;> omega
theorem write_succ (f : Nat) (S : Dv) (l : List En) : write (f + 1) S l = (if l.length = 0 then (S, 0, 0) else if S.left = false ∧ S.pick < 0 then (S, 0, 11) else if S.at1.next > 1099511627775 - (S.at1.fit l : Int) + 1 then (S.at1, 0, 11) else if (S.at1.wr l).2.2 = 1 then ({ S.at1 with next := S.at1.next + S.at1.fit l, N := (S.at1.wr l).1 }, 0, 1) else if (S.at1.wr l).2.2 = 0 then ({ S.at1.wrote l with T := puts S.at1.T S.at1.op S.at1.row S.at1.mask (S.at1.es l) (S.at1.fit l) }, S.at1.fit l, 0) else if (S.at1.wr l).2.2 = 9 then (S.at1.wrote l, 0, 9) else write f ((S.at1.wrote l).loses (S.at1.wr l).2.1) l : Dv × Int × Int) := rfl
theorem write_keep : ∀ (f : Nat) (S : Dv) (l : List En) (k : Nat), S.Ok (8 * f + k) m → (∀ s ∈ l, s.data.length = 16) → (write f S l).1.Ok k m ∧ S.N.Like (write f S l).1.N ∧ (write f S l).1.T.logical = S.T.logical
 | 0, S, l, k, h, hd => ⟨h.less (by omega), Nand.Like.refl _, rfl⟩
 | f + 1, S, l, k, h, hd => by
  rw [write_succ]
  have ha := at1_like S
  have h1 : S.at1.Ok (8 + (8 * f + k)) m := h.at1.less (by omega)
  split
  ·exact ⟨h.less (by omega), Nand.Like.refl _, rfl⟩
  split
  ·exact ⟨h.less (by omega), Nand.Like.refl _, rfl⟩
  rename_i h0
  split
  ·exact ⟨h1.less (by omega), by rw [ha.1]; exact Nand.Like.refl _, by rw [ha.2.1]⟩
  rename_i hn
  have hlf := at1_left' h h0
  have hs := left_spec hlf
  have hw := h1.wrote hd hs.2.1 hn
  have hlk : S.N.Like (S.at1.wr l).1 := by have := S.at1.wr_like l; rw [ha.1] at this; exact this
  split
  ·exact ⟨⟨hw.gd.less (by omega) (Nat.le_refl _), hw.t, h1.T, h1.sl, h1.row, hw.next⟩, hlk, by show S.at1.T.logical = _; rw [ha.2.1]⟩
  split
  ·have hp := puts_ok h1.T h1.sl S.at1.op S.at1.row S.at1.mask (S.at1.es l) (S.at1.fit l) (by have := fit_le S.at1 l; omega)
   exact ⟨⟨hw.gd.less (by omega) (Nat.le_refl _), hw.t, hp.1, hp.2.1, hw.row, hw.next⟩, hlk, by show (puts _ _ _ _ _ _).logical = _; rw [hp.2.2, ha.2.1]⟩
  split
  ·exact ⟨hw.less (by omega), hlk, by show S.at1.T.logical = _; rw [ha.2.1]⟩
  ·have ho := hw.loses (S.at1.wr l).2.1
   have hsm := loses_same (S.at1.wrote l) (S.at1.wr l).2.1 hw.t
   have ih := write_keep f _ l k ho hd
   refine ⟨ih.1, ?_, ?_⟩
   ·have := ih.2.1
    rw [hsm.1] at this
    exact hlk.trans this
   ·rw [ih.2.2, hsm.2.1]; show S.at1.T.logical = _; rw [ha.2.1]
theorem pen_keep (h : S.Ok (8 * fuel + k) m) {l : List En} (hd : ∀ s ∈ l, s.data.length = 16) : (S.pen l).1.Ok k m ∧ S.N.Like (S.pen l).1.N ∧ (S.pen l).1.T.logical = S.T.logical := write_keep fuel S l k h hd
theorem write_took : ∀ (f : Nat) (S : Dv) (l : List En) (k : Nat), S.Ok (8 * f + k) m → (∀ s ∈ l, s.data.length = 16) → S.mu < f → (write f S l).2.2 = 0 → l.length ≠ 0 → 1 ≤ (write f S l).2.1 ∧ (write f S l).2.1 ≤ l.length ∧ (write f S l).2.1 ≤ 7
 | 0, S, l, k, h, hd, hm, h0, hl => by omega
 | f + 1, S, l, k, h, hd, hm, h0, hl => by
  rw [write_succ] at h0 ⊢
  rw [if_neg hl] at h0 ⊢
  split at h0
  ·cases h0
  rename_i hp
  rw [if_neg hp]
  split at h0
  ·cases h0
  rename_i hn
  rw [if_neg hn]
  have hlf := at1_left' h hp
  have hs := left_spec hlf
  have h1 : S.at1.Ok (8 + (8 * f + k)) m := h.at1.less (by omega)
  split at h0
  ·cases h0
  rename_i e1
  rw [if_neg e1]
  split at h0
  ·rename_i e2
   rw [if_pos e2]
   have := fit_le S.at1 l
   have h2 : 1 ≤ S.at1.fit l := by unfold fit; omega
   dsimp only
   omega
  rename_i e2
  rw [if_neg e2]
  split at h0
  ·cases h0
  rename_i e3
  rw [if_neg e3]
  have h3 := mu_at1 h hp
  have h4 := mu_wrote h1 hlf l (S.at1.wr l).2.1
  have hw := h1.wrote hd hs.2.1 hn
  exact write_took f _ l k (hw.loses _) hd (by omega) h0 hl
theorem pen_took (h : S.Ok (8 * fuel + k) m) {l : List En} (hd : ∀ s ∈ l, s.data.length = 16) (h0 : (S.pen l).2.2 = 0) (hl : l.length ≠ 0) : 1 ≤ (S.pen l).2.1 ∧ (S.pen l).2.1 ≤ l.length ∧ (S.pen l).2.1 ≤ 7 :=
 write_took fuel S l k h hd (by have := mu_le h; unfold fuel; omega) h0 hl
end Dv
end Go.Proofs.YtdocmcapegcoeaaGreat
namespace Go.Proofs.YtdocmcapegcoeaaGreat
open Go Go.RowKit
theorem pn_max (a b : Int) : (if b > a then b else a) = max a b := by split <;> omega
def PenA (p n t l : Nat) (S : Dv) : Atom := .pt p 96 [.pointer (some ⟨n, 0, none⟩), .pointer (some ⟨t, 0, none⟩), .pointer (some ⟨l, 0, none⟩), .int .i64 S.op, .int .i64 S.row, .int .i64 S.mask, .int .i64 S.next]
def DvP (p n t l : Nat) (S : Dv) : List Atom := [PenA p n t l S, NandA n S.N, TlA t S.t, TbA l S.T]
theorem pn_New (n t l : Nat) (next : Int) (h : -9223372036854775808 ≤ next ∧ next ≤ 9223372036854775807) (N : Nand) (tl : Tl) (T : Tb) : Fn Tryz.prog 52 [.pointer (some ⟨n, 0, none⟩), .pointer (some ⟨t, 0, none⟩), .pointer (some ⟨l, 0, none⟩), .int .i64 next] [] (fun v As => ∃ p, v = .pointer (some ⟨p, 0, none⟩) ∧ As = [PenA p n t l ⟨N, tl, T, -1, 0, 0, max next 1⟩]) := by
 refine Fn.enter [0, 0, 0, 0] Tryz.func52 rfl rfl rfl fun X F hX => ?_
 refine J.q hX fun bb => ?_
 rw [pn_max]
 refine J.q hX fun b1 => ?_
 refine J.ru hX [1] ?_
 exact ⟨bb 0, rfl, rfl⟩
theorem pn_Open (p n t l : Nat) (S : Dv) : Fn Tryz.prog 18 [.pointer (some ⟨p, 0, none⟩)] [PenA p n t l S] (fun v As => v = .int .i64 S.op ∧ As = [PenA p n t l S]) := by
 refine Fn.enter [2] Tryz.func18 rfl rfl rfl fun X F hX => ?_
 refine J.q hX fun b2 => ?_
 refine J.cF ?_
 refine J.q hX fun b3 => ?_
 exact J.ru hX [1] ⟨rfl, rfl⟩
theorem pn_left (p n t l : Nat) (S : Dv) : Fn Tryz.prog 53 [.pointer (some ⟨p, 0, none⟩)] (DvP p n t l S) (fun v As => v = .bool S.left ∧ As = DvP p n t l S) := by
 refine Fn.enter [2] Tryz.func53 rfl rfl rfl fun X F hX => ?_
 refine J.q hX fun b4 => ?_
 refine J.plan (.of [0,4,8,13,16,20,24,28,32,37,40,44,48,53,58,60,64,68,72,76,80,84,89,94,96,100,104]) [26] [1,2,3,4] (by rw [hX.hP]; kernel_rfl) (by kernel_rfl) ?_
 refine J.qn hX 6 fun b5 => ?_
 cases h1 : decide (S.op ≥ 0) with
 | false =>
  refine J.q hX fun b6 => ?_
  refine J.val hX (.agg #[.int .i64 0, .int .i64 0, .int .i64 0]) 0 rfl rfl (fun hg a w he hs => absurd hg (by simp [G.on])) rfl (by first | exact trivial | (repeat' (first | exact trivial | refine ⟨rfl, ?_⟩))) ?_
  refine J.q hX fun b7 => ?_
  refine J.val hX (.int .i64 0) 0 rfl rfl (fun hg a w he hs => absurd hg (by simp [G.on])) rfl (by first | exact trivial | (repeat' (first | exact trivial | refine ⟨rfl, ?_⟩))) ?_
  refine J.q hX fun b8 => ?_
  refine J.ru hX [1, 2, 3, 4] ?_
  exact ⟨by unfold Dv.left; rw [h1]; rfl, rfl⟩
 | true =>
  refine J.q hX fun b9 => ?_
  refine J.cb hX (n_Geo n S.N) [2] ?_
  refine cpq ⟨_, rfl, (by first | exact trivial | (repeat' (first | exact trivial | refine ⟨rfl, ?_⟩))), ?_⟩
  refine J.qn hX 2 fun b11 => ?_
  cases h2 : decide (S.row < (S.N.pages : Int)) with
  | false =>
   refine J.q hX fun b12 => ?_
   refine J.val hX (.int .i64 0) 0 rfl rfl (fun hg a w he hs => absurd hg (by simp [G.on])) rfl (by first | exact trivial | (repeat' (first | exact trivial | refine ⟨rfl, ?_⟩))) ?_
   refine J.q hX fun b13 => ?_
   refine J.ru hX [1, 2, 3, 4] ?_
   exact ⟨by unfold Dv.left; rw [h1, h2]; rfl, rfl⟩
  | true =>
   refine J.q hX fun b14 => ?_
   refine J.cb hX (g_Slots S.mask) [] ?_
   refine cpq ⟨_, rfl, (by first | exact trivial | (repeat' (first | exact trivial | refine ⟨rfl, ?_⟩))), ?_⟩
   refine J.q hX fun b16 => ?_
   refine J.ru hX [1, 2, 3, 4] ?_
   exact ⟨by unfold Dv.left; rw [h1, h2], rfl⟩
theorem pn_Slots (p n t l : Nat) (S : Dv) (hb : S.t.b ≤ 1000) (hl : S.t.l.length = S.t.b) : Fn Tryz.prog 19 [.pointer (some ⟨p, 0, none⟩)] (DvP p n t l S) (fun v As => v = .int .i64 S.slots ∧ As = DvP p n t l S) := by
 refine Fn.enter [2] Tryz.func19 rfl rfl rfl fun X F hX => ?_
 refine J.q hX fun b17 => ?_
 refine J.cF ?_
 refine J.q hX fun b18 => ?_
 refine J.cb hX (pn_left p n t l S) [1, 2, 3, 4] ?_
 refine cpq ⟨_, rfl, trivial, ?_⟩
 refine J.q hX fun b20 => ?_
 refine J.cond rfl (fun h1 => ?_) (fun h1 => ?_)
 ·refine J.q hX fun b21 => ?_
  refine J.cb hX (g_Slots S.mask) [] ?_
  refine cpq ⟨_, rfl, trivial, ?_⟩
  refine J.q hX fun b23 => ?_
  refine J.ru hX [1, 2, 3, 4] ?_
  exact ⟨by unfold Dv.slots; rw [if_pos h1], rfl⟩
 refine J.q hX fun b24 => ?_
 refine J.plan (.of [0,4,8,13,16,20,24,29,32,36,40,45,48,52,56,61,66,70,74,76]) [19] [1,2,3,4] (by rw [hX.hP]; kernel_rfl) (by kernel_rfl) ?_
 refine J.q hX fun b25 => ?_
 refine J.cb hX (p_Open t S.t hb hl l S.T S.op) [3, 4] ?_
 refine cpq ⟨_, rfl, (by first | exact trivial | (repeat' (first | exact trivial | refine ⟨rfl, ?_⟩))), ?_⟩
 refine J.q hX fun b27 => ?_
 refine J.cb hX (tl_Mask t S.t hb hl S.pick) [3] ?_
 refine cpq ⟨_, rfl, (by first | exact trivial | (repeat' (first | exact trivial | refine ⟨rfl, ?_⟩))), ?_⟩
 refine J.q hX fun b29 => ?_
 refine J.cb hX (g_Slots (S.t.mask S.pick)) [] ?_
 refine cpq ⟨_, rfl, (by first | exact trivial | (repeat' (first | exact trivial | refine ⟨rfl, ?_⟩))), ?_⟩
 refine J.q hX fun b31 => ?_
 refine J.ru hX [1, 2, 3, 4] ?_
 exact ⟨by unfold Dv.slots; rw [if_neg (by rw [h1]; decide)], rfl⟩
theorem pn_opens (p n t l : Nat) (S : Dv) (hb : S.t.b ≤ 1000) (hl : S.t.l.length = S.t.b) : Fn Tryz.prog 56 [.pointer (some ⟨p, 0, none⟩)] (DvP p n t l S) (fun v As => v = .int .i64 (if S.pick < 0 then 11 else 0) ∧ As = DvP p n t l (if S.pick < 0 then S else S.opened)) := by
 refine Fn.enter [2] Tryz.func56 rfl rfl rfl fun X F hX => ?_
 refine J.q hX fun b32 => ?_
 refine J.plan (.of [0,4,8,13,16,20,24,29,32,36,40,45,51,52]) [12,13] [1,2,3,4] (by rw [hX.hP]; kernel_rfl) (by kernel_rfl) ?_
 refine J.q hX fun b33 => ?_
 refine J.cb hX (p_Open t S.t hb hl l S.T S.op) [3, 4] ?_
 refine cpq ⟨_, rfl, (by first | exact trivial | (repeat' (first | exact trivial | refine ⟨rfl, ?_⟩))), ?_⟩
 refine J.q hX fun b35 => ?_
 refine J.cond rfl (fun h1 => ?_) (fun h1 => ?_)
 ·simp only [decide_eq_true_eq] at h1
  have h1 : S.pick < 0 := h1
  refine J.q hX fun b36 => ?_
  refine J.ru hX [1, 2, 3, 4] ?_
  rw [if_pos h1, if_pos h1]
  exact ⟨rfl, rfl⟩
 simp only [decide_eq_false_iff_not] at h1
 have h1 : ¬ S.pick < 0 := h1
 refine J.q hX fun b37 => ?_
 refine J.cb hX (tl_Clean t S.t hb hl S.pick false) [3] ?_
 refine cpq ⟨_, rfl, trivial, ?_⟩
 refine J.q hX fun b39 => ?_
 refine J.cb hX (tl_Mask t (S.t.clean S.pick false) (by unfold Tl.clean; rw [Tl.set_b]; exact hb) (by unfold Tl.clean; rw [Tl.set_len, Tl.set_b]; exact hl) S.pick) [3] ?_
 refine cpq ⟨_, rfl, trivial, ?_⟩
 refine J.q hX fun b41 => ?_
 refine J.ru hX [1, 2, 3, 4] ?_
 rw [if_neg h1, if_neg h1]
 exact ⟨rfl, rfl⟩
theorem pn_loses (p n t l : Nat) (S : Dv) (hN : S.N.Ok) (hF : S.t.Fit S.N) (f : Int) : Fn Tryz.prog 60 [.pointer (some ⟨p, 0, none⟩), .int .i64 f] (DvP p n t l S) (fun v As => v = .tuple #[] ∧ As = DvP p n t l (S.loses f)) := by
 have hbd := hN.bd16
 refine Fn.enter [2, 0] Tryz.func60 rfl rfl rfl fun X F hX => ?_
 refine J.q hX fun b42 => ?_
 refine J.cb hX (n_Geo n S.N) [2] ?_
 refine cpq ⟨_, rfl, trivial, ?_⟩
 refine J.q hX fun b44 => ?_
 refine J.lo (α := (Nat × Dv)) (fun z => z.1 ≤ S.N.dies ∧ z.2 = (List.range z.1).foldl (Dv.lose f) S) (fun z => [⟨11, .int .i64 z.1, 0, .tt⟩, ⟨10, .int .i64 S.N.dies, 0, .tt⟩, ⟨0, .pointer (some ⟨p, 0, none⟩), 2, .tt⟩, ⟨1, .int .i64 f, 0, .tt⟩]) [1, 2, 3, 4] (fun z => DvP p n t l z.2) (fun z => S.N.dies - z.1) ((0, S)) (⟨Nat.zero_le _, rfl⟩) rfl ?_ (fun _ => rfl) fun z hI => ?_
 ·rfl
 obtain ⟨k, Q⟩ := z
 dsimp only at hI ⊢
 obtain ⟨hk, hQ⟩ := hI
 obtain ⟨q1, q2, q3, q4, q5, q6, q7⟩ := Dv.foldl_lose f (List.range k) S hF
 rw [← hQ] at q1 q2 q3 q4 q5 q6 q7
 have hlb : Q.t.l.length = Q.t.b := q6.len
 have hbb : Q.t.b ≤ 1000 := by have := q6.b; omega
 refine J.q hX fun b45 => ?_
 refine J.cond rfl (fun h1 => ?_) (fun h1 => ?_)
 ·simp only [decide_eq_true_eq, Int.ofNat_lt] at h1
  have hs : (List.range (k + 1)).foldl (Dv.lose f) S = Dv.lose f Q k := by rw [List.range_succ, List.foldl_append, ← hQ]; rfl
  refine J.q hX fun b46 => ?_
  refine J.cb hX (l_Has f k) [] ?_
  refine cpq ⟨_, rfl, trivial, ?_⟩
  refine J.q hX fun b48 => ?_
  refine J.cond rfl (fun h2 => ?_) (fun h2 => ?_)
  ·simp only [Bool.not_eq_true'] at h2
   have hz : Dv.lose f Q k = Q := by unfold Dv.lose; rw [if_neg (by rw [h2]; decide)]
   refine J.q hX fun b49 => ?_
   refine J.nS ((k + 1, Q)) (⟨by dsimp only; omega, by dsimp only; rw [hs, hz]⟩) (by dsimp only; omega) [0, 1, 2, 3, 4] rfl rfl
  simp only [Bool.not_eq_false'] at h2
  refine J.q hX fun b51 => ?_
  refine J.cb hX (n_Dead n Q.N (by rw [q1]; exact hN) k) [2] ?_
  refine cpq ⟨_, rfl, trivial, ?_⟩
  refine J.q hX fun b53 => ?_
  refine J.cond rfl (fun h3 => ?_) (fun h3 => ?_)
  ·have hz : Dv.lose f Q k = { Q with t := Q.t.die k, mask := L.without Q.mask k } := by unfold Dv.lose; rw [if_pos h2, if_pos h3]
   refine J.q hX fun b54 => ?_
   refine J.cb hX (tl_Dead t Q.t k) [3] ?_
   refine cpq ⟨_, rfl, trivial, ?_⟩
   refine J.q hX fun b56 => ?_
   refine J.cb hX (l_Without Q.mask k) [] ?_
   refine cpq ⟨_, rfl, trivial, ?_⟩
   refine J.q hX fun b58 => ?_
   refine J.nS ((k + 1, { Q with t := Q.t.die k, mask := L.without Q.mask k })) (⟨by dsimp only; omega, by dsimp only; rw [hs, hz]⟩) (by dsimp only; omega) [0, 1, 2, 3, 4] rfl rfl
  ·have hz : Dv.lose f Q k = { Q with t := Q.t.bad k Q.op, mask := L.without Q.mask k } := by unfold Dv.lose; rw [if_pos h2, if_neg (by rw [h3]; decide)]
   refine J.q hX fun b60 => ?_
   refine J.plan (.of [0,4,8,13,16,20,24,28,33,38]) [] [1,2,4] (by rw [hX.hP]; kernel_rfl) (by kernel_rfl) ?_
   refine J.q hX fun b61 => ?_
   refine J.cb hX (tl_Bad t Q.t hbb hlb k Q.op) [3] ?_
   refine cpq ⟨_, rfl, (by first | exact trivial | (repeat' (first | exact trivial | refine ⟨rfl, ?_⟩))), ?_⟩
   refine J.q hX fun b63 => ?_
   refine J.cb hX (l_Without Q.mask k) [] ?_
   refine cpq ⟨_, rfl, trivial, ?_⟩
   refine J.q hX fun b65 => ?_
   refine J.nS ((k + 1, { Q with t := Q.t.bad k Q.op, mask := L.without Q.mask k })) (⟨by dsimp only; omega, by dsimp only; rw [hs, hz]⟩) (by dsimp only; omega) [0, 1, 2, 3, 4] rfl rfl
 ·simp only [decide_eq_false_iff_not, Int.ofNat_lt] at h1
  obtain rfl : k = S.N.dies := by omega
  refine J.q hX fun b67 => ?_
  refine J.fi hX tk [1, 2, 3, 4] rfl rfl rfl ?_
  exact ⟨rfl, by rw [hQ]; rfl⟩
theorem cellsE_set : ∀ (l : List En) (r : List Value) (k : Nat) (x : En), k < l.length → (cellsE l ++ r).take (k * 19) ++ enL x ++ (cellsE l ++ r).drop (k * 19 + 19) = cellsE (l.set k x) ++ r
 | [], _, _, _, h => by simp at h
 | y :: l, r, 0, x, h => by simp [cellsE, enL]
 | y :: l, r, k + 1, x, h => by
  have := cellsE_set l r k x (by simpa using h)
  have hy : (enL y).length = 19 := rfl
  have e1 : cellsE (y :: l) ++ r = enL y ++ (cellsE l ++ r) := by simp [cellsE]
  have e2 : cellsE ((y :: l).set (k + 1) x) ++ r = enL y ++ (cellsE (l.set k x) ++ r) := by simp [cellsE]
  rw [e1, e2, ← this, show (k + 1) * 19 = (enL y).length + k * 19 from by omega, List.take_length_add_append, show (enL y).length + k * 19 + 19 = (enL y).length + (k * 19 + 19) from by omega, ← List.drop_drop, List.drop_left' rfl]
  simp only [List.append_assoc]
theorem cellsE_len : ∀ l : List En, (cellsE l).length = l.length * 19
 | [] => rfl
 | x :: l => by
  have := cellsE_len l
  have e1 : cellsE (x :: l) = enL x ++ cellsE l := by simp [cellsE]
  have hy : (enL x).length = 19 := rfl
  rw [e1, List.length_append, this, hy, List.length_cons]; omega
def idxE (p : En → Bool) (l : List En) : Int := match l.findIdx? p with
 | some k => k
 | none => -1
theorem idxE_step {p : En → Bool} {l : List En} {k : Nat} {x : En} (h : l[k]? = some x) (h0 : ∀ i < k, p (l.getD i En.zero) = false) (hp : p x = true) : l.findIdx? p = some k := by
 rw [List.findIdx?_eq_some_iff_getElem]
 obtain ⟨h1, h2⟩ := List.getElem?_eq_some_iff.1 h
 refine ⟨h1, by rw [h2]; exact hp, fun j hj => ?_⟩
 have := h0 j hj
 rw [List.getD_eq_getElem?_getD, List.getElem?_eq_getElem (by omega), Option.getD_some] at this
 simp [this]
theorem idxE_none {p : En → Bool} {l : List En} (h0 : ∀ i < l.length, p (l.getD i En.zero) = false) : l.findIdx? p = none := by
 rw [List.findIdx?_eq_none_iff]
 intro x hx
 obtain ⟨i, hi, rfl⟩ := List.mem_iff_getElem.1 hx
 have := h0 i hi
 rwa [List.getD_eq_getElem?_getD, List.getElem?_eq_getElem hi, Option.getD_some] at this
theorem idxE_any (p : En → Bool) (l : List En) : decide (idxE p l ≥ 0) = l.any p := by
 unfold idxE
 cases h : l.findIdx? p with
 | none =>
  rw [List.findIdx?_eq_none_iff] at h
  have : l.any p = false := by rw [List.any_eq_false]; exact fun x hx => by simp [h x hx]
  rw [this]; rfl
 | some k =>
  rw [List.findIdx?_eq_some_iff_getElem] at h
  obtain ⟨h1, h2, _⟩ := h
  have : l.any p = true := List.any_eq_true.2 ⟨l[k], List.getElem_mem _, h2⟩
  rw [this]; simp
theorem x_IndexE (c : Nat) (cs : List Value) (p : En → Bool) (A : Atom) (hcal : callable Tryz.prog c = true) (l : List En) (hf : ∀ x ∈ l, Fn Tryz.prog c (enV x :: cs) [A] (fun v As => v = .bool (p x) ∧ As = [A]))
  (a : Option Nat) (n cap : Nat) (hl : l.length = n) (hn : n ≤ 4611686018427387904) : Fn Tryz.prog 179 [slv a n cap, fnC c cs] [ownA 38 19 a n cap (cellsE l), A]
  (fun v As => v = .int .i64 (idxE p l) ∧ As = [ownA 38 19 a n cap (cellsE l), A]) := by
 refine Fn.enter [0, 0] Tryz.func179 rfl rfl rfl fun X F hX => ?_
 refine J.q hX fun b1 => ?_
 refine J.lo (α := Nat) (fun k => k ≤ n ∧ ∀ i < k, p (l.getD i En.zero) = false) (fun k => [⟨8, .int .i64 k, 0, .tt⟩, ⟨7, .int .i64 n, 0, .tt⟩, ⟨0, slv a n cap, 0, .tt⟩, ⟨1, fnC c cs, 0, .tt⟩]) [] (fun k => []) (fun k => n - k) (0) (⟨by omega, by omega⟩) rfl ?_ (fun _ => rfl) fun k hI => ?_
 ·rfl
 refine J.q hX fun b3 => ?_
 refine J.cond rfl (fun h1 => ?_) (fun h1 => ?_)
 ·simp only [decide_eq_true_eq, Int.ofNat_lt] at h1
  cases a with
  | none =>
   refine J.know (fun h' s => (s.get (i := 1) rfl).2.1) fun hn0 => ?_
   omega
  | some g =>
   have hk : l[k]? = some (l.getD k En.zero) := by rw [List.getD_eq_getElem?_getD, List.getElem?_eq_getElem (by omega), Option.getD_some]
   refine J.q hX fun b4 => ?_
   refine J.val hX (enV (l.getD k En.zero)) 0 rfl rfl (fun hg a w he hs => ?_) rfl trivial ?_
   ·exact ownN_run tk rfl rfl he rfl rfl rfl (hs.get (i := 1) rfl) (by rw [show 0 + (k : Int).toNat * 19 = k * 19 from by omega]; have := cellsE_at l [] k _ hk; rwa [List.append_nil] at this) rfl
   refine J.q hX fun b5 => ?_
   refine J.call hX hcal (hf (l.getD k En.zero) (List.mem_of_getElem? hk)) [2] 0 rfl rfl rfl rfl (by (repeat' (first | exact Conj.nil | refine Conj.cons ?_ ?_ | omega | exact hq0 | (simpa using hq0) | (exact fun h => h) | exact rfl | (intro hq; have hq0 := hq; try simp only [Bool.and_eq_true, Bool.or_eq_true, decide_eq_true_eq, Bool.not_eq_true', decide_eq_false_iff_not] at hq) | (simp; done) | (simp; omega) | decide))) rfl rfl (fun _ => rfl) ?_
   refine cpq ⟨_, rfl, trivial, ?_⟩
   refine J.q hX fun b6 => ?_
   refine J.cond rfl (fun h2 => ?_) (fun h2 => ?_)
   ·refine J.q hX fun b7 => ?_
    refine J.ru hX [1, 2] ?_
    exact ⟨by rw [idxE, idxE_step hk hI.2 h2], rfl⟩
   ·refine J.q hX fun b8 => ?_
    refine J.nx (k + 1) (⟨by omega, fun i hi => by
     rcases Nat.lt_succ_iff_lt_or_eq.1 hi with h3 | h3
     ·exact hI.2 i h3
     ·rw [h3]; exact h2⟩) (by omega) (fun _ s => s)
 ·simp only [decide_eq_false_iff_not, Int.ofNat_lt] at h1
  refine J.q hX fun b9 => ?_
  refine J.ru hX [1, 2] ?_
  exact ⟨by rw [idxE, idxE_none (fun i hi => hI.2 i (by omega))], rfl⟩
theorem cellsE_one (l : List En) : ∀ u ∈ cellsE l, u.oneCell' = true := by
 intro u hu
 simp only [cellsE, List.mem_flatMap] at hu
 obtain ⟨s, _, hu⟩ := hu
 simp only [enL, List.mem_cons, List.not_mem_nil, or_false] at hu
 rcases hu with rfl | rfl | rfl | rfl | rfl | rfl | rfl | rfl | rfl | rfl | rfl | rfl | rfl | rfl | rfl | rfl | rfl | rfl | rfl <;> rfl
def DelE (p : En → Bool) (l m : List En) (i j : Nat) : Prop := m.length = l.length ∧ i < j ∧ j ≤ l.length ∧ m.drop j = l.drop j ∧ m.take i ++ (l.drop j).filter (fun x => !p x) = l.filter (fun x => !p x)
theorem DelE.start {p : En → Bool} {l : List En} {k : Nat} (h : l.findIdx? p = some k) : DelE p l l k (k + 1) := by
 rw [List.findIdx?_eq_some_iff_getElem] at h
 obtain ⟨h1, h2, h3⟩ := h
 refine ⟨rfl, by omega, by omega, rfl, ?_⟩
 have e : l = l.take k ++ l[k] :: l.drop (k + 1) := by rw [← List.drop_eq_getElem_cons h1, List.take_append_drop]
 have e2 : (l.take k).filter (fun x => !p x) = l.take k := by
  rw [List.filter_eq_self]
  intro x hx
  obtain ⟨i, hi, rfl⟩ := List.mem_iff_getElem.1 hx
  rw [List.getElem_take]
  have := h3 i (by simp at hi; omega)
  simpa using this
 conv => rhs; rw [e]
 rw [List.filter_append, e2, List.filter_cons_of_neg (by simp [h2])]
theorem DelE.skip {p : En → Bool} {l m : List En} {i j : Nat} (h : DelE p l m i j) (hj : j < l.length) (hp : p (m.getD j En.zero) = true) : DelE p l m i (j + 1) := by
 obtain ⟨h1, h2, h3, h4, h5⟩ := h
 have e1 : m[j]? = l[j]? := by have := congrArg (fun z => z[0]?) h4; simpa using this
 have hx : l[j] = m.getD j En.zero := by rw [List.getD_eq_getElem?_getD, e1, List.getElem?_eq_getElem hj, Option.getD_some]
 refine ⟨h1, by omega, by omega, ?_, ?_⟩
 ·have := congrArg (List.drop 1) h4
  simpa [List.drop_drop] using this
 ·rw [← h5, List.drop_eq_getElem_cons hj, List.filter_cons_of_neg (by rw [hx, hp]; simp)]
theorem DelE.keep {p : En → Bool} {l m : List En} {i j : Nat} (h : DelE p l m i j) (hj : j < l.length) (hp : p (m.getD j En.zero) = false) : DelE p l (m.set i (m.getD j En.zero)) (i + 1) (j + 1) := by
 obtain ⟨h1, h2, h3, h4, h5⟩ := h
 have e1 : m[j]? = l[j]? := by have := congrArg (fun z => z[0]?) h4; simpa using this
 have hx : l[j] = m.getD j En.zero := by rw [List.getD_eq_getElem?_getD, e1, List.getElem?_eq_getElem hj, Option.getD_some]
 refine ⟨by simp [h1], by omega, by omega, ?_, ?_⟩
 ·rw [List.drop_set_of_lt (by omega)]
  have := congrArg (List.drop 1) h4
  simpa [List.drop_drop] using this
 ·rw [← h5, List.drop_eq_getElem_cons hj, List.filter_cons_of_pos (by rw [hx, hp]; simp), hx, List.take_set, List.take_add_one, List.getElem?_eq_getElem (by omega)]
  rw [List.set_append_right _ _ (by simp; omega)]
  simp [List.length_take, Nat.min_eq_left (show i ≤ m.length by omega)]
theorem x_DeleteE (c : Nat) (cs : List Value) (p : En → Bool) (A : Atom) (hcal : callable Tryz.prog c = true) (hf : ∀ x, Fn Tryz.prog c (enV x :: cs) [A] (fun v As => v = .bool (p x) ∧ As = [A]))
  (a : Option Nat) (n cap : Nat) (l : List En) (hl : l.length = n) (hn : n ≤ 4611686018427387904) : Fn Tryz.prog 176 [slv a n cap, fnC c cs] [ownA 38 19 a n cap (cellsE l), A]
  (fun v As => ∃ l', l' = l.filter (fun x => !p x) ∧ v = slv a l'.length cap ∧ As = [ownA 38 19 a l'.length cap (cellsE l'), A]) := by
 refine Fn.enter [0, 0] Tryz.func176 rfl rfl rfl fun X F hX => ?_
 refine J.q hX fun b18 => ?_
 refine J.cb hX (x_IndexE c cs p A hcal l (fun x _ => hf x) a n cap hl hn) [1, 2] ?_
 refine cpq ⟨_, rfl, trivial, ?_⟩
 rw [idxE]
 cases hx : l.findIdx? p with
 | none =>
  dsimp only
  refine J.q hX fun b20 => ?_
  refine J.cT ?_
  refine J.q hX fun b21 => ?_
  refine J.ru hX [1, 2] ?_
  have : l.filter (fun x => !p x) = l := by
   rw [List.filter_eq_self]
   intro x hm
   rw [List.findIdx?_eq_none_iff] at hx
   simp [hx x hm]
  exact ⟨l, this.symm, by rw [hl], by rw [hl]; rfl⟩
 | some k =>
  dsimp only
  refine J.q hX fun b22 => ?_
  refine J.cond rfl (fun h0 => ?_) (fun h0 => ?_)
  ·simp only [beq_iff_eq] at h0; omega
  have hk : k < n := by rw [List.findIdx?_eq_some_iff_getElem] at hx; obtain ⟨h1, _⟩ := hx; omega
  cases a with
  | none =>
   refine J.know (fun h' s => (s.get (i := 1) rfl).2.1) fun hn0 => ?_
   omega
  | some g =>
   refine J.openOwn 1 rfl rfl (fun _ => rfl) fun r q1 q2 q3 q4 => ?_
   refine J.q hX fun b23 => ?_
   rw [show (k : Int) + 1 = ((k + 1 : Nat) : Int) from by omega]
   refine J.q hX fun b24 => ?_
   refine J.lo (α := (Nat × Nat × List En)) (fun x => DelE p l x.2.2 x.1 x.2.1) (fun x => [⟨6, .int .i64 x.2.1, 0, .tt⟩, ⟨5, .int .i64 x.1, 0, .tt⟩, ⟨0, slv (some g) n cap, 0, .tt⟩, ⟨1, fnC c cs, 0, .tt⟩]) [1] (fun x => [.pt g 38 (cellsE x.2.2 ++ r)]) (fun x => n - x.2.1) ((k, k + 1, l)) (DelE.start hx) rfl ?_ (fun _ => rfl) fun x hI => ?_
   ·rfl
   obtain ⟨i, j, m⟩ := x
   dsimp only at hI ⊢
   have hml : m.length = n := hI.1.trans hl
   have hij : i < j := hI.2.1
   have hjn : j ≤ n := by have := hI.2.2.1; omega
   refine J.q hX fun b25 => ?_
   refine J.cond rfl (fun h1 => ?_) (fun h1 => ?_)
   ·simp only [decide_eq_true_eq, Int.ofNat_lt] at h1
    have hget : m[j]? = some (m.getD j En.zero) := by rw [List.getD_eq_getElem?_getD, List.getElem?_eq_getElem (by omega), Option.getD_some]
    refine J.q hX fun b26 => ?_
    refine J.val hX (enV (m.getD j En.zero)) 0 rfl rfl (fun hg a w he hs => ?_) rfl trivial ?_
    ·exact loadN_run tk rfl rfl he rfl rfl rfl (hs.get (i := 1) rfl) (by rw [show 0 + (j : Int).toNat * 19 = j * 19 from by omega]; exact cellsE_at m r _ _ hget) rfl
    refine J.q hX fun b27 => ?_
    refine J.call hX hcal (hf (m.getD j En.zero)) [2] 0 rfl rfl rfl rfl (by (repeat' (first | exact Conj.nil | refine Conj.cons ?_ ?_ | omega | exact hq0 | (simpa using hq0) | (exact fun h => h) | exact rfl | (intro hq; have hq0 := hq; try simp only [Bool.and_eq_true, Bool.or_eq_true, decide_eq_true_eq, Bool.not_eq_true', decide_eq_false_iff_not] at hq) | (simp; done) | (simp; omega) | decide))) rfl rfl (fun _ => rfl) ?_
    refine cpq ⟨_, rfl, trivial, ?_⟩
    refine J.q hX fun b28 => ?_
    refine J.cond rfl (fun h2 => ?_) (fun h2 => ?_)
    ·simp only [Bool.not_eq_true'] at h2
     refine J.q hX fun b29 => ?_
     refine J.storeN hX tk 1 rfl rfl rfl rfl rfl rfl rfl rfl rfl rfl rfl rfl rfl ?_ (cellsE (m.set i (m.getD j En.zero)) ++ r) ?_ rfl (fun _ => rfl) ⟨trivial, ?_⟩
     ·rw [List.length_append, cellsE_len]; show 0 + (i : Int).toNat * 19 + 19 ≤ _; omega
     ·rw [show 0 + (i : Int).toNat * 19 = i * 19 from by omega]; exact cellsE_set m r i _ (by omega)
     refine J.q hX fun b30 => ?_
     refine J.nS ((i + 1, j + 1, m.set i (m.getD j En.zero))) (hI.keep (by omega) h2) (by dsimp only; omega) [0, 1, 2] rfl rfl
    ·simp only [Bool.not_eq_false'] at h2
     refine J.q hX fun b31 => ?_
     refine J.nS ((i, j + 1, m)) (hI.skip (by omega) h2) (by dsimp only; omega) [0, 1, 2] rfl rfl
   ·simp only [decide_eq_false_iff_not, Int.ofNat_lt] at h1
    obtain rfl : j = n := by omega
    have hfil : m.take i = l.filter (fun x => !p x) := by
     have h5 := hI.2.2.2.2
     rw [List.drop_of_length_le (by omega)] at h5
     simpa using h5
    refine J.q hX fun b32 => ?_
    refine J.clear hX tk 1 rfl rfl rfl rfl rfl rfl rfl rfl rfl rfl rfl ?_ (fun _ => rfl) (fun _ => rfl) fun cs' z1 z2 => ⟨trivial, ?_⟩
    ·rw [List.length_append, cellsE_len]; rw [cellsE_len] at q4
     show 0 + (i : Int).toNat * 19 + (j - (i : Int).toNat) * 19 ≤ _
     have : (i : Int).toNat = i := by omega
     rw [this]; omega
    have hilen : (l.filter (fun x => !p x)).length = i := by rw [← hfil, List.length_take]; omega
    refine J.closeOwn (e := 38) (size := 19) (n := i) (cap := cap) (xs := cellsE (l.filter (fun x => !p x))) 1 rfl rfl (by rw [cellsE_len, hilen]) (by omega) q3 (by rw [z1, List.length_append, cellsE_len, hml]; rw [cellsE_len, hl] at q4; exact q4) ?_ rfl ?_
    ·have z3 : (0 + (i : Int).toNat * 19) = i * 19 := by omega
     rw [z3] at z2
     rw [z2, ← hfil]
     have e : cellsE m = cellsE (m.take i) ++ cellsE (m.drop i) := by
      conv => lhs; rw [← List.take_append_drop i m]
      simp only [cellsE, List.flatMap_append]
     rw [e, List.append_assoc, List.take_left' (by rw [cellsE_len, List.length_take, Nat.min_eq_left (by omega)])]
    refine J.q hX fun b33 => ?_
    refine J.ru hX [1, 2] ?_
    exact ⟨_, rfl, by rw [hilen]; rfl, by rw [hilen]; rfl⟩
end Go.Proofs.YtdocmcapegcoeaaGreat
