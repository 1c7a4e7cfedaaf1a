/- Helpers, proved here. No condition. -/
import Derived.Test.YtdocmcapegcoeaaGreatV25
import Derived.Test.YtdocmcapegcoeaaGreatV26
set_option maxRecDepth 20000
set_option linter.all false
namespace Go.Proofs.YtdocmcapegcoeaaGreat
open Go
structure FitR (e : En) : Prop where
 lpn : 0 ≤ e.lpn ∧ e.lpn ≤ 65535
 role : e.role = 1 ∨ ((e.role = 2 ∨ e.role = 4) ∧ e.data = zeros16)
 len : e.data.length = 16
theorem ok_of {b r m : Int} {e : En} (hb : 0 ≤ b ∧ b ≤ 15) (hr : 0 ≤ r ∧ r ≤ 7) (hm : 2 ≤ L.count m) (hs : 0 ≤ e.seq ∧ e.seq ≤ 1099511627775) (h : FitR e ∨ e = En.pad) : W.ok b r m e = true := by
 have h5 : S.entry (W.sh b r m e) = true := by
  rcases h with h | h
  ·unfold S.entry
   have e1 : (W.sh b r m e).role = e.role := rfl
   have e2 : (W.sh b r m e).data = e.data := rfl
   rw [e1, e2]
   rcases h.role with h3 | ⟨h3 | h3, h4⟩
   ·rw [if_pos h3]
   ·rw [if_neg (by omega), if_pos (.inl h3), decide_eq_true h4]
   ·rw [if_neg (by omega), if_pos (.inr h3), decide_eq_true h4]
  ·rw [h]; rfl
 have h6 : (0 ≤ e.role ∧ e.role ≤ 255) ∧ (0 ≤ e.lpn ∧ e.lpn ≤ 65535) := by
  rcases h with h | h
  ·have := h.lpn
   rcases h.role with h3 | ⟨h3 | h3, h4⟩ <;> omega
  ·rw [h]; decide
 have h7 : S.place (W.sh b r m e) = true := by
  unfold S.place S.inB
  rw [decide_eq_true (show 2 ≤ L.count (W.sh b r m e).mask from hm), decide_eq_true (show 0 ≤ (W.sh b r m e).block from hb.1), decide_eq_true (show (W.sh b r m e).block ≤ 15 from hb.2), decide_eq_true (show 0 ≤ (W.sh b r m e).row from hr.1), decide_eq_true (show (W.sh b r m e).row ≤ 7 from hr.2)]
  rfl
 have h8 : S.numbers (W.sh b r m e) = true := by
  unfold S.numbers S.inB
  rw [decide_eq_true (show 0 ≤ (W.sh b r m e).seq from hs.1), decide_eq_true (show (W.sh b r m e).seq ≤ 1099511627775 from hs.2), decide_eq_true (show 0 ≤ (W.sh b r m e).lpn from h6.2.1), decide_eq_true (show (W.sh b r m e).lpn ≤ 65535 from h6.2.2), decide_eq_true (show 0 ≤ (W.sh b r m e).role from h6.1.1), decide_eq_true (show (W.sh b r m e).role ≤ 255 from h6.1.2)]
  rfl
 unfold W.ok S.may
 rw [h5, h7, h8]
 rfl
structure Msk (D : Nat) (fd m : Int) : Prop where
 set : L.set m = true
 lt : ∀ d : Int, L.has m d = true → d < D
 all : ∀ d : Nat, d < D → (d : Int) ≠ fd → L.has m (d : Nat) = true
theorem slots_all : ∀ D, D < 7 → 3 ≤ D → G.slots (L.all (D : Nat)) = (D : Int) - 1 ∧ L.count (L.all (D : Nat)) = D ∧ L.all (D : Nat) < 2 ^ D := by decide +kernel
theorem slots_wo : ∀ D, D < 7 → 3 ≤ D → ∀ d, d < D → G.slots (L.without (L.all (D : Nat)) (d : Nat)) = (D : Int) - 2 ∧ L.count (L.without (L.all (D : Nat)) (d : Nat)) = D - 1 ∧ L.without (L.all (D : Nat)) (d : Nat) < 2 ^ D := by decide +kernel
namespace Msk
variable {D : Nat} {fd m : Int}
theorem eq (h : Msk D fd m) (hD : 3 ≤ D ∧ D ≤ 6) : (m = L.all (D : Nat) ∧ (0 ≤ fd ∧ fd < D → L.has m fd = true)) ∨ (0 ≤ fd ∧ fd < D ∧ L.has m fd = false ∧ m = L.without (L.all (D : Nat)) fd) := by
 have hs := L.set_all D (by omega)
 by_cases hf : (0 ≤ fd ∧ fd < D) ∧ L.has m fd = false
 ·right
  refine ⟨hf.1.1, hf.1.2, hf.2, L.ext h.set (L.set_without hs (by omega)) fun d hd => ?_⟩
  rw [L.without_has hs (by omega), L.all_has D (by omega), decide_eq_true (p := (0 : Int) ≤ (d : Int)) (by omega), Bool.true_and]
  by_cases hlt : d < D
  ·rw [decide_eq_true (p := (d : Int) < D) (by omega), Bool.true_and]
   by_cases e : (d : Int) = fd
   ·rw [e, hf.2]; simp
   ·rw [h.all d hlt e, decide_eq_false e]; rfl
  ·rw [decide_eq_false (p := (d : Int) < D) (by omega), Bool.false_and]
   cases hh : L.has m (d : Nat) with
   | false => rfl
   | true => have := h.lt _ hh; omega
 ·left
  have hff : 0 ≤ fd ∧ fd < D → L.has m fd = true := fun hr => by
   cases hh : L.has m fd with
   | true => rfl
   | false => exact absurd ⟨hr, hh⟩ hf
  refine ⟨L.ext h.set hs fun d hd => ?_, hff⟩
  rw [L.all_has D (by omega), decide_eq_true (p := (0 : Int) ≤ (d : Int)) (by omega), Bool.true_and]
  by_cases hlt : d < D
  ·rw [decide_eq_true (p := (d : Int) < D) (by omega)]
   by_cases e : (d : Int) = fd
   ·rw [e]; exact hff (by omega)
   ·exact h.all d hlt e
  ·rw [decide_eq_false (p := (d : Int) < D) (by omega)]
   cases hh : L.has m (d : Nat) with
   | false => rfl
   | true => have := h.lt _ hh; omega
def full (D : Nat) (fd m : Int) : Bool := !(decide (0 ≤ fd) && decide (fd < D)) || L.has m fd
theorem slots (h : Msk D fd m) (hD : 3 ≤ D ∧ D ≤ 6) : G.slots m = (if full D fd m then (D : Int) - 1 else (D : Int) - 2) ∧ 2 ≤ L.count m ∧ 0 ≤ m ∧ m < 2 ^ D := by
 have hm0 : 0 ≤ m := by have := (L.set_iff m).1 h.set; omega
 rcases h.eq hD with ⟨e, hf⟩ | ⟨h1, h2, h3, e⟩
 ·have hfull : full D fd m = true := by
   unfold full
   by_cases hr : 0 ≤ fd ∧ fd < D
   ·rw [hf hr]; simp
   ·by_cases h0 : 0 ≤ fd
    ·rw [decide_eq_false (p := fd < D) (by omega)]; simp
    ·rw [decide_eq_false h0]; simp
  obtain ⟨a1, a2, a3⟩ := slots_all D (by omega) hD.1
  rw [hfull, if_pos rfl]
  rw [e] at hm0 ⊢
  exact ⟨a1, by omega, hm0, a3⟩
 ·have hfull : full D fd m = false := by
   unfold full
   rw [decide_eq_true h1, decide_eq_true h2, h3]; rfl
  obtain ⟨d, hd⟩ := Int.eq_ofNat_of_zero_le h1
  obtain ⟨a1, a2, a3⟩ := slots_wo D (by omega) hD.1 d (by omega)
  rw [hfull, if_neg Bool.false_ne_true]
  rw [e, hd] at hm0 ⊢
  exact ⟨a1, by omega, hm0, a3⟩
theorem pos (h : Msk D fd m) (hD : 3 ≤ D ∧ D ≤ 6) : 1 ≤ G.slots m ∧ (D : Int) - 2 ≤ G.slots m ∧ G.slots m ≤ (D : Int) - 1 := by
 have := (h.slots hD).1
 split at this <;> omega
end Msk
structure Full (fd : Int) (N : Nand) (b r m : Int) (l : List En) : Prop where
 is : RowIs N b r m l
 good : ∀ x ∈ R.job b r m l, x.1 ≠ fd → ∃ t, N.pageAt x.1 b r = some ⟨putP x.2, false, t⟩
 inn : RowIn N b r m l
namespace Full
variable {fd : Int} {N : Nand} {b r m : Int} {l : List En}
theorem keep (h : Full fd N b r m l) {N' : Nand} (like : N.Like N') (hp : ∀ x ∈ R.job b r m l, N'.pageAt x.1 b r = N.pageAt x.1 b r) : Full fd N' b r m l :=
 ⟨h.is.like like, fun x hx hne => by rw [hp x hx]; exact h.good x hx hne, fun x hx c hc => h.inn x hx c (by rw [← hp x hx]; exact hc)⟩
theorem okAll2 (h : Full fd N b r m l) (hoff : N.off = false) (hdead : ∀ x ∈ R.job b r m l, x.1 ≠ fd → N.dead.getD x.1.toNat false = false) {i : Nat} (hi : i < l.length) : okG (gOf N b r m l) l.length i = true := by
 have hjl : (R.job b r m l).length = l.length + 1 := by simp [R.job]
 have hg : ∀ k x, (R.job b r m l)[k]? = some x → x.1 ≠ fd → gOf N b r m l k = true := fun k x hk hne => by
  have hx := List.mem_of_getElem? hk
  obtain ⟨t, ht⟩ := h.good x hx hne
  obtain ⟨n1, n2, n3⟩ := h.is.inn x hx
  have hr : N.refuses x.1 b r = 0 := by
   unfold Nand.refuses
   rw [hoff, if_neg (by decide), Nand.geoIn_of ⟨n1, n2⟩ h.is.blk h.is.row, if_neg (by decide), hdead x hx hne]
   rfl
  unfold gOf
  rw [hk]
  show ((M.look N x.1 b r).2 == 1) = true
  rw [look_is (h.is.sh x hx).1 hr ht]; rfl
 have hat : ∀ k, k ≤ l.length → ∃ x, (R.job b r m l)[k]? = some x := fun k hk => ⟨_, List.getElem?_eq_getElem (by omega)⟩
 unfold okG
 rw [Bool.or_eq_true]
 obtain ⟨x, hx⟩ := hat i (by omega)
 by_cases hne : x.1 = fd
 ·right
  unfold othG
  rw [List.all_eq_true]
  intro k hk
  have hk := List.mem_range.1 hk
  by_cases e : k = i
  ·simp [e]
  ·obtain ⟨y, hy⟩ := hat k (by omega)
   have : y.1 ≠ fd := fun e2 => e (by
    have hnd := h.is.nodup
    have e3 : ((R.job b r m l).map (·.1))[k]? = ((R.job b r m l).map (·.1))[i]? := by rw [List.getElem?_map, List.getElem?_map, hx, hy]; simp [e2, hne]
    exact (List.getElem?_inj (by rw [List.length_map]; omega) hnd).1 e3)
   rw [hg k y hy this]; simp
 ·exact .inl (hg i x hx hne)
theorem okAll (h : Full fd N b r m l) (hoff : N.off = false) (hdead : ∀ i : Nat, (i : Int) ≠ fd → N.dead.getD i false = false) {i : Nat} (hi : i < l.length) : okG (gOf N b r m l) l.length i = true :=
 h.okAll2 hoff (fun x hx hne => hdead _ (by have := h.is.inn x hx; omega)) hi
theorem read (h : Full fd N b r m l) (hoff : N.off = false) (hdead : ∀ i : Nat, (i : Int) ≠ fd → N.dead.getD i false = false) {i : Nat} (hi : i < l.length) : R.read N b r (i : Nat) m = (l.getD i En.zero, 0) := by
 rw [(h.inn.part h.is).read h.is hoff hi, h.okAll hoff hdead hi, if_pos rfl]
end Full
theorem WroteR.page {N N' : Nand} {b r : Int} {q : List (Int × Sh)} (h : WroteR N N' b r q) (hq : RdyR N b r q) {d b0 r0 : Int} (hd : 0 ≤ d) (hb : 0 ≤ b0) (hr : 0 ≤ r0) (hne : b0 = b → r0 ≠ r) : N'.pageAt d b0 r0 = N.pageAt d b0 r0 := by
 unfold Nand.pageAt
 by_cases e : b0 = b
 ·by_cases hx : ∀ x ∈ q, x.1.toNat ≠ d.toNat
  ·rw [h.rest _ _ (.inr hx)]
  ·simp only [Classical.not_forall, not_imp, Decidable.not_not] at hx
   obtain ⟨x, hx, hxd⟩ := hx
   have hc := h.cells x hx
   rw [hxd, ← e] at hc
   rw [hc]
   split
   ·rfl
   ·rename_i ha
    have ha : N.dead.getD d.toNat false = false := by simpa using ha
    have hl := hq.cells x hx (by rw [hxd]; exact ha)
    rw [hxd, ← e] at hl
    have := hne e
    have := hq.row
    rw [List.getElem?_append]
    split
    ·rfl
    ·rw [List.getElem?_eq_none (by simp only [List.length_cons, List.length_nil]; omega), List.getElem?_eq_none (by omega)]
 ·rw [h.rest _ _ (.inl (by have := hq.blk; omega))]
structure Std (fd : Int) (S : Dv) (i : Int) (a : AtV) : Prop where
 row : ∃ l, Full fd S.N a.block a.row a.mask l ∧ 0 ≤ a.slot ∧ a.slot.toNat < l.length ∧ (l.getD a.slot.toNat En.zero).lpn = i ∧ (l.getD a.slot.toNat En.zero).seq = a.seq ∧ (l.getD a.slot.toNat En.zero).role = a.role
 used : (S.t.at_ a.block).used = true
 below : a.block = S.op → a.row < S.row
 seq : 1 ≤ a.seq ∧ a.seq < S.next
structure Opn (fd : Int) (S : Dv) : Prop where
 blk : 0 ≤ S.op ∧ S.op < S.N.blocks
 used : (S.t.at_ S.op).used = true
 row : 0 ≤ S.row ∧ S.row ≤ S.N.pages
 mask : Msk S.N.dies fd S.mask
 cells : ∀ d : Nat, L.has S.mask (d : Nat) = true → ((S.N.blk d S.op.toNat).cells.length : Int) ≤ S.row ∧ (S.N.dead.getD d false = false → ((S.N.blk d S.op.toNat).cells.length : Int) = S.row)
structure Inv (fd : Int) (S : Dv) : Prop where
 lit : S.N.Lit
 dead : ∀ i : Nat, (i : Int) ≠ fd → S.N.dead.getD i false = false
 plan : ∀ a ∈ S.N.plan, a.1 = fd
 flags : ∀ i j : Nat, (i : Int) ≠ fd → (S.N.blk i j).met = false ∧ (S.N.blk i j).fails = false
 tdead : L.set S.t.dead = true ∧ ∀ d : Int, L.has S.t.dead d = true → d = fd
 tbad : ∀ b, S.t.has b = true → L.set (S.t.at_ b).bad = true ∧ ∀ d : Int, L.has (S.t.at_ b).bad d = true → d = fd
 op : S.op = -1 ∨ Opn fd S
 blank : ∀ b, S.t.has b = true → (S.t.at_ b).used = false → ∀ d : Nat, L.has (S.t.mask b) (d : Nat) = true → (S.N.blk d b.toNat).cells = []
 st : ∀ i a, Tb.look S.T.at_ i = some a → Std fd S i a
theorem mask_has {t : Tl} {b : Int} (hd : t.d ≤ 8) (hb : t.has b = true) (h1 : L.set t.dead = true) (h2 : L.set (t.at_ b).bad = true) : L.set (t.mask b) = true ∧ ∀ e : Int, L.has (t.mask b) e = ((decide (0 ≤ e) && decide (e < t.d)) && !L.has t.dead e && !L.has (t.at_ b).bad e) := by
 have ha := L.set_all t.d hd
 have x1 := andN_set ha h1
 have x2 := andN_set x1.1 h2
 unfold Tl.mask
 rw [if_pos hb]
 exact ⟨x2.1, fun e => by rw [Tl.alive, x2.2, x1.2, L.all_has _ hd]⟩
namespace Inv
variable {fd : Int} {S : Dv} {k m : Nat}
theorem msk (h : Inv fd S) (hO : S.Ok k m) {b : Int} (hb : S.t.has b = true) : Msk S.N.dies fd (S.t.mask b) := by
 have hg := hO.gd.ok.bd16
 have hd := hO.t.d
 obtain ⟨m1, m2⟩ := mask_has (by omega) hb h.tdead.1 (h.tbad b hb).1
 refine ⟨m1, fun d hh => ?_, fun d hlt hne => ?_⟩
 ·rw [m2] at hh
  simp only [Bool.and_eq_true, decide_eq_true_eq] at hh
  omega
 ·rw [m2, decide_eq_true (p := (0 : Int) ≤ (d : Int)) (by omega), decide_eq_true (p := (d : Int) < S.t.d) (by omega)]
  have e1 : L.has S.t.dead (d : Nat) = false := by
   cases hh : L.has S.t.dead (d : Nat) with
   | false => rfl
   | true => exact absurd (h.tdead.2 _ hh) hne
  have e2 : L.has (S.t.at_ b).bad (d : Nat) = false := by
   cases hh : L.has (S.t.at_ b).bad (d : Nat) with
   | false => rfl
   | true => exact absurd ((h.tbad b hb).2 _ hh) hne
  rw [e1, e2]; rfl
theorem usable (h : Inv fd S) (hO : S.Ok k m) {b : Int} (hb : S.t.has b = true) : S.t.usable b = true := by
 have hg := hO.gd.ok.bd16
 have := ((h.msk hO hb).pos hg.1).1
 unfold Tl.usable
 exact decide_eq_true (by omega)
end Inv
namespace V
theorem look_put (t : Tb) (e : En) (b r s m : Int) (i : Int) : Tb.look (t.put e b r s m).at_ i = if t.putB e = true ∧ i = e.lpn then some ⟨b, r, s, m, e.seq, e.role⟩ else Tb.look t.at_ i := by
 unfold Tb.put
 by_cases h : t.putB e = true
 ·rw [if_pos h]
  show Tb.look (Tb.put1 t.at_ e.lpn _) i = _
  rw [Tb.look_put1]
  by_cases hi : i = e.lpn
  ·rw [if_pos hi, if_pos ⟨h, hi⟩]
  ·rw [if_neg hi, if_neg (fun h => hi h.2)]
 ·rw [if_neg h, if_neg (fun h' => h h'.1)]
end V
theorem num_mem {l : List En} {next : Int} {n : Nat} {e : En} (h : e ∈ Dv.num l next n) : (∃ i, i < l.length ∧ i < n ∧ e = { l.getD i En.zero with seq := next + i }) ∨ e = En.pad := by
 simp only [Dv.num, List.mem_map, List.mem_range] at h
 obtain ⟨i, hi, rfl⟩ := h
 unfold Dv.numAt
 split
 ·rename_i h; exact .inl ⟨i, h, hi, rfl⟩
 ·exact .inr rfl
theorem num_get {l : List En} {next : Int} {n k : Nat} (hk : k < n) : (Dv.num l next n).getD k En.zero = Dv.numAt l next k := by
 unfold Dv.num
 rw [List.getD_eq_getElem?_getD, List.getElem?_map, List.getElem?_range hk]; rfl
theorem getD_mem {l : List En} {i : Nat} (h : i < l.length) : l.getD i En.zero ∈ l := by
 rw [List.getD_eq_getElem?_getD, List.getElem?_eq_getElem h]; exact List.getElem_mem _
namespace Inv
variable {fd : Int} {S : Dv} {k m : Nat} {l : List En}
theorem opn (h : Inv fd S) (hl : S.left = true) : Opn fd S := by
 rcases h.op with e | e
 ·have := Dv.left_spec hl; omega
 ·exact e
theorem rowIs (h : Inv fd S) (hO : S.Ok k m) (hl : S.left = true) (hf : ∀ e ∈ l, FitR e) (hn : ¬ S.next > 1099511627775 - (S.fit l : Int) + 1) : RowIs S.N S.op S.row S.mask (S.es l) := by
 have ho := h.opn hl
 have hs := Dv.left_spec hl
 have hg := hO.gd.ok.bd16
 have hx := hO.next
 obtain ⟨m1, m2, m3, m4⟩ := ho.mask.slots hg.1
 have hrow := ho.row
 have hblk := ho.blk
 refine ⟨hg.1.2, ho.blk, ⟨hrow.1, hs.2.1⟩, ⟨m3, m4⟩, Dv.num_data (fun e he => (hf e he).len) _ _, ?_⟩
 unfold W.parB
 have h1 : decide (((S.es l).length : Int) = G.slots S.mask) = true := by rw [Dv.es_len]; exact decide_eq_true (by omega)
 have h2 : (!(S.es l).isEmpty) = true := by
  cases he : S.es l with
  | nil => have := Dv.es_len S l; rw [he] at this; simp at this; omega
  | cons x y => rfl
 rw [h1, h2, Bool.true_and, Bool.true_and, List.all_eq_true]
 intro e he
 rcases num_mem he with ⟨i, hi, hin, rfl⟩ | rfl
 ·have hfe := hf _ (getD_mem hi)
  refine ok_of ⟨hblk.1, by omega⟩ ⟨hrow.1, by omega⟩ m2 ⟨?_, ?_⟩ (.inl ⟨hfe.lpn, hfe.role, hfe.len⟩)
  ·show 0 ≤ S.next + (i : Int); omega
  ·show S.next + (i : Int) ≤ 1099511627775
   have : i < S.fit l := by unfold Dv.fit; omega
   omega
 ·exact ok_of ⟨hblk.1, by omega⟩ ⟨hrow.1, by omega⟩ m2 ⟨by decide, by decide⟩ (.inr rfl)
theorem fails_no (h : Inv fd S) {b r : Int} {d : Nat} (hd : (d : Int) ≠ fd) : S.N.failB b r d = false ∧ S.N.fails d b r = false := by
 have e1 := h.dead d hd
 have e2 := (h.flags d b.toNat hd).1
 have e3 : S.N.fails d b r = false := by
  unfold Nand.fails
  rw [Int.toNat_natCast, e2, Bool.or_false]
  refine decide_eq_false fun hm => ?_
  exact hd (h.plan _ hm)
 refine ⟨?_, e3⟩
 unfold Nand.failB
 rw [e3, Bool.or_false, Int.toNat_natCast, e1]
structure Turn (fd : Int) (S : Dv) (l : List En) : Prop where
 inv : Inv fd (S.wrote l)
 full : Full fd (S.wrote l).N S.op S.row S.mask (S.es l)
 err : (S.wr l).2.2 = if (S.wr l).2.1 = 0 then 0 else 7
 set : L.set (S.wr l).2.1 = true
 only : ∀ d : Int, L.has (S.wr l).2.1 d = true → d = fd ∧ L.has S.mask fd = true
 fail : ∀ d : Nat, L.has S.mask (d : Nat) = true → L.has (S.wr l).2.1 (d : Nat) = S.N.failB S.op S.row d
 dead : (S.wrote l).N.dead = S.N.dead
 broken : (S.wrote l).N.broken = S.N.broken
 like : S.N.Like (S.wrote l).N
 plan : ∀ a ∈ (S.wrote l).N.plan, a ∈ S.N.plan
 rest : ∀ i j, j ≠ S.op.toNat → (S.wrote l).N.blk i j = S.N.blk i j
 flags : ∀ i j, ((S.wrote l).N.blk i j).met = (S.N.blk i j).met ∧ ((S.wrote l).N.blk i j).fails = (S.N.blk i j).fails ∧ ((S.wrote l).N.blk i j).worn = (S.N.blk i j).worn
 ops : (S.wrote l).N.ops = S.N.ops + (((R.job S.op S.row S.mask (S.es l)).filter fun x => !S.N.dead.getD x.1.toNat false).length : Int)
theorem turn (h : Inv fd S) (hO : S.Ok k m) (hl : S.left = true) (hf : ∀ e ∈ l, FitR e) (hn : ¬ S.next > 1099511627775 - (S.fit l : Int) + 1) : Turn fd S l := by
 have ho := h.opn hl
 have hs := Dv.left_spec hl
 have hg := hO.gd.ok.bd16
 have hR := h.rowIs hO hl hf hn
 have hrdy : RdyW S.N S.op S.row S.mask := ⟨h.lit, fun d hd ha => (ho.cells d hd).2 ha⟩
 have hq := hrdy.rdy hR
 obtain ⟨w1, w2, w3⟩ := write_R hrdy hR
 have hin := hR.inn
 have hq8 : ∀ x ∈ R.job S.op S.row S.mask (S.es l), 0 ≤ x.1 ∧ x.1 < 8 := fun x hx => by have := hin x hx; omega
 obtain ⟨f1, f2⟩ := failM_set (N := S.N) (b := S.op) (r := S.row) _ 0 (by decide) hq8
 have w3 : WroteR S.N (S.wrote l).N S.op S.row (R.job S.op S.row S.mask (S.es l)) := w3
 have w1 : (S.wr l).2.1 = failM S.N S.op S.row (R.job S.op S.row S.mask (S.es l)) 0 := w1
 have w2 : (S.wr l).2.2 = if failM S.N S.op S.row (R.job S.op S.row S.mask (S.es l)) 0 = 0 then 0 else 7 := w2
 have hfail : ∀ d : Nat, L.has S.mask (d : Nat) = true → L.has (S.wr l).2.1 (d : Nat) = S.N.failB S.op S.row d := fun d hd => by
  rw [w1, f2, L.has_zero, Bool.false_or, Bool.eq_iff_iff, List.any_eq_true]
  constructor
  ·rintro ⟨x, hx, hh⟩
   simp only [Bool.and_eq_true, decide_eq_true_eq] at hh
   rw [← hh.1]; exact hh.2
  ·intro hh
   obtain ⟨x, hx, hxd⟩ := hR.on hd
   exact ⟨x, hx, by rw [hxd, hh]; simp⟩
 have honly : ∀ d : Int, L.has (S.wr l).2.1 d = true → d = fd ∧ L.has S.mask fd = true := fun d hd => by
  rw [w1, f2, L.has_zero, Bool.false_or, List.any_eq_true] at hd
  obtain ⟨x, hx, hh⟩ := hd
  simp only [Bool.and_eq_true, decide_eq_true_eq] at hh
  have hxi := hin x hx
  obtain ⟨e, he⟩ := Int.eq_ofNat_of_zero_le hxi.1
  by_cases hne : (e : Int) = fd
  ·rw [← hne, ← he]; exact ⟨hh.1.symm, hxi.2.2⟩
  ·have := (h.fails_no (b := S.op) (r := S.row) hne).1
   rw [← he, hh.2] at this; cases this
 have hrow := ho.row
 have hblk := ho.blk
 have hcells : ∀ d : Nat, L.has S.mask (d : Nat) = true → (((S.wrote l).N.blk d S.op.toNat).cells.length : Int) ≤ S.row + 1 ∧ (S.N.dead.getD d false = false → (((S.wrote l).N.blk d S.op.toNat).cells.length : Int) = S.row + 1) := fun d hd => by
  obtain ⟨x, hx, hxd⟩ := hR.on hd
  have hc := w3.cells x hx
  have ho2 := ho.cells d hd
  rw [hxd, Int.toNat_natCast] at hc
  rw [hc]
  cases hdd : S.N.dead.getD d false with
  | true => rw [if_pos rfl]; exact ⟨by omega, fun e => by cases e⟩
  | false =>
   rw [if_neg Bool.false_ne_true, List.length_append]
   have := ho2.2 hdd
   simp only [List.length_cons, List.length_nil]
   exact ⟨by omega, fun _ => by omega⟩
 have hfull : Full fd (S.wrote l).N S.op S.row S.mask (S.es l) := by
  refine ⟨hR.like w3.like, fun x hx hne => ?_, fun x hx c hc => ?_⟩
  ·have hxi := hin x hx
   obtain ⟨e, he⟩ := Int.eq_ofNat_of_zero_le hxi.1
   have hc := w3.cells x hx
   have hne' : (e : Int) ≠ fd := by rw [← he]; exact hne
   have hxm := hxi.2.2
   rw [he] at hxm
   have hlen := (ho.cells e hxm).2 (h.dead e hne')
   rw [he, Int.toNat_natCast, h.dead e hne', if_neg Bool.false_ne_true, (h.fails_no (b := S.op) (r := S.row) hne').2] at hc
   refine ⟨false, ?_⟩
   unfold Nand.pageAt
   rw [he, Int.toNat_natCast, hc, List.getElem?_append_right (by omega), show S.row.toNat - (S.N.blk e S.op.toNat).cells.length = 0 from by omega]
   rfl
  ·have hxi := hin x hx
   obtain ⟨e, he⟩ := Int.eq_ofNat_of_zero_le hxi.1
   have hxm := hxi.2.2
   have hcc := w3.cells x hx
   unfold Nand.pageAt at hc
   rw [hcc] at hc
   rw [he] at hxm
   have hlen := ho.cells e hxm
   rw [he, Int.toNat_natCast] at hc
   cases hdd : S.N.dead.getD e false with
   | true =>
    rw [hdd, if_pos rfl, List.getElem?_eq_none (by omega)] at hc
    cases hc
   | false =>
    have := hlen.2 hdd
    rw [hdd, if_neg Bool.false_ne_true, List.getElem?_append_right (by omega), show S.row.toNat - (S.N.blk e S.op.toNat).cells.length = 0 from by omega] at hc
    simp only [List.getElem?_cons_zero, Option.some.injEq] at hc
    subst hc
    exact .inr (.inl rfl)
 refine ⟨⟨w3.lit, fun i hi => by rw [w3.dead]; exact h.dead i hi, fun a ha => h.plan a (w3.plan a ha), fun i j hi => by have := w3.flags i j; rw [this.1, this.2.1]; exact h.flags i j hi, h.tdead, h.tbad, .inr ⟨by rw [show (S.wrote l).N.blocks = S.N.blocks from w3.like.blocks]; exact ho.blk, ho.used, by rw [show (S.wrote l).N.pages = S.N.pages from w3.like.pages]; show 0 ≤ S.row + 1 ∧ S.row + 1 ≤ _; omega, by rw [show (S.wrote l).N.dies = S.N.dies from w3.like.dies]; exact ho.mask, fun d hd => by rw [w3.dead]; exact hcells d hd⟩, fun b hb hu d hd => ?_, fun i a ha => ?_⟩, hfull, by rw [w2, w1], by rw [w1]; exact f1, honly, hfail, w3.dead, w3.broken, w3.like, w3.plan, fun i j hj => w3.rest i j (.inl hj), w3.flags, w3.ops⟩
 ·have hbi := Tl.has_iff.1 hb
  have hne : b ≠ S.op := fun e => by rw [e] at hu; have := ho.used; rw [show (S.wrote l).t = S.t from rfl] at hu; rw [hu] at this; cases this
  rw [w3.rest _ _ (.inl (by omega))]
  exact h.blank b hb hu d hd
 ·have hst := h.st i a ha
  obtain ⟨lr, g1, g2, g3, g4, g5, g6⟩ := hst.row
  refine ⟨⟨lr, g1.keep w3.like fun x hx => w3.page hq (g1.is.inn x hx).1 g1.is.blk.1 g1.is.row.1 (fun e => by have := hst.below e; omega), g2, g3, g4, g5, g6⟩, hst.used, fun e => by have := hst.below e; show a.row < S.row + 1; omega, ?_⟩
  have := hst.seq
  show 1 ≤ a.seq ∧ a.seq < S.next + (S.fit l : Int)
  omega
theorem put (h : Inv fd S) {b r mk : Int} {es : List En} (hfull : Full fd S.N b r mk es) (hu : (S.t.at_ b).used = true) (hbel : b = S.op → r < S.row) {n : Nat} (hn : n < es.length) (hs : 1 ≤ (es.getD n En.zero).seq ∧ (es.getD n En.zero).seq < S.next) : Inv fd { S with T := S.T.put (es.getD n En.zero) b r n mk } := by
 refine ⟨h.lit, h.dead, h.plan, h.flags, h.tdead, h.tbad, ?_, h.blank, fun i a ha => ?_⟩
 ·rcases h.op with e | e
  ·exact .inl e
  ·exact .inr ⟨e.blk, e.used, e.row, e.mask, e.cells⟩
 ·have ha : Tb.look (S.T.put (es.getD n En.zero) b r n mk).at_ i = some a := ha
  rw [V.look_put] at ha
  split at ha
  ·rename_i hc
   injection ha with ha
   subst ha
   refine ⟨⟨es, hfull, Int.natCast_nonneg n, by show ((n : Nat) : Int).toNat < _; omega, by show (es.getD ((n : Nat) : Int).toNat En.zero).lpn = i; rw [Int.toNat_natCast]; exact hc.2.symm, by show (es.getD ((n : Nat) : Int).toNat En.zero).seq = _; rw [Int.toNat_natCast], by show (es.getD ((n : Nat) : Int).toNat En.zero).role = _; rw [Int.toNat_natCast]⟩, hu, hbel, hs⟩
  ·have := h.st i a ha
   exact ⟨this.row, this.used, this.below, this.seq⟩
theorem puts (h : Inv fd S) {b r mk : Int} {es : List En} (hfull : Full fd S.N b r mk es) (hu : (S.t.at_ b).used = true) (hbel : b = S.op → r < S.row) (T : Tb) (hT : S.T = T) : ∀ n, n ≤ es.length → (∀ i, i < n → 1 ≤ (es.getD i En.zero).seq ∧ (es.getD i En.zero).seq < S.next) → Inv fd { S with T := Dv.puts T b r mk es n }
 | 0, _, _ => by subst hT; exact h
 | n + 1, hn, hs => by
  have ih := h.puts hfull hu hbel T hT n (by omega) fun i hi => hs i (by omega)
  rw [Dv.puts_succ]
  exact put (S := { S with T := Dv.puts T b r mk es n }) ih hfull hu hbel (by omega) (hs n (by omega))
theorem lose (h : Inv fd S) (hF : S.t.Fit S.N) (hD : S.N.dies ≤ 6) {f : Int} {d : Nat} (hd : d < 8) (hf : L.has f (d : Nat) = true → (d : Int) = fd) : Inv fd (Dv.lose f S d) := by
 unfold Dv.lose
 split
 ·rename_i hh
  have hfd := hf hh
  obtain ⟨e1, e2, e3⟩ : ∃ t', (if S.N.deadAt d then S.t.die d else S.t.bad d S.op) = t' ∧ True := ⟨_, rfl, trivial⟩
  have key : ∀ t' : Tl, (t' = S.t.die d ∨ t' = S.t.bad d S.op) → (∀ b, t'.has b = S.t.has b) ∧ t'.d = S.t.d ∧ (∀ b, S.t.has b = true → (t'.at_ b).used = (S.t.at_ b).used) ∧ (L.set t'.dead = true ∧ ∀ d : Int, L.has t'.dead d = true → d = fd) ∧ (∀ b, S.t.has b = true → L.set (t'.at_ b).bad = true ∧ ∀ d : Int, L.has (t'.at_ b).bad d = true → d = fd) ∧ (∀ b, S.t.has b = true → ∀ e : Int, L.has (t'.mask b) e = true → L.has (S.t.mask b) e = true) := by
   intro t' ht
   have hSd : S.t.d ≤ 8 := by have := hF.d; omega
   have h0 : ∀ b, S.t.has b = true → L.set (S.t.mask b) = true ∧ ∀ e : Int, L.has (S.t.mask b) e = ((decide (0 ≤ e) && decide (e < S.t.d)) && !L.has S.t.dead e && !L.has (S.t.at_ b).bad e) := fun b hb => mask_has hSd hb h.tdead.1 (h.tbad b hb).1
   rcases ht with rfl | rfl
   ·unfold Tl.die
    split
    ·have hw := L.set_with h.tdead.1 (d := (d : Int)) (by omega)
     have hwh := L.with_has h.tdead.1 (d := (d : Int)) (by omega)
     refine ⟨fun b => rfl, rfl, fun b hb => rfl, ⟨hw, fun e he => ?_⟩, h.tbad, fun b hb e he => ?_⟩
     ·have he : L.has (L.with_ S.t.dead (d : Int)) e = true := he
      rw [hwh] at he
      rcases Bool.or_eq_true _ _ ▸ he with he | he
      ·exact h.tdead.2 e he
      ·simp only [decide_eq_true_eq] at he; omega
     ·have hm := (mask_has (t := ⟨S.t.d, S.t.b, S.t.p, S.t.l, L.with_ S.t.dead d⟩) (b := b) hSd hb hw (h.tbad b hb).1).2 e
      rw [hm] at he
      rw [(h0 b hb).2 e]
      simp only [Bool.and_eq_true, Bool.not_eq_true'] at he ⊢
      refine ⟨⟨he.1.1, ?_⟩, he.2⟩
      have he2 := he.1.2
      rw [hwh] at he2
      exact (Bool.or_eq_false_iff.1 he2).1
    ·exact ⟨fun b => rfl, rfl, fun b hb => rfl, h.tdead, h.tbad, fun b hb e he => he⟩
   ·unfold Tl.bad
    split
    ·cases hop : S.t.has S.op with
     | false =>
      rw [Tl.set_no _ hop]
      exact ⟨fun b => rfl, rfl, fun b hb => rfl, h.tdead, h.tbad, fun b hb e he => he⟩
     | true =>
      have hb0 := h.tbad S.op hop
      have hw := L.set_with hb0.1 (d := (d : Int)) (by omega)
      have hwh := L.with_has hb0.1 (d := (d : Int)) (by omega)
      have hbad : ∀ b, S.t.has b = true → L.set ((S.t.set S.op { S.t.at_ S.op with bad := L.with_ (S.t.at_ S.op).bad d }).at_ b).bad = true ∧ (∀ e : Int, L.has ((S.t.set S.op { S.t.at_ S.op with bad := L.with_ (S.t.at_ S.op).bad d }).at_ b).bad e = true → e = fd) ∧ (∀ e : Int, L.has (S.t.at_ b).bad e = true → L.has ((S.t.set S.op { S.t.at_ S.op with bad := L.with_ (S.t.at_ S.op).bad d }).at_ b).bad e = true) := fun b hb => by
       rw [Tl.at_set hF.len _ hop hb]
       split
       ·rename_i e; subst e
        dsimp only
        refine ⟨hw, fun e he => ?_, fun e he => ?_⟩
        ·rw [hwh] at he
         rcases Bool.or_eq_true _ _ ▸ he with he | he
         ·exact hb0.2 e he
         ·simp only [decide_eq_true_eq] at he; omega
        ·rw [hwh, he]; rfl
       ·exact ⟨(h.tbad b hb).1, (h.tbad b hb).2, fun e he => he⟩
      refine ⟨fun b => Tl.has_set _ _ _ _, Tl.set_d _ _ _, fun b hb => ?_, by rw [Tl.set_dead]; exact h.tdead, fun b hb => ⟨(hbad b hb).1, (hbad b hb).2.1⟩, fun b hb e he => ?_⟩
      ·rw [Tl.at_set hF.len _ hop hb]
       split
       ·rename_i e; rw [e]
       ·rfl
      ·have hm := (mask_has (t := S.t.set S.op { S.t.at_ S.op with bad := L.with_ (S.t.at_ S.op).bad d }) (b := b) (by rw [Tl.set_d]; exact hSd) (by rw [Tl.has_set]; exact hb) (by rw [Tl.set_dead]; exact h.tdead.1) (hbad b hb).1).2 e
       rw [hm, Tl.set_d, Tl.set_dead] at he
       rw [(h0 b hb).2 e]
       simp only [Bool.and_eq_true, Bool.not_eq_true'] at he ⊢
       refine ⟨he.1, ?_⟩
       cases hx : L.has (S.t.at_ b).bad e with
       | false => rfl
       | true => rw [(hbad b hb).2.2 e hx] at he; exact absurd he.2 (by decide)
    ·exact ⟨fun b => rfl, rfl, fun b hb => rfl, h.tdead, h.tbad, fun b hb e he => he⟩
  have ht' : (if S.N.deadAt d then S.t.die d else S.t.bad d S.op) = S.t.die d ∨ (if S.N.deadAt d then S.t.die d else S.t.bad d S.op) = S.t.bad d S.op := by split <;> simp
  obtain ⟨k1, k2, k3, k4, k5, k6⟩ := key _ ht'
  refine ⟨h.lit, h.dead, h.plan, h.flags, k4, fun b hb => k5 b (by rw [← k1]; exact hb), ?_, fun b hb hu e he => ?_, fun i a ha => ?_⟩
  ·rcases h.op with e | e
   ·exact .inl e
   ·right
    have hhas : S.t.has S.op = true := Tl.has_iff.2 (by have := e.blk; have := hF.b; omega)
    have hms := e.mask
    have hwo := L.without_has hms.set (d := (d : Int)) (by omega)
    refine ⟨e.blk, by show (Tl.at_ _ S.op).used = true; rw [k3 _ hhas]; exact e.used, e.row, ⟨L.set_without hms.set (by omega), fun x hx => ?_, fun x hx hne => ?_⟩, fun x hx => ?_⟩
    ·rw [hwo] at hx
     simp only [Bool.and_eq_true] at hx
     exact hms.lt x hx.1
    ·rw [hwo, hms.all x hx hne]
     simp; omega
    ·have hx : L.has (L.without S.mask (d : Int)) (x : Nat) = true := hx
     rw [hwo] at hx
     simp only [Bool.and_eq_true] at hx
     exact e.cells x hx.1
  ·have hb' : S.t.has b = true := by rw [← k1]; exact hb
   exact h.blank b hb' (by rw [← k3 b hb']; exact hu) e (k6 b hb' _ he)
  ·have hst := h.st i a ha
   have hhas : S.t.has a.block = true := by
    obtain ⟨lr, g1, _⟩ := hst.row
    have := g1.is.blk
    have := hF.b
    exact Tl.has_iff.2 (by omega)
   exact ⟨hst.row, by show (Tl.at_ _ a.block).used = true; rw [k3 _ hhas]; exact hst.used, hst.below, hst.seq⟩
 ·exact h
theorem loses_q {f : Int} (hf : ∀ d : Nat, L.has f (d : Nat) = true → (d : Int) = fd) : ∀ (q : List Nat) (S : Dv), Inv fd S → S.t.Fit S.N → S.N.dies ≤ 6 → (∀ d ∈ q, d < 8) → Inv fd (q.foldl (Dv.lose f) S)
 | [], S, h, _, _, _ => h
 | d :: q, S, h, hF, hD, hq => by
  rw [List.foldl_cons]
  have hN := (Dv.lose_N f S d).1
  exact loses_q hf q _ (h.lose hF hD (hq d (by simp)) (hf d)) (by rw [hN]; exact (Dv.lose_t f S d hF).1) (by rw [hN]; exact hD) fun e he => hq e (by simp [he])
theorem loses (h : Inv fd S) (hO : S.Ok k m) {f : Int} (hf : ∀ d : Nat, L.has f (d : Nat) = true → (d : Int) = fd) : Inv fd (S.loses f) := by
 have hg := hO.gd.ok.bd16
 exact loses_q hf _ S h hO.t hg.1.2 fun d hd => by have := List.mem_range.1 hd; omega
end Inv
def Dv.rows (S : Dv) : Nat := S.N.pages * S.t.blanks + (if S.op ≥ 0 then (S.N.pages - S.row).toNat else 0)
structure NoF (S : Dv) : Prop where
 dead : ∀ i : Nat, S.N.dead.getD i false = false
 plan : S.N.plan = []
 met : ∀ i j : Nat, (S.N.blk i j).met = false
theorem NoF.fails {S : Dv} (h : NoF S) (b r : Int) (d : Nat) : S.N.failB b r d = false := by
 unfold Nand.failB Nand.fails
 rw [Int.toNat_natCast, h.dead, h.plan, h.met]; rfl
structure Went (fd : Int) (S Q : Dv) (β : Nat) : Prop where
 inv : Inv fd Q
 T : Q.T = S.T
 next : S.next ≤ Q.next ∧ Q.next ≤ S.next + 7 * (β : Int)
 dead : Q.N.dead = S.N.dead
 broken : Q.N.broken = S.N.broken
 like : S.N.Like Q.N
 plan : ∀ a ∈ Q.N.plan, a ∈ S.N.plan
 flags : ∀ i j, (Q.N.blk i j).met = (S.N.blk i j).met ∧ (Q.N.blk i j).fails = (S.N.blk i j).fails ∧ (Q.N.blk i j).worn = (S.N.blk i j).worn
 rows : Q.rows + β = S.rows
 reads : ∀ i a, Std fd S i a → R.read Q.N a.block a.row a.slot a.mask = R.read S.N a.block a.row a.slot a.mask
 stay : ∀ i a, Std fd S i a → Std fd Q i a
 sb : ∀ b, S.t.has b = true → (Q.t.at_ b).wear = (S.t.at_ b).wear ∧ (Q.t.at_ b).held = (S.t.at_ b).held ∧ ((S.t.at_ b).used = true → (Q.t.at_ b).used = true)
 td : ∀ d : Int, L.has S.t.dead d = true → L.has Q.t.dead d = true
namespace Dv
theorem at_dead (S : Dv) (f : Int) (d : Nat) : (∀ b, (lose f S d).t.has b = S.t.has b) := by
 intro b
 unfold lose
 split
 ·dsimp only
  split
  ·unfold Tl.die; split <;> rfl
  ·unfold Tl.bad; split
   ·exact Tl.has_set _ _ _ _
   ·rfl
 ·rfl
theorem lose_sb {S : Dv} (hF : S.t.Fit S.N) (hd6 : S.t.d ≤ 8) (hs : L.set S.t.dead = true) (f : Int) (d : Nat) : (∀ b, S.t.has b = true → ((lose f S d).t.at_ b).wear = (S.t.at_ b).wear ∧ ((lose f S d).t.at_ b).held = (S.t.at_ b).held ∧ ((lose f S d).t.at_ b).used = (S.t.at_ b).used) ∧ L.set (lose f S d).t.dead = true ∧ (∀ e : Int, L.has S.t.dead e = true → L.has (lose f S d).t.dead e = true) ∧ (lose f S d).t.d = S.t.d := by
 unfold lose
 split
 ·dsimp only
  split
  ·unfold Tl.die
   split
   ·rename_i hh
    simp only [Tl.hasDie, Bool.and_eq_true, decide_eq_true_eq] at hh
    refine ⟨fun b _ => ⟨rfl, rfl, rfl⟩, L.set_with hs (by omega), fun e he => ?_, rfl⟩
    show L.has (L.with_ S.t.dead d) e = true
    rw [L.with_has hs (by omega), he]; rfl
   ·exact ⟨fun b _ => ⟨rfl, rfl, rfl⟩, hs, fun e he => he, rfl⟩
  ·unfold Tl.bad
   split
   ·cases hop : S.t.has S.op with
    | false => rw [Tl.set_no _ hop]; exact ⟨fun b _ => ⟨rfl, rfl, rfl⟩, hs, fun e he => he, rfl⟩
    | true =>
     refine ⟨fun b hb => ?_, by rw [Tl.set_dead]; exact hs, fun e he => by rw [Tl.set_dead]; exact he, Tl.set_d _ _ _⟩
     rw [Tl.at_set hF.len _ hop hb]
     split
     ·rename_i e; subst e; exact ⟨rfl, rfl, rfl⟩
     ·exact ⟨rfl, rfl, rfl⟩
   ·exact ⟨fun b _ => ⟨rfl, rfl, rfl⟩, hs, fun e he => he, rfl⟩
 ·exact ⟨fun b _ => ⟨rfl, rfl, rfl⟩, hs, fun e he => he, rfl⟩
theorem loses_sb {f : Int} : ∀ (q : List Nat) (S : Dv), S.t.Fit S.N → S.t.d ≤ 8 → L.set S.t.dead = true → (∀ b, (q.foldl (lose f) S).t.has b = S.t.has b) ∧ (∀ b, S.t.has b = true → ((q.foldl (lose f) S).t.at_ b).wear = (S.t.at_ b).wear ∧ ((q.foldl (lose f) S).t.at_ b).held = (S.t.at_ b).held ∧ ((q.foldl (lose f) S).t.at_ b).used = (S.t.at_ b).used) ∧ (∀ e : Int, L.has S.t.dead e = true → L.has (q.foldl (lose f) S).t.dead e = true)
 | [], S, _, _, _ => ⟨fun _ => rfl, fun _ _ => ⟨rfl, rfl, rfl⟩, fun _ h => h⟩
 | d :: q, S, hF, h8, hs => by
  obtain ⟨a1, a2, a3, a4⟩ := lose_sb hF h8 hs f d
  have hN := (lose_N f S d).1
  have ih := loses_sb (f := f) q (lose f S d) (by rw [hN]; exact (lose_t f S d hF).1) (by rw [a4]; exact h8) a2
  rw [List.foldl_cons]
  refine ⟨fun b => by rw [ih.1, at_dead], fun b hb => ?_, fun e he => ih.2.2 e (a3 e he)⟩
  have := ih.2.1 b (by rw [at_dead]; exact hb)
  rw [this.1, this.2.1, this.2.2]
  exact a1 b hb
theorem lose_mask {S : Dv} {f : Int} {d : Nat} (hd : d < 8) (hm : L.set S.mask = true) : L.set (lose f S d).mask = true ∧ ∀ e : Int, L.has (lose f S d).mask e = (L.has S.mask e && !(decide (e = d) && L.has f (d : Nat))) := by
 unfold lose
 cases h : L.has f (d : Nat) with
 | true =>
  rw [if_pos rfl]
  refine ⟨L.set_without hm (by omega), fun e => ?_⟩
  show L.has (L.without S.mask (d : Int)) e = _
  rw [L.without_has hm (by omega), Bool.and_true]
 | false => rw [if_neg Bool.false_ne_true]; exact ⟨hm, fun e => by simp⟩
theorem loses_mask {f : Int} : ∀ (q : List Nat) (S : Dv), (∀ d ∈ q, d < 8) → L.set S.mask = true → L.set (q.foldl (lose f) S).mask = true ∧ ∀ e : Int, L.has (q.foldl (lose f) S).mask e = (L.has S.mask e && !(q.any fun d => decide (e = (d : Nat)) && L.has f (d : Nat)))
 | [], S, _, hm => ⟨hm, fun e => by simp⟩
 | d :: q, S, hq, hm => by
  obtain ⟨a1, a2⟩ := lose_mask (f := f) (hq d (by simp)) hm
  have ih := loses_mask (f := f) q (lose f S d) (fun e he => hq e (by simp [he])) a1
  rw [List.foldl_cons]
  refine ⟨ih.1, fun e => ?_⟩
  rw [ih.2, a2, List.any_cons, Bool.not_or, Bool.and_assoc]
end Dv
namespace Inv
variable {fd : Int} {S : Dv} {k m : Nat} {l : List En}
theorem std_same {S Q : Dv} (hN : Q.N = S.N) (hu : ∀ b, S.t.has b = true → (S.t.at_ b).used = true → (Q.t.at_ b).used = true) (hb : S.t.b = S.N.blocks) (hop : ∀ a : AtV, (a.block = S.op → a.row < S.row) → (a.block = Q.op → a.row < Q.row) ∨ (S.t.at_ a.block).used = false) (hn : S.next ≤ Q.next) {i : Int} {a : AtV} (h : Std fd S i a) : Std fd Q i a := by
 obtain ⟨lr, g1, g2⟩ := h.row
 have hhas : S.t.has a.block = true := by
  have := g1.is.blk
  exact Tl.has_iff.2 (by omega)
 have hs := h.seq
 refine ⟨⟨lr, by rw [hN]; exact g1, g2⟩, hu _ hhas h.used, ?_, by omega⟩
 rcases hop a h.below with e | e
 ·exact e
 ·rw [h.used] at e; cases e
theorem opens (h : Inv fd S) (hO : S.Ok k m) (hl : S.left = false) (hp : ¬ S.pick < 0) : Went fd S S.opened 0 ∧ S.opened.left = true ∧ S.opened.mask = S.t.mask S.pick := by
 have hg := hO.gd.ok.bd16
 have hb := hO.t.b
 have hlen := hO.t.len
 rcases S.pick_spec with e | ⟨p1, p2, p3, p4⟩
 ·omega
 have hhas : S.t.has S.pick = true := Tl.has_iff.2 ⟨p1, p2⟩
 have hbl := Dv.pick_blank hp
 have hbl2 := Tl.blanks_open hlen hbl
 have hunu : (S.t.at_ S.pick).used = false := by simp only [Tl.blank, Bool.and_eq_true, Bool.not_eq_true'] at hbl; exact hbl.2
 have hmk : ∀ j, (S.t.clean S.pick false).mask j = S.t.mask j := fun j => Dv.mask_clean hlen _ _ _
 have hmsk := h.msk hO hhas
 have hat : ∀ b, S.t.has b = true → (S.opened.t.at_ b) = if b = S.pick then { S.t.at_ S.pick with used := true } else S.t.at_ b := fun b hb => Tl.at_set hlen _ hhas hb
 have hleft : S.opened.left = true := by
  have := (hmsk.pos hg.1).1
  unfold Dv.left
  have e1 : S.opened.op = S.pick := rfl
  have e2 : S.opened.row = 0 := rfl
  have e3 : S.opened.mask = S.t.mask S.pick := hmk _
  have e4 : S.opened.N = S.N := rfl
  rw [e1, e2, e3, e4, decide_eq_true (by omega), decide_eq_true (by omega), decide_eq_true (by omega)]; rfl
 have hdd : S.opened.t.dead = S.t.dead := Tl.set_dead _ _ _
 have hhs : ∀ b, S.opened.t.has b = S.t.has b := fun b => Tl.has_set _ _ _ _
 have hopn : Opn fd S.opened := ⟨⟨p1, by show S.pick < S.N.blocks; omega⟩, by show (S.opened.t.at_ S.pick).used = true; rw [hat _ hhas, if_pos rfl], by show (0 : Int) ≤ 0 ∧ (0 : Int) ≤ S.N.pages; omega, by show Msk S.N.dies fd (Tl.mask _ _); rw [hmk]; exact hmsk, fun d hd => by
  have hd : L.has (Tl.mask (S.t.clean S.pick false) S.pick) (d : Nat) = true := hd
  rw [hmk] at hd
  have := h.blank S.pick hhas hunu d hd
  show ((S.N.blk d S.pick.toNat).cells.length : Int) ≤ 0 ∧ (_ → ((S.N.blk d S.pick.toNat).cells.length : Int) = 0)
  rw [this]; simp⟩
 have hrow0 : S.op ≥ 0 → S.N.pages ≤ S.row := fun h0 => by
  rcases h.op with e | e
  ·omega
  ·have hps := (e.mask.pos hg.1).1
   cases hh : decide (S.row < S.N.pages) with
   | false => have := of_decide_eq_false hh; omega
   | true =>
    have : S.left = true := by
     unfold Dv.left
     rw [decide_eq_true h0, hh, decide_eq_true (by omega)]; rfl
    rw [hl] at this; cases this
 have hstd : ∀ i a, Std fd S i a → Std fd S.opened i a := fun i a ha => std_same (S := S) (Q := S.opened) rfl (fun b hb hu => by
   rw [hat b hb]; split
   ·rfl
   ·exact hu) hb (fun a _ => by
   by_cases e : a.block = S.pick
   ·right; rw [e]; exact hunu
   ·left; intro e2; exact absurd e2 e) (Int.le_refl _) ha
 refine ⟨⟨⟨h.lit, h.dead, h.plan, h.flags, by rw [hdd]; exact h.tdead, fun b hb => ?_, .inr hopn, fun b hb hu d hd => ?_, fun i a ha => hstd i a (h.st i a ha)⟩, rfl, ⟨Int.le_refl _, by show S.next ≤ S.next + _; omega⟩, rfl, rfl, Nand.Like.refl _, fun _ h => h, fun _ _ => ⟨rfl, rfl, rfl⟩, ?_, fun _ _ _ => rfl, hstd, fun b hb => ?_, fun d hd => by rw [hdd]; exact hd⟩, hleft, hmk _⟩
 ·have hb' : S.t.has b = true := by rw [← hhs]; exact hb
  rw [hat b hb']
  split
  ·rename_i e; subst e; exact h.tbad _ hhas
  ·exact h.tbad b hb'
 ·have hb' : S.t.has b = true := by rw [← hhs]; exact hb
  have hd : L.has (Tl.mask (S.t.clean S.pick false) b) (d : Nat) = true := hd
  rw [hmk] at hd
  rw [hat b hb'] at hu
  split at hu
  ·cases hu
  ·exact h.blank b hb' hu d hd
 ·unfold Dv.rows
  have e1 : S.opened.t.blanks = (S.t.clean S.pick false).blanks := rfl
  have e2 : S.opened.N.pages = S.N.pages := rfl
  have e3 : S.opened.op = S.pick := rfl
  have e4 : S.opened.row = 0 := rfl
  rw [e1, e2, e3, e4, if_pos (by omega)]
  have : S.N.pages * S.t.blanks = S.N.pages * (S.t.clean S.pick false).blanks + S.N.pages := by rw [← hbl2, Nat.mul_succ]
  rw [this]
  by_cases h0 : S.op ≥ 0
  ·have := hrow0 h0
   rw [if_pos h0]; omega
  ·rw [if_neg h0]; omega
 ·rw [hat b hb]
  split
  ·rename_i e; subst e; exact ⟨rfl, rfl, fun _ => rfl⟩
  ·exact ⟨rfl, rfl, fun h => h⟩
theorem turn_std (h : Inv fd S) (ht : Turn fd S l) (hO : S.Ok k m) (hl : S.left = true) (hf : ∀ e ∈ l, FitR e) (hn : ¬ S.next > 1099511627775 - (S.fit l : Int) + 1) {i : Int} {a : AtV} (ha : Std fd S i a) : Std fd (S.wrote l) i a ∧ R.read (S.wrote l).N a.block a.row a.slot a.mask = R.read S.N a.block a.row a.slot a.mask := by
 have ho := h.opn hl
 have hR := h.rowIs hO hl hf hn
 have hrdy : RdyW S.N S.op S.row S.mask := ⟨h.lit, fun d hd ha => (ho.cells d hd).2 ha⟩
 have hq := hrdy.rdy hR
 have w3 : WroteR S.N (S.wrote l).N S.op S.row (R.job S.op S.row S.mask (S.es l)) := (write_R hrdy hR).2.2
 obtain ⟨lr, g1, g2, g3, g4, g5, g6⟩ := ha.row
 have hk : Full fd (S.wrote l).N a.block a.row a.mask lr := g1.keep w3.like fun x hx => w3.page hq (g1.is.inn x hx).1 g1.is.blk.1 g1.is.row.1 (fun e => by have := ha.below e; omega)
 have hs := ha.seq
 refine ⟨⟨⟨lr, hk, g2, g3, g4, g5, g6⟩, ha.used, fun e => by have := ha.below e; show a.row < S.row + 1; omega, by show 1 ≤ a.seq ∧ a.seq < S.next + (S.fit l : Int); omega⟩, ?_⟩
 have r1 := hk.read ht.inv.lit.off ht.inv.dead g3
 have r2 := g1.read h.lit.off h.dead g3
 rw [show ((a.slot.toNat : Nat) : Int) = a.slot from by omega] at r1 r2
 rw [r1, r2]
theorem burn (h : Inv fd S) (hO : S.Ok (8 + k) m) (hl : S.left = true) (hf : ∀ e ∈ l, FitR e) (hn : ¬ S.next > 1099511627775 - (S.fit l : Int) + 1) (hb : (S.wr l).2.1 ≠ 0) : Went fd S ((S.wrote l).loses (S.wr l).2.1) 1 ∧ L.has ((S.wrote l).loses (S.wr l).2.1).mask fd = false ∧ L.has S.mask fd = true ∧ ((S.wrote l).loses (S.wr l).2.1).row = S.row + 1 ∧ ((S.wrote l).loses (S.wr l).2.1).op = S.op ∧ S.N.failB S.op S.row fd = true ∧ ∀ d : Int, L.has ((S.wrote l).loses (S.wr l).2.1).mask d = true → L.has S.mask d = true := by
 have hg := hO.gd.ok.bd16
 have ho := h.opn hl
 have hs := Dv.left_spec hl
 have ht := h.turn hO hl hf hn
 have hd : ∀ s ∈ l, s.data.length = 16 := fun e he => (hf e he).len
 have hW := hO.wrote hd hs.2.1 hn
 obtain ⟨l1, l2, l3, l4, l5, l6, l7⟩ := Dv.loses_same (S.wrote l) (S.wr l).2.1 hW.t
 have hi := ht.inv.loses hW (f := (S.wr l).2.1) fun d hd => (ht.only _ hd).1
 have hfit := Dv.fit_le S l
 have hq8 : ∀ d ∈ List.range (S.wrote l).N.dies, d < 8 := fun d hd => by
  have := List.mem_range.1 hd
  have := ht.like.dies
  omega
 obtain ⟨b1, b2, b3⟩ := Dv.loses_sb (f := (S.wr l).2.1) (List.range (S.wrote l).N.dies) (S.wrote l) hW.t (by have := hO.t.d; show S.t.d ≤ 8; omega) h.tdead.1
 obtain ⟨m1, m2⟩ := Dv.loses_mask (f := (S.wr l).2.1) (List.range (S.wrote l).N.dies) (S.wrote l) hq8 ho.mask.set
 have hex : ∃ d : Nat, L.has (S.wr l).2.1 (d : Nat) = true := by
  refine Classical.byContradiction fun hno => hb (L.ext ht.set (by decide) fun d _ => ?_)
  rw [L.has_zero]
  cases hh : L.has (S.wr l).2.1 (d : Nat) with
  | false => rfl
  | true => exact absurd ⟨d, hh⟩ hno
 obtain ⟨d0, hd0⟩ := hex
 obtain ⟨o1, o2⟩ := ht.only _ hd0
 have hfdlt := ho.mask.lt _ o2
 have hstay : ∀ i a, Std fd S i a → Std fd ((S.wrote l).loses (S.wr l).2.1) i a := fun i a ha => by
  have h1 := (h.turn_std ht hO hl hf hn ha).1
  refine std_same (S := S.wrote l) l1 (fun b hb hu => (b2 b hb).2.2.trans hu) hW.t.b (fun a ha => .inl (by rw [l3, l4]; exact ha)) (by rw [l5]; exact Int.le_refl _) h1
 refine ⟨⟨hi, l2, ?_, by rw [l1]; exact ht.dead, by rw [l1]; exact ht.broken, by rw [l1]; exact ht.like, by rw [l1]; exact ht.plan, by rw [l1]; exact ht.flags, ?_, fun i a ha => by rw [l1]; exact (h.turn_std ht hO hl hf hn ha).2, hstay, fun b hb => ?_, fun d hd => b3 d hd⟩, ?_, o2, l4, l3, ?_, fun d hd => ?_⟩
 ·rw [l5]
  show S.next ≤ S.next + (S.fit l : Int) ∧ S.next + (S.fit l : Int) ≤ S.next + 7 * ((1 : Nat) : Int)
  omega
 ·unfold Dv.rows
  rw [l7, l1, l3, l4]
  have e1 : (S.wrote l).N.pages = S.N.pages := ht.like.pages
  have e2 : (S.wrote l).t.blanks = S.t.blanks := rfl
  have e3 : (S.wrote l).op = S.op := rfl
  have e4 : (S.wrote l).row = S.row + 1 := rfl
  rw [e1, e2, e3, e4, if_pos (by omega), if_pos (by omega)]
  have := ho.row
  omega
 ·have := b2 b hb
  exact ⟨this.1, this.2.1, fun hu => this.2.2.trans hu⟩
 ·have e := m2 fd
  show L.has (((List.range (S.wrote l).N.dies).foldl (Dv.lose (S.wr l).2.1) (S.wrote l)).mask) fd = false
  rw [e]
  have : ((List.range (S.wrote l).N.dies).any fun d => decide (fd = (d : Nat)) && L.has (S.wr l).2.1 (d : Nat)) = true := by
   refine List.any_eq_true.2 ⟨d0, List.mem_range.2 ?_, by rw [hd0, decide_eq_true o1.symm]; rfl⟩
   have := ht.like.dies
   omega
  rw [this]; simp
 ·have h2 := o2
  rw [← o1] at h2
  have := ht.fail d0 h2
  rw [← o1, ← this]; exact hd0
 ·have e := m2 d
  have hd : L.has (((List.range (S.wrote l).N.dies).foldl (Dv.lose (S.wr l).2.1) (S.wrote l)).mask) d = true := hd
  rw [e] at hd
  simp only [Bool.and_eq_true] at hd
  exact hd.1
end Inv
theorem Went.refl {fd : Int} {S : Dv} (h : Inv fd S) : Went fd S S 0 :=
 ⟨h, rfl, by omega, rfl, rfl, Nand.Like.refl _, fun _ h => h, fun _ _ => ⟨rfl, rfl, rfl⟩, rfl, fun _ _ _ => rfl, fun _ _ h => h, fun _ _ => ⟨rfl, rfl, fun h => h⟩, fun _ h => h⟩
theorem Went.trans {fd : Int} {S Q P : Dv} {β γ : Nat} (h : Went fd S Q β) (hh : ∀ b, Q.t.has b = S.t.has b) (g : Went fd Q P γ) : Went fd S P (β + γ) := by
 have h1 := h.next
 have h2 := g.next
 have h3 := h.rows
 have h4 := g.rows
 refine ⟨g.inv, g.T.trans h.T, by omega, g.dead.trans h.dead, g.broken.trans h.broken, h.like.trans g.like, fun a ha => h.plan a (g.plan a ha), fun i j => ?_, by omega, fun i a ha => (g.reads i a (h.stay i a ha)).trans (h.reads i a ha), fun i a ha => g.stay i a (h.stay i a ha), fun b hb => ?_, fun d hd => g.td d (h.td d hd)⟩
 ·have a1 := h.flags i j
  have a2 := g.flags i j
  exact ⟨a2.1.trans a1.1, a2.2.1.trans a1.2.1, a2.2.2.trans a1.2.2⟩
 ·have a1 := h.sb b hb
  have a2 := g.sb b (by rw [hh]; exact hb)
  exact ⟨a2.1.trans a1.1, a2.2.1.trans a1.2.1, fun hu => a2.2.2 (a1.2.2 hu)⟩
inductive Hot (fd : Int) (S : Dv) : Nat → Prop
 | calm : NoF S → Hot fd S 0
 | cold : L.has S.t.dead fd = true → L.has S.mask fd = false → Hot fd S 0
 | there : S.left = true → L.has S.mask fd = false → Hot fd S 0
 | once : L.has S.t.dead fd = true → Hot fd S 1
 | burnt : L.has S.mask fd = false → Hot fd S 1
 | any : Hot fd S 2
structure Last (fd : Int) (Q : Dv) (l : List En) : Prop where
 left : Q.left = true
 err : (Q.wr l).2.1 = 0
 bd : ¬ Q.next > 1099511627775 - (Q.fit l : Int) + 1
 turn : Inv.Turn fd Q l
def wroteP (Q : Dv) (l : List En) : Dv := { Q.wrote l with T := Dv.puts Q.T Q.op Q.row Q.mask (Q.es l) (Q.fit l) }
namespace Inv
variable {fd : Int} {S : Dv} {k m : Nat} {l : List En}
theorem has_same {Q : Dv} (hO : S.t.Fit S.N) (hQ : Q.t.Fit Q.N) (hl : S.N.Like Q.N) (b : Int) : Q.t.has b = S.t.has b := by
 unfold Tl.has
 rw [show Q.t.b = S.t.b from by rw [hQ.b, hO.b, hl.blocks]]
theorem rows_pos (h : Inv fd S) (hO : S.Ok k m) (hr : 0 < S.rows) : S.left = true ∨ ¬ S.pick < 0 := by
 have hg := hO.gd.ok.bd16
 by_cases hb : S.t.blanks = 0
 ·left
  unfold Dv.rows at hr
  rw [hb, Nat.mul_zero, Nat.zero_add] at hr
  split at hr
  ·rename_i h0
   rcases h.op with e | e
   ·omega
   ·have := (e.mask.pos hg.1).1
    unfold Dv.left
    rw [decide_eq_true h0, decide_eq_true (by omega), decide_eq_true (by omega)]; rfl
  ·omega
 ·right
  obtain ⟨s, hs, hu⟩ := List.countP_pos_iff.1 (show 0 < S.t.l.countP fun s => !s.used by unfold Tl.blanks at hb; omega)
  obtain ⟨j, hj, rfl⟩ := List.mem_iff_getElem.1 hs
  have hlen := hO.t.len
  have hhas : S.t.has (j : Nat) = true := Tl.has_iff.2 (by omega)
  have hat : S.t.at_ (j : Nat) = S.t.l[j] := by unfold Tl.at_; rw [Int.toNat_natCast, List.getD_eq_getElem?_getD, List.getElem?_eq_getElem hj, Option.getD_some]
  have hunu : (S.t.at_ (j : Nat)).used = false := by rw [hat]; simpa using hu
  have hcnt : S.T.count (j : Nat) = 0 := by
   rw [hO.T.cnt]
   unfold Tb.cntB
   congr 1
   rw [List.countP_eq_zero]
   intro x hx hxb
   simp only [beq_iff_eq] at hxb
   have hlk : Tb.look S.T.at_ x.1 = some x.2 := by
    cases hh : Tb.look S.T.at_ x.1 with
    | none => rw [Tb.look_none] at hh; exact absurd (List.mem_map.2 ⟨x, hx, rfl⟩) hh
    | some a =>
     have hm := Tb.look_mem hh
     have hn := hO.T.keys
     obtain ⟨i1, g1, e1⟩ := List.mem_iff_getElem.1 hm
     obtain ⟨i2, g2, e2⟩ := List.mem_iff_getElem.1 hx
     have : i1 = i2 := (List.getElem?_inj (by rw [List.length_map]; exact g1) hn).1 (by rw [List.getElem?_map, List.getElem?_map, List.getElem?_eq_getElem g1, List.getElem?_eq_getElem g2, e1, e2]; rfl)
     subst this
     rw [e1] at e2
     rw [← e2]
   have := (h.st _ _ hlk).used
   rw [hxb, hunu] at this; cases this
  have hop : (j : Int) ≠ S.op := fun e => by
   rcases h.op with e2 | e2
   ·omega
   ·have := e2.used
    rw [← e, hunu] at this; cases this
  have hmem : ((j : Nat) : Int) ∈ pkSome (pkFree S.t S.T) S.op S.t.b := mem_pkSome.2 ⟨by omega, by omega, hop, by
   unfold pkFree
   rw [h.usable hO hhas, hcnt]
   simp only [Tl.blank, hhas, hunu]; rfl⟩
  intro hp
  rcases pick_some (fun x y => cmpI (S.t.wear x) (S.t.wear y)) (pkFree S.t S.T) S.op S.t.b with e | e
  ·rw [e.2] at hmem; cases hmem
  ·have := e.2
   unfold Dv.pick at hp; omega
theorem write_go : ∀ (β f : Nat) (S : Dv) (k : Nat), Inv fd S → S.Ok (8 * (f + β + 1) + k) m → Hot fd S β → β < S.rows → (∀ e ∈ l, FitR e) → l.length ≠ 0 → S.next + 7 * (β : Int) ≤ 1099511627775 - 7 →
  ∃ γ Q, γ ≤ β ∧ Went fd S Q γ ∧ Q.Ok (8 + k) m ∧ Last fd Q l ∧ Dv.write (f + β + 1) S l = (wroteP Q l, (Q.fit l : Int), (0 : Int)) ∧ (NoF S → Q = S.at1 ∧ γ = 0) ∧ (0 < γ → L.has S.t.dead fd = true → L.has Q.mask fd = false) ∧ (∀ d : Int, L.has S.t.dead d = true → L.has S.mask d = false → L.has Q.mask d = false)
 | β, f, S, k, h, hO, hH, hr, hf, hl0, hnx => by
  have hg := hO.gd.ok.bd16
  have h8 : S.t.d ≤ 8 := by have := hO.t.d; omega
  have hd : ∀ s ∈ l, s.data.length = 16 := fun e he => (hf e he).len
  have hns : ¬ (S.left = false ∧ S.pick < 0) := fun e => by
   rcases h.rows_pos hO (by omega) with e2 | e2
   ·rw [e.1] at e2; cases e2
   ·exact e2 e.2
  -- the one that is written
  obtain ⟨Q, hQ⟩ : ∃ Q, S.at1 = Q := ⟨_, rfl⟩
  have hW : Went fd S Q 0 ∧ Q.left = true ∧ ((Q = S) ∨ (Q = S.opened ∧ Q.mask = S.t.mask S.pick ∧ S.t.has S.pick = true)) := by
   cases hl : S.left with
   | true =>
    have : S.at1 = S := by unfold Dv.at1; rw [hl, if_pos rfl]
    rw [← hQ, this]
    exact ⟨Went.refl h, hl, .inl rfl⟩
   | false =>
    have hp : ¬ S.pick < 0 := fun e => hns ⟨hl, e⟩
    have e1 : S.at1 = S.opened := by unfold Dv.at1; rw [hl, if_neg Bool.false_ne_true]
    have := h.opens hO hl hp
    rw [← hQ, e1]
    rcases S.pick_spec with e | ⟨p1, p2, _, _⟩
    ·omega
    ·exact ⟨this.1, this.2.1, .inr ⟨rfl, this.2.2, Tl.has_iff.2 ⟨p1, p2⟩⟩⟩
  obtain ⟨w1, w2, w3⟩ := hW
  have hQO : Q.Ok (8 * (f + β + 1) + k) m := by rw [← hQ]; exact hO.at1
  have hfit := Dv.fit_le Q l
  have hn : ¬ Q.next > 1099511627775 - (Q.fit l : Int) + 1 := by have := w1.next; omega
  have ht := w1.inv.turn hQO w2 hf hn
  have hmaskd : ∀ d : Int, L.has S.t.dead d = true → L.has S.mask d = false → L.has Q.mask d = false := fun d h1 h2 => by
   rcases w3 with e | ⟨e, e2, e3⟩
   ·rw [e]; exact h2
   ·rw [e2]
    have := (mask_has h8 e3 h.tdead.1 (h.tbad _ e3).1).2 d
    rw [this, h1]; simp
  have hmaskd2 : Q ≠ S → ∀ d : Int, L.has S.t.dead d = true → L.has Q.mask d = false := fun hne d h1 => by
   rcases w3 with e | ⟨e, e2, e3⟩
   ·exact absurd e hne
   ·rw [e2]
    have := (mask_has h8 e3 h.tdead.1 (h.tbad _ e3).1).2 d
    rw [this, h1]; simp
  by_cases he : (Q.wr l).2.1 = 0
  ·refine ⟨0, Q, by omega, w1, hQO.less (by omega), ⟨w2, he, hn, ht⟩, ?_, fun _ => ⟨hQ.symm, rfl⟩, fun h0 => by omega, hmaskd⟩
   have herr := ht.err
   rw [if_pos he] at herr
   rw [Dv.write_succ, if_neg hl0, if_neg hns, hQ, if_neg hn, if_neg (by rw [herr]; decide), if_pos herr]
   rfl
  ·have herr := ht.err
   rw [if_neg he] at herr
   have hQO8 : Q.Ok (8 + (8 * (f + β) + k)) m := hQO.less (by omega)
   obtain ⟨b1, b2, b3, b4, b5, b6, b7⟩ := w1.inv.burn hQO8 w2 hf hn he
   have hWO := (hQO8.wrote hd (Dv.left_spec w2).2.1 hn).loses (Q.wr l).2.1
   have hwr : Dv.write (f + β + 1) S l = Dv.write (f + β) ((Q.wrote l).loses (Q.wr l).2.1) l := by
    rw [Dv.write_succ, if_neg hl0, if_neg hns, hQ, if_neg hn, if_neg (by rw [herr]; decide), if_neg (by rw [herr]; decide), if_neg (by rw [herr]; decide)]
   have hnof : ¬ NoF S := fun hno => by
    have : NoF Q := ⟨fun i => by rw [w1.dead]; exact hno.dead i, List.eq_nil_iff_forall_not_mem.2 fun a ha => (by have := w1.plan a ha; rw [hno.plan] at this; cases this), fun i j => by rw [(w1.flags i j).1]; exact hno.met i j⟩
    have hfl := this.fails Q.op Q.row fd.toNat
    obtain ⟨x, hx, _⟩ := L.has_rng b3
    rw [hx, Int.toNat_natCast] at hfl
    rw [hx, hfl] at b6; cases b6
   generalize hS2 : (Q.wrote l).loses (Q.wr l).2.1 = S2 at b1 b2 b4 b5 b7 hWO hwr
   have hW2 : Went fd S S2 1 := by
    have := w1.trans (has_same hO.t hQO.t w1.like) b1
    rwa [Nat.zero_add] at this
   obtain ⟨β', hβ, hH'⟩ : ∃ β', β = β' + 1 ∧ Hot fd S2 β' := by
    cases hH with
    | calm hno => exact absurd hno hnof
    | cold h1 h2 => rw [hmaskd fd h1 h2] at b3; cases b3
    | there h1 h2 =>
     rcases w3 with e | ⟨e, _⟩
     ·rw [e, h2] at b3; cases b3
     ·have : S.at1 = S := by unfold Dv.at1; rw [h1, if_pos rfl]
      rw [← hQ, this, h2] at b3; cases b3
    | once h1 => exact ⟨0, rfl, .cold (hW2.td fd h1) b2⟩
    | burnt h1 =>
     refine ⟨0, rfl, .there ?_ b2⟩
     rcases w3 with e | ⟨e, _⟩
     ·rw [e, h1] at b3; cases b3
     ·have hi := b1.inv
      have hQop := (w1.inv.opn w2).blk
      have e0 : Q.row = 0 := by rw [e]; rfl
      have hpg : S2.N.pages = Q.N.pages := b1.like.pages
      have hpg2 : Q.N.pages = S.N.pages := w1.like.pages
      have hop2 : Opn fd S2 := by
       rcases hi.op with e2 | e2
       ·omega
       ·exact e2
      have := (hop2.mask.pos (hWO.gd.ok.bd16.1)).1
      unfold Dv.left
      rw [decide_eq_true (by omega), decide_eq_true (by omega), decide_eq_true (by omega)]; rfl
    | any => exact ⟨1, rfl, .burnt b2⟩
   subst hβ
   have hrows := hW2.rows
   have hnx2 := hW2.next
   obtain ⟨γ, P, c1, c2, c3, c4, c5, c6, c7, c8⟩ := write_go β' f S2 k hW2.inv (by rw [show f + β' + 1 = f + (β' + 1) from by omega]; exact hWO) hH' (by omega) hf hl0 (by omega)
   refine ⟨1 + γ, P, by omega, hW2.trans (has_same hO.t hWO.t hW2.like) c2, c3, c4, ?_, fun hno => absurd hno hnof, fun _ hdd => c8 fd (hW2.td fd hdd) b2, fun d h1 h2 => c8 d (hW2.td d h1) ?_⟩
   ·rw [hwr, show f + (β' + 1) = f + β' + 1 from by omega, c5]
   ·cases hh : L.has S2.mask d with
    | false => rfl
    | true => have := b7 d hh; rw [hmaskd d h1 h2] at this; cases this
end Inv
end Go.Proofs.YtdocmcapegcoeaaGreat
