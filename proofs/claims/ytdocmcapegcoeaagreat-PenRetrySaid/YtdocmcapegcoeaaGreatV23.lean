/- Helpers, proved here. No condition. -/
import Derived.Test.YtdocmcapegcoeaaGreatV04
import Derived.Test.YtdocmcapegcoeaaGreatV06
import Derived.Test.YtdocmcapegcoeaaGreatV13
import Derived.Test.YtdocmcapegcoeaaGreatV15
import Derived.Test.YtdocmcapegcoeaaGreatV16
import Derived.Test.YtdocmcapegcoeaaGreatV18
import Derived.Test.YtdocmcapegcoeaaGreatV19
import Derived.Test.YtdocmcapegcoeaaGreatV21
import Derived.Test.YtdocmcapegcoeaaGreatV22
set_option maxRecDepth 20000
set_option linter.all false
namespace Go.Proofs.YtdocmcapegcoeaaGreat
open Go Go.RowKit
def FOk (m : Nat) (L : List Fnd) (Z : List FSlot) : Prop := Z.map (·.l) = (List.range m).map fun k : Nat => V.of L (k : Int)
theorem FOk.len {m : Nat} {L : List Fnd} {Z : List FSlot} (h : FOk m L Z) : Z.length = m := by have := congrArg List.length h; simpa using this
theorem FOk.get {m : Nat} {L : List Fnd} {Z : List FSlot} (h : FOk m L Z) {k : Nat} (hk : k < m) : ∃ z, Z[k]? = some z ∧ z.l = V.of L (k : Int) := by
 have hl := h.len
 refine ⟨Z[k], List.getElem?_eq_getElem (by omega), ?_⟩
 have := congrArg (fun l => l[k]?) h
 simp only [List.getElem?_map, List.getElem?_range hk, List.getElem?_eq_getElem (show k < Z.length by omega), Option.map_some, Option.some.injEq] at this
 exact this
theorem FOk.zero (m : Nat) : FOk m [] (List.replicate m ⟨none, 0, []⟩) := by
 unfold FOk
 apply List.ext_getElem?
 intro i
 rw [List.getElem?_map, List.getElem?_replicate, List.getElem?_map]
 by_cases h : i < m
 ·rw [if_pos h, List.getElem?_range h]; simp [V.of]
 ·rw [if_neg h, List.getElem?_eq_none (by simp; omega)]; rfl
theorem FOk.hit {m : Nat} {L : List Fnd} {Z : List FSlot} (h : FOk m L Z) {x : Fnd} {k : Nat} (hx : x.en.lpn = (k : Int)) {z z' : FSlot} (hz : Z[k]? = some z) (hz' : z'.l = z.l ++ [x]) : FOk m (L ++ [x]) (Z.set k z') := by
 have hl := h.len
 have hk : k < Z.length := (List.getElem?_eq_some_iff.1 hz).1
 have hzl : z.l = V.of L (k : Int) := by
  obtain ⟨z2, h1, h2⟩ := h.get (k := k) (by omega)
  rw [hz] at h1; injection h1 with h1; subst h1; exact h2
 unfold FOk
 rw [List.map_set, show Z.map (·.l) = _ from h, hz', hzl]
 apply List.ext_getElem?
 intro i
 rw [List.getElem?_set, List.getElem?_map, List.getElem?_map]
 by_cases e : k = i
 ·subst e
  rw [if_pos rfl, if_pos (by simp; omega), List.getElem?_range (by omega), Option.map_some, V.of_snoc, if_pos hx]
 ·rw [if_neg e]
  by_cases h2 : i < m
  ·rw [List.getElem?_range h2, Option.map_some, Option.map_some, V.of_snoc, if_neg (by omega)]
  ·rw [List.getElem?_eq_none (by simp; omega)]; rfl
theorem FOk.miss {m : Nat} {L : List Fnd} {Z : List FSlot} (h : FOk m L Z) {x : Fnd} (hx : (m : Int) ≤ x.en.lpn) : FOk m (L ++ [x]) Z := by
 unfold FOk
 rw [show Z.map (·.l) = _ from h]
 apply List.map_congr_left
 intro i hi
 rw [List.mem_range] at hi
 rw [V.of_snoc, if_neg (by omega)]
theorem FOk.le {m : Nat} {L : List Fnd} {Z : List FSlot} (h : FOk m L Z) {k : Nat} {z : FSlot} (hz : Z[k]? = some z) : z.l.length ≤ L.length := by
 have hl := h.len
 have hk : k < Z.length := (List.getElem?_eq_some_iff.1 hz).1
 obtain ⟨z2, h1, h2⟩ := h.get (k := k) (by omega)
 rw [hz] at h1; injection h1 with h1; subst h1
 rw [h2]; exact V.of_len L k
theorem flatMap_le {α β : Type} (f : α → List β) (c : Nat) (l : List α) (h : ∀ x ∈ l, (f x).length ≤ c) : (l.flatMap f).length ≤ c * l.length := by
 induction l with
 | nil => simp
 | cons x l ih =>
  rw [List.flatMap_cons, List.length_append, List.length_cons]
  have := h x (List.mem_cons_self ..)
  have := ih (fun y hy => h y (List.mem_cons_of_mem _ hy))
  rw [Nat.mul_add]; omega
theorem rall_len (N : Nand) (hN : N.Ok) (b r : Int) : (R.all N b r).length ≤ 42 := by
 have hbd := hN.bd
 have := outI_len N b r (M.masks N b r).length (by omega)
 unfold outI at this
 rwa [List.take_length] at this
theorem upB_len (N : Nand) (hN : N.Ok) (b : Nat) (hb : b ≤ 16) : (V.upB N b).length ≤ 5376 := by
 have hbd := hN.bd
 unfold V.upB
 have := flatMap_le (fun b : Nat => (List.range N.pages).flatMap fun r => R.all N (b : Nat) (r : Nat)) 336 (List.range b) (fun x _ => by
  have := flatMap_le (fun r : Nat => R.all N (x : Nat) (r : Nat)) 42 (List.range N.pages) (fun r _ => rall_len N hN _ _)
  rw [List.length_range] at this
  omega)
 rw [List.length_range] at this
 omega
theorem upR_len (N : Nand) (hN : N.Ok) (b r : Nat) (hb : b ≤ 16) (hr : r ≤ 8) : (V.upR N b r).length ≤ 5712 := by
 have h1 := upB_len N hN b hb
 have := flatMap_le (fun r : Nat => R.all N (b : Nat) (r : Nat)) 42 (List.range r) (fun r _ => rall_len N hN _ _)
 rw [List.length_range] at this
 unfold V.upR
 rw [List.length_append]; omega
theorem upI_len (N : Nand) (hN : N.Ok) (b r i : Nat) (hb : b ≤ 16) (hr : r ≤ 8) : (V.upI N b r i).length ≤ 5754 := by
 have h1 := upR_len N hN b r hb hr
 have := rall_len N hN b r
 unfold V.upI
 rw [List.length_append, List.length_take]; omega
theorem upB_bd (N : Nand) (b : Nat) : ∀ f ∈ V.upB N b, EnBd f.en := by
 intro f h
 unfold V.upB at h
 rw [List.mem_flatMap] at h
 obtain ⟨_, _, h⟩ := h
 rw [List.mem_flatMap] at h
 obtain ⟨_, _, h⟩ := h
 exact (fnd_bd h).2.2
theorem upR_bd (N : Nand) (b r : Nat) : ∀ f ∈ V.upR N b r, EnBd f.en := by
 intro f h
 unfold V.upR at h
 rw [List.mem_append] at h
 rcases h with h | h
 ·exact upB_bd N b f h
 ·rw [List.mem_flatMap] at h
  obtain ⟨_, _, h⟩ := h
  exact (fnd_bd h).2.2
theorem upI_bd (N : Nand) (b r i : Nat) : ∀ f ∈ V.upI N b r i, EnBd f.en := by
 intro f h
 unfold V.upI at h
 rw [List.mem_append] at h
 rcases h with h | h
 ·exact upR_bd N b r f h
 ·exact (fnd_bd (List.mem_of_mem_take h)).2.2
theorem Sep.ofAll {L : List Atom} {h : Hl} (hL : ∀ A ∈ L, ∀ h, A.sat h) : Sep L h := ⟨fun _ => 0, fun i A hA => hL A (List.mem_of_getElem? hA) _⟩
def svL (q : Nat) (torn : Value) (first : Int) (held : Value) (next pages : Int) : List Value := [.pointer (some ⟨q, 0, none⟩), torn, .int .i64 first, held, .int .i64 next, .int .i64 pages]
def svV (q : Nat) (S : Scd) (a1 : Option Nat) (c1 : Nat) (a2 : Option Nat) (c2 : Nat) : Value := .agg (svL q (slv a1 S.torn.length c1) S.first (slv a2 S.held.length c2) S.next S.pages).toArray
def sv0 (q : Nat) (L : List Fnd) : List Value := svL q (.slice none 0 0) 0 (.slice none 0 0) (V.nextOf L) L.length
theorem flat_single {α : Type} (x : α) : ∀ n : Nat, (List.replicate n [x]).flatten = List.replicate n x
 | 0 => rfl
 | n + 1 => by rw [List.replicate_succ, List.replicate_succ, List.flatten_cons, flat_single x n]; rfl
theorem hdrs_zero (m : Nat) : (List.replicate m [Value.slice none 0 0]).flatten = hdrs (List.replicate m ⟨none, 0, []⟩) := by
 rw [flat_single]; unfold hdrs; rw [List.map_replicate]; rfl
theorem hdrs_getI {Z : List FSlot} {k : Int} {z : FSlot} (h : Z[k.toNat]? = some z) : (hdrs Z)[0 + k.toNat * 1]? = some z.hdr := by
 rw [show 0 + k.toNat * 1 = k.toNat from by omega, hdrs, List.getElem?_map, h]; rfl
theorem max_if (a b : Int) : (if b > a then b else a) = max a b := by split <;> omega
theorem cellsI_app (l m : List Int) : cellsI l ++ cellsI m = cellsI (l ++ m) := by simp [cellsI]
theorem cellsE_app (l m : List En) : cellsE l ++ cellsE m = cellsE (l ++ m) := by simp [cellsE]
theorem cellsI_one (l : List Int) : ∀ u ∈ cellsI l, u.oneCell' = true := by
 intro u hu
 simp only [cellsI, List.mem_map] at hu
 obtain ⟨x, _, rfl⟩ := hu
 rfl
theorem v_Scan (p : Nat) (N : Nand) (hN : N.Ok) (hR : N.Room) (hoff : N.off = false) (n : Int) : Fn Tryz.prog 134 [.pointer (some ⟨p, 0, none⟩), .int .i64 n] [NandA p N]
  (fun v As => ∃ q a1 c1 a2 c2, v = .tuple #[svV q (V.scan N n) a1 c1 a2 c2, .int .i64 0] ∧ As = [NandA p N, TbA q (V.scan N n).tb, ownA 38 19 a1 (V.scan N n).torn.length c1 (cellsE (V.scan N n).torn), ownA 3 1 a2 (V.scan N n).held.length c2 (cellsI (V.scan N n).held)]) := by
 have hbd := hN.bd
 refine Fn.enter [2, 0] Tryz.func134 rfl rfl rfl fun X F hX => ?_
 refine J.q hX fun br => ?_
 refine J.cF ?_
 refine J.q hX fun b2 => ?_
 refine J.cb hX (n_Power p N) [1] ?_
 refine cpq ⟨_, rfl, trivial, ?_⟩
 rw [hoff]
 refine J.q hX fun b4 => ?_
 refine J.cF ?_
 refine J.q hX fun b5 => ?_
 refine J.cb hX (tb_New n) [] ?_
 rintro v As ⟨q, rfl, rfl⟩
 refine ⟨_, rfl, trivial, ?_⟩
 refine J.qn hX 11 fun bo => ?_
 rw [tb_mm]
 obtain ⟨m, hm⟩ : ∃ m : Nat, min (max n 0) 65536 = (m : Int) := ⟨(min (max n 0) 65536).toNat, by omega⟩
 have hms : V.size n = m := by unfold V.size; omega
 have hm1 : m ≤ 65536 := by omega
 rw [hm]
 refine J.makeMany hX tk 6 rfl rfl rfl rfl rfl rfl rfl rfl rfl rfl rfl ?_ ?_ (fun _ => rfl) (fun _ => rfl) fun g => ⟨trivial, ?_⟩
 ·simp only [maxLen]; omega
 ·omega
 rw [hdrs_zero]
 refine J.q hX fun bs => ?_
 refine J.turn1 [] rfl (As := [.hp (HP.of (fats (List.replicate m ⟨none, 0, []⟩)))]) (fun h s => Sep.hpOf.2 (Sep.ofAll fun A hA h => by
  unfold fats at hA
  rw [List.map_replicate, List.mem_replicate] at hA
  rw [hA.2]
  exact ⟨rfl, rfl, rfl⟩)) rfl ?_
 refine J.q hX fun b7 => ?_
 refine J.cb hX (n_Geo p N) [1] ?_
 refine cpq ⟨_, rfl, trivial, ?_⟩
 refine J.q hX fun b8 => ?_
 refine J.lo (α := (Nat × List FSlot)) (fun z => z.1 ≤ N.blocks ∧ FOk m (V.upB N z.1) z.2) (fun z => [⟨38, .int .i64 z.1, 0, .tt⟩, ⟨37, .int .i64 N.blocks, 0, .tt⟩, ⟨0, .pointer (some ⟨p, 0, none⟩), 2, .tt⟩, ⟨4, .pointer (some ⟨br 0, 0, none⟩), 3, .tt⟩, ⟨6, .pointer (some ⟨bo 0, 0, none⟩), 5, .tt⟩, ⟨7, .pointer (some ⟨bs 0, 0, none⟩), 7, .tt⟩]) [4, 5, 7] (fun z => [.pt (bo 0) 177 (sv0 q (V.upB N z.1)), .pt g 139 (hdrs z.2), .hp (HP.of (fats z.2))]) (fun z => N.blocks - z.1) ((0, List.replicate m ⟨none, 0, []⟩)) (⟨Nat.zero_le _, FOk.zero m⟩) rfl ?_ (fun _ => rfl) fun z hI => ?_
 ·rfl
 obtain ⟨b, Z⟩ := z
 dsimp only at hI ⊢
 obtain ⟨hb, hZ⟩ := hI
 refine J.q hX fun b9 => ?_
 refine J.cond rfl (fun h1 => ?_) (fun h1 => ?_)
 ·simp only [decide_eq_true_eq, Int.ofNat_lt] at h1
  refine J.q hX fun b10 => ?_
  refine J.cb hX (n_Geo p N) [1] ?_
  refine cpq ⟨_, rfl, trivial, ?_⟩
  rw [← V.upR_zero] at hZ
  rw [← V.upR_zero]
  refine J.q hX fun b12 => ?_
  refine J.lo (α := (Nat × List FSlot)) (fun z => z.1 ≤ N.pages ∧ FOk m (V.upR N b z.1) z.2) (fun z => [⟨44, .int .i64 z.1, 0, .tt⟩, ⟨43, .int .i64 N.pages, 0, .tt⟩, ⟨8, .int .i64 b, 0, .tt⟩, ⟨38, .int .i64 b, 0, .tt⟩, ⟨37, .int .i64 N.blocks, 0, .tt⟩, ⟨0, .pointer (some ⟨p, 0, none⟩), 2, .tt⟩, ⟨4, .pointer (some ⟨br 0, 0, none⟩), 3, .tt⟩, ⟨6, .pointer (some ⟨bo 0, 0, none⟩), 5, .tt⟩, ⟨7, .pointer (some ⟨bs 0, 0, none⟩), 7, .tt⟩]) [4, 5, 7] (fun z => [.pt (bo 0) 177 (sv0 q (V.upR N b z.1)), .pt g 139 (hdrs z.2), .hp (HP.of (fats z.2))]) (fun z => N.pages - z.1) ((0, Z)) (⟨Nat.zero_le _, hZ⟩) rfl ?_ (fun _ => rfl) fun z hI => ?_
  ·rfl
  clear hZ Z
  obtain ⟨r, Z⟩ := z
  dsimp only at hI ⊢
  obtain ⟨hr, hZ⟩ := hI
  refine J.q hX fun b13 => ?_
  refine J.cond rfl (fun h2 => ?_) (fun h2 => ?_)
  ·simp only [decide_eq_true_eq, Int.ofNat_lt] at h2
   refine J.q hX fun b14 => ?_
   refine J.cb hX (r_All p N hN hR b r) [1] ?_
   rintro v As ⟨al, cl, rfl, rfl⟩
   refine ⟨_, rfl, trivial, ?_⟩
   rw [← V.upI_zero] at hZ
   rw [← V.upI_zero]
   refine J.q hX fun b16 => ?_
   refine J.lo (α := (Nat × List FSlot)) (fun z => z.1 ≤ (R.all N b r).length ∧ FOk m (V.upI N b r z.1) z.2) (fun z => [⟨52, .int .i64 z.1, 0, .tt⟩, ⟨51, .int .i64 (R.all N b r).length, 0, .tt⟩, ⟨50, slv al (R.all N b r).length cl, 0, .tt⟩, ⟨9, .int .i64 r, 0, .tt⟩, ⟨44, .int .i64 r, 0, .tt⟩, ⟨43, .int .i64 N.pages, 0, .tt⟩, ⟨8, .int .i64 b, 0, .tt⟩, ⟨38, .int .i64 b, 0, .tt⟩, ⟨37, .int .i64 N.blocks, 0, .tt⟩, ⟨0, .pointer (some ⟨p, 0, none⟩), 2, .tt⟩, ⟨4, .pointer (some ⟨br 0, 0, none⟩), 3, .tt⟩, ⟨6, .pointer (some ⟨bo 0, 0, none⟩), 5, .tt⟩, ⟨7, .pointer (some ⟨bs 0, 0, none⟩), 7, .tt⟩]) [4, 5, 7] (fun z => [.pt (bo 0) 177 (sv0 q (V.upI N b r z.1)), .pt g 139 (hdrs z.2), .hp (HP.of (fats z.2))]) (fun z => (R.all N b r).length - z.1) ((0, Z)) (⟨Nat.zero_le _, hZ⟩) rfl ?_ (fun _ => rfl) fun z hI => ?_
   ·rfl
   clear hZ Z
   obtain ⟨i, Z⟩ := z
   dsimp only at hI ⊢
   obtain ⟨hi, hZ⟩ := hI
   refine J.q hX fun b17 => ?_
   refine J.cond rfl (fun h3 => ?_) (fun h3 => ?_)
   ·simp only [decide_eq_true_eq, Int.ofNat_lt] at h3
    obtain ⟨x, hx⟩ : ∃ x, (R.all N b r)[i]? = some x := ⟨_, List.getElem?_eq_getElem h3⟩
    have hup := V.upI_succ hx
    have hrl := rall_len N hN b r
    have hxb := (fnd_bd (List.mem_of_getElem? hx)).2.2
    have hul := upI_len N hN b r i (by omega) (by omega)
    have hnb := V.nextOf_bd (upI_bd N b r i)
    refine J.know (fun h' s => own_some (c := (al, cl)) (by omega) (s.get (i := 8) rfl)) fun hg => ?_
    obtain ⟨gl, rfl⟩ := hg
    refine J.q hX fun b18 => ?_
    refine J.val hX (fdV x) 0 rfl rfl (fun hg a w he hs => ?_) rfl trivial ?_
    ·exact ownN_run tk rfl rfl he rfl rfl rfl (hs.get (i := 8) rfl) (by rw [show 0 + (i : Int).toNat * 25 = i * 25 from by omega]; exact cellsF_get hx) rfl
    unfold EnBd at hxb
    refine J.q hX fun bf => ?_
    have hn1 : V.nextOf (V.upI N b r (i + 1)) = max (V.nextOf (V.upI N b r i)) (x.en.seq + 1) := by rw [hup, V.nextOf_snoc]
    have hn2 : ((V.upI N b r i).length : Int) + 1 = ((V.upI N b r (i + 1)).length : Int) := by rw [hup, List.length_append]; rfl
    rw [max_if, ← hn1, hn2]
    refine J.q hX fun b19 => ?_
    refine J.plan (.of [0,4,9,12,16,20,25,28,32]) [] [6, 9] (by rw [hX.hP]; kernel_rfl) (by kernel_rfl) ?_
    refine J.q hX fun b20 => ?_
    refine J.cond rfl (fun h4 => ?_) (fun h4 => ?_)
    ·simp only [decide_eq_true_eq] at h4
     obtain ⟨z, hz, hzl⟩ := hZ.get (k := x.en.lpn.toNat) (by omega)
     have hzle := hZ.le hz
     have hZl := hZ.len
     refine J.openAt 7 x.en.lpn.toNat rfl rfl (fats_get hz) rfl ?_
     refine J.q hX fun b22 => ?_
     refine J.plan (.of [0,4,8,13,16,20,25,28,32,36,41,44,48,53,56,61,65,70,74,76,83]) [19,20] [5,6,9] (by rw [hX.hP]; kernel_rfl) (by kernel_rfl) ?_
     refine J.qn hX 15 fun b23 => ?_
     refine J.valT hX z.hdr 0 rfl rfl (fun hg a w he hC => load1_run tk rfl rfl he rfl rfl rfl (hC rfl _ (cget_mem (i := 5) rfl)) (hdrs_getI hz)) rfl ?_
     refine J.q hX fun b24 => ?_
     refine J.append hX tk 10 11 0 rfl rfl rfl rfl rfl rfl rfl rfl rfl rfl rfl rfl rfl rfl rfl rfl ?_ ?_ (fun _ => rfl) fun a' c' => ⟨_, (congrArg (fun y => lset _ 10 (ownA _ _ _ _ _ y)) (cellsF_snoc z.l x).symm).trans rfl, ⟨rfl, rfl, rfl, trivial⟩, ?_⟩
     ·simp only [maxLen]; omega
     ·omega
     rw [show z.l.length + 1 = (z.l ++ [x]).length from by simp]
     refine J.q hX fun b25 => ?_
     have hhit := hZ.hit (x := x) (k := x.en.lpn.toNat) (by omega) hz (z' := ⟨a', c', z.l ++ [x]⟩) rfl
     refine J.store1 hX tk 5 rfl rfl rfl rfl rfl rfl rfl rfl rfl rfl rfl rfl rfl ?_ (hdrs (Z.set x.en.lpn.toNat ⟨a', c', z.l ++ [x]⟩)) ?_ rfl (fun _ => rfl) ⟨(by first | exact trivial | (repeat' (first | exact trivial | refine ⟨rfl, ?_⟩))), ?_⟩
     ·rw [show (hdrs Z).length = Z.length from by simp [hdrs]]; omega
     ·rw [show 0 + x.en.lpn.toNat * 1 = x.en.lpn.toNat from by omega]; exact hdrs_set Z _ ⟨a', c', z.l ++ [x]⟩
     refine J.closeAt (A := (FSlot.mk a' c' (z.l ++ [x])).atom) 7 10 x.en.lpn.toNat rfl rfl rfl ?_
     rw [fats_set]
     refine J.q hX fun b26 => ?_
     refine J.nS ((i + 1, Z.set x.en.lpn.toNat ⟨a', c', z.l ++ [x]⟩)) (⟨by dsimp only; omega, by dsimp only; rw [hup]; exact hhit⟩) (by dsimp only; omega) [0, 1, 2, 3, 4, 5, 6, 7, 8] rfl rfl
    ·simp only [decide_eq_false_iff_not] at h4
     have hmiss := hZ.miss (x := x) (by omega)
     refine J.q hX fun b27 => ?_
     refine J.nS ((i + 1, Z)) (⟨by dsimp only; omega, by dsimp only; rw [hup]; exact hmiss⟩) (by dsimp only; omega) [0, 1, 2, 3, 4, 5, 6, 7, 8] rfl rfl
   ·simp only [decide_eq_false_iff_not, Int.ofNat_lt] at h3
    obtain rfl : i = (R.all N b r).length := by omega
    rw [← V.upR_succ] at hZ
    rw [← V.upR_succ]
    refine J.q hX fun b28 => ?_
    refine J.nS ((r + 1, Z)) (⟨by dsimp only; omega, hZ⟩) (by dsimp only; omega) [0, 1, 2, 3, 4, 5, 6, 7] rfl rfl
  ·simp only [decide_eq_false_iff_not, Int.ofNat_lt] at h2
   obtain rfl : r = N.pages := by omega
   rw [← V.upB_succ] at hZ
   rw [← V.upB_succ]
   refine J.q hX fun b30 => ?_
   refine J.nS ((b + 1, Z)) (⟨by dsimp only; omega, hZ⟩) (by dsimp only; omega) [0, 1, 2, 3, 4, 5, 6, 7] rfl rfl
 simp only [decide_eq_false_iff_not, Int.ofNat_lt] at h1
 obtain rfl : b = N.blocks := by omega
 rw [V.upB_all] at hZ
 rw [V.upB_all]
 have hZl := hZ.len
 have hLb : ∀ f ∈ V.all N, EnBd f.en := fun f hf => (all_bd hf).2
 have hLl := all_len N hN
 subst hZl
 refine J.q hX fun b32 => ?_
 refine J.turn1 [] rfl (As := [ownA 38 19 none 0 0 (cellsE []), ownA 3 1 none 0 0 (cellsI []), ownA 38 19 none 0 0 (cellsE [])]) (fun h s => Sep.ofAll fun A hA h => by
  simp only [List.mem_cons, List.not_mem_nil, or_false] at hA
  rcases hA with rfl | rfl | rfl <;> exact ⟨rfl, rfl, rfl⟩) rfl ?_
 refine J.q hX fun b33 => ?_
 refine J.lo (α := (Nat × (Option Nat × Nat) × (Option Nat × Nat) × (Option Nat × Nat))) (fun z => z.1 ≤ Z.length) (fun z => [⟨105, .int .i64 z.1, 0, .tt⟩, ⟨104, .int .i64 Z.length, 0, .tt⟩, ⟨12, slv z.2.2.2.1 (V.goS N (V.all N) n z.1).others.length z.2.2.2.2, 0, .tt⟩, ⟨0, .pointer (some ⟨p, 0, none⟩), 2, .tt⟩, ⟨4, .pointer (some ⟨br 0, 0, none⟩), 3, .tt⟩, ⟨6, .pointer (some ⟨bo 0, 0, none⟩), 5, .tt⟩, ⟨7, .pointer (some ⟨bs 0, 0, none⟩), 7, .tt⟩]) [3, 4, 8, 9, 10] (fun z => [TbA q (V.goS N (V.all N) n z.1).tb, .pt (bo 0) 177 (svL q (slv z.2.1.1 (V.goS N (V.all N) n z.1).torn.length z.2.1.2) 0 (slv z.2.2.1.1 (V.goS N (V.all N) n z.1).held.length z.2.2.1.2) (V.nextOf (V.all N)) (V.all N).length), ownA 38 19 z.2.1.1 (V.goS N (V.all N) n z.1).torn.length z.2.1.2 (cellsE (V.goS N (V.all N) n z.1).torn), ownA 3 1 z.2.2.1.1 (V.goS N (V.all N) n z.1).held.length z.2.2.1.2 (cellsI (V.goS N (V.all N) n z.1).held), ownA 38 19 z.2.2.2.1 (V.goS N (V.all N) n z.1).others.length z.2.2.2.2 (cellsE (V.goS N (V.all N) n z.1).others)]) (fun z => Z.length - z.1) ((0, (none, 0), (none, 0), (none, 0))) (Nat.zero_le _) rfl ?_ (fun _ => rfl) fun z hI => ?_
 ·rfl
 obtain ⟨k, ⟨a1, c1⟩, ⟨a2, c2⟩, ⟨a3, c3⟩⟩ := z
 dsimp only at hI ⊢
 have hgl := V.goS_len N (V.all N) n k
 have hgh := V.goS_held N (V.all N) n k
 refine J.q hX fun b34 => ?_
 refine J.cond rfl (fun h2 => ?_) (fun h2 => ?_)
 ·simp only [decide_eq_true_eq, Int.ofNat_lt] at h2
  obtain ⟨z, hz, hzl⟩ := hZ.get (k := k) h2
  have hzle := hZ.le hz
  have hstep := V.goS_succ N (V.all N) n k
  have hok := V.goS_ok N (V.all N) n k
  have hhl := V.holds_len (V.of (V.all N) k)
  have hol := V.of_len (V.all N) k
  have hsm := V.standOf_mem (l := V.of (V.all N) k)
  generalize hS : V.goS N (V.all N) n k = S at hgl hgh hstep hok
  refine J.q hX fun b35 => ?_
  refine J.cb hX (v_stands (bs 0) p g Z k z hz (by omega) (by omega)) [6, 5, 7] ?_
  refine cpq ⟨_, rfl, trivial, ?_⟩
  rw [hzl]
  unfold V.step at hstep
  obtain ⟨f, is, hs⟩ : ∃ f is, V.standOf (V.of (V.all N) k) = (f, is) := ⟨_, _, rfl⟩
  rw [hs] at hsm hstep ⊢
  dsimp only at hsm hstep ⊢
  refine J.q hX fun bf => ?_
  refine J.cond rfl (fun h3 => ?_) (fun h3 => ?_)
  ·simp only [Bool.not_eq_true'] at h3
   subst h3
   rw [if_neg Bool.false_ne_true] at hstep
   rw [← hstep]
   refine J.q hX fun b38 => ?_
   refine J.nS ((k + 1, (a1, c1), (a2, c2), (a3, c3))) (by dsimp only; omega) (by dsimp only; omega) [0, 1, 2, 3, 4, 5, 6, 7, 8, 9, 10] rfl rfl
  simp only [Bool.not_eq_false'] at h3
  subst h3
  rw [if_pos rfl] at hstep
  have hfm : f ∈ V.all N := by have := hsm rfl; unfold V.of at this; exact (List.mem_filter.1 this).1
  obtain ⟨⟨r0, hr0, hr1⟩, hfb⟩ := all_bd hfm
  unfold EnBd at hfb
  refine J.q hX fun b40 => ?_
  refine J.cb hX (tb_Put q S.tb f.en f.block f.row f.slot f.mask (by omega) hok.bd) [3] ?_
  refine cpq ⟨_, rfl, trivial, ?_⟩
  refine J.q hX fun b42 => ?_
  refine J.cond rfl (fun h4 => ?_) (fun h4 => ?_)
  ·rw [if_pos h4] at hstep
   have e1 := congrArg Sst.tb hstep
   have e2 := congrArg Sst.torn hstep
   have e3 := congrArg Sst.held hstep
   have e4 := congrArg Sst.others hstep
   dsimp only at e1 e2 e3 e4
   rw [← e1, ← e2, ← e3, ← e4]
   refine J.q hX fun b43 => ?_
   refine J.nS ((k + 1, (a1, c1), (a2, c2), (a3, c3))) (by dsimp only; omega) (by dsimp only; omega) [0, 1, 2, 3, 4, 5, 6, 7, 8, 9, 10] rfl rfl
  rw [if_neg (by rw [h4]; exact Bool.false_ne_true)] at hstep
  refine J.q hX fun b45 => ?_
  refine J.cb hX (v_last p N hN hR (bs 0) (.slice (some ⟨g, 0, none⟩) Z.length Z.length) f r0 hr0 (by omega)) [1, 6] ?_
  refine cpq ⟨_, rfl, trivial, ?_⟩
  refine J.q hX fun b47 => ?_
  refine J.cond rfl (fun h5 => ?_) (fun h5 => ?_)
  ·rw [if_pos h5] at hstep
   have e1 := congrArg Sst.tb hstep
   have e2 := congrArg Sst.torn hstep
   have e3 := congrArg Sst.held hstep
   have e4 := congrArg Sst.others hstep
   dsimp only at e1 e2 e3 e4
   refine J.q hX fun b48 => ?_
   refine J.append hX tk 8 12 0 rfl rfl rfl rfl rfl rfl rfl rfl rfl rfl rfl rfl rfl rfl rfl rfl ?_ ?_ (fun _ => rfl) fun a4 c4 => ⟨_, (congrArg (fun y => lset _ 8 (ownA _ _ _ _ _ y)) (cellsE_snoc S.torn f.en)).trans rfl, trivial, ?_⟩
   ·simp only [maxLen]; omega
   ·omega
   rw [show S.torn.length + 1 = (S.torn ++ [f.en]).length from by simp]
   refine J.q hX fun b49 => ?_
   refine J.plan (.of [0,5,8,12,18,23,24,31]) [5,6,7] [4] (by rw [hX.hP]; kernel_rfl) (by kernel_rfl) ?_
   refine J.q hX fun b50 => ?_
   refine J.cb hX (v_holds (bs 0) p g Z k z hz (by omega) (by omega)) [6, 5, 7] ?_
   rintro v As ⟨a5, c5, rfl, rfl⟩
   refine ⟨_, rfl, (by first | exact trivial | (repeat' (first | exact trivial | refine ⟨rfl, ?_⟩))), ?_⟩
   rw [hzl]
   refine J.q hX fun b52 => ?_
   refine J.appendO hX tk 9 13 rfl rfl rfl rfl rfl rfl rfl rfl rfl rfl rfl rfl rfl (cellsI_one _) ?_ ?_ (fun _ => rfl) fun a6 c6 => ⟨_, (congrArg (fun y => lset _ 9 (ownA _ _ _ _ _ y)) (cellsI_app S.held (V.holds (V.of (V.all N) k)))).trans rfl, (by first | exact trivial | (repeat' (first | exact trivial | refine ⟨rfl, ?_⟩))), ?_⟩
   ·simp only [maxLen]; omega
   ·omega
   rw [show S.held.length + (V.holds (V.of (V.all N) k)).length = (S.held ++ V.holds (V.of (V.all N) k)).length from by simp]
   rw [← e1, ← e2, ← e3, ← e4]
   refine J.q hX fun b53 => ?_
   refine J.nS ((k + 1, (a4, c4), (a6, c6), (a3, c3))) (by dsimp only; omega) (by dsimp only; omega) [0, 1, 2, 3, 4, 5, 6, 7, 8, 9, 10] rfl rfl
  ·rw [if_neg (by rw [h5]; exact Bool.false_ne_true)] at hstep
   have e1 := congrArg Sst.tb hstep
   have e2 := congrArg Sst.torn hstep
   have e3 := congrArg Sst.held hstep
   have e4 := congrArg Sst.others hstep
   dsimp only at e1 e2 e3 e4
   refine J.q hX fun b55 => ?_
   refine J.append hX tk 10 12 0 rfl rfl rfl rfl rfl rfl rfl rfl rfl rfl rfl rfl rfl rfl rfl rfl ?_ ?_ (fun _ => rfl) fun a4 c4 => ⟨_, (congrArg (fun y => lset _ 10 (ownA _ _ _ _ _ y)) (cellsE_snoc S.others f.en)).trans rfl, trivial, ?_⟩
   ·simp only [maxLen]; omega
   ·omega
   rw [show S.others.length + 1 = (S.others ++ [f.en]).length from by simp]
   rw [← e1, ← e2, ← e3, ← e4]
   refine J.q hX fun b56 => ?_
   refine J.nS ((k + 1, (a1, c1), (a2, c2), (a4, c4))) (by dsimp only; omega) (by dsimp only; omega) [0, 1, 2, 3, 4, 5, 6, 7, 8, 9, 10] rfl rfl
 simp only [decide_eq_false_iff_not, Int.ofNat_lt] at h2
 obtain rfl : k = Z.length := by omega
 have hsc : V.scan N n = ⟨(V.goS N (V.all N) n Z.length).tb, (V.goS N (V.all N) n Z.length).torn ++ (V.goS N (V.all N) n Z.length).others, (V.goS N (V.all N) n Z.length).torn.length, compactI (sortI (V.goS N (V.all N) n Z.length).held), V.nextOf (V.all N), (V.all N).length⟩ := by
  unfold V.scan V.scanOf; rw [hms]
 generalize V.goS N (V.all N) n Z.length = S at hgl hgh hsc
 refine J.q hX fun b58 => ?_
 refine J.appendO hX tk 8 10 rfl rfl rfl rfl rfl rfl rfl rfl rfl rfl rfl rfl rfl (cellsE_one _) ?_ ?_ (fun _ => rfl) fun a6 c6 => ⟨_, (congrArg (fun y => lset _ 8 (ownA _ _ _ _ _ y)) (cellsE_app S.torn S.others)).trans rfl, (by first | exact trivial | (repeat' (first | exact trivial | refine ⟨rfl, ?_⟩))), ?_⟩
 ·simp only [maxLen]; omega
 ·omega
 rw [show S.torn.length + S.others.length = (S.torn ++ S.others).length from by simp]
 refine J.q hX fun b59 => ?_
 refine J.cb hX (x_SortN a2 S.held.length c2 S.held rfl (by omega)) [9] ?_
 refine cpq ⟨_, rfl, trivial, ?_⟩
 refine J.q hX fun b61 => ?_
 refine J.ca hX (by kernel_rfl) (x_Compact a2 S.held.length c2 (sortI S.held) (sortI_len _) (by omega)) [9] 0 rfl rfl rfl rfl rfl rfl (fun _ => rfl) ?_
 rintro v As ⟨l', hl', rfl, rfl⟩
 refine ⟨_, rfl, trivial, ?_⟩
 refine J.q hX fun b63 => ?_
 refine J.ru hX [1, 3, 8, 9] ?_
 rw [hsc, ← hl']
 exact ⟨q, a6, c6, a2, c2, rfl, rfl⟩
end Go.Proofs.YtdocmcapegcoeaaGreat
namespace Go.Proofs.YtdocmcapegcoeaaGreat
def normI (l : List Int) : List Int := compactI (sortI l)
theorem dedFrom_spec : ∀ (l : List Int) (p : Int), (p :: l).Pairwise (· ≤ ·) → (dedFrom p l).Pairwise (· < ·) ∧ (∀ c ∈ dedFrom p l, p < c) ∧ ∀ c, c ∈ dedFrom p l ∨ c = p ↔ c ∈ l ∨ c = p
 | [], p, _ => by simp [dedFrom]
 | x :: l, p, h => by
  have h1 := List.pairwise_cons.1 h
  simp only [dedFrom]
  by_cases e : x = p
  ·subst e
   obtain ⟨a, b, c⟩ := dedFrom_spec l x h1.2
   rw [if_pos rfl]
   refine ⟨a, b, fun d => ?_⟩
   rw [c d, List.mem_cons]
   constructor
   ·rintro (h | h) <;> simp [h]
   ·rintro ((h | h) | h) <;> simp [h]
  ·obtain ⟨a, b, c⟩ := dedFrom_spec l x h1.2
   have hx : p < x := by have := h1.1 x (List.mem_cons_self ..); omega
   rw [if_neg e]
   refine ⟨List.pairwise_cons.2 ⟨b, a⟩, fun d hd => ?_, fun d => ?_⟩
   ·rcases List.mem_cons.1 hd with rfl | hd
    ·exact hx
    ·have := b d hd; omega
   ·have := c d
    rw [List.mem_cons, List.mem_cons]
    constructor
    ·rintro ((h | h) | h)
     ·simp [h]
     ·rcases this.1 (.inl h) with h | h <;> simp [h]
     ·simp [h]
    ·rintro ((h | h) | h)
     ·simp [h]
     ·rcases this.2 (.inl h) with h | h <;> simp [h]
     ·simp [h]
theorem sortI_sorted (l : List Int) : (sortI l).Pairwise (· ≤ ·) := by
 have := List.pairwise_mergeSort (le := leI) (fun a b c h1 h2 => by simp only [leI, decide_eq_true_eq] at *; omega) (fun a b => by simp only [leI, Bool.or_eq_true, decide_eq_true_eq]; omega) l
 exact this.imp (fun h => by simpa [leI] using h)
theorem sortI_mem (l : List Int) (c : Int) : c ∈ sortI l ↔ c ∈ l := List.mem_mergeSort
theorem normI_spec (l : List Int) : (normI l).Pairwise (· < ·) ∧ ∀ c, c ∈ normI l ↔ c ∈ l := by
 have hs := sortI_sorted l
 have hm := sortI_mem l
 unfold normI
 revert hs hm
 cases sortI l with
 | nil => intro _ hm; exact ⟨by simp [compactI], fun c => by rw [← hm c]; simp [compactI]⟩
 | cons x m =>
  intro hs hm
  obtain ⟨a, b, c⟩ := dedFrom_spec m x hs
  refine ⟨List.pairwise_cons.2 ⟨b, a⟩, fun d => ?_⟩
  rw [← hm d]
  show d ∈ x :: dedFrom x m ↔ _
  rw [List.mem_cons, List.mem_cons]
  have := c d
  constructor
  ·rintro (h | h)
   ·simp [h]
   ·rcases this.1 (.inl h) with h | h <;> simp [h]
  ·rintro (h | h)
   ·simp [h]
   ·rcases this.2 (.inl h) with h | h <;> simp [h]
theorem normI_nil : normI [] = [] := by have := (normI_spec []).2; exact List.eq_nil_iff_forall_not_mem.2 (fun c hc => by simpa using (this c).1 hc)
namespace V
end V
end Go.Proofs.YtdocmcapegcoeaaGreat
namespace Go.Proofs.YtdocmcapegcoeaaGreat
open Go Go.RowKit
namespace B16
def e1 : En := ⟨2, 5, 1, 1 :: List.replicate 15 0⟩
def e2 : En := ⟨2, 4, 1, 2 :: List.replicate 15 0⟩
def e3 : En := ⟨1, 8, 2, zeros16⟩
def w1 : En := ⟨4, 1, 0, zeros16⟩
def w2 : En := ⟨5, 2, 0, zeros16⟩
def w3 : En := ⟨4, 3, 0, zeros16⟩
def N0 : Nand := Nand.new 3 8 2
def N1 : Nand := (R.write N0 1 0 7 [e1, B9.pad]).1
def N2 : Nand := (R.write N1 2 0 7 [e2, e3]).1
theorem G0 : N0.Gd 100 0 := Nand.Gd.new 3 8 2 rfl 100 (by decide)
theorem G1 : N1.Gd 92 0 := write_Gd (by decide) G0
theorem G2 : N2.Gd 84 0 := write_Gd (by decide) G1
theorem off2 : N2.off = false := by kernel_rfl
def L : List Fnd := [⟨e1, 1, 0, 0, 7, true, false⟩, ⟨e2, 2, 0, 0, 7, true, false⟩, ⟨e3, 2, 0, 1, 7, true, false⟩]
def T : Tb := ⟨3, [(1, ⟨2, 0, 1, 7, 8, 2⟩), (2, ⟨1, 0, 0, 7, 5, 1⟩)], [(2, 1), (1, 1)], 9⟩
theorem h_all : V.all N2 = L := by kernel_rfl
theorem h_go : V.goS N2 L 3 3 = ⟨T, [], [], []⟩ := by kernel_rfl
theorem h_size : V.size 3 = 3 := by kernel_rfl
theorem h_next : V.nextOf L = 9 := by kernel_rfl
theorem h_scan : V.scan N2 3 = ⟨T, [], 0, [], 9, 3⟩ := by
 unfold V.scan
 rw [h_all]
 unfold V.scanOf
 rw [h_size, h_go, h_next]
 have : compactI (sortI []) = [] := normI_nil
 dsimp only
 rw [this]
 rfl
end B16
end Go.Proofs.YtdocmcapegcoeaaGreat
namespace Go.Proofs.YtdocmcapegcoeaaGreat
open Go Go.RowKit
theorem l11_Begun : Fn Tryz.prog 139 [] [] (fun v As => v = .bool true ∧ As = []) := by
 refine Fn.enter [] Tryz.func139 rfl rfl rfl fun X F hX => ?_
 refine J.q hX fun b1 => ?_
 refine J.cb hX (l11_begun) [] ?_
 refine cpq ⟨_, rfl, trivial, ?_⟩
 refine J.q hX fun b3 => ?_
 exact J.ru hX [] ⟨rfl, rfl⟩
open B16
theorem l16_begun : Fn Tryz.prog 99 [] [] (fun v As => v = .bool true ∧ As = []) := by
 refine Fn.enter [] Tryz.func99 rfl rfl rfl fun X F hX => ?_
 refine J.q hX fun b4 => ?_
 refine J.cb hX (n_New 3 8 2 rfl) [] ?_
 rintro v As ⟨q, rfl, rfl⟩
 refine ⟨_, rfl, trivial, ?_⟩
 refine J.q hX fun b6 => ?_
 refine J.cF ?_
 refine J.q hX fun bx => ?_
 refine J.ca hX (by kernel_rfl) (r_Write q N0 (.pt (bx 0) 38 (cellsE [e1, B9.pad])) 1 0 7 (some ⟨bx 0, 0, none⟩) 2 2 0 [e1, B9.pad] (pt_rd _ _ _ _ _ rfl) rfl (by decide) (G0.less (by decide) (Nat.le_refl _))) [1, 2] 0 rfl rfl rfl rfl rfl rfl (fun _ => rfl) ?_
 refine cpq ⟨_, rfl, trivial, ?_⟩
 refine J.q hX fun by_ => ?_
 refine J.ca hX (by kernel_rfl) (r_Write q N1 (.pt (by_ 0) 38 (cellsE [e2, e3])) 2 0 7 (some ⟨by_ 0, 0, none⟩) 2 2 0 [e2, e3] (pt_rd _ _ _ _ _ rfl) rfl (by decide) (G1.less (by decide) (Nat.le_refl _))) [1, 3] 0 rfl rfl rfl rfl rfl rfl (fun _ => rfl) ?_
 refine cpq ⟨_, rfl, trivial, ?_⟩
 refine J.q hX fun b9 => ?_
 refine J.cb hX (v_Scan q N2 G2.ok G2.room off2 3) [1] ?_
 rintro v As ⟨r, a1, c1, a2, c2, rfl, rfl⟩
 refine ⟨_, rfl, trivial, ?_⟩
 rw [h_scan]
 refine J.q hX fun b11 => ?_
 refine J.cF ?_
 refine J.q hX fun b13 => ?_
 refine J.cb hX (tb_Get r T 2) [4] ?_
 refine cpq ⟨_, rfl, trivial, ?_⟩
 rw [show Tb.look T.at_ 2 = some ⟨1, 0, 0, 7, 5, 1⟩ from rfl, Option.getD_some, Option.isSome_some]
 refine J.q hX fun b15 => ?_
 refine J.cb hX (d_New) [] ?_
 rintro v As ⟨d, rfl, rfl⟩
 refine ⟨_, rfl, trivial, ?_⟩
 refine J.q hX fun b17 => ?_
 refine J.cb hX (d_Put d [] (by decide) w1) [9] ?_
 refine cpq ⟨_, rfl, trivial, ?_⟩
 rw [show dkPut [] w1 = [w1] from rfl]
 refine J.q hX fun b19 => ?_
 refine J.cb hX (d_Put d [w1] (by decide) w2) [9] ?_
 refine cpq ⟨_, rfl, trivial, ?_⟩
 rw [show dkPut [w1] w2 = [w1, w2] from rfl]
 refine J.q hX fun b21 => ?_
 refine J.cb hX (d_Put d [w1, w2] (by decide) w3) [9] ?_
 refine cpq ⟨_, rfl, trivial, ?_⟩
 rw [show dkPut [w1, w2] w3 = [w2, w3] from rfl]
 refine J.q hX fun b23 => ?_
 refine J.cb hX (d_First d [w2, w3] (by decide) 5) [9] ?_
 rintro v As ⟨a3, c3, rfl, rfl⟩
 refine ⟨_, rfl, trivial, ?_⟩
 rw [show dkN [w2, w3] 5 = 2 from rfl, show [w2, w3].take 2 = [w2, w3] from rfl]
 refine J.know (fun h' s => own_some (c := (a3, c3)) (by decide) (s.get (i := 10) rfl)) fun hg => ?_
 obtain ⟨ga, rfl⟩ := hg
 refine J.know (fun h' s => ownP_cap (show ownP _ _ (some ga) 2 c3 _ _ from s.get (i := 10) rfl)) fun hcap => ?_
 refine J.q hX fun b25 => ?_
 refine J.cb hX (d_Get d [w2, w3] (by decide) 4) [9] ?_
 refine cpq ⟨_, rfl, trivial, ?_⟩
 rw [show dkGet [w2, w3] 4 = (w3, true) from rfl]
 refine J.q hX fun b27 => ?_
 refine J.cb hX (l11_Begun) [] ?_
 refine cpq ⟨_, rfl, trivial, ?_⟩
 refine J.q hX fun b29 => ?_
 refine J.cb hX (l13_Begun) [] ?_
 refine cpq ⟨_, rfl, trivial, ?_⟩
 refine J.q hX fun b31 => ?_
 refine J.cb hX (tb_Len r T) [4] ?_
 refine cpq ⟨_, rfl, trivial, ?_⟩
 refine J.q hX fun b33 => ?_
 refine J.val hX (.int .i64 5) 0 rfl rfl (fun hg a w he hw => own1_run tk rfl rfl he hg rfl rfl (hw.get (i := 10) rfl) rfl) rfl trivial ?_
 refine J.q hX fun b34 => ?_
 have hRd : Rd (ownA 38 19 (some ga) 2 c3 (cellsE [w2, w3])) (some ⟨ga, 0, none⟩) 19 1 (cellsE [w2]) := (own_rd 38 19 (some ga) 2 c3 (cellsE [w2, w3])).take 1 (by decide)
 refine J.q hX fun b35 => ?_
 refine J.cb hX (d_Done d [w2, w3] (by decide) (ownA 38 19 (some ga) 2 c3 (cellsE [w2, w3])) (some ⟨ga, 0, none⟩) 1 c3 [w2] hRd rfl (by decide)) [9, 10] ?_
 refine cpq ⟨_, rfl, trivial, ?_⟩
 rw [show dkDone [w2, w3] [w2] = [w3] from rfl]
 refine J.q hX fun b36 => ?_
 refine J.cb hX (d_Len d [w3]) [9] ?_
 refine cpq ⟨_, rfl, trivial, ?_⟩
 refine J.q hX fun b38 => ?_
 exact J.ru hX [] ⟨rfl, rfl⟩
end Go.Proofs.YtdocmcapegcoeaaGreat
namespace Go.Proofs.YtdocmcapegcoeaaGreat
end Go.Proofs.YtdocmcapegcoeaaGreat
namespace Go.Proofs.YtdocmcapegcoeaaGreat
open Go Go.RowKit
theorem pow_step (k : Nat) (h : k < 63) : ((2 ^ k : Nat) : Int) * 2 = ((2 ^ (k + 1) : Nat) : Int) ∧ 0 < ((2 ^ k : Nat) : Int) ∧ ((2 ^ k : Nat) : Int) * 2 < 18446744073709551616 := by
 have h1 : 2 ^ (k + 1) ≤ 2 ^ 63 := Nat.pow_le_pow_right (by omega) (by omega)
 have h2 : 0 < 2 ^ k := Nat.two_pow_pos k
 have h3 : (2 : Nat) ^ (k + 1) = 2 ^ k * 2 := Nat.pow_succ 2 k
 omega
theorem f1_pow (n : Nat) (hn : n ≤ 63) : Fn Tryz.prog 196 [.int .i64 n] [] (fun v As => v = .int .u64 ((2 ^ n : Nat) : Int) ∧ As = []) := by
 refine Fn.enter [0] Tryz.func196 rfl rfl rfl fun X F hX => ?_
 refine J.q hX fun b1 => ?_
 refine J.lo (α := (Nat × Int)) (fun z => z.1 ≤ n ∧ z.2 = ((2 ^ z.1 : Nat) : Int)) (fun z => [⟨4, .int .i64 z.1, 0, .tt⟩, ⟨3, .int .u64 z.2, 0, .tt⟩, ⟨0, .int .i64 n, 0, .tt⟩]) [] (fun z => []) (fun z => n - z.1) ((0, 1)) (⟨Nat.zero_le _, rfl⟩) rfl ?_ (fun _ => rfl) fun z hI => ?_
 ·rfl
 obtain ⟨k, x⟩ := z
 dsimp only at hI ⊢
 obtain ⟨hk, hx⟩ := hI
 refine J.q hX fun b3 => ?_
 refine J.cond rfl (fun h1 => ?_) (fun h1 => ?_)
 ·simp only [decide_eq_true_eq, Int.ofNat_lt] at h1
  have hp := pow_step k (by omega)
  rw [← hx] at hp
  refine J.q hX fun b4 => ?_
  refine J.nS ((k + 1, x * 2)) (⟨by dsimp only; omega, hp.1⟩) (by dsimp only; omega) [0] rfl rfl
 ·simp only [decide_eq_false_iff_not, Int.ofNat_lt] at h1
  obtain rfl : k = n := by omega
  subst hx
  refine J.q hX fun b5 => ?_
  exact J.ru hX [] ⟨rfl, rfl⟩
def dsk (m : Int) (k : Nat) : List Int := ((List.range k).filter (fun d : Nat => L.has m d)).map (fun d : Nat => (d : Int))
theorem dsk_succ (m : Int) (k : Nat) : dsk m (k + 1) = dsk m k ++ (if L.has m k then [(k : Int)] else []) := by
 unfold dsk
 rw [List.range_succ, List.filter_append, List.map_append]
 cases h : L.has m k <;> simp [h]
theorem dsk_len (m : Int) (k : Nat) : (dsk m k).length ≤ k := by
 unfold dsk
 rw [List.length_map]
 exact Nat.le_trans (List.length_filter_le _ _) (by simp)
theorem dsk_no (m : Int) (k : Nat) (h : ¬ (0 ≤ m ∧ m < 256)) : dsk m k = [] := by simp [dsk, L.has_no m _ h]
def dI (m : Int) : List Int := dsk m 8
theorem dI_len (m : Int) : (dI m).length ≤ 8 := dsk_len m 8
theorem bit_eq (m d : Nat) (hm : m < 256) (hd : d < 8) : (((m : Int).tdiv ((2 ^ d : Nat) : Int)).tmod 2 == 1) = L.has (m : Int) (d : Int) := by
 rw [← Int.ofNat_tdiv, show (2 : Int) = ((2 : Nat) : Int) from rfl, ← Int.ofNat_tmod]
 have : L.has (m : Int) (d : Int) = m.testBit d := by
  simp only [L.has, L.set, Int.toNat_natCast]
  rw [decide_eq_true (show (0 : Int) ≤ (m : Int) by omega), decide_eq_true (show (m : Int) < 256 by omega), decide_eq_true (show (0 : Int) ≤ (d : Int) by omega), decide_eq_true (show (d : Int) < 8 by omega)]
  rfl
 rw [this, Nat.testBit_eq_decide_div_mod_eq]
 by_cases h : m / 2 ^ d % 2 = 1
 ·simp [h]
 ·rw [decide_eq_false h, beq_eq_false_iff_ne]; omega
theorem quo_bd (m d : Nat) (hm : m < 256) : (0 ≤ (m : Int).tdiv ((2 ^ d : Nat) : Int) ∧ (m : Int).tdiv ((2 ^ d : Nat) : Int) < 256) ∧ (0 ≤ ((m : Int).tdiv ((2 ^ d : Nat) : Int)).tmod 2 ∧ ((m : Int).tdiv ((2 ^ d : Nat) : Int)).tmod 2 < 2) := by
 rw [← Int.ofNat_tdiv, show (2 : Int) = ((2 : Nat) : Int) from rfl, ← Int.ofNat_tmod]
 have := Nat.div_le_self m (2 ^ d)
 generalize m / 2 ^ d = q at this ⊢
 omega
theorem f1_Dies (m : Int) : Fn Tryz.prog 162 [.int .i64 m] [] (fun v As => ∃ a c, v = slv a (dI m).length c ∧ As = [ownA 3 1 a (dI m).length c (cellsI (dI m))]) := by
 refine Fn.enter [0] Tryz.func162 rfl rfl rfl fun X F hX => ?_
 refine J.turn1 [] rfl (As := [ownA 3 1 none 0 0 (cellsI (dsk m 0))]) (fun h s => Sep.one ⟨rfl, rfl, rfl⟩) rfl ?_
 refine J.q hX fun b6 => ?_
 refine J.lo (α := (Nat × Option Nat × Nat)) (fun z => z.1 ≤ 8) (fun z => [⟨4, .int .i64 z.1, 0, .tt⟩, ⟨3, slv z.2.1 (dsk m z.1).length z.2.2, 0, .tt⟩, ⟨0, .int .i64 m, 0, .tt⟩]) [1] (fun z => [ownA 3 1 z.2.1 (dsk m z.1).length z.2.2 (cellsI (dsk m z.1))]) (fun z => 8 - z.1) ((0, none, 0)) (Nat.zero_le _) rfl ?_ (fun _ => rfl) fun z hI => ?_
 ·rfl
 obtain ⟨k, a, c⟩ := z
 dsimp only at hI ⊢
 have hml := dsk_len m k
 refine J.q hX fun b8 => ?_
 refine J.cond rfl (fun h1 => ?_) (fun h1 => ?_)
 ·simp only [Bool.and_eq_true, decide_eq_true_eq] at h1
  obtain ⟨⟨h1, h2⟩, h3⟩ := h1
  obtain ⟨m, rfl⟩ := Int.eq_ofNat_of_zero_le h2
  have hk : k < 8 := by omega
  have hp := pow_step k (by omega)
  have hq1 := quo_bd m k (by omega)
  have hbit := bit_eq m k (by omega) hk
  refine J.q hX fun b9 => ?_
  refine J.cb hX (f1_pow k (by omega)) [] ?_
  refine cpq ⟨_, rfl, trivial, ?_⟩
  refine J.q hX fun b11 => ?_
  refine J.cond rfl (fun h4 => ?_) (fun h4 => ?_)
  ·rw [hbit] at h4
   have hs : dsk m (k + 1) = dsk m k ++ [(k : Int)] := by rw [dsk_succ, if_pos h4]
   have hl : (dsk m k).length + 1 = (dsk m (k + 1)).length := by rw [hs]; simp
   refine J.q hX fun b12 => ?_
   refine J.append hX tk 1 2 0 rfl rfl rfl rfl rfl rfl rfl rfl rfl rfl rfl rfl rfl rfl rfl rfl ?_ ?_ (fun _ => rfl) fun a4 c4 => ⟨_, (congrArg (fun z => lset _ 1 (ownA _ _ _ _ _ z)) ((cellsI_snoc _ _).symm.trans (congrArg cellsI hs.symm))).trans rfl, trivial, ?_⟩
   ·simp only [maxLen]; omega
   ·omega
   rw [hl]
   refine J.q hX fun b13 => ?_
   refine J.nS ((k + 1, a4, c4)) (by dsimp only; omega) (by dsimp only; omega) [0, 1] rfl rfl
  ·rw [hbit] at h4
   have hs : dsk m k = dsk m (k + 1) := by rw [dsk_succ, h4]; simp
   rw [hs]
   refine J.q hX fun b14 => ?_
   refine J.nS ((k + 1, a, c)) (by dsimp only; omega) (by dsimp only; omega) [0, 1] rfl rfl
 ·have he : dsk m k = dI m := by
   by_cases hm : 0 ≤ m ∧ m < 256
   ·simp only [Bool.and_eq_false_iff, decide_eq_false_iff_not] at h1
    obtain rfl : k = 8 := by omega
    rfl
   ·rw [dsk_no m k hm, dI, dsk_no m 8 hm]
  rw [he]
  refine J.q hX fun b15 => ?_
  refine J.ru hX [1] ?_
  exact ⟨a, c, rfl, rfl⟩
def spotI : List Int → Int → Int
 | [], _ => -1
 | x :: r, d => if x = d then 0 else if spotI r d < 0 then -1 else spotI r d + 1
theorem spotI_at : ∀ (l : List Int) (d : Int) (k : Nat), (∀ j, j < k → l[j]? ≠ some d) → l[k]? = some d → spotI l d = k
 | [], d, k, _, h => by simp at h
 | x :: r, d, 0, _, h => by simp at h; simp [spotI, h]
 | x :: r, d, k + 1, h1, h => by
  have h0 : x ≠ d := fun e => h1 0 (by omega) (by simp [e])
  have := spotI_at r d k (fun j hj => by have := h1 (j + 1) (by omega); simpa using this) (by simpa using h)
  rw [spotI, if_neg h0, this, if_neg (by omega)]
  omega
theorem spotI_no : ∀ (l : List Int) (d : Int), (∀ j, j < l.length → l[j]? ≠ some d) → spotI l d = -1
 | [], _, _ => rfl
 | x :: r, d, h => by
  have h0 : x ≠ d := fun e => h 0 (by simp) (by simp [e])
  have := spotI_no r d (fun j hj => by have := h (j + 1) (by simpa using hj); simpa using this)
  rw [spotI, if_neg h0, this, if_pos (by omega)]
theorem f1_Spot (m d : Int) : Fn Tryz.prog 165 [.int .i64 m, .int .i64 d] [] (fun v As => v = .int .i64 (spotI (dI m) d) ∧ As = []) := by
 have hlen := dI_len m
 refine Fn.enter [0, 0] Tryz.func165 rfl rfl rfl fun X F hX => ?_
 refine J.q hX fun b16 => ?_
 refine J.cb hX (f1_Dies m) [] ?_
 rintro v As ⟨a, c, rfl, rfl⟩
 refine ⟨_, rfl, trivial, ?_⟩
 refine J.q hX fun b18 => ?_
 refine J.lo (α := Nat) (fun k => k ≤ (dI m).length ∧ ∀ j, j < k → (dI m)[j]? ≠ some d) (fun k => [⟨6, .int .i64 k, 0, .tt⟩, ⟨5, slv a (dI m).length c, 0, .tt⟩, ⟨1, .int .i64 d, 0, .tt⟩]) [] (fun k => []) (fun k => (dI m).length - k) (0) (⟨Nat.zero_le _, fun j hj => absurd hj (Nat.not_lt_zero j)⟩) rfl ?_ (fun _ => rfl) fun k hI => ?_
 ·rfl
 obtain ⟨hk, hno⟩ := hI
 refine J.q hX fun b20 => ?_
 refine J.cond rfl (fun h1 => ?_) (fun h1 => ?_)
 ·simp only [decide_eq_true_eq, Int.ofNat_lt] at h1
  refine J.know (fun h' s => own_some (c := (a, c)) (by omega) (s.get (i := 1) rfl)) fun hg => ?_
  obtain ⟨g1, rfl⟩ := hg
  obtain ⟨x, hx⟩ : ∃ x, (dI m)[k]? = some x := ⟨_, List.getElem?_eq_getElem h1⟩
  refine J.q hX fun b21 => ?_
  refine J.val hX (.int .i64 x) 0 rfl rfl (fun hg a w he hs => ?_) rfl trivial ?_
  ·exact own1_run tk rfl rfl he rfl rfl rfl (hs.get (i := 1) rfl) (by rw [show 0 + (k : Int).toNat * 1 = k from by omega]; exact cellsI_get hx)
  refine J.q hX fun b22 => ?_
  refine J.cond rfl (fun h2 => ?_) (fun h2 => ?_)
  ·simp only [beq_iff_eq] at h2
   subst h2
   rw [show (k : Int) = spotI (dI m) x from (spotI_at _ _ k hno hx).symm]
   refine J.q hX fun b23 => ?_
   exact J.ru hX [] ⟨rfl, rfl⟩
  ·simp only [beq_eq_false_iff_ne, ne_eq] at h2
   refine J.q hX fun b24 => ?_
   refine J.nS ((k + 1)) (⟨by omega, fun j hj => by rcases Nat.lt_succ_iff_lt_or_eq.1 hj with h | rfl; exact hno j h; rw [hx]; simpa using h2⟩) (by omega) [0, 1] rfl rfl
 ·simp only [decide_eq_false_iff_not, Int.ofNat_lt] at h1
  refine J.q hX fun b25 => ?_
  refine J.ru hX [] ?_
  exact ⟨by rw [spotI_no _ _ (fun j hj => hno j (by omega))], rfl⟩
theorem f6_Slots (m : Int) : Fn Tryz.prog 124 [.int .i64 m] [] (fun v As => v = .int .i64 (if 2 ≤ (dI m).length then ((dI m).length : Int) - 1 else 0) ∧ As = []) := by
 have hlen := dI_len m
 refine Fn.enter [0] Tryz.func124 rfl rfl rfl fun X F hX => ?_
 refine J.q hX fun b26 => ?_
 refine J.cb hX (f1_Dies m) [] ?_
 rintro v As ⟨a, c, rfl, rfl⟩
 refine ⟨_, rfl, trivial, ?_⟩
 refine J.q hX fun b28 => ?_
 refine J.cond rfl (fun h1 => ?_) (fun h1 => ?_)
 ·simp only [decide_eq_true_eq] at h1
  refine J.q hX fun b29 => ?_
  refine J.ru hX [] ?_
  exact ⟨by rw [if_pos (by omega)], rfl⟩
 ·simp only [decide_eq_false_iff_not] at h1
  refine J.q hX fun b30 => ?_
  refine J.ru hX [] ?_
  exact ⟨by rw [if_neg (by omega)], rfl⟩
end Go.Proofs.YtdocmcapegcoeaaGreat
namespace Go.Proofs.YtdocmcapegcoeaaGreat
open Go
namespace K
theorem xor_cancel {a b c : Nat} (h : a ^^^ c = b ^^^ c) : a = b := by
 have := congrArg (· ^^^ c) h
 simpa [Nat.xor_assoc] using this
theorem round_inj {s t : Nat} (hs : s < 4294967296) (ht : t < 4294967296) (h : round s = round t) : s = t := by
 have odd : ∀ a : Nat, a % 2 = 0 → (a ^^^ 1947962583) % 2 = 1 := fun a ha => by
  have h0 : (a ^^^ 1947962583).testBit 0 = true := by
   rw [Nat.testBit_xor, Nat.testBit_zero, Nat.testBit_zero, decide_eq_false (by omega)]; rfl
  rw [Nat.testBit_zero] at h0
  exact of_decide_eq_true h0
 unfold round at h
 split at h
 ·split at h
  ·omega
  ·have := odd (t * 2 % 4294967296) (by omega)
   omega
 ·split at h
  ·have := odd (s * 2 % 4294967296) (by omega)
   omega
  ·have := xor_cancel h
   omega
theorem rounds_inj : ∀ (n : Nat) {s t : Nat}, s < 4294967296 → t < 4294967296 → rounds n s = rounds n t → s = t
 | 0, _, _, _, _, h => h
 | n + 1, s, t, hs, ht, h => rounds_inj n hs ht (round_inj (rounds_lt n s hs) (rounds_lt n t ht) h)
theorem step_lt0 {s x : Nat} (hs : s < 4294967296) (hx : x < 256) : s ^^^ (x * 16777216) < 4294967296 := Nat.xor_lt_two_pow (n := 32) (by omega) (by omega)
theorem step_inj {s t x : Nat} (hs : s < 4294967296) (ht : t < 4294967296) (hx : x < 256) (h : step s x = step t x) : s = t :=
 xor_cancel (rounds_inj 8 (step_lt0 hs hx) (step_lt0 ht hx) h)
theorem step_inj2 {s x y : Nat} (hs : s < 4294967296) (hx : x < 256) (hy : y < 256) (h : step s x = step s y) : x = y := by
 have h1 := rounds_inj 8 (step_lt0 hs hx) (step_lt0 hs hy) h
 rw [Nat.xor_comm s, Nat.xor_comm s] at h1
 have := xor_cancel h1
 omega
theorem fold_inj (l : List UInt8) : ∀ s t : Nat, s < 4294967296 → t < 4294967296 → l.foldl (fun s x => step s x.toNat) s = l.foldl (fun s x => step s x.toNat) t → s = t := by
 induction l with
 | nil => intro s t _ _ h; exact h
 | cons x l ih =>
  intro s t hs ht h
  have hx : x.toNat < 256 := x.toNat_lt
  rw [List.foldl_cons, List.foldl_cons] at h
  exact step_inj hs ht hx (ih _ _ (step_lt _ _ hs hx) (step_lt _ _ ht hx) h)
theorem sum_one (a b : List UInt8) (x y : UInt8) (h : sum (a ++ x :: b) = sum (a ++ y :: b)) : x = y := by
 unfold sum at h
 rw [List.foldl_append, List.foldl_append, List.foldl_cons, List.foldl_cons] at h
 have hs := foldl_lt a 4294967295 (by omega)
 have hx : x.toNat < 256 := x.toNat_lt
 have hy : y.toNat < 256 := y.toNat_lt
 have := step_inj2 hs hx hy (fold_inj b _ _ (step_lt _ _ hs hx) (step_lt _ _ hs hy) h)
 exact UInt8.toNat_inj.1 this
end K
namespace Bt
theorem byteAt_congr {a b : List Bool} {i j : Nat} (h : ∀ k, k < 8 → a.getD (i + k) false = b.getD (j + k) false) : byteAt a i = byteAt b j := by
 have h0 := h 0 (by omega)
 rw [Nat.add_zero, Nat.add_zero] at h0
 unfold byteAt
 rw [h0, h 1 (by omega), h 2 (by omega), h 3 (by omega), h 4 (by omega), h 5 (by omega), h 6 (by omega), h 7 (by omega)]
theorem pack_append (A C : List Bool) (q : Nat) (hA : A.length = 8 * q) : pack (A ++ C) = pack A ++ pack C := by
 apply List.ext_getElem?
 intro j
 have hl : (pack A).length = q := by rw [length_pack, hA]; omega
 rw [List.getElem?_append, hl]
 by_cases hj : j < (A.length + C.length + 7) / 8
 ·rw [pack_get _ _ (by rw [List.length_append]; exact hj)]
  split
  ·rename_i h
   rw [pack_get _ _ (by rw [hA]; omega)]
   congr 2
   refine byteAt_congr fun k hk => ?_
   simp only [List.getD_eq_getElem?_getD]
   rw [List.getElem?_append_left (by omega)]
  ·rename_i h
   rw [pack_get _ _ (by omega)]
   congr 2
   refine byteAt_congr fun k hk => ?_
   simp only [List.getD_eq_getElem?_getD]
   rw [List.getElem?_append_right (by omega)]
   congr 2
   omega
 ·rw [List.getElem?_eq_none (by rw [length_pack, List.length_append]; omega), if_neg (by omega), List.getElem?_eq_none (by rw [length_pack]; omega)]
theorem bits_inj {u v : Nat} (hu : u < 4294967296) (hv : v < 4294967296) (h : pack (bits u 32) = pack (bits v 32)) : u = v := by
 have h1 := numAt_pack [] [] u 32 0 rfl
 have h2 := numAt_pack [] [] v 32 0 rfl
 simp only [List.nil_append, List.append_nil] at h1 h2
 rw [h, h2] at h1
 omega
end Bt
namespace S
theorem put_tail (s : Sh) (hs : s.data.length = 16) : put s = (put s).take 28 ++ Bt.pack (Bt.bits (K.sum ((put s).take 28)) 32) := by
 have hl : (Bt.pack (head s)).length = 12 := by rw [Bt.length_pack, length_head]
 have h1 : put s = (s.data ++ Bt.pack (head s)) ++ Bt.pack (Bt.bits (K.sum (s.data ++ Bt.pack (head s))) 32) := by
  unfold put
  rw [Bt.pack_append _ _ 12 (length_head s), List.append_assoc]
 have h2 : (put s).take 28 = s.data ++ Bt.pack (head s) := by
  rw [h1]
  exact List.take_left' (by rw [List.length_append, hs, hl])
 rw [h2]; exact h1
theorem turned_none (s : Sh) (hs : s.data.length = 16) (N : Nat) (hN : N < 32) (y : UInt8) (hy : y ≠ (put s).getD N 0) : get ((put s).set N y) = none := by
 have hpl := length_put s hs
 unfold get
 rw [if_neg]
 rintro ⟨_, h2⟩
 have hx : (fields ((put s).set N y)).data.length = 16 := by
  show (((put s).set N y).take 16).length = 16
  rw [List.length_take, List.length_set, hpl]; rfl
 have t1 := put_tail s hs
 have t2 := put_tail (fields ((put s).set N y)) hx
 rw [h2] at t2
 have hd : ∀ l : List UInt8, l.length = 32 → ∀ t, l = l.take 28 ++ t → l.drop 28 = t := fun l hl t h => by
  have := congrArg (List.drop 28) h
  rwa [List.drop_left' (by rw [List.length_take, hl]; rfl)] at this
 have d1 := hd _ hpl _ t1
 have d2 := hd _ (by rw [List.length_set]; exact hpl) _ t2
 have hg : (put s).getD N 0 = (put s)[N]'(by omega) := by rw [List.getD_eq_getElem?_getD, List.getElem?_eq_getElem (by omega), Option.getD_some]
 rcases Nat.lt_or_ge N 28 with h | h
 ·have e1 : ((put s).set N y).drop 28 = (put s).drop 28 := by rw [List.drop_set, if_pos h]
  rw [e1, d1] at d2
  have hsum := Bt.bits_inj (K.sum_lt _) (K.sum_lt _) d2
  have hl28 : ((put s).take 28).length = 28 := by rw [List.length_take, hpl]; rfl
  have hN28 : N < ((put s).take 28).length := by omega
  have hel : ((put s).take 28)[N] = (put s)[N]'(by omega) := List.getElem_take
  have ha : (put s).take 28 = ((put s).take 28).take N ++ (put s)[N]'(by omega) :: ((put s).take 28).drop (N + 1) := by
   rw [← hel, ← List.drop_eq_getElem_cons hN28, List.take_append_drop]
  have hb : ((put s).set N y).take 28 = ((put s).take 28).take N ++ y :: ((put s).take 28).drop (N + 1) := by
   rw [List.take_set, List.set_eq_take_append_cons_drop, if_pos (by omega)]
  rw [hb] at hsum
  have hsum := (congrArg K.sum ha).symm.trans hsum
  exact hy ((K.sum_one _ _ _ _ hsum).symm.trans hg.symm)
 ·have e1 : ((put s).set N y).take 28 = (put s).take 28 := by rw [List.take_set, List.set_eq_of_length_le (by rw [List.length_take, hpl]; omega)]
  rw [e1] at t2
  have e2 : (put s).set N y = put s := t2.trans t1.symm
  have := congrArg (fun l : List UInt8 => l.getD N 0) e2
  simp only [List.getD_eq_getElem?_getD, List.getElem?_set, hpl, if_pos hN, if_true, Option.getD_some] at this
  rw [List.getD_eq_getElem?_getD] at hy
  exact hy this
end S
end Go.Proofs.YtdocmcapegcoeaaGreat
