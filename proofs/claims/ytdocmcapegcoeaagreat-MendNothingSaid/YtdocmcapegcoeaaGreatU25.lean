/- Helpers, proved here. No condition. -/
import Derived.Test.YtdocmcapegcoeaaGreatRows
import Derived.Test.YtdocmcapegcoeaaGreatU02
import Derived.Test.YtdocmcapegcoeaaGreatU04
import Derived.Test.YtdocmcapegcoeaaGreatU06
import Derived.Test.YtdocmcapegcoeaaGreatU12
import Derived.Test.YtdocmcapegcoeaaGreatU13
import Derived.Test.YtdocmcapegcoeaaGreatU15
import Derived.Test.YtdocmcapegcoeaaGreatU16
import Derived.Test.YtdocmcapegcoeaaGreatU17
import Derived.Test.YtdocmcapegcoeaaGreatU18
import Derived.Test.YtdocmcapegcoeaaGreatU19
import Derived.Test.YtdocmcapegcoeaaGreatU21
import Derived.Test.YtdocmcapegcoeaaGreatU22
import Derived.Test.YtdocmcapegcoeaaGreatU24
import Derived.ProofKit
import Derived.OpenShut
import Derived.ChangeOld
import Derived.Below
import Derived.Deep.Slices
import Derived.Deep.Strs
import Derived.Lib.SmallJoins
set_option maxRecDepth 20000
set_option linter.all false
namespace Go.Proofs.YtdocmcapegcoeaaGreat
open Go Go.RowKit
def FOk (m : Nat) (L : List Fnd) (Z : List FSlot) : Prop := Z.map (·.l) = (List.range m).map fun k : Nat => V.of L (k : Int)
theorem FOk.len {m : Nat} {L : List Fnd} {Z : List FSlot} (h : FOk m L Z) : Z.length = m := by have := congrArg List.length h; simpa using this
theorem FOk.get {m : Nat} {L : List Fnd} {Z : List FSlot} (h : FOk m L Z) {k : Nat} (hk : k < m) : ∃ z, Z[k]? = some z ∧ z.l = V.of L (k : Int) := by
 have hl := h.len
 refine ⟨Z[k], List.getElem?_eq_getElem (by omega), ?_⟩
 have := congrArg (fun l => l[k]?) h
 simp only [List.getElem?_map, List.getElem?_range hk, List.getElem?_eq_getElem (show k < Z.length by omega), Option.map_some, Option.some.injEq] at this
 exact this
theorem FOk.zero (m : Nat) : FOk m [] (List.replicate m ⟨none, 0, []⟩) := by
 unfold FOk
 apply List.ext_getElem?
 intro i
 rw [List.getElem?_map, List.getElem?_replicate, List.getElem?_map]
 by_cases h : i < m
 ·rw [if_pos h, List.getElem?_range h]; simp [V.of]
 ·rw [if_neg h, List.getElem?_eq_none (by simp; omega)]; rfl
theorem FOk.hit {m : Nat} {L : List Fnd} {Z : List FSlot} (h : FOk m L Z) {x : Fnd} {k : Nat} (hx : x.en.lpn = (k : Int)) {z z' : FSlot} (hz : Z[k]? = some z) (hz' : z'.l = z.l ++ [x]) : FOk m (L ++ [x]) (Z.set k z') := by
 have hl := h.len
 have hk : k < Z.length := (List.getElem?_eq_some_iff.1 hz).1
 have hzl : z.l = V.of L (k : Int) := by
  obtain ⟨z2, h1, h2⟩ := h.get (k := k) (by omega)
  rw [hz] at h1; injection h1 with h1; subst h1; exact h2
 unfold FOk
 rw [List.map_set, show Z.map (·.l) = _ from h, hz', hzl]
 apply List.ext_getElem?
 intro i
 rw [List.getElem?_set, List.getElem?_map, List.getElem?_map]
 by_cases e : k = i
 ·subst e
  rw [if_pos rfl, if_pos (by simp; omega), List.getElem?_range (by omega), Option.map_some, V.of_snoc, if_pos hx]
 ·rw [if_neg e]
  by_cases h2 : i < m
  ·rw [List.getElem?_range h2, Option.map_some, Option.map_some, V.of_snoc, if_neg (by omega)]
  ·rw [List.getElem?_eq_none (by simp; omega)]; rfl
theorem FOk.miss {m : Nat} {L : List Fnd} {Z : List FSlot} (h : FOk m L Z) {x : Fnd} (hx : (m : Int) ≤ x.en.lpn) : FOk m (L ++ [x]) Z := by
 unfold FOk
 rw [show Z.map (·.l) = _ from h]
 apply List.map_congr_left
 intro i hi
 rw [List.mem_range] at hi
 rw [V.of_snoc, if_neg (by omega)]
theorem FOk.le {m : Nat} {L : List Fnd} {Z : List FSlot} (h : FOk m L Z) {k : Nat} {z : FSlot} (hz : Z[k]? = some z) : z.l.length ≤ L.length := by
 have hl := h.len
 have hk : k < Z.length := (List.getElem?_eq_some_iff.1 hz).1
 obtain ⟨z2, h1, h2⟩ := h.get (k := k) (by omega)
 rw [hz] at h1; injection h1 with h1; subst h1
 rw [h2]; exact V.of_len L k
theorem flatMap_le {α β : Type} (f : α → List β) (c : Nat) (l : List α) (h : ∀ x ∈ l, (f x).length ≤ c) : (l.flatMap f).length ≤ c * l.length := by
 induction l with
 | nil => simp
 | cons x l ih =>
  rw [List.flatMap_cons, List.length_append, List.length_cons]
  have := h x (List.mem_cons_self ..)
  have := ih (fun y hy => h y (List.mem_cons_of_mem _ hy))
  rw [Nat.mul_add]; omega
theorem rall_len (N : Nand) (hN : N.Ok) (b r : Int) : (R.all N b r).length ≤ 42 := by
 have hbd := hN.bd
 have := outI_len N b r (M.masks N b r).length (by omega)
 unfold outI at this
 rwa [List.take_length] at this
theorem upB_len (N : Nand) (hN : N.Ok) (b : Nat) (hb : b ≤ 16) : (V.upB N b).length ≤ 5376 := by
 have hbd := hN.bd
 unfold V.upB
 have := flatMap_le (fun b : Nat => (List.range N.pages).flatMap fun r => R.all N (b : Nat) (r : Nat)) 336 (List.range b) (fun x _ => by
  have := flatMap_le (fun r : Nat => R.all N (x : Nat) (r : Nat)) 42 (List.range N.pages) (fun r _ => rall_len N hN _ _)
  rw [List.length_range] at this
  omega)
 rw [List.length_range] at this
 omega
theorem upR_len (N : Nand) (hN : N.Ok) (b r : Nat) (hb : b ≤ 16) (hr : r ≤ 8) : (V.upR N b r).length ≤ 5712 := by
 have h1 := upB_len N hN b hb
 have := flatMap_le (fun r : Nat => R.all N (b : Nat) (r : Nat)) 42 (List.range r) (fun r _ => rall_len N hN _ _)
 rw [List.length_range] at this
 unfold V.upR
 rw [List.length_append]; omega
theorem upI_len (N : Nand) (hN : N.Ok) (b r i : Nat) (hb : b ≤ 16) (hr : r ≤ 8) : (V.upI N b r i).length ≤ 5754 := by
 have h1 := upR_len N hN b r hb hr
 have := rall_len N hN b r
 unfold V.upI
 rw [List.length_append, List.length_take]; omega
theorem upB_bd (N : Nand) (b : Nat) : ∀ f ∈ V.upB N b, EnBd f.en := by
 intro f h
 unfold V.upB at h
 rw [List.mem_flatMap] at h
 obtain ⟨_, _, h⟩ := h
 rw [List.mem_flatMap] at h
 obtain ⟨_, _, h⟩ := h
 exact (fnd_bd h).2.2
theorem upR_bd (N : Nand) (b r : Nat) : ∀ f ∈ V.upR N b r, EnBd f.en := by
 intro f h
 unfold V.upR at h
 rw [List.mem_append] at h
 rcases h with h | h
 ·exact upB_bd N b f h
 ·rw [List.mem_flatMap] at h
  obtain ⟨_, _, h⟩ := h
  exact (fnd_bd h).2.2
theorem upI_bd (N : Nand) (b r i : Nat) : ∀ f ∈ V.upI N b r i, EnBd f.en := by
 intro f h
 unfold V.upI at h
 rw [List.mem_append] at h
 rcases h with h | h
 ·exact upR_bd N b r f h
 ·exact (fnd_bd (List.mem_of_mem_take h)).2.2
theorem Sep.ofAll {L : List Atom} {h : Hl} (hL : ∀ A ∈ L, ∀ h, A.sat h) : Sep L h := ⟨fun _ => 0, fun i A hA => hL A (List.mem_of_getElem? hA) _⟩
def svL (q : Nat) (torn : Value) (first : Int) (held : Value) (next pages : Int) : List Value := [.pointer (some ⟨q, 0, none⟩), torn, .int .i64 first, held, .int .i64 next, .int .i64 pages]
def svV (q : Nat) (S : Scd) (a1 : Option Nat) (c1 : Nat) (a2 : Option Nat) (c2 : Nat) : Value := .agg (svL q (slv a1 S.torn.length c1) S.first (slv a2 S.held.length c2) S.next S.pages).toArray
def sv0 (q : Nat) (L : List Fnd) : List Value := svL q (.slice none 0 0) 0 (.slice none 0 0) (V.nextOf L) L.length
theorem flat_single {α : Type} (x : α) : ∀ n : Nat, (List.replicate n [x]).flatten = List.replicate n x
 | 0 => rfl
 | n + 1 => by rw [List.replicate_succ, List.replicate_succ, List.flatten_cons, flat_single x n]; rfl
theorem hdrs_zero (m : Nat) : (List.replicate m [Value.slice none 0 0]).flatten = hdrs (List.replicate m ⟨none, 0, []⟩) := by
 rw [flat_single]; unfold hdrs; rw [List.map_replicate]; rfl
theorem hdrs_getI {Z : List FSlot} {k : Int} {z : FSlot} (h : Z[k.toNat]? = some z) : (hdrs Z)[0 + k.toNat * 1]? = some z.hdr := by
 rw [show 0 + k.toNat * 1 = k.toNat from by omega, hdrs, List.getElem?_map, h]; rfl
theorem max_if (a b : Int) : (if b > a then b else a) = max a b := by split <;> omega
theorem cellsI_app (l m : List Int) : cellsI l ++ cellsI m = cellsI (l ++ m) := by simp [cellsI]
theorem cellsE_app (l m : List En) : cellsE l ++ cellsE m = cellsE (l ++ m) := by simp [cellsE]
theorem cellsI_one (l : List Int) : ∀ u ∈ cellsI l, u.oneCell' = true := by
 intro u hu
 simp only [cellsI, List.mem_map] at hu
 obtain ⟨x, _, rfl⟩ := hu
 rfl
theorem v_Scan (p : Nat) (N : Nand) (hN : N.Ok) (hR : N.Room) (hoff : N.off = false) (n : Int) : Fn Tryz.prog 134 [.pointer (some ⟨p, 0, none⟩), .int .i64 n] [NandA p N]
  (fun v As => ∃ q a1 c1 a2 c2, v = .tuple #[svV q (V.scan N n) a1 c1 a2 c2, .int .i64 0] ∧ As = [NandA p N, TbA q (V.scan N n).tb, ownA 38 19 a1 (V.scan N n).torn.length c1 (cellsE (V.scan N n).torn), ownA 3 1 a2 (V.scan N n).held.length c2 (cellsI (V.scan N n).held)]) := by
 have hbd := hN.bd
 refine Fn.enter [2, 0] Tryz.func134 rfl rfl rfl fun X F hX => ?_
 refine J.q hX fun br => ?_
 refine J.cF ?_
 refine J.q hX fun b2 => ?_
 refine J.cb hX (n_Power p N) [1] ?_
 refine cpq ⟨_, rfl, trivial, ?_⟩
 rw [hoff]
 refine J.q hX fun b4 => ?_
 refine J.cF ?_
 refine J.q hX fun b5 => ?_
 refine J.cb hX (tb_New n) [] ?_
 rintro v As ⟨q, rfl, rfl⟩
 refine ⟨_, rfl, trivial, ?_⟩
 refine J.qn hX 11 fun bo => ?_
 rw [tb_mm]
 obtain ⟨m, hm⟩ : ∃ m : Nat, min (max n 0) 65536 = (m : Int) := ⟨(min (max n 0) 65536).toNat, by omega⟩
 have hms : V.size n = m := by unfold V.size; omega
 have hm1 : m ≤ 65536 := by omega
 rw [hm]
 refine J.makeMany hX tk 6 rfl rfl rfl rfl rfl rfl rfl rfl rfl rfl rfl ?_ ?_ (fun _ => rfl) (fun _ => rfl) fun g => ⟨trivial, ?_⟩
 ·simp only [maxLen]; omega
 ·omega
 rw [hdrs_zero]
 refine J.q hX fun bs => ?_
 refine J.turn1 [] rfl (As := [.hp (HP.of (fats (List.replicate m ⟨none, 0, []⟩)))]) (fun h s => Sep.hpOf.2 (Sep.ofAll fun A hA h => by
  unfold fats at hA
  rw [List.map_replicate, List.mem_replicate] at hA
  rw [hA.2]
  exact ⟨rfl, rfl, rfl⟩)) rfl ?_
 refine J.q hX fun b7 => ?_
 refine J.cb hX (n_Geo p N) [1] ?_
 refine cpq ⟨_, rfl, trivial, ?_⟩
 refine J.q hX fun b8 => ?_
 refine J.lo (α := (Nat × List FSlot)) (fun z => z.1 ≤ N.blocks ∧ FOk m (V.upB N z.1) z.2) (fun z => [⟨38, .int .i64 z.1, 0, .tt⟩, ⟨37, .int .i64 N.blocks, 0, .tt⟩, ⟨0, .pointer (some ⟨p, 0, none⟩), 2, .tt⟩, ⟨4, .pointer (some ⟨br 0, 0, none⟩), 3, .tt⟩, ⟨6, .pointer (some ⟨bo 0, 0, none⟩), 5, .tt⟩, ⟨7, .pointer (some ⟨bs 0, 0, none⟩), 7, .tt⟩]) [4, 5, 7] (fun z => [.pt (bo 0) 177 (sv0 q (V.upB N z.1)), .pt g 139 (hdrs z.2), .hp (HP.of (fats z.2))]) (fun z => N.blocks - z.1) ((0, List.replicate m ⟨none, 0, []⟩)) (⟨Nat.zero_le _, FOk.zero m⟩) rfl ?_ (fun _ => rfl) fun z hI => ?_
 ·rfl
 obtain ⟨b, Z⟩ := z
 dsimp only at hI ⊢
 obtain ⟨hb, hZ⟩ := hI
 refine J.q hX fun b9 => ?_
 refine J.cond rfl (fun h1 => ?_) (fun h1 => ?_)
 ·simp only [decide_eq_true_eq, Int.ofNat_lt] at h1
  refine J.q hX fun b10 => ?_
  refine J.cb hX (n_Geo p N) [1] ?_
  refine cpq ⟨_, rfl, trivial, ?_⟩
  rw [← V.upR_zero] at hZ
  rw [← V.upR_zero]
  refine J.q hX fun b12 => ?_
  refine J.lo (α := (Nat × List FSlot)) (fun z => z.1 ≤ N.pages ∧ FOk m (V.upR N b z.1) z.2) (fun z => [⟨44, .int .i64 z.1, 0, .tt⟩, ⟨43, .int .i64 N.pages, 0, .tt⟩, ⟨8, .int .i64 b, 0, .tt⟩, ⟨38, .int .i64 b, 0, .tt⟩, ⟨37, .int .i64 N.blocks, 0, .tt⟩, ⟨0, .pointer (some ⟨p, 0, none⟩), 2, .tt⟩, ⟨4, .pointer (some ⟨br 0, 0, none⟩), 3, .tt⟩, ⟨6, .pointer (some ⟨bo 0, 0, none⟩), 5, .tt⟩, ⟨7, .pointer (some ⟨bs 0, 0, none⟩), 7, .tt⟩]) [4, 5, 7] (fun z => [.pt (bo 0) 177 (sv0 q (V.upR N b z.1)), .pt g 139 (hdrs z.2), .hp (HP.of (fats z.2))]) (fun z => N.pages - z.1) ((0, Z)) (⟨Nat.zero_le _, hZ⟩) rfl ?_ (fun _ => rfl) fun z hI => ?_
  ·rfl
  clear hZ Z
  obtain ⟨r, Z⟩ := z
  dsimp only at hI ⊢
  obtain ⟨hr, hZ⟩ := hI
  refine J.q hX fun b13 => ?_
  refine J.cond rfl (fun h2 => ?_) (fun h2 => ?_)
  ·simp only [decide_eq_true_eq, Int.ofNat_lt] at h2
   refine J.q hX fun b14 => ?_
   refine J.cb hX (r_All p N hN hR b r) [1] ?_
   rintro v As ⟨al, cl, rfl, rfl⟩
   refine ⟨_, rfl, trivial, ?_⟩
   rw [← V.upI_zero] at hZ
   rw [← V.upI_zero]
   refine J.q hX fun b16 => ?_
   refine J.lo (α := (Nat × List FSlot)) (fun z => z.1 ≤ (R.all N b r).length ∧ FOk m (V.upI N b r z.1) z.2) (fun z => [⟨52, .int .i64 z.1, 0, .tt⟩, ⟨51, .int .i64 (R.all N b r).length, 0, .tt⟩, ⟨50, slv al (R.all N b r).length cl, 0, .tt⟩, ⟨9, .int .i64 r, 0, .tt⟩, ⟨44, .int .i64 r, 0, .tt⟩, ⟨43, .int .i64 N.pages, 0, .tt⟩, ⟨8, .int .i64 b, 0, .tt⟩, ⟨38, .int .i64 b, 0, .tt⟩, ⟨37, .int .i64 N.blocks, 0, .tt⟩, ⟨0, .pointer (some ⟨p, 0, none⟩), 2, .tt⟩, ⟨4, .pointer (some ⟨br 0, 0, none⟩), 3, .tt⟩, ⟨6, .pointer (some ⟨bo 0, 0, none⟩), 5, .tt⟩, ⟨7, .pointer (some ⟨bs 0, 0, none⟩), 7, .tt⟩]) [4, 5, 7] (fun z => [.pt (bo 0) 177 (sv0 q (V.upI N b r z.1)), .pt g 139 (hdrs z.2), .hp (HP.of (fats z.2))]) (fun z => (R.all N b r).length - z.1) ((0, Z)) (⟨Nat.zero_le _, hZ⟩) rfl ?_ (fun _ => rfl) fun z hI => ?_
   ·rfl
   clear hZ Z
   obtain ⟨i, Z⟩ := z
   dsimp only at hI ⊢
   obtain ⟨hi, hZ⟩ := hI
   refine J.q hX fun b17 => ?_
   refine J.cond rfl (fun h3 => ?_) (fun h3 => ?_)
   ·simp only [decide_eq_true_eq, Int.ofNat_lt] at h3
    obtain ⟨x, hx⟩ : ∃ x, (R.all N b r)[i]? = some x := ⟨_, List.getElem?_eq_getElem h3⟩
    have hup := V.upI_succ hx
    have hrl := rall_len N hN b r
    have hxb := (fnd_bd (List.mem_of_getElem? hx)).2.2
    have hul := upI_len N hN b r i (by omega) (by omega)
    have hnb := V.nextOf_bd (upI_bd N b r i)
    refine J.know (fun h' s => own_some (c := (al, cl)) (by omega) (s.get (i := 8) rfl)) fun hg => ?_
    obtain ⟨gl, rfl⟩ := hg
    refine J.q hX fun b18 => ?_
    refine J.val hX (fdV x) 0 rfl rfl (fun hg a w he hs => ?_) rfl trivial ?_
    ·exact ownN_run tk rfl rfl he rfl rfl rfl (hs.get (i := 8) rfl) (by rw [show 0 + (i : Int).toNat * 25 = i * 25 from by omega]; exact cellsF_get hx) rfl
    unfold EnBd at hxb
    refine J.q hX fun bf => ?_
    have hn1 : V.nextOf (V.upI N b r (i + 1)) = max (V.nextOf (V.upI N b r i)) (x.en.seq + 1) := by rw [hup, V.nextOf_snoc]
    have hn2 : ((V.upI N b r i).length : Int) + 1 = ((V.upI N b r (i + 1)).length : Int) := by rw [hup, List.length_append]; rfl
    rw [max_if, ← hn1, hn2]
    refine J.q hX fun b19 => ?_
    refine J.plan (.of [0,4,9,12,16,20,25,28,32]) [] [6, 9] (by rw [hX.hP]; kernel_rfl) (by kernel_rfl) ?_
    refine J.q hX fun b20 => ?_
    refine J.cond rfl (fun h4 => ?_) (fun h4 => ?_)
    ·simp only [decide_eq_true_eq] at h4
     obtain ⟨z, hz, hzl⟩ := hZ.get (k := x.en.lpn.toNat) (by omega)
     have hzle := hZ.le hz
     have hZl := hZ.len
     refine J.openAt 7 x.en.lpn.toNat rfl rfl (fats_get hz) rfl ?_
     refine J.q hX fun b22 => ?_
     refine J.plan (.of [0,4,8,13,16,20,25,28,32,36,41,44,48,53,56,61,65,70,74,76,83]) [19,20] [5,6,9] (by rw [hX.hP]; kernel_rfl) (by kernel_rfl) ?_
     refine J.qn hX 15 fun b23 => ?_
     refine J.valT hX z.hdr 0 rfl rfl (fun hg a w he hC => load1_run tk rfl rfl he rfl rfl rfl (hC rfl _ (cget_mem (i := 5) rfl)) (hdrs_getI hz)) rfl ?_
     refine J.q hX fun b24 => ?_
     refine J.append hX tk 10 11 0 rfl rfl rfl rfl rfl rfl rfl rfl rfl rfl rfl rfl rfl rfl rfl rfl ?_ ?_ (fun _ => rfl) fun a' c' => ⟨_, (congrArg (fun y => lset _ 10 (ownA _ _ _ _ _ y)) (cellsF_snoc z.l x).symm).trans rfl, ⟨rfl, rfl, rfl, trivial⟩, ?_⟩
     ·simp only [maxLen]; omega
     ·omega
     rw [show z.l.length + 1 = (z.l ++ [x]).length from by simp]
     refine J.q hX fun b25 => ?_
     have hhit := hZ.hit (x := x) (k := x.en.lpn.toNat) (by omega) hz (z' := ⟨a', c', z.l ++ [x]⟩) rfl
     refine J.store1 hX tk 5 rfl rfl rfl rfl rfl rfl rfl rfl rfl rfl rfl rfl rfl ?_ (hdrs (Z.set x.en.lpn.toNat ⟨a', c', z.l ++ [x]⟩)) ?_ rfl (fun _ => rfl) ⟨(by first | exact trivial | (repeat' (first | exact trivial | refine ⟨rfl, ?_⟩))), ?_⟩
     ·rw [show (hdrs Z).length = Z.length from by simp [hdrs]]; omega
     ·rw [show 0 + x.en.lpn.toNat * 1 = x.en.lpn.toNat from by omega]; exact hdrs_set Z _ ⟨a', c', z.l ++ [x]⟩
     refine J.closeAt (A := (FSlot.mk a' c' (z.l ++ [x])).atom) 7 10 x.en.lpn.toNat rfl rfl rfl ?_
     rw [fats_set]
     refine J.q hX fun b26 => ?_
     refine J.nS ((i + 1, Z.set x.en.lpn.toNat ⟨a', c', z.l ++ [x]⟩)) (⟨by dsimp only; omega, by dsimp only; rw [hup]; exact hhit⟩) (by dsimp only; omega) [0, 1, 2, 3, 4, 5, 6, 7, 8] rfl rfl
    ·simp only [decide_eq_false_iff_not] at h4
     have hmiss := hZ.miss (x := x) (by omega)
     refine J.q hX fun b27 => ?_
     refine J.nS ((i + 1, Z)) (⟨by dsimp only; omega, by dsimp only; rw [hup]; exact hmiss⟩) (by dsimp only; omega) [0, 1, 2, 3, 4, 5, 6, 7, 8] rfl rfl
   ·simp only [decide_eq_false_iff_not, Int.ofNat_lt] at h3
    obtain rfl : i = (R.all N b r).length := by omega
    rw [← V.upR_succ] at hZ
    rw [← V.upR_succ]
    refine J.q hX fun b28 => ?_
    refine J.nS ((r + 1, Z)) (⟨by dsimp only; omega, hZ⟩) (by dsimp only; omega) [0, 1, 2, 3, 4, 5, 6, 7] rfl rfl
  ·simp only [decide_eq_false_iff_not, Int.ofNat_lt] at h2
   obtain rfl : r = N.pages := by omega
   rw [← V.upB_succ] at hZ
   rw [← V.upB_succ]
   refine J.q hX fun b30 => ?_
   refine J.nS ((b + 1, Z)) (⟨by dsimp only; omega, hZ⟩) (by dsimp only; omega) [0, 1, 2, 3, 4, 5, 6, 7] rfl rfl
 simp only [decide_eq_false_iff_not, Int.ofNat_lt] at h1
 obtain rfl : b = N.blocks := by omega
 rw [V.upB_all] at hZ
 rw [V.upB_all]
 have hZl := hZ.len
 have hLb : ∀ f ∈ V.all N, EnBd f.en := fun f hf => (all_bd hf).2
 have hLl := all_len N hN
 subst hZl
 refine J.q hX fun b32 => ?_
 refine J.turn1 [] rfl (As := [ownA 38 19 none 0 0 (cellsE []), ownA 3 1 none 0 0 (cellsI []), ownA 38 19 none 0 0 (cellsE [])]) (fun h s => Sep.ofAll fun A hA h => by
  simp only [List.mem_cons, List.not_mem_nil, or_false] at hA
  rcases hA with rfl | rfl | rfl <;> exact ⟨rfl, rfl, rfl⟩) rfl ?_
 refine J.q hX fun b33 => ?_
 refine J.lo (α := (Nat × (Option Nat × Nat) × (Option Nat × Nat) × (Option Nat × Nat))) (fun z => z.1 ≤ Z.length) (fun z => [⟨105, .int .i64 z.1, 0, .tt⟩, ⟨104, .int .i64 Z.length, 0, .tt⟩, ⟨12, slv z.2.2.2.1 (V.goS N (V.all N) n z.1).others.length z.2.2.2.2, 0, .tt⟩, ⟨0, .pointer (some ⟨p, 0, none⟩), 2, .tt⟩, ⟨4, .pointer (some ⟨br 0, 0, none⟩), 3, .tt⟩, ⟨6, .pointer (some ⟨bo 0, 0, none⟩), 5, .tt⟩, ⟨7, .pointer (some ⟨bs 0, 0, none⟩), 7, .tt⟩]) [3, 4, 8, 9, 10] (fun z => [TbA q (V.goS N (V.all N) n z.1).tb, .pt (bo 0) 177 (svL q (slv z.2.1.1 (V.goS N (V.all N) n z.1).torn.length z.2.1.2) 0 (slv z.2.2.1.1 (V.goS N (V.all N) n z.1).held.length z.2.2.1.2) (V.nextOf (V.all N)) (V.all N).length), ownA 38 19 z.2.1.1 (V.goS N (V.all N) n z.1).torn.length z.2.1.2 (cellsE (V.goS N (V.all N) n z.1).torn), ownA 3 1 z.2.2.1.1 (V.goS N (V.all N) n z.1).held.length z.2.2.1.2 (cellsI (V.goS N (V.all N) n z.1).held), ownA 38 19 z.2.2.2.1 (V.goS N (V.all N) n z.1).others.length z.2.2.2.2 (cellsE (V.goS N (V.all N) n z.1).others)]) (fun z => Z.length - z.1) ((0, (none, 0), (none, 0), (none, 0))) (Nat.zero_le _) rfl ?_ (fun _ => rfl) fun z hI => ?_
 ·rfl
 obtain ⟨k, ⟨a1, c1⟩, ⟨a2, c2⟩, ⟨a3, c3⟩⟩ := z
 dsimp only at hI ⊢
 have hgl := V.goS_len N (V.all N) n k
 have hgh := V.goS_held N (V.all N) n k
 refine J.q hX fun b34 => ?_
 refine J.cond rfl (fun h2 => ?_) (fun h2 => ?_)
 ·simp only [decide_eq_true_eq, Int.ofNat_lt] at h2
  obtain ⟨z, hz, hzl⟩ := hZ.get (k := k) h2
  have hzle := hZ.le hz
  have hstep := V.goS_succ N (V.all N) n k
  have hok := V.goS_ok N (V.all N) n k
  have hhl := V.holds_len (V.of (V.all N) k)
  have hol := V.of_len (V.all N) k
  have hsm := V.standOf_mem (l := V.of (V.all N) k)
  generalize hS : V.goS N (V.all N) n k = S at hgl hgh hstep hok
  refine J.q hX fun b35 => ?_
  refine J.cb hX (v_stands (bs 0) p g Z k z hz (by omega) (by omega)) [6, 5, 7] ?_
  refine cpq ⟨_, rfl, trivial, ?_⟩
  rw [hzl]
  unfold V.step at hstep
  obtain ⟨f, is, hs⟩ : ∃ f is, V.standOf (V.of (V.all N) k) = (f, is) := ⟨_, _, rfl⟩
  rw [hs] at hsm hstep ⊢
  dsimp only at hsm hstep ⊢
  refine J.q hX fun bf => ?_
  refine J.cond rfl (fun h3 => ?_) (fun h3 => ?_)
  ·simp only [Bool.not_eq_true'] at h3
   subst h3
   rw [if_neg Bool.false_ne_true] at hstep
   rw [← hstep]
   refine J.q hX fun b38 => ?_
   refine J.nS ((k + 1, (a1, c1), (a2, c2), (a3, c3))) (by dsimp only; omega) (by dsimp only; omega) [0, 1, 2, 3, 4, 5, 6, 7, 8, 9, 10] rfl rfl
  simp only [Bool.not_eq_false'] at h3
  subst h3
  rw [if_pos rfl] at hstep
  have hfm : f ∈ V.all N := by have := hsm rfl; unfold V.of at this; exact (List.mem_filter.1 this).1
  obtain ⟨⟨r0, hr0, hr1⟩, hfb⟩ := all_bd hfm
  unfold EnBd at hfb
  refine J.q hX fun b40 => ?_
  refine J.cb hX (tb_Put q S.tb f.en f.block f.row f.slot f.mask (by omega) hok.bd) [3] ?_
  refine cpq ⟨_, rfl, trivial, ?_⟩
  refine J.q hX fun b42 => ?_
  refine J.cond rfl (fun h4 => ?_) (fun h4 => ?_)
  ·rw [if_pos h4] at hstep
   have e1 := congrArg Sst.tb hstep
   have e2 := congrArg Sst.torn hstep
   have e3 := congrArg Sst.held hstep
   have e4 := congrArg Sst.others hstep
   dsimp only at e1 e2 e3 e4
   rw [← e1, ← e2, ← e3, ← e4]
   refine J.q hX fun b43 => ?_
   refine J.nS ((k + 1, (a1, c1), (a2, c2), (a3, c3))) (by dsimp only; omega) (by dsimp only; omega) [0, 1, 2, 3, 4, 5, 6, 7, 8, 9, 10] rfl rfl
  rw [if_neg (by rw [h4]; exact Bool.false_ne_true)] at hstep
  refine J.q hX fun b45 => ?_
  refine J.cb hX (v_last p N hN hR (bs 0) (.slice (some ⟨g, 0, none⟩) Z.length Z.length) f r0 hr0 (by omega)) [1, 6] ?_
  refine cpq ⟨_, rfl, trivial, ?_⟩
  refine J.q hX fun b47 => ?_
  refine J.cond rfl (fun h5 => ?_) (fun h5 => ?_)
  ·rw [if_pos h5] at hstep
   have e1 := congrArg Sst.tb hstep
   have e2 := congrArg Sst.torn hstep
   have e3 := congrArg Sst.held hstep
   have e4 := congrArg Sst.others hstep
   dsimp only at e1 e2 e3 e4
   refine J.q hX fun b48 => ?_
   refine J.append hX tk 8 12 0 rfl rfl rfl rfl rfl rfl rfl rfl rfl rfl rfl rfl rfl rfl rfl rfl ?_ ?_ (fun _ => rfl) fun a4 c4 => ⟨_, (congrArg (fun y => lset _ 8 (ownA _ _ _ _ _ y)) (cellsE_snoc S.torn f.en)).trans rfl, trivial, ?_⟩
   ·simp only [maxLen]; omega
   ·omega
   rw [show S.torn.length + 1 = (S.torn ++ [f.en]).length from by simp]
   refine J.q hX fun b49 => ?_
   refine J.plan (.of [0,5,8,12,18,23,24,31]) [5,6,7] [4] (by rw [hX.hP]; kernel_rfl) (by kernel_rfl) ?_
   refine J.q hX fun b50 => ?_
   refine J.cb hX (v_holds (bs 0) p g Z k z hz (by omega) (by omega)) [6, 5, 7] ?_
   rintro v As ⟨a5, c5, rfl, rfl⟩
   refine ⟨_, rfl, (by first | exact trivial | (repeat' (first | exact trivial | refine ⟨rfl, ?_⟩))), ?_⟩
   rw [hzl]
   refine J.q hX fun b52 => ?_
   refine J.appendO hX tk 9 13 rfl rfl rfl rfl rfl rfl rfl rfl rfl rfl rfl rfl rfl (cellsI_one _) ?_ ?_ (fun _ => rfl) fun a6 c6 => ⟨_, (congrArg (fun y => lset _ 9 (ownA _ _ _ _ _ y)) (cellsI_app S.held (V.holds (V.of (V.all N) k)))).trans rfl, (by first | exact trivial | (repeat' (first | exact trivial | refine ⟨rfl, ?_⟩))), ?_⟩
   ·simp only [maxLen]; omega
   ·omega
   rw [show S.held.length + (V.holds (V.of (V.all N) k)).length = (S.held ++ V.holds (V.of (V.all N) k)).length from by simp]
   rw [← e1, ← e2, ← e3, ← e4]
   refine J.q hX fun b53 => ?_
   refine J.nS ((k + 1, (a4, c4), (a6, c6), (a3, c3))) (by dsimp only; omega) (by dsimp only; omega) [0, 1, 2, 3, 4, 5, 6, 7, 8, 9, 10] rfl rfl
  ·rw [if_neg (by rw [h5]; exact Bool.false_ne_true)] at hstep
   have e1 := congrArg Sst.tb hstep
   have e2 := congrArg Sst.torn hstep
   have e3 := congrArg Sst.held hstep
   have e4 := congrArg Sst.others hstep
   dsimp only at e1 e2 e3 e4
   refine J.q hX fun b55 => ?_
   refine J.append hX tk 10 12 0 rfl rfl rfl rfl rfl rfl rfl rfl rfl rfl rfl rfl rfl rfl rfl rfl ?_ ?_ (fun _ => rfl) fun a4 c4 => ⟨_, (congrArg (fun y => lset _ 10 (ownA _ _ _ _ _ y)) (cellsE_snoc S.others f.en)).trans rfl, trivial, ?_⟩
   ·simp only [maxLen]; omega
   ·omega
   rw [show S.others.length + 1 = (S.others ++ [f.en]).length from by simp]
   rw [← e1, ← e2, ← e3, ← e4]
   refine J.q hX fun b56 => ?_
   refine J.nS ((k + 1, (a1, c1), (a2, c2), (a4, c4))) (by dsimp only; omega) (by dsimp only; omega) [0, 1, 2, 3, 4, 5, 6, 7, 8, 9, 10] rfl rfl
 simp only [decide_eq_false_iff_not, Int.ofNat_lt] at h2
 obtain rfl : k = Z.length := by omega
 have hsc : V.scan N n = ⟨(V.goS N (V.all N) n Z.length).tb, (V.goS N (V.all N) n Z.length).torn ++ (V.goS N (V.all N) n Z.length).others, (V.goS N (V.all N) n Z.length).torn.length, compactI (sortI (V.goS N (V.all N) n Z.length).held), V.nextOf (V.all N), (V.all N).length⟩ := by
  unfold V.scan V.scanOf; rw [hms]
 generalize V.goS N (V.all N) n Z.length = S at hgl hgh hsc
 refine J.q hX fun b58 => ?_
 refine J.appendO hX tk 8 10 rfl rfl rfl rfl rfl rfl rfl rfl rfl rfl rfl rfl rfl (cellsE_one _) ?_ ?_ (fun _ => rfl) fun a6 c6 => ⟨_, (congrArg (fun y => lset _ 8 (ownA _ _ _ _ _ y)) (cellsE_app S.torn S.others)).trans rfl, (by first | exact trivial | (repeat' (first | exact trivial | refine ⟨rfl, ?_⟩))), ?_⟩
 ·simp only [maxLen]; omega
 ·omega
 rw [show S.torn.length + S.others.length = (S.torn ++ S.others).length from by simp]
 refine J.q hX fun b59 => ?_
 refine J.cb hX (x_SortN a2 S.held.length c2 S.held rfl (by omega)) [9] ?_
 refine cpq ⟨_, rfl, trivial, ?_⟩
 refine J.q hX fun b61 => ?_
 refine J.ca hX (by kernel_rfl) (x_Compact a2 S.held.length c2 (sortI S.held) (sortI_len _) (by omega)) [9] 0 rfl rfl rfl rfl rfl rfl (fun _ => rfl) ?_
 rintro v As ⟨l', hl', rfl, rfl⟩
 refine ⟨_, rfl, trivial, ?_⟩
 refine J.q hX fun b63 => ?_
 refine J.ru hX [1, 3, 8, 9] ?_
 rw [hsc, ← hl']
 exact ⟨q, a6, c6, a2, c2, rfl, rfl⟩
namespace B16
def e1 : En := ⟨2, 5, 1, 1 :: List.replicate 15 0⟩
def e2 : En := ⟨2, 4, 1, 2 :: List.replicate 15 0⟩
def e3 : En := ⟨1, 8, 2, zeros16⟩
def w1 : En := ⟨4, 1, 0, zeros16⟩
def w2 : En := ⟨5, 2, 0, zeros16⟩
def w3 : En := ⟨4, 3, 0, zeros16⟩
def N0 : Nand := Nand.new 3 8 2
def N1 : Nand := (R.write N0 1 0 7 [e1, B9.pad]).1
def N2 : Nand := (R.write N1 2 0 7 [e2, e3]).1
theorem G0 : N0.Gd 100 0 := Nand.Gd.new 3 8 2 rfl 100 (by decide)
theorem G1 : N1.Gd 92 0 := write_Gd (by decide) G0
theorem G2 : N2.Gd 84 0 := write_Gd (by decide) G1
theorem off2 : N2.off = false := by kernel_rfl
def L : List Fnd := [⟨e1, 1, 0, 0, 7, true, false⟩, ⟨e2, 2, 0, 0, 7, true, false⟩, ⟨e3, 2, 0, 1, 7, true, false⟩]
def T : Tb := ⟨3, [(1, ⟨2, 0, 1, 7, 8, 2⟩), (2, ⟨1, 0, 0, 7, 5, 1⟩)], [(2, 1), (1, 1)], 9⟩
theorem h_all : V.all N2 = L := by kernel_rfl
theorem h_go : V.goS N2 L 3 3 = ⟨T, [], [], []⟩ := by kernel_rfl
theorem h_size : V.size 3 = 3 := by kernel_rfl
theorem h_next : V.nextOf L = 9 := by kernel_rfl
theorem h_scan : V.scan N2 3 = ⟨T, [], 0, [], 9, 3⟩ := by
 unfold V.scan
 rw [h_all]
 unfold V.scanOf
 rw [h_size, h_go, h_next]
 have : compactI (sortI []) = [] := normI_nil
 dsimp only
 rw [this]
 rfl
end B16
end Go.Proofs.YtdocmcapegcoeaaGreat
namespace Go.Proofs.YtdocmcapegcoeaaGreat
open Go Go.RowKit
theorem l11_Begun : Fn Tryz.prog 139 [] [] (fun v As => v = .bool true ∧ As = []) := by
 refine Fn.enter [] Tryz.func139 rfl rfl rfl fun X F hX => ?_
 refine J.q hX fun b1 => ?_
 refine J.cb hX (l11_begun) [] ?_
 refine cpq ⟨_, rfl, trivial, ?_⟩
 refine J.q hX fun b3 => ?_
 exact J.ru hX [] ⟨rfl, rfl⟩
open B16
theorem l16_begun : Fn Tryz.prog 99 [] [] (fun v As => v = .bool true ∧ As = []) := by
 refine Fn.enter [] Tryz.func99 rfl rfl rfl fun X F hX => ?_
 refine J.q hX fun b4 => ?_
 refine J.cb hX (n_New 3 8 2 rfl) [] ?_
 rintro v As ⟨q, rfl, rfl⟩
 refine ⟨_, rfl, trivial, ?_⟩
 refine J.q hX fun b6 => ?_
 refine J.cF ?_
 refine J.q hX fun bx => ?_
 refine J.ca hX (by kernel_rfl) (r_Write q N0 (.pt (bx 0) 38 (cellsE [e1, B9.pad])) 1 0 7 (some ⟨bx 0, 0, none⟩) 2 2 0 [e1, B9.pad] (pt_rd _ _ _ _ _ rfl) rfl (by decide) (G0.less (by decide) (Nat.le_refl _))) [1, 2] 0 rfl rfl rfl rfl rfl rfl (fun _ => rfl) ?_
 refine cpq ⟨_, rfl, trivial, ?_⟩
 refine J.q hX fun by_ => ?_
 refine J.ca hX (by kernel_rfl) (r_Write q N1 (.pt (by_ 0) 38 (cellsE [e2, e3])) 2 0 7 (some ⟨by_ 0, 0, none⟩) 2 2 0 [e2, e3] (pt_rd _ _ _ _ _ rfl) rfl (by decide) (G1.less (by decide) (Nat.le_refl _))) [1, 3] 0 rfl rfl rfl rfl rfl rfl (fun _ => rfl) ?_
 refine cpq ⟨_, rfl, trivial, ?_⟩
 refine J.q hX fun b9 => ?_
 refine J.cb hX (v_Scan q N2 G2.ok G2.room off2 3) [1] ?_
 rintro v As ⟨r, a1, c1, a2, c2, rfl, rfl⟩
 refine ⟨_, rfl, trivial, ?_⟩
 rw [h_scan]
 refine J.q hX fun b11 => ?_
 refine J.cF ?_
 refine J.q hX fun b13 => ?_
 refine J.cb hX (tb_Get r T 2) [4] ?_
 refine cpq ⟨_, rfl, trivial, ?_⟩
 rw [show Tb.look T.at_ 2 = some ⟨1, 0, 0, 7, 5, 1⟩ from rfl, Option.getD_some, Option.isSome_some]
 refine J.q hX fun b15 => ?_
 refine J.cb hX (d_New) [] ?_
 rintro v As ⟨d, rfl, rfl⟩
 refine ⟨_, rfl, trivial, ?_⟩
 refine J.q hX fun b17 => ?_
 refine J.cb hX (d_Put d [] (by decide) w1) [9] ?_
 refine cpq ⟨_, rfl, trivial, ?_⟩
 rw [show dkPut [] w1 = [w1] from rfl]
 refine J.q hX fun b19 => ?_
 refine J.cb hX (d_Put d [w1] (by decide) w2) [9] ?_
 refine cpq ⟨_, rfl, trivial, ?_⟩
 rw [show dkPut [w1] w2 = [w1, w2] from rfl]
 refine J.q hX fun b21 => ?_
 refine J.cb hX (d_Put d [w1, w2] (by decide) w3) [9] ?_
 refine cpq ⟨_, rfl, trivial, ?_⟩
 rw [show dkPut [w1, w2] w3 = [w2, w3] from rfl]
 refine J.q hX fun b23 => ?_
 refine J.cb hX (d_First d [w2, w3] (by decide) 5) [9] ?_
 rintro v As ⟨a3, c3, rfl, rfl⟩
 refine ⟨_, rfl, trivial, ?_⟩
 rw [show dkN [w2, w3] 5 = 2 from rfl, show [w2, w3].take 2 = [w2, w3] from rfl]
 refine J.know (fun h' s => own_some (c := (a3, c3)) (by decide) (s.get (i := 10) rfl)) fun hg => ?_
 obtain ⟨ga, rfl⟩ := hg
 refine J.know (fun h' s => ownP_cap (show ownP _ _ (some ga) 2 c3 _ _ from s.get (i := 10) rfl)) fun hcap => ?_
 refine J.q hX fun b25 => ?_
 refine J.cb hX (d_Get d [w2, w3] (by decide) 4) [9] ?_
 refine cpq ⟨_, rfl, trivial, ?_⟩
 rw [show dkGet [w2, w3] 4 = (w3, true) from rfl]
 refine J.q hX fun b27 => ?_
 refine J.cb hX (l11_Begun) [] ?_
 refine cpq ⟨_, rfl, trivial, ?_⟩
 refine J.q hX fun b29 => ?_
 refine J.cb hX (l13_Begun) [] ?_
 refine cpq ⟨_, rfl, trivial, ?_⟩
 refine J.q hX fun b31 => ?_
 refine J.cb hX (tb_Len r T) [4] ?_
 refine cpq ⟨_, rfl, trivial, ?_⟩
 refine J.q hX fun b33 => ?_
 refine J.val hX (.int .i64 5) 0 rfl rfl (fun hg a w he hw => own1_run tk rfl rfl he hg rfl rfl (hw.get (i := 10) rfl) rfl) rfl trivial ?_
 refine J.q hX fun b34 => ?_
 have hRd : Rd (ownA 38 19 (some ga) 2 c3 (cellsE [w2, w3])) (some ⟨ga, 0, none⟩) 19 1 (cellsE [w2]) := (own_rd 38 19 (some ga) 2 c3 (cellsE [w2, w3])).take 1 (by decide)
 refine J.q hX fun b35 => ?_
 refine J.cb hX (d_Done d [w2, w3] (by decide) (ownA 38 19 (some ga) 2 c3 (cellsE [w2, w3])) (some ⟨ga, 0, none⟩) 1 c3 [w2] hRd rfl (by decide)) [9, 10] ?_
 refine cpq ⟨_, rfl, trivial, ?_⟩
 rw [show dkDone [w2, w3] [w2] = [w3] from rfl]
 refine J.q hX fun b36 => ?_
 refine J.cb hX (d_Len d [w3]) [9] ?_
 refine cpq ⟨_, rfl, trivial, ?_⟩
 refine J.q hX fun b38 => ?_
 exact J.ru hX [] ⟨rfl, rfl⟩
end Go.Proofs.YtdocmcapegcoeaaGreat
namespace Go.Proofs.YtdocmcapegcoeaaGreat
end Go.Proofs.YtdocmcapegcoeaaGreat
namespace Go.Proofs.YtdocmcapegcoeaaGreat
open Go
namespace Bt
end Bt
namespace K
end K
namespace S
end S
end Go.Proofs.YtdocmcapegcoeaaGreat
namespace Go.Proofs.YtdocmcapegcoeaaGreat
open Go Go.RowKit
section
variable {P : Program} {T : Tab} {E : Env} {n : Nat} {ac : Act} {w : World}
end
theorem Rd.drop {A : Atom} {b o size n : Nat} {xs : List Value} (h : Rd A (some ⟨b, o, none⟩) size n xs) (k : Nat) (hk : k ≤ n) : Rd A (some ⟨b, o + k * size, none⟩) size (n - k) (xs.drop (k * size)) := by
 intro h' s
 obtain ⟨h0, h1⟩ := h h' s
 have hle : k * size ≤ n * size := Nat.mul_le_mul_right _ hk
 refine ⟨by rw [List.length_drop, h0, Nat.sub_mul], fun hk0 => ?_⟩
 obtain ⟨b', o', cs, ty, fr, e1, e2, e3⟩ := h1 (by omega)
 simp only [Option.some.injEq, Addr.mk.injEq, and_true] at e1
 obtain ⟨rfl, rfl⟩ := e1
 refine ⟨b, _, cs, ty, fr, rfl, e2, ?_⟩
 rw [← e3, List.drop_take, List.drop_drop, Nat.sub_mul]
section
variable {X : Cx} {P : Program} {T : Tab} {K : List KI} {E : Env} {L : List Atom} {N : Nat} {F : HP} {Post : Value → List Atom → Prop} {rs : List ResultVar}
end
namespace F9
end F9
namespace T2
end T2
end Go.Proofs.YtdocmcapegcoeaaGreat
namespace Go.Proofs.YtdocmcapegcoeaaGreat
open Go Go.RowKit
open Go.ChangeShapes Go.WideShapes
def frz (W : World) : Atom := .hp ⟨Hle (hl W), fun _ _ l s => s.trans l⟩
theorem frz_rd {W : World} {a : Option Addr} {size n : Nat} {xs : List Value} (h : rdP a size n xs (hl W)) : Rd (frz W) a size n xs := fun _ s => h.up s
theorem Fn.whole {P : Program} {f : FuncId} {args : List Value} {r : Value} {W : World} (h : Fn P f args [frz W] (fun v As => v = r ∧ As = [frz W])) : Calls P f args.toArray W fun e w' => e = .returned r ∧ Below W.heap.size W w' := by
 have hs : Sep (.hp ⟨fun _ => True, fun _ _ _ s => s⟩ :: [frz W]) (hl W) := by
  refine ⟨fun _ => 1, fun i A hA => ?_⟩
  match i, hA with
  | 0, hA => simp at hA; subst hA; trivial
  | 1, hA =>
   simp at hA; subst hA
   intro b o hb
   exact res_some.2 ⟨rfl, hb⟩
  | i + 2, hA => simp at hA
 refine (h _ W hs).mono fun e w' ⟨v, As, e1, ⟨e2, e3⟩, s, x⟩ => ?_
 subst e2 e3
 have hle : Hle (hl W) (hl w') := s.get (i := 1) rfl
 refine ⟨e1, x.os, x.tape, x.output, x.size, fun k hk => ?_⟩
 have : W.heap[k]? = some W.heap[k] := Array.getElem?_eq_getElem hk
 rw [this]
 exact hle k _ this
theorem rd_none {size : Nat} {h : Hl} : rdP none size 0 [] h := ⟨by simp, fun h => absurd h (by omega)⟩
theorem rd_open {α : Type} {W : World} {base size n : Nat} {a : Addr} (f : α → List Value) (hsz : 0 < size)
  (h : ∀ i, i < n → ∃ x, W.cells? base (a.add (i * size)) size = some (f x)) : ∃ l : List α, l.length = n ∧ rdP (some a) size n (l.flatMap f) (hl W) := by
 have h1 : ∀ m, m ≤ n → ∃ l : List α, l.length = m ∧ (l.flatMap f).length = m * size ∧ ∀ i, i < m * size → W.cell? (a.add i) = (l.flatMap f)[i]? := by
  intro m
  induction m with
  | zero => exact fun _ => ⟨[], rfl, by simp, fun i hi => by omega⟩
  | succ m ih =>
   intro hm
   obtain ⟨l, e1, e2, e3⟩ := ih (by omega)
   obtain ⟨x, hx⟩ := h m (by omega)
   obtain ⟨_, q1, q2⟩ := World.cells?_some hx
   have hlen : ((l ++ [x]).flatMap f).length = (m + 1) * size := by simp [List.flatMap_append, e2, q1, Nat.succ_mul]
   refine ⟨l ++ [x], by simp [e1], hlen, fun i hi => ?_⟩
   rw [List.flatMap_append, List.getElem?_append, e2]
   split
   ·exact e3 i (by assumption)
   ·rename_i hge
    have := q2 (i - m * size) (by rw [Nat.succ_mul] at hi; omega)
    rw [Deep.add_add, show m * size + (i - m * size) = i by omega] at this
    rw [this]; simp
 obtain ⟨l, e1, e2, e3⟩ := h1 n (Nat.le_refl n)
 refine ⟨l, e1, e2, fun hn => ?_⟩
 obtain ⟨b, o, sp⟩ := a
 have hpos : 0 < n * size := Nat.mul_pos hn hsz
 have h0 := e3 0 hpos
 have hv : (l.flatMap f)[0]? = some ((l.flatMap f)[0]'(by omega)) := List.getElem?_eq_getElem _
 rw [hv] at h0
 have hsp : sp = none := by simpa [Addr.add] using World.cell?_spot h0
 subst hsp
 have hcell : ∀ i, W.cell? ⟨b, o + i, none⟩ = W.cell? ((⟨b, o, none⟩ : Addr).add i) := fun i => by rw [Addr.add_none]
 have hblk : ∃ cs ty fr, W.heap[b]? = some (.cells cs ty fr) := by
  unfold World.cell? at h0
  cases hh : W.heap[b]? with
  | none => simp [Addr.add, hh] at h0
  | some ob =>
   cases ob with
   | cells cs ty fr => exact ⟨cs, ty, fr, rfl⟩
   | _ => simp [Addr.add, hh] at h0
 obtain ⟨cs, ty, fr, hh⟩ := hblk
 refine ⟨b, o, cs, ty, fr, rfl, hh, ?_⟩
 apply List.ext_getElem?
 intro i
 rw [List.getElem?_take]
 split
 ·rename_i hi
  rw [← e3 i hi, ← hcell, cell_of_row W b (o + i) cs ty fr hh]
  simp
 ·rename_i hi
  exact (List.getElem?_eq_none (by omega)).symm
section
variable {H : Type} {enc : TypeId × Value → H} {w : World} {base : Nat} {spare : Nat → Bool} {held : Bool}
theorem one_i64 {t : TypeId} (ht : Tryz.prog.underlying t = some (.int .i64)) {fuel : Nat} {cs : List Value} {y : DataW H × List MemPlace} (h : DataW.trod enc Tryz.prog w base spare held fuel t cs = some y) : ∃ n, cs = [.int .i64 n] := by
 obtain ⟨n, rfl, _, _⟩ := DataW.trod_int ht h
 exact ⟨n, rfl⟩
end
end Go.Proofs.YtdocmcapegcoeaaGreat
namespace Go.Proofs.YtdocmcapegcoeaaGreat
open Go Go.RowKit
open Go.ChangeShapes Go.WideShapes Go.ChangeAt
section
variable {H : Type} {enc : TypeId × Value → H} {w : World} {base : Nat} {spare : Nat → Bool} {held : Bool}
theorem open_many {α : Type} {held' : Bool} {fuel : Nat} {st et : TypeId} {size : Nat} (f : α → List Value) (good : α → Prop) (hu : Tryz.prog.underlying st = some (.slice et)) (hc : Tryz.prog.cellsOf et = size) (hsz : 0 < size)
  (hof : ∀ {fuel : Nat} {held : Bool} {cs : List Value} {y : DataW H × List MemPlace}, DataW.trod enc Tryz.prog w base spare held fuel et cs = some y → ∃ x : α, good x ∧ cs = f x)
  {a : Option Addr} {len cap : Nat} {x : DataW H × List MemPlace} (h : DataW.trod enc Tryz.prog w base spare held' fuel st [.slice a len cap] = some x) :
  ∃ l : List α, l.length = len ∧ (∀ e ∈ l, good e) ∧ rdP a size len (l.flatMap f) (hl w) := by
 rcases Deep.open_slice hu h with ⟨hcs, _⟩ | ⟨a', len', cap', m, n, D, Pl, hcs, hb, hlc, hm, hmm, rfl, hx⟩
 ·simp at hcs
  obtain ⟨rfl, rfl, rfl⟩ := hcs
  exact ⟨[], rfl, fun _ h => by simp at h, rd_none⟩
 ·simp at hcs
  obtain ⟨rfl, rfl, rfl⟩ := hcs
  rw [hc] at hx
  obtain ⟨l, e1, e2⟩ := rd_open (W := w) (base := base) (size := size) (n := len) (a := a') (fun e : { e : α // good e } => f e.1) hsz (fun i hi => by
   obtain ⟨cs, q1, q2⟩ := hx i (by rw [hmm]; split <;> omega)
   obtain ⟨e, he, rfl⟩ := hof q2
   exact ⟨⟨e, he⟩, q1⟩)
  refine ⟨l.map (·.1), by simpa using e1, fun e he => ?_, ?_⟩
  ·obtain ⟨x, _, rfl⟩ := List.mem_map.1 he
   exact x.2
  ·rw [List.flatMap_map]
   exact e2
end
end Go.Proofs.YtdocmcapegcoeaaGreat
namespace Go.Proofs.YtdocmcapegcoeaaGreat
open Go Go.RowKit
open Go.ChangeShapes Go.WideShapes Go.ChangeAt
section
variable {H : Type} {enc : TypeId × Value → H} {w : World} {base : Nat} {spare : Nat → Bool} {held : Bool}
theorem int_of {fuel : Nat} {cs : List Value} {y : DataW H × List MemPlace} (h : DataW.trod enc Tryz.prog w base spare held fuel 3 cs = some y) : ∃ x : Int, (-9223372036854775808 ≤ x ∧ x ≤ 9223372036854775807) ∧ cs = [.int .i64 x] := by
 obtain ⟨n, rfl, _, hw⟩ := DataW.trod_int Tryz.underlying3 h
 refine ⟨n, ?_, rfl⟩
 simpa [Lit.wf, IntKind.min, IntKind.max, IntKind.signed, IntKind.bits] using hw
theorem open_ints {held' : Bool} {fuel : Nat} {a : Option Addr} {len cap : Nat} {x : DataW H × List MemPlace} (h : DataW.trod enc Tryz.prog w base spare held' fuel 24 [.slice a len cap] = some x) :
  ∃ l : List Int, l.length = len ∧ (∀ e ∈ l, -9223372036854775808 ≤ e ∧ e ≤ 9223372036854775807) ∧ rdP a 1 len (l.flatMap fun x => [.int .i64 x]) (hl w) :=
 open_many (fun x : Int => [.int .i64 x]) (fun x => -9223372036854775808 ≤ x ∧ x ≤ 9223372036854775807) Tryz.underlying24 (by kernel_rfl) (by decide) int_of h
end
end Go.Proofs.YtdocmcapegcoeaaGreat
namespace Go.Proofs.YtdocmcapegcoeaaGreat
open Go Go.RowKit
def rdA (a : Option Addr) (size n : Nat) (xs : List Value) : Atom := .hp ⟨rdP a size n xs, fun _ _ l s => s.up l⟩
theorem rdA_rd (a : Option Addr) (size n : Nat) (xs : List Value) : Rd (rdA a size n xs) a size n xs := fun _ s => s
def oad2 : Option (Nat × Nat) → Option Addr
 | some x => some ⟨x.1, x.2, none⟩
 | none => none
def cutA (a : Option (Nat × Nat)) (size h c : Nat) : Option (Nat × Nat) := match a with
 | some y => if c = h then some y else some (y.1, y.2 + h * size)
 | none => none
section
variable {P : Program} {T : Tab} {E : Env} {n : Nat} {ac : Act} {w : World}
theorem cutlo2_run (hT : TabOK P T) {o : Oper} {t e size : Nat} {x y : Operand} {k1 k2 t1 t2 : Nat} {g1 g2 : G} {a : Option (Nat × Nat)} {m c h : Nat} {kk : IntKind} {hI : Int} {s1 b1 b2 : Nat} {z1 z2 : List Value} {td : TD} (hop : o.op = .slice t x (some y) none none) (hx : ev E x = some ⟨k1, .slice (oad2 a) m c, t1, g1⟩) (hy : ev E y = some ⟨k2, .int kk hI, t2, g2⟩) (he : EnvOK n E ac) (v1 : g1.on = true) (v2 : g2.on = true)
  (ht : T.get t = some ⟨.slice e size, s1, z1, b1⟩) (hte : T.get e = some ⟨td, size, z2, b2⟩) (hhI : hI = (h : Int)) (hh : h ≤ m) :
  (execOp ac.eval o).run P w = .ok (.value (.slice (oad2 (cutA a size h c)) (m - h) (c - h))) w := by
 subst hhI
 have e1 := ev_spec he hx
 have e2 := ev_spec he hy
 simp only [Slot.val, v1, v2] at e1 e2
 obtain ⟨d, f, zv, ok⟩ := tiOf_spec (hT.get ht)
 obtain ⟨fe, rfl, g1, g2⟩ := ok.slice rfl
 cases a with
 | none =>
  simp only [execOp, hop, Option.map_some, Option.map_none, e1, e2, Instr.sliceAt, Instr.slice, Instr.sliceBounds, Instr.sliceBound, asIntOf, Sem.run_bind, Sem.run_pure, Result.andThen_ok, underlying_run ok.hd, sizeOf_run g1, g2]
  simp [hh, oad2, cutA]
 | some ad =>
  by_cases hne : c = h
  ·simp only [execOp, hop, Option.map_some, Option.map_none, e1, e2, Instr.sliceAt, Instr.slice, Instr.sliceBounds, Instr.sliceBound, asIntOf, Sem.run_bind, Sem.run_pure, Result.andThen_ok, underlying_run ok.hd, sizeOf_run g1, g2]
   simp [hh, hne, Addr.add_none, oad2, cutA]
  ·simp only [execOp, hop, Option.map_some, Option.map_none, e1, e2, Instr.sliceAt, Instr.slice, Instr.sliceBounds, Instr.sliceBound, asIntOf, Sem.run_bind, Sem.run_pure, Result.andThen_ok, underlying_run ok.hd, sizeOf_run g1, g2]
   simp [hh, hne, Addr.add_none, oad2, cutA]
end
section
variable {X : Cx} {P : Program} {K : List KI} {E : Env} {L : List Atom} {N : Nat} {F : HP} {Post : Value → List Atom → Prop} {rs : List ResultVar} {T : Tab}
end
theorem rd_cutA {a : Option (Nat × Nat)} {size n c h : Nat} {xs : List Value} {hh : Hl} (s : rdP (oad2 a) size n xs hh) (hn : h ≤ n) (hc : n ≤ c) : rdP (oad2 (cutA a size h c)) size (n - h) (xs.drop (h * size)) hh := by
 cases a with
 | none =>
  refine ⟨by rw [List.length_drop, s.1, Nat.sub_mul], fun h0 => ?_⟩
  obtain ⟨b, o, _, _, _, e, _⟩ := s.2 (by omega)
  cases e
 | some y =>
  by_cases e : c = h
  ·refine ⟨by rw [List.length_drop, s.1, Nat.sub_mul], fun h0 => by omega⟩
  ·unfold cutA
   simp only [if_neg e]
   exact (rdA_rd (some ⟨y.1, y.2, none⟩) size n xs).drop h hn _ s
theorem ne_selfI (z : Int) : (z != z) = false := by simp
theorem cellsE_drop (L : List En) : ∀ k, (cellsE L).drop (k * 19) = cellsE (L.drop k) := by
 induction L with
 | nil => intro k; simp [cellsE]
 | cons x l ih =>
  intro k
  cases k with
  | zero => simp
  | succ k =>
   have e1 : cellsE (x :: l) = enL x ++ cellsE l := by simp [cellsE]
   rw [e1, List.drop_succ_cons, ← ih k, show (k + 1) * 19 = (enL x).length + k * 19 from by show _ = 19 + k * 19; omega, ← List.drop_drop, List.drop_left' rfl]
theorem rd_drop {a : Option (Nat × Nat)} {n c h : Nat} {L : List En} {hh : Hl} (s : rdP (oad2 a) 19 n (cellsE L) hh) (hl : L.length = n) (hn : h ≤ n) (hc : n ≤ c) : rdP (oad2 (cutA a 19 h c)) 19 (L.drop h).length (cellsE (L.drop h)) hh := by
 have := rd_cutA s hn hc
 rwa [cellsE_drop, ← hl, ← List.length_drop] at this
theorem cutA_none {a : Option (Nat × Nat)} {size h c : Nat} (hz : a = none → c = 0) : cutA a size h c = none → c - h = 0 := by
 cases a with
 | none => intro _; rw [hz rfl]; omega
 | some y => intro e; unfold cutA at e; simp only at e; split at e <;> cases e
theorem geo_all (D : Nat) (h : D ≤ 6) : (1 * 2 ^ min (D : Int).toNat IntKind.i64.bits - 1 : Int) = mAll D := by
 rw [(pow_bd D h).1]
 unfold mAll
 have := Nat.one_le_two_pow (n := D)
 omega
theorem cellsI_flat (xs : List Int) : (xs.flatMap fun x => [Value.int .i64 x]) = cellsI xs := by
 induction xs with
 | nil => rfl
 | cons x xs ih => simp only [List.flatMap_cons, ih]; rfl
theorem mn_Torn (n t l p : Nat) (S : Dv) (k mm : Nat) (A : Atom) (a : Option (Nat × Nat)) (m c : Nat) (es : List En) (hA : Rd A (oad2 a) 19 m (cellsE es)) (hl : es.length = m) (hm : m ≤ 1000000) (hc : m ≤ c) (ha : a = none → c = 0) (hd : ∀ s ∈ es, s.data.length = 16) (hO : S.Ok (Dv.costT * m + k) mm) (hmm : mm ≤ 12) :
  Fn Tryz.prog 50 [.pointer (some ⟨n, 0, none⟩), .pointer (some ⟨t, 0, none⟩), .pointer (some ⟨l, 0, none⟩), .pointer (some ⟨p, 0, none⟩), .slice (oad2 a) m c] (DvP p n t l S ++ [A])
  (fun v As => v = .int .i64 (S.torn es).2 ∧ As = DvP p n t l (S.torn es).1 ++ [A]) := by
 subst hl
 refine Fn.enter [3, 4, 5, 2, 0] Tryz.func50 rfl rfl rfl fun X F hX => ?_
 refine J.q hX fun b1 => ?_
 refine J.lo (α := (Nat × Dv × List En × Option (Nat × Nat) × Nat)) (fun z => z.2.2.1.length ≤ z.1 ∧ z.2.2.1.length ≤ z.2.2.2.2 ∧ z.2.2.1.length ≤ 1000000 ∧ (z.2.2.2.1 = none → z.2.2.2.2 = 0) ∧ Rd A (oad2 z.2.2.2.1) 19 z.2.2.1.length (cellsE z.2.2.1) ∧ (∀ s ∈ z.2.2.1, s.data.length = 16) ∧ z.2.1.Ok (Dv.costT * z.1 + k) mm ∧ Dv.tornGo z.1 z.2.1 z.2.2.1 = S.torn es) (fun z => [⟨4, .slice (oad2 z.2.2.2.1) z.2.2.1.length z.2.2.2.2, 0, .tt⟩, ⟨0, .pointer (some ⟨n, 0, none⟩), 3, .tt⟩, ⟨1, .pointer (some ⟨t, 0, none⟩), 4, .tt⟩, ⟨2, .pointer (some ⟨l, 0, none⟩), 5, .tt⟩, ⟨3, .pointer (some ⟨p, 0, none⟩), 2, .tt⟩]) [1, 2, 3, 4] (fun z => DvP p n t l z.2.1) (fun z => z.1) ((es.length, S, es, a, c)) (⟨Nat.le_refl _, hc, hm, ha, hA, hd, hO, rfl⟩) rfl ?_ (fun _ => rfl) fun z hI => ?_
 ·rfl
 obtain ⟨j, Q, L, a', c'⟩ := z
 dsimp only at hI ⊢
 obtain ⟨hj, hLc, hLm, ha', hAr, hLd, hQ, hw⟩ := hI
 refine J.q hX fun b3 => ?_
 refine J.cond rfl (fun h1 => ?_) (fun h1 => ?_)
 ·simp only [decide_eq_true_eq] at h1
  have hL0 : L.length ≠ 0 := by omega
  obtain ⟨j, rfl⟩ : ∃ i, j = i + 1 := ⟨j - 1, by omega⟩
  rw [Dv.tornGo, if_neg hL0] at hw
  dsimp only at hw
  have hQ1 : Q.Ok (Dv.costM + (8 * Dv.fuel + (Dv.costT * j + k))) mm := hQ.less (by unfold Dv.costT Dv.cost; rw [Nat.mul_succ]; omega)
  have hr := Dv.room_keep hQ1
  refine J.q hX fun b4 => ?_
  refine J.cb hX (sw_Room n t l p Q _ mm hQ1 hmm) [1, 2, 3, 4] ?_
  refine cpq ⟨_, rfl, trivial, ?_⟩
  generalize Q.room = W at hw hr ⊢
  obtain ⟨P, er⟩ := W
  dsimp only at hw hr ⊢
  refine J.q hX fun b6 => ?_
  refine J.cond rfl (fun h2 => ?_) (fun h2 => ?_)
  ·simp only [bne_iff_ne, ne_eq] at h2
   rw [if_pos h2] at hw
   refine J.q hX fun b7 => ?_
   refine J.ru hX [1, 2, 3, 4, 5] ?_
   rw [← hw]
   exact ⟨rfl, rfl⟩
  simp only [bne_eq_false_iff_eq] at h2
  rw [if_neg (by rw [h2]; decide)] at hw
  have htook := fun h0 => Dv.pen_took hr.1 hLd h0 hL0
  have hkeep := Dv.pen_keep hr.1 hLd
  refine J.q hX fun b8 => ?_
  refine J.cb hX (pn_Write p n t l P _ mm hr.1 A (oad2 a') L.length c' L hAr rfl hLm hLd) [1, 2, 3, 4, 5] ?_
  refine cpq ⟨_, rfl, trivial, ?_⟩
  have hpb : 0 ≤ (P.pen L).2.1 ∧ (P.pen L).2.1 ≤ 7 := write_bd _ _ _
  generalize P.pen L = W at hw htook hkeep hpb ⊢
  obtain ⟨P', nn, er2⟩ := W
  dsimp only at hw htook hkeep hpb ⊢
  refine J.q hX fun b10 => ?_
  refine J.cond rfl (fun h3 => ?_) (fun h3 => ?_)
  ·simp only [bne_iff_ne, ne_eq] at h3
   rw [if_pos h3] at hw
   refine J.q hX fun b11 => ?_
   refine J.ru hX [1, 2, 3, 4, 5] ?_
   rw [← hw]
   exact ⟨rfl, rfl⟩
  simp only [bne_eq_false_iff_eq] at h3
  rw [if_neg (by rw [h3]; decide)] at hw
  have htk := htook h3
  obtain ⟨v, rfl⟩ := Int.eq_ofNat_of_zero_le hpb.1
  have hvL : v ≤ L.length := by have := htk.2.1; omega
  rw [Int.toNat_natCast] at hw
  refine J.qn hX 4 fun b12 => ?_
  refine J.val hX (.slice (oad2 (cutA a' 19 v c')) (L.length - v) (c' - v)) 0 rfl rfl (fun hg aa w he hw => cutlo2_run tk rfl rfl rfl he rfl rfl rfl rfl rfl hvL) rfl trivial ?_
  rw [show L.length - v = (L.drop v).length from by rw [List.length_drop]]
  refine J.q hX fun b13 => ?_
  refine J.nS ((j, P', L.drop v, cutA a' 19 v c', c' - v)) (⟨by dsimp only; rw [List.length_drop]; omega, by dsimp only; rw [List.length_drop]; omega, by dsimp only; rw [List.length_drop]; omega, cutA_none ha', fun h s => rd_drop (hAr h s) rfl hvL hLc, fun s hs => hLd s (List.mem_of_mem_drop hs), hkeep.1, hw⟩) (by dsimp only; omega) [0, 1, 2, 3, 4, 5] rfl rfl
 ·simp only [decide_eq_false_iff_not] at h1
  have hL0 : L.length = 0 := by omega
  have hz : Dv.tornGo j Q L = (Q, 0) := by
   cases j with
   | zero => rfl
   | succ j => rw [Dv.tornGo, if_pos hL0]
  refine J.q hX fun b15 => ?_
  refine J.ru hX [1, 2, 3, 4, 5] ?_
  rw [← hw, hz]
  exact ⟨rfl, rfl⟩
theorem u8_val (x : Int) : Value.int .u8 (IntKind.u8.wrap x) = bv (u8 x) := by
 have h : IntKind.u8.wrap x = x % 256 := by simp [IntKind.wrap, IntKind.bits, IntKind.signed]
 rw [h, bv, u8]
 congr 1
 have h1 : 0 ≤ x % 256 ∧ x % 256 < 256 := ⟨Int.emod_nonneg _ (by decide), Int.emod_lt_of_pos _ (by decide)⟩
 have h2 : (UInt8.ofNat (x % 256).toNat).toNat = (x % 256).toNat := by
  rw [UInt8.toNat_ofNat']
  omega
 rw [h2]; omega
def e18 (k s : Int) : En := ⟨k, s, 1, [u8 k, u8 s, u8 (s / 256), 7, 0, 0, 0, 0, 0, 0, 0, 0, 0, 0, 0, 0]⟩
theorem l18_entry (k s : Int) : Fn Tryz.prog 20 [.int .i64 k, .int .i64 s] [] (fun v As => v = enV (e18 k s) ∧ As = []) := by
 refine Fn.enter [0, 0] Tryz.func20 rfl rfl rfl fun X F hX => ?_
 refine J.qn hX 9 fun b1 => ?_
 refine J.val hX (bv (u8 k)) 0 rfl rfl (fun hg a w he hs => by rw [← u8_val k]; exact convert_run tk rfl rfl he rfl rfl rfl) rfl trivial ?_
 refine J.qn hX 1 fun b2 => ?_
 refine J.val hX (bv (u8 s)) 0 rfl rfl (fun hg a w he hs => by rw [← u8_val s]; exact convert_run tk rfl rfl he rfl rfl rfl) rfl trivial ?_
 refine J.qn hX 2 fun b3 => ?_
 rw [show s.fdiv (2 ^ min (Int.toNat 8) IntKind.i64.bits) = s / 256 from Int.fdiv_eq_ediv_of_nonneg s (by decide : (0 : Int) ≤ 256)]
 refine J.val hX (bv (u8 (s / 256))) 0 rfl rfl (fun hg a w he hs => by rw [← u8_val (s / 256)]; exact convert_run tk rfl rfl he rfl rfl rfl) rfl trivial ?_
 refine J.q hX fun b4 => ?_
 exact J.ru hX [] ⟨rfl, rfl⟩
def Dv.new (d b p : Nat) (lg : Int) : Dv := ⟨Nand.new d b p, Tl.new d b p, Tb.new lg, -1, 0, 0, 1⟩
theorem gd_new (d b p : Nat) (h : geoMay d b p = true) (k : Nat) (hk : k ≤ 1000000000000000) : (Nand.new d b p).Gd k 0 := by
 have h0 := Nand.Gd.new d b p h 0 (by omega)
 refine ⟨h0.ok, ?_, ?_, h0.nodup, h0.few⟩
 ·show (0 : Int) + (k : Int) < _; omega
 ·show (0 : Int) + (k : Int) < _; omega
theorem Dv.Ok.new (d b p : Nat) (lg : Int) (h : geoMay d b p = true) (k : Nat) (hk : k ≤ 1000000000000000) : (Dv.new d b p lg).Ok k 0 :=
 ⟨gd_new d b p h k hk, ⟨rfl, rfl, rfl, by show (List.replicate b Sb.zero).length = b; simp⟩, Tb.Ok.new lg, fun x hx => by simp [Dv.new, Tb.new] at hx, by show (0 : Int) ≤ 0 ∧ (0 : Int) ≤ 8; omega, by show (1 : Int) ≤ 1 ∧ (1 : Int) ≤ 1099511627776; omega⟩
theorem l18_bench (d b p : Nat) (h : geoMay d b p = true) (lg : Int) : Fn Tryz.prog 17 [.agg #[.int .i64 d, .int .i64 b, .int .i64 p], .int .i64 lg] []
  (fun v As => ∃ n t l q, v = .tuple #[.pointer (some ⟨n, 0, none⟩), .pointer (some ⟨t, 0, none⟩), .pointer (some ⟨l, 0, none⟩), .pointer (some ⟨q, 0, none⟩)] ∧ As = DvP q n t l (Dv.new d b p lg)) := by
 refine Fn.enter [0, 0] Tryz.func17 rfl rfl rfl fun X F hX => ?_
 refine J.q hX fun b5 => ?_
 refine J.cb hX (n_New d b p h) [] ?_
 rintro v As ⟨n, rfl, rfl⟩
 refine ⟨_, rfl, trivial, ?_⟩
 refine J.q hX fun b7 => ?_
 refine J.cb hX (tl_New d b p h) [] ?_
 rintro v As ⟨t, rfl, rfl⟩
 refine ⟨_, rfl, trivial, ?_⟩
 refine J.q hX fun b9 => ?_
 refine J.cb hX (tb_New lg) [] ?_
 rintro v As ⟨l, rfl, rfl⟩
 refine ⟨_, rfl, trivial, ?_⟩
 refine J.q hX fun b11 => ?_
 refine J.cb hX (pn_New n t l 1 (by decide) (Nand.new d b p) (Tl.new d b p) (Tb.new lg)) [] ?_
 rintro v As ⟨q, rfl, rfl⟩
 refine ⟨_, rfl, trivial, ?_⟩
 refine J.q hX fun b13 => ?_
 refine J.ru hX [5, 2, 3, 4] ?_
 exact ⟨n, t, l, q, rfl, rfl⟩
end Go.Proofs.YtdocmcapegcoeaaGreat
