/- Helpers of the proofs about ostrakonlaw11, proved here: SvD, PlHe, BgK, BgL, DskZ, Lz, PlDk, RfA, PlF, PlG, PlP, RfE, RfF, RfB, Cp, RfG, RfC, RfD, RfH, PlW, RfM. No condition. -/
import Derived.Test.YtoideahgjgaddaaGreatP03
import Derived.Test.YtoideahgjgaddaaGreatP06
import Derived.Test.YtoideahgjgaddaaGreatP13
import Derived.Test.YtoideahgjgaddaaGreatP14
import Derived.Test.YtoideahgjgaddaaGreatP15
import Derived.Test.YtoideahgjgaddaaGreatP16
import Derived.Test.YtoideahgjgaddaaGreatP19
import Derived.Test.YtoideahgjgaddaaGreatP20
import Derived.Test.YtoideahgjgaddaaGreatP21
import Derived.Test.YtoideahgjgaddaaGreatP23
set_option linter.unusedVariables false
set_option linter.unusedSimpArgs false
set_option linter.unusedSectionVars false
set_option linter.unnecessarySimpa false
/- Walks: survey.Scan. -/
namespace Go.Proofs.YtoideahgjgaddaaGreat
open Go Go.RowKit
/-- what was found so far lies by pages -/
def FOk (m : Nat) (L : List Fnd) (Z : List FSlot) : Prop := Z.map (·.l) = (List.range m).map fun k : Nat => V.of L (k : Int)
theorem FOk.len {m : Nat} {L : List Fnd} {Z : List FSlot} (h : FOk m L Z) : Z.length = m := by have := congrArg List.length h; simpa using this
theorem FOk.get {m : Nat} {L : List Fnd} {Z : List FSlot} (h : FOk m L Z) {k : Nat} (hk : k < m) : ∃ z, Z[k]? = some z ∧ z.l = V.of L (k : Int) := by
  have hl := h.len
  refine ⟨Z[k], List.getElem?_eq_getElem (by omega), ?_⟩
  have := congrArg (fun l => l[k]?) h
  simp only [List.getElem?_map, List.getElem?_range hk, List.getElem?_eq_getElem (show k < Z.length by omega), Option.map_some, Option.some.injEq] at this
  exact this
theorem FOk.zero (m : Nat) : FOk m [] (List.replicate m ⟨none, 0, []⟩) := by
  unfold FOk
  apply List.ext_getElem?
  intro i
  rw [List.getElem?_map, List.getElem?_replicate, List.getElem?_map]
  by_cases h : i < m
  · rw [if_pos h, List.getElem?_range h]; simp [V.of]
  · rw [if_neg h, List.getElem?_eq_none (by simp; omega)]; rfl
theorem FOk.hit {m : Nat} {L : List Fnd} {Z : List FSlot} (h : FOk m L Z) {x : Fnd} {k : Nat} (hx : x.en.lpn = (k : Int)) {z z' : FSlot} (hz : Z[k]? = some z) (hz' : z'.l = z.l ++ [x]) : FOk m (L ++ [x]) (Z.set k z') := by
  have hl := h.len
  have hk : k < Z.length := (List.getElem?_eq_some_iff.1 hz).1
  have hzl : z.l = V.of L (k : Int) := by
    obtain ⟨z2, h1, h2⟩ := h.get (k := k) (by omega)
    rw [hz] at h1; injection h1 with h1; subst h1; exact h2
  unfold FOk
  rw [List.map_set, show Z.map (·.l) = _ from h, hz', hzl]
  apply List.ext_getElem?
  intro i
  rw [List.getElem?_set, List.getElem?_map, List.getElem?_map]
  by_cases e : k = i
  · subst e
    rw [if_pos rfl, if_pos (by simp; omega), List.getElem?_range (by omega), Option.map_some, V.of_snoc, if_pos hx]
  · rw [if_neg e]
    by_cases h2 : i < m
    · rw [List.getElem?_range h2, Option.map_some, Option.map_some, V.of_snoc, if_neg (by omega)]
    · rw [List.getElem?_eq_none (by simp; omega)]; rfl
theorem FOk.miss {m : Nat} {L : List Fnd} {Z : List FSlot} (h : FOk m L Z) {x : Fnd} (hx : (m : Int) ≤ x.en.lpn) : FOk m (L ++ [x]) Z := by
  unfold FOk
  rw [show Z.map (·.l) = _ from h]
  apply List.map_congr_left
  intro i hi
  rw [List.mem_range] at hi
  rw [V.of_snoc, if_neg (by omega)]
theorem FOk.le {m : Nat} {L : List Fnd} {Z : List FSlot} (h : FOk m L Z) {k : Nat} {z : FSlot} (hz : Z[k]? = some z) : z.l.length ≤ L.length := by
  have hl := h.len
  have hk : k < Z.length := (List.getElem?_eq_some_iff.1 hz).1
  obtain ⟨z2, h1, h2⟩ := h.get (k := k) (by omega)
  rw [hz] at h1; injection h1 with h1; subst h1
  rw [h2]; exact V.of_len L k
theorem flatMap_le {α β : Type} (f : α → List β) (c : Nat) (l : List α) (h : ∀ x ∈ l, (f x).length ≤ c) : (l.flatMap f).length ≤ c * l.length := by
  induction l with
  | nil => simp
  | cons x l ih =>
    rw [List.flatMap_cons, List.length_append, List.length_cons]
    have := h x (List.mem_cons_self ..)
    have := ih (fun y hy => h y (List.mem_cons_of_mem _ hy))
    rw [Nat.mul_add]; omega
theorem rall_len (N : Nand) (hN : N.Ok) (b r : Int) : (R.all N b r).length ≤ 42 := by
  have hbd := hN.bd
  have := outI_len N b r (M.masks N b r).length (by omega)
  unfold outI at this
  rwa [List.take_length] at this
theorem upB_len (N : Nand) (hN : N.Ok) (b : Nat) (hb : b ≤ 16) : (V.upB N b).length ≤ 5376 := by
  have hbd := hN.bd
  unfold V.upB
  have := flatMap_le (fun b : Nat => (List.range N.pages).flatMap fun r => R.all N (b : Nat) (r : Nat)) 336 (List.range b) (fun x _ => by
    have := flatMap_le (fun r : Nat => R.all N (x : Nat) (r : Nat)) 42 (List.range N.pages) (fun r _ => rall_len N hN _ _)
    rw [List.length_range] at this
    omega)
  rw [List.length_range] at this
  omega
theorem upR_len (N : Nand) (hN : N.Ok) (b r : Nat) (hb : b ≤ 16) (hr : r ≤ 8) : (V.upR N b r).length ≤ 5712 := by
  have h1 := upB_len N hN b hb
  have := flatMap_le (fun r : Nat => R.all N (b : Nat) (r : Nat)) 42 (List.range r) (fun r _ => rall_len N hN _ _)
  rw [List.length_range] at this
  unfold V.upR
  rw [List.length_append]; omega
theorem upI_len (N : Nand) (hN : N.Ok) (b r i : Nat) (hb : b ≤ 16) (hr : r ≤ 8) : (V.upI N b r i).length ≤ 5754 := by
  have h1 := upR_len N hN b r hb hr
  have := rall_len N hN b r
  unfold V.upI
  rw [List.length_append, List.length_take]; omega
theorem upB_bd (N : Nand) (b : Nat) : ∀ f ∈ V.upB N b, EnBd f.en := by
  intro f h
  unfold V.upB at h
  rw [List.mem_flatMap] at h
  obtain ⟨_, _, h⟩ := h
  rw [List.mem_flatMap] at h
  obtain ⟨_, _, h⟩ := h
  exact (fnd_bd h).2.2
theorem upR_bd (N : Nand) (b r : Nat) : ∀ f ∈ V.upR N b r, EnBd f.en := by
  intro f h
  unfold V.upR at h
  rw [List.mem_append] at h
  rcases h with h | h
  · exact upB_bd N b f h
  · rw [List.mem_flatMap] at h
    obtain ⟨_, _, h⟩ := h
    exact (fnd_bd h).2.2
theorem upI_bd (N : Nand) (b r i : Nat) : ∀ f ∈ V.upI N b r i, EnBd f.en := by
  intro f h
  unfold V.upI at h
  rw [List.mem_append] at h
  rcases h with h | h
  · exact upR_bd N b r f h
  · exact (fnd_bd (List.mem_of_mem_take h)).2.2
theorem Sep.ofAll {L : List Atom} {h : Hl} (hL : ∀ A ∈ L, ∀ h, A.sat h) : Sep L h := ⟨fun _ => 0, fun i A hA => hL A (List.mem_of_getElem? hA) _⟩
def svL (q : Nat) (torn : Value) (first : Int) (held : Value) (next pages : Int) : List Value := [.pointer (some ⟨q, 0, none⟩), torn, .int .i64 first, held, .int .i64 next, .int .i64 pages]
def svV (q : Nat) (S : Scd) (a1 : Option Nat) (c1 : Nat) (a2 : Option Nat) (c2 : Nat) : Value := .agg (svL q (slv a1 S.torn.length c1) S.first (slv a2 S.held.length c2) S.next S.pages).toArray
def sv0 (q : Nat) (L : List Fnd) : List Value := svL q (.slice none 0 0) 0 (.slice none 0 0) (V.nextOf L) L.length
theorem flat_single {α : Type} (x : α) : ∀ n : Nat, (List.replicate n [x]).flatten = List.replicate n x
  | 0 => rfl
  | n + 1 => by rw [List.replicate_succ, List.replicate_succ, List.flatten_cons, flat_single x n]; rfl
theorem hdrs_zero (m : Nat) : (List.replicate m [Value.slice none 0 0]).flatten = hdrs (List.replicate m ⟨none, 0, []⟩) := by
  rw [flat_single]; unfold hdrs; rw [List.map_replicate]; rfl
theorem hdrs_getI {Z : List FSlot} {k : Int} {z : FSlot} (h : Z[k.toNat]? = some z) : (hdrs Z)[0 + k.toNat * 1]? = some z.hdr := by
  rw [show 0 + k.toNat * 1 = k.toNat from by omega, hdrs, List.getElem?_map, h]; rfl
theorem max_if (a b : Int) : (if b > a then b else a) = max a b := by split <;> omega
theorem cellsI_app (l m : List Int) : cellsI l ++ cellsI m = cellsI (l ++ m) := by simp [cellsI]
theorem cellsE_app (l m : List En) : cellsE l ++ cellsE m = cellsE (l ++ m) := by simp [cellsE]
theorem cellsI_one (l : List Int) : ∀ u ∈ cellsI l, u.oneCell' = true := by
  intro u hu
  simp only [cellsI, List.mem_map] at hu
  obtain ⟨x, _, rfl⟩ := hu
  rfl
theorem v_Scan (p : Nat) (N : Nand) (hN : N.Ok) (hR : N.Room) (hoff : N.off = false) (n : Int) : Fn Tryz.prog 15 [.pointer (some ⟨p, 0, none⟩), .int .i64 n] [NandA p N]
    (fun v As => ∃ q a1 c1 a2 c2, v = .tuple #[svV q (V.scan N n) a1 c1 a2 c2, .int .i64 0] ∧ As = [NandA p N, TbA q (V.scan N n).tb, ownA 45 19 a1 (V.scan N n).torn.length c1 (cellsE (V.scan N n).torn), ownA 3 1 a2 (V.scan N n).held.length c2 (cellsI (V.scan N n).held)]) := by
  have hbd := hN.bd
  refine Fn.enter [2, 0] Tryz.func15 rfl rfl rfl fun X F hX => ?_
  refine J.r hX tab_ok 400 (fun _ => rfl) fun br => ?_
  refine J.r hX tab_ok 400 (fun _ => rfl) fun b1 => ?_
  refine J.cond rfl (fun h => by simp at h) (fun _ => ?_)
  refine J.r hX tab_ok 400 (fun _ => rfl) fun b2 => ?_
  refine J.r hX tab_ok 400 (fun _ => rfl) fun b3 => ?_
  refine J.ca hX (by kernel_rfl) (n_Power p N) [1] 0 rfl rfl rfl rfl rfl rfl (fun _ => rfl) ?_
  rintro v As ⟨rfl, rfl⟩
  refine ⟨_, rfl, trivial, ?_⟩
  rw [hoff]
  refine J.r hX tab_ok 400 (fun _ => rfl) fun b4 => ?_
  refine J.cond rfl (fun h => absurd h (by decide)) (fun _ => ?_)
  refine J.r hX tab_ok 400 (fun _ => rfl) fun b5 => ?_
  refine J.r hX tab_ok 400 (fun _ => rfl) fun b6 => ?_
  refine J.ca hX (by kernel_rfl) (tb_New n) [] 0 rfl rfl rfl rfl rfl rfl (fun _ => rfl) ?_
  rintro v As ⟨q, rfl, rfl⟩
  refine ⟨_, rfl, trivial, ?_⟩
  refine J.r hX tab_ok 11 (fun _ => rfl) fun bo => ?_
  rw [tb_mm]
  obtain ⟨m, hm⟩ : ∃ m : Nat, min (max n 0) 65536 = (m : Int) := ⟨(min (max n 0) 65536).toNat, by omega⟩
  have hms : V.size n = m := by unfold V.size; omega
  have hm1 : m ≤ 65536 := by omega
  rw [hm]
  refine J.makeMany hX tab_ok 6 rfl rfl rfl rfl rfl rfl rfl rfl rfl rfl rfl ?_ ?_ (fun _ => rfl) (fun _ => rfl) fun g => ⟨trivial, ?_⟩
  · simp only [maxLen]; omega
  · omega
  rw [hdrs_zero]
  refine J.r hX tab_ok 400 (fun _ => rfl) fun bs => ?_
  refine J.turn1 [] rfl (As := [.hp (HP.of (fats (List.replicate m ⟨none, 0, []⟩)))]) (fun h s => Sep.hpOf.2 (Sep.ofAll fun A hA h => by
    unfold fats at hA
    rw [List.map_replicate, List.mem_replicate] at hA
    rw [hA.2]
    exact ⟨rfl, rfl, rfl⟩)) rfl ?_
  refine J.r hX tab_ok 400 (fun _ => rfl) fun b7 => ?_
  refine J.ca hX (by kernel_rfl) (n_Geo p N) [1] 0 rfl rfl rfl rfl rfl rfl (fun _ => rfl) ?_
  rintro v As ⟨rfl, rfl⟩
  refine ⟨_, rfl, trivial, ?_⟩
  refine J.r hX tab_ok 400 (fun _ => rfl) fun b8 => ?_
  refine J.lo (α := (Nat × List FSlot)) (fun z => z.1 ≤ N.blocks ∧ FOk m (V.upB N z.1) z.2) (fun z => [⟨38, .int .i64 z.1, 0, .tt⟩, ⟨37, .int .i64 N.blocks, 0, .tt⟩, ⟨0, .pointer (some ⟨p, 0, none⟩), 2, .tt⟩, ⟨4, .pointer (some ⟨br 0, 0, none⟩), 3, .tt⟩, ⟨6, .pointer (some ⟨bo 0, 0, none⟩), 5, .tt⟩, ⟨7, .pointer (some ⟨bs 0, 0, none⟩), 7, .tt⟩]) [4, 5, 7] (fun z => [.pt (bo 0) 34 (sv0 q (V.upB N z.1)), .pt g 100 (hdrs z.2), .hp (HP.of (fats z.2))]) (fun z => N.blocks - z.1) ((0, List.replicate m ⟨none, 0, []⟩)) (⟨Nat.zero_le _, FOk.zero m⟩) rfl ?_ (fun _ => rfl) fun z hI => ?_
  · rfl
  obtain ⟨b, Z⟩ := z
  dsimp only at hI ⊢
  obtain ⟨hb, hZ⟩ := hI
  refine J.r hX tab_ok 400 (fun _ => rfl) fun b9 => ?_
  refine J.cond rfl (fun h1 => ?_) (fun h1 => ?_)
  · simp only [decide_eq_true_eq, Int.ofNat_lt] at h1
    refine J.r hX tab_ok 400 (fun _ => rfl) fun b10 => ?_
    refine J.r hX tab_ok 400 (fun _ => rfl) fun b11 => ?_
    refine J.ca hX (by kernel_rfl) (n_Geo p N) [1] 0 rfl rfl rfl rfl rfl rfl (fun _ => rfl) ?_
    rintro v As ⟨rfl, rfl⟩
    refine ⟨_, rfl, trivial, ?_⟩
    rw [← V.upR_zero] at hZ
    rw [← V.upR_zero]
    refine J.r hX tab_ok 400 (fun _ => rfl) fun b12 => ?_
    refine J.lo (α := (Nat × List FSlot)) (fun z => z.1 ≤ N.pages ∧ FOk m (V.upR N b z.1) z.2) (fun z => [⟨44, .int .i64 z.1, 0, .tt⟩, ⟨43, .int .i64 N.pages, 0, .tt⟩, ⟨8, .int .i64 b, 0, .tt⟩, ⟨38, .int .i64 b, 0, .tt⟩, ⟨37, .int .i64 N.blocks, 0, .tt⟩, ⟨0, .pointer (some ⟨p, 0, none⟩), 2, .tt⟩, ⟨4, .pointer (some ⟨br 0, 0, none⟩), 3, .tt⟩, ⟨6, .pointer (some ⟨bo 0, 0, none⟩), 5, .tt⟩, ⟨7, .pointer (some ⟨bs 0, 0, none⟩), 7, .tt⟩]) [4, 5, 7] (fun z => [.pt (bo 0) 34 (sv0 q (V.upR N b z.1)), .pt g 100 (hdrs z.2), .hp (HP.of (fats z.2))]) (fun z => N.pages - z.1) ((0, Z)) (⟨Nat.zero_le _, hZ⟩) rfl ?_ (fun _ => rfl) fun z hI => ?_
    · rfl
    clear hZ Z
    obtain ⟨r, Z⟩ := z
    dsimp only at hI ⊢
    obtain ⟨hr, hZ⟩ := hI
    refine J.r hX tab_ok 400 (fun _ => rfl) fun b13 => ?_
    refine J.cond rfl (fun h2 => ?_) (fun h2 => ?_)
    · simp only [decide_eq_true_eq, Int.ofNat_lt] at h2
      refine J.r hX tab_ok 400 (fun _ => rfl) fun b14 => ?_
      refine J.r hX tab_ok 400 (fun _ => rfl) fun b15 => ?_
      refine J.ca hX (by kernel_rfl) (r_All p N hN hR b r) [1] 0 rfl rfl rfl rfl rfl rfl (fun _ => rfl) ?_
      rintro v As ⟨al, cl, rfl, rfl⟩
      refine ⟨_, rfl, trivial, ?_⟩
      rw [← V.upI_zero] at hZ
      rw [← V.upI_zero]
      refine J.r hX tab_ok 400 (fun _ => rfl) fun b16 => ?_
      refine J.lo (α := (Nat × List FSlot)) (fun z => z.1 ≤ (R.all N b r).length ∧ FOk m (V.upI N b r z.1) z.2) (fun z => [⟨52, .int .i64 z.1, 0, .tt⟩, ⟨51, .int .i64 (R.all N b r).length, 0, .tt⟩, ⟨50, slv al (R.all N b r).length cl, 0, .tt⟩, ⟨9, .int .i64 r, 0, .tt⟩, ⟨44, .int .i64 r, 0, .tt⟩, ⟨43, .int .i64 N.pages, 0, .tt⟩, ⟨8, .int .i64 b, 0, .tt⟩, ⟨38, .int .i64 b, 0, .tt⟩, ⟨37, .int .i64 N.blocks, 0, .tt⟩, ⟨0, .pointer (some ⟨p, 0, none⟩), 2, .tt⟩, ⟨4, .pointer (some ⟨br 0, 0, none⟩), 3, .tt⟩, ⟨6, .pointer (some ⟨bo 0, 0, none⟩), 5, .tt⟩, ⟨7, .pointer (some ⟨bs 0, 0, none⟩), 7, .tt⟩]) [4, 5, 7] (fun z => [.pt (bo 0) 34 (sv0 q (V.upI N b r z.1)), .pt g 100 (hdrs z.2), .hp (HP.of (fats z.2))]) (fun z => (R.all N b r).length - z.1) ((0, Z)) (⟨Nat.zero_le _, hZ⟩) rfl ?_ (fun _ => rfl) fun z hI => ?_
      · rfl
      clear hZ Z
      obtain ⟨i, Z⟩ := z
      dsimp only at hI ⊢
      obtain ⟨hi, hZ⟩ := hI
      refine J.r hX tab_ok 400 (fun _ => rfl) fun b17 => ?_
      refine J.cond rfl (fun h3 => ?_) (fun h3 => ?_)
      · simp only [decide_eq_true_eq, Int.ofNat_lt] at h3
        obtain ⟨x, hx⟩ : ∃ x, (R.all N b r)[i]? = some x := ⟨_, List.getElem?_eq_getElem h3⟩
        have hup := V.upI_succ hx
        have hrl := rall_len N hN b r
        have hxb := (fnd_bd (List.mem_of_getElem? hx)).2.2
        have hul := upI_len N hN b r i (by omega) (by omega)
        have hnb := V.nextOf_bd (upI_bd N b r i)
        refine J.know (fun h' s => own_some (c := (al, cl)) (by omega) (s.get (i := 8) rfl)) fun hg => ?_
        obtain ⟨gl, rfl⟩ := hg
        refine J.r hX tab_ok 400 (fun _ => rfl) fun b18 => ?_
        refine J.val hX (fdV x) 0 rfl rfl (fun hg a w he hs => ?_) rfl trivial ?_
        · exact ownN_run tab_ok rfl rfl he rfl rfl rfl (hs.get (i := 8) rfl) (by rw [show 0 + (i : Int).toNat * 25 = i * 25 from by omega]; exact cellsF_get hx) rfl
        unfold EnBd at hxb
        refine J.r hX tab_ok 400 (fun _ => rfl) fun bf => ?_
        have hn1 : V.nextOf (V.upI N b r (i + 1)) = max (V.nextOf (V.upI N b r i)) (x.en.seq + 1) := by rw [hup, V.nextOf_snoc]
        have hn2 : ((V.upI N b r i).length : Int) + 1 = ((V.upI N b r (i + 1)).length : Int) := by rw [hup, List.length_append]; rfl
        rw [max_if, ← hn1, hn2]
        refine J.r hX tab_ok 400 (fun _ => rfl) fun b19 => ?_
        refine J.plan (.of [0,4,9,12,16,20,25,28,32]) [] [6, 9] (by rw [hX.hP]; kernel_rfl) (by kernel_rfl) ?_
        refine J.r hX tab_ok 400 (fun _ => rfl) fun b20 => ?_
        refine J.r hX tab_ok 400 (fun _ => rfl) fun b21 => ?_
        refine J.cond rfl (fun h4 => ?_) (fun h4 => ?_)
        · simp only [decide_eq_true_eq] at h4
          obtain ⟨z, hz, hzl⟩ := hZ.get (k := x.en.lpn.toNat) (by omega)
          have hzle := hZ.le hz
          have hZl := hZ.len
          refine J.openAt 7 x.en.lpn.toNat rfl rfl (fats_get hz) rfl ?_
          refine J.r hX tab_ok 400 (fun _ => rfl) fun b22 => ?_
          refine J.plan (.of [0,4,8,13,16,20,25,28,32,36,41,44,48,53,56,61,65,70,74,76,83]) [19,20] [5,6,9] (by rw [hX.hP]; kernel_rfl) (by kernel_rfl) ?_
          refine J.r hX tab_ok 15 (fun _ => rfl) fun b23 => ?_
          refine J.valT hX z.hdr 0 rfl rfl (fun hg a w he hC => load1_run tab_ok rfl rfl he rfl rfl rfl (hC rfl _ (cget_mem (i := 5) rfl)) (hdrs_getI hz)) rfl ?_
          refine J.r hX tab_ok 400 (fun _ => rfl) fun b24 => ?_
          refine J.append hX tab_ok 10 11 0 rfl rfl rfl rfl rfl rfl rfl rfl rfl rfl rfl rfl rfl rfl rfl rfl ?_ ?_ (fun _ => rfl) fun a' c' => ⟨_, (congrArg (fun y => lset _ 10 (ownA _ _ _ _ _ y)) (cellsF_snoc z.l x).symm).trans rfl, ⟨rfl, rfl, rfl, trivial⟩, ?_⟩
          · simp only [maxLen]; omega
          · omega
          rw [show z.l.length + 1 = (z.l ++ [x]).length from by simp]
          refine J.r hX tab_ok 400 (fun _ => rfl) fun b25 => ?_
          have hhit := hZ.hit (x := x) (k := x.en.lpn.toNat) (by omega) hz (z' := ⟨a', c', z.l ++ [x]⟩) rfl
          refine J.store1 hX tab_ok 5 rfl rfl rfl rfl rfl rfl rfl rfl rfl rfl rfl rfl rfl ?_ (hdrs (Z.set x.en.lpn.toNat ⟨a', c', z.l ++ [x]⟩)) ?_ rfl (fun _ => rfl) ⟨(by first | exact trivial | (repeat' (first | exact trivial | refine ⟨rfl, ?_⟩))), ?_⟩
          · rw [show (hdrs Z).length = Z.length from by simp [hdrs]]; omega
          · rw [show 0 + x.en.lpn.toNat * 1 = x.en.lpn.toNat from by omega]; exact hdrs_set Z _ ⟨a', c', z.l ++ [x]⟩
          refine J.closeAt (A := (FSlot.mk a' c' (z.l ++ [x])).atom) 7 10 x.en.lpn.toNat rfl rfl rfl ?_
          rw [fats_set]
          refine J.r hX tab_ok 400 (fun _ => rfl) fun b26 => ?_
          refine J.nS ((i + 1, Z.set x.en.lpn.toNat ⟨a', c', z.l ++ [x]⟩)) (⟨by dsimp only; omega, by dsimp only; rw [hup]; exact hhit⟩) (by dsimp only; omega) [0, 1, 2, 3, 4, 5, 6, 7, 8] rfl rfl
        · simp only [decide_eq_false_iff_not] at h4
          have hmiss := hZ.miss (x := x) (by omega)
          refine J.r hX tab_ok 400 (fun _ => rfl) fun b27 => ?_
          refine J.nS ((i + 1, Z)) (⟨by dsimp only; omega, by dsimp only; rw [hup]; exact hmiss⟩) (by dsimp only; omega) [0, 1, 2, 3, 4, 5, 6, 7, 8] rfl rfl
      · simp only [decide_eq_false_iff_not, Int.ofNat_lt] at h3
        obtain rfl : i = (R.all N b r).length := by omega
        rw [← V.upR_succ] at hZ
        rw [← V.upR_succ]
        refine J.r hX tab_ok 400 (fun _ => rfl) fun b28 => ?_
        refine J.r hX tab_ok 400 (fun _ => rfl) fun b29 => ?_
        refine J.nS ((r + 1, Z)) (⟨by dsimp only; omega, hZ⟩) (by dsimp only; omega) [0, 1, 2, 3, 4, 5, 6, 7] rfl rfl
    · simp only [decide_eq_false_iff_not, Int.ofNat_lt] at h2
      obtain rfl : r = N.pages := by omega
      rw [← V.upB_succ] at hZ
      rw [← V.upB_succ]
      refine J.r hX tab_ok 400 (fun _ => rfl) fun b30 => ?_
      refine J.r hX tab_ok 400 (fun _ => rfl) fun b31 => ?_
      refine J.nS ((b + 1, Z)) (⟨by dsimp only; omega, hZ⟩) (by dsimp only; omega) [0, 1, 2, 3, 4, 5, 6, 7] rfl rfl
  simp only [decide_eq_false_iff_not, Int.ofNat_lt] at h1
  obtain rfl : b = N.blocks := by omega
  rw [V.upB_all] at hZ
  rw [V.upB_all]
  have hZl := hZ.len
  have hLb : ∀ f ∈ V.all N, EnBd f.en := fun f hf => (all_bd hf).2
  have hLl := all_len N hN
  subst hZl
  refine J.r hX tab_ok 400 (fun _ => rfl) fun b32 => ?_
  refine J.turn1 [] rfl (As := [ownA 45 19 none 0 0 (cellsE []), ownA 3 1 none 0 0 (cellsI []), ownA 45 19 none 0 0 (cellsE [])]) (fun h s => Sep.ofAll fun A hA h => by
    simp only [List.mem_cons, List.not_mem_nil, or_false] at hA
    rcases hA with rfl | rfl | rfl <;> exact ⟨rfl, rfl, rfl⟩) rfl ?_
  refine J.r hX tab_ok 400 (fun _ => rfl) fun b33 => ?_
  refine J.lo (α := (Nat × (Option Nat × Nat) × (Option Nat × Nat) × (Option Nat × Nat))) (fun z => z.1 ≤ Z.length) (fun z => [⟨105, .int .i64 z.1, 0, .tt⟩, ⟨104, .int .i64 Z.length, 0, .tt⟩, ⟨12, slv z.2.2.2.1 (V.goS N (V.all N) n z.1).others.length z.2.2.2.2, 0, .tt⟩, ⟨0, .pointer (some ⟨p, 0, none⟩), 2, .tt⟩, ⟨4, .pointer (some ⟨br 0, 0, none⟩), 3, .tt⟩, ⟨6, .pointer (some ⟨bo 0, 0, none⟩), 5, .tt⟩, ⟨7, .pointer (some ⟨bs 0, 0, none⟩), 7, .tt⟩]) [3, 4, 8, 9, 10] (fun z => [TbA q (V.goS N (V.all N) n z.1).tb, .pt (bo 0) 34 (svL q (slv z.2.1.1 (V.goS N (V.all N) n z.1).torn.length z.2.1.2) 0 (slv z.2.2.1.1 (V.goS N (V.all N) n z.1).held.length z.2.2.1.2) (V.nextOf (V.all N)) (V.all N).length), ownA 45 19 z.2.1.1 (V.goS N (V.all N) n z.1).torn.length z.2.1.2 (cellsE (V.goS N (V.all N) n z.1).torn), ownA 3 1 z.2.2.1.1 (V.goS N (V.all N) n z.1).held.length z.2.2.1.2 (cellsI (V.goS N (V.all N) n z.1).held), ownA 45 19 z.2.2.2.1 (V.goS N (V.all N) n z.1).others.length z.2.2.2.2 (cellsE (V.goS N (V.all N) n z.1).others)]) (fun z => Z.length - z.1) ((0, (none, 0), (none, 0), (none, 0))) (Nat.zero_le _) rfl ?_ (fun _ => rfl) fun z hI => ?_
  · rfl
  obtain ⟨k, ⟨a1, c1⟩, ⟨a2, c2⟩, ⟨a3, c3⟩⟩ := z
  dsimp only at hI ⊢
  have hgl := V.goS_len N (V.all N) n k
  have hgh := V.goS_held N (V.all N) n k
  refine J.r hX tab_ok 400 (fun _ => rfl) fun b34 => ?_
  refine J.cond rfl (fun h2 => ?_) (fun h2 => ?_)
  · simp only [decide_eq_true_eq, Int.ofNat_lt] at h2
    obtain ⟨z, hz, hzl⟩ := hZ.get (k := k) h2
    have hzle := hZ.le hz
    have hstep := V.goS_succ N (V.all N) n k
    have hok := V.goS_ok N (V.all N) n k
    have hhl := V.holds_len (V.of (V.all N) k)
    have hol := V.of_len (V.all N) k
    have hsm := V.standOf_mem (l := V.of (V.all N) k)
    generalize hS : V.goS N (V.all N) n k = S at hgl hgh hstep hok
    refine J.r hX tab_ok 400 (fun _ => rfl) fun b35 => ?_
    refine J.r hX tab_ok 400 (fun _ => rfl) fun b36 => ?_
    refine J.ca hX (by kernel_rfl) (v_stands (bs 0) p g Z k z hz (by omega) (by omega)) [6, 5, 7] 0 rfl rfl rfl rfl rfl rfl (fun _ => rfl) ?_
    rintro v As ⟨rfl, rfl⟩
    refine ⟨_, rfl, trivial, ?_⟩
    rw [hzl]
    unfold V.step at hstep
    obtain ⟨f, is, hs⟩ : ∃ f is, V.standOf (V.of (V.all N) k) = (f, is) := ⟨_, _, rfl⟩
    rw [hs] at hsm hstep ⊢
    dsimp only at hsm hstep ⊢
    refine J.r hX tab_ok 400 (fun _ => rfl) fun bf => ?_
    refine J.r hX tab_ok 400 (fun _ => rfl) fun b37 => ?_
    refine J.cond rfl (fun h3 => ?_) (fun h3 => ?_)
    · simp only [Bool.not_eq_true'] at h3
      subst h3
      rw [if_neg Bool.false_ne_true] at hstep
      rw [← hstep]
      refine J.r hX tab_ok 400 (fun _ => rfl) fun b38 => ?_
      refine J.r hX tab_ok 400 (fun _ => rfl) fun b39 => ?_
      refine J.nS ((k + 1, (a1, c1), (a2, c2), (a3, c3))) (by dsimp only; omega) (by dsimp only; omega) [0, 1, 2, 3, 4, 5, 6, 7, 8, 9, 10] rfl rfl
    simp only [Bool.not_eq_false'] at h3
    subst h3
    rw [if_pos rfl] at hstep
    have hfm : f ∈ V.all N := by have := hsm rfl; unfold V.of at this; exact (List.mem_filter.1 this).1
    obtain ⟨⟨r0, hr0, hr1⟩, hfb⟩ := all_bd hfm
    unfold EnBd at hfb
    refine J.r hX tab_ok 400 (fun _ => rfl) fun b40 => ?_
    refine J.r hX tab_ok 400 (fun _ => rfl) fun b41 => ?_
    refine J.ca hX (by kernel_rfl) (tb_Put q S.tb f.en f.block f.row f.slot f.mask (by omega) hok.bd) [3] 0 rfl rfl rfl rfl rfl rfl (fun _ => rfl) ?_
    rintro v As ⟨rfl, rfl⟩
    refine ⟨_, rfl, trivial, ?_⟩
    refine J.r hX tab_ok 400 (fun _ => rfl) fun b42 => ?_
    refine J.cond rfl (fun h4 => ?_) (fun h4 => ?_)
    · rw [if_pos h4] at hstep
      have e1 := congrArg Sst.tb hstep
      have e2 := congrArg Sst.torn hstep
      have e3 := congrArg Sst.held hstep
      have e4 := congrArg Sst.others hstep
      dsimp only at e1 e2 e3 e4
      rw [← e1, ← e2, ← e3, ← e4]
      refine J.r hX tab_ok 400 (fun _ => rfl) fun b43 => ?_
      refine J.r hX tab_ok 400 (fun _ => rfl) fun b44 => ?_
      refine J.nS ((k + 1, (a1, c1), (a2, c2), (a3, c3))) (by dsimp only; omega) (by dsimp only; omega) [0, 1, 2, 3, 4, 5, 6, 7, 8, 9, 10] rfl rfl
    rw [if_neg (by rw [h4]; exact Bool.false_ne_true)] at hstep
    refine J.r hX tab_ok 400 (fun _ => rfl) fun b45 => ?_
    refine J.r hX tab_ok 400 (fun _ => rfl) fun b46 => ?_
    refine J.ca hX (by kernel_rfl) (v_last p N hN hR (bs 0) (.slice (some ⟨g, 0, none⟩) Z.length Z.length) f r0 hr0 (by omega)) [1, 6] 0 rfl rfl rfl rfl rfl rfl (fun _ => rfl) ?_
    rintro v As ⟨rfl, rfl⟩
    refine ⟨_, rfl, trivial, ?_⟩
    refine J.r hX tab_ok 400 (fun _ => rfl) fun b47 => ?_
    refine J.cond rfl (fun h5 => ?_) (fun h5 => ?_)
    · rw [if_pos h5] at hstep
      have e1 := congrArg Sst.tb hstep
      have e2 := congrArg Sst.torn hstep
      have e3 := congrArg Sst.held hstep
      have e4 := congrArg Sst.others hstep
      dsimp only at e1 e2 e3 e4
      refine J.r hX tab_ok 400 (fun _ => rfl) fun b48 => ?_
      refine J.append hX tab_ok 8 12 0 rfl rfl rfl rfl rfl rfl rfl rfl rfl rfl rfl rfl rfl rfl rfl rfl ?_ ?_ (fun _ => rfl) fun a4 c4 => ⟨_, (congrArg (fun y => lset _ 8 (ownA _ _ _ _ _ y)) (cellsE_snoc S.torn f.en)).trans rfl, trivial, ?_⟩
      · simp only [maxLen]; omega
      · omega
      rw [show S.torn.length + 1 = (S.torn ++ [f.en]).length from by simp]
      refine J.r hX tab_ok 400 (fun _ => rfl) fun b49 => ?_
      refine J.plan (.of [0,5,8,12,18,23,24,31]) [5,6,7] [4] (by rw [hX.hP]; kernel_rfl) (by kernel_rfl) ?_
      refine J.r hX tab_ok 400 (fun _ => rfl) fun b50 => ?_
      refine J.r hX tab_ok 400 (fun _ => rfl) fun b51 => ?_
      refine J.ca hX (by kernel_rfl) (v_holds (bs 0) p g Z k z hz (by omega) (by omega)) [6, 5, 7] 0 rfl rfl rfl rfl rfl rfl (fun _ => rfl) ?_
      rintro v As ⟨a5, c5, rfl, rfl⟩
      refine ⟨_, rfl, (by first | exact trivial | (repeat' (first | exact trivial | refine ⟨rfl, ?_⟩))), ?_⟩
      rw [hzl]
      refine J.r hX tab_ok 400 (fun _ => rfl) fun b52 => ?_
      refine J.appendO hX tab_ok 9 13 rfl rfl rfl rfl rfl rfl rfl rfl rfl rfl rfl rfl rfl (cellsI_one _) ?_ ?_ (fun _ => rfl) fun a6 c6 => ⟨_, (congrArg (fun y => lset _ 9 (ownA _ _ _ _ _ y)) (cellsI_app S.held (V.holds (V.of (V.all N) k)))).trans rfl, (by first | exact trivial | (repeat' (first | exact trivial | refine ⟨rfl, ?_⟩))), ?_⟩
      · simp only [maxLen]; omega
      · omega
      rw [show S.held.length + (V.holds (V.of (V.all N) k)).length = (S.held ++ V.holds (V.of (V.all N) k)).length from by simp]
      rw [← e1, ← e2, ← e3, ← e4]
      refine J.r hX tab_ok 400 (fun _ => rfl) fun b53 => ?_
      refine J.r hX tab_ok 400 (fun _ => rfl) fun b54 => ?_
      refine J.nS ((k + 1, (a4, c4), (a6, c6), (a3, c3))) (by dsimp only; omega) (by dsimp only; omega) [0, 1, 2, 3, 4, 5, 6, 7, 8, 9, 10] rfl rfl
    · rw [if_neg (by rw [h5]; exact Bool.false_ne_true)] at hstep
      have e1 := congrArg Sst.tb hstep
      have e2 := congrArg Sst.torn hstep
      have e3 := congrArg Sst.held hstep
      have e4 := congrArg Sst.others hstep
      dsimp only at e1 e2 e3 e4
      refine J.r hX tab_ok 400 (fun _ => rfl) fun b55 => ?_
      refine J.append hX tab_ok 10 12 0 rfl rfl rfl rfl rfl rfl rfl rfl rfl rfl rfl rfl rfl rfl rfl rfl ?_ ?_ (fun _ => rfl) fun a4 c4 => ⟨_, (congrArg (fun y => lset _ 10 (ownA _ _ _ _ _ y)) (cellsE_snoc S.others f.en)).trans rfl, trivial, ?_⟩
      · simp only [maxLen]; omega
      · omega
      rw [show S.others.length + 1 = (S.others ++ [f.en]).length from by simp]
      rw [← e1, ← e2, ← e3, ← e4]
      refine J.r hX tab_ok 400 (fun _ => rfl) fun b56 => ?_
      refine J.r hX tab_ok 400 (fun _ => rfl) fun b57 => ?_
      refine J.nS ((k + 1, (a1, c1), (a2, c2), (a4, c4))) (by dsimp only; omega) (by dsimp only; omega) [0, 1, 2, 3, 4, 5, 6, 7, 8, 9, 10] rfl rfl
  simp only [decide_eq_false_iff_not, Int.ofNat_lt] at h2
  obtain rfl : k = Z.length := by omega
  have hsc : V.scan N n = ⟨(V.goS N (V.all N) n Z.length).tb, (V.goS N (V.all N) n Z.length).torn ++ (V.goS N (V.all N) n Z.length).others, (V.goS N (V.all N) n Z.length).torn.length, compactI (sortI (V.goS N (V.all N) n Z.length).held), V.nextOf (V.all N), (V.all N).length⟩ := by
    unfold V.scan V.scanOf; rw [hms]
  generalize V.goS N (V.all N) n Z.length = S at hgl hgh hsc
  refine J.r hX tab_ok 400 (fun _ => rfl) fun b58 => ?_
  refine J.appendO hX tab_ok 8 10 rfl rfl rfl rfl rfl rfl rfl rfl rfl rfl rfl rfl rfl (cellsE_one _) ?_ ?_ (fun _ => rfl) fun a6 c6 => ⟨_, (congrArg (fun y => lset _ 8 (ownA _ _ _ _ _ y)) (cellsE_app S.torn S.others)).trans rfl, (by first | exact trivial | (repeat' (first | exact trivial | refine ⟨rfl, ?_⟩))), ?_⟩
  · simp only [maxLen]; omega
  · omega
  rw [show S.torn.length + S.others.length = (S.torn ++ S.others).length from by simp]
  refine J.r hX tab_ok 400 (fun _ => rfl) fun b59 => ?_
  refine J.r hX tab_ok 400 (fun _ => rfl) fun b60 => ?_
  refine J.ca hX (by kernel_rfl) (x_SortN a2 S.held.length c2 S.held rfl (by omega)) [9] 0 rfl rfl rfl rfl rfl rfl (fun _ => rfl) ?_
  rintro v As ⟨rfl, rfl⟩
  refine ⟨_, rfl, trivial, ?_⟩
  refine J.r hX tab_ok 400 (fun _ => rfl) fun b61 => ?_
  refine J.r hX tab_ok 400 (fun _ => rfl) fun b62 => ?_
  refine J.ca hX (by kernel_rfl) (x_Compact a2 S.held.length c2 (sortI S.held) (sortI_len _) (by omega)) [9] 0 rfl rfl rfl rfl rfl rfl (fun _ => rfl) ?_
  rintro v As ⟨l', hl', rfl, rfl⟩
  refine ⟨_, rfl, trivial, ?_⟩
  refine J.r hX tab_ok 400 (fun _ => rfl) fun b63 => ?_
  refine J.rt hX tab_ok [1, 3, 8, 9] rfl rfl rfl ?_
  rw [hsc, ← hl']
  exact ⟨q, a6, c6, a2, c2, rfl, rfl⟩
end Go.Proofs.YtoideahgjgaddaaGreat
/- Plain laws: the superblocks that are held, by a sort or put one by one; the one that stands, by tops or by the best. No program in sight. -/
namespace Go.Proofs.YtoideahgjgaddaaGreat
/-- sorted, each once -/
def normI (l : List Int) : List Int := compactI (sortI l)
def insI : List Int → Int → List Int
  | [], b => [b]
  | x :: l, b => if x < b then x :: insI l b else if x = b then x :: l else b :: x :: l
theorem insI_mem {b c : Int} : ∀ {l : List Int}, c ∈ insI l b ↔ c = b ∨ c ∈ l
  | [] => by simp [insI]
  | x :: l => by
    simp only [insI]
    split
    · rw [List.mem_cons, insI_mem, List.mem_cons]
      constructor
      · rintro (h | h | h) <;> simp [h]
      · rintro (h | h | h) <;> simp [h]
    · split
      · rename_i e; subst e; simp
      · simp
theorem insI_sorted {b : Int} : ∀ {l : List Int}, l.Pairwise (· < ·) → (insI l b).Pairwise (· < ·)
  | [], _ => by simp [insI]
  | x :: l, h => by
    simp only [insI]
    have h1 := List.pairwise_cons.1 h
    split
    · rename_i e
      refine List.pairwise_cons.2 ⟨fun c hc => ?_, insI_sorted h1.2⟩
      rcases insI_mem.1 hc with rfl | hc
      · exact e
      · exact h1.1 c hc
    · split
      · exact h
      · refine List.pairwise_cons.2 ⟨fun c hc => ?_, h⟩
        rcases List.mem_cons.1 hc with rfl | hc
        · omega
        · have := h1.1 c hc; omega
theorem dedFrom_spec : ∀ (l : List Int) (p : Int), (p :: l).Pairwise (· ≤ ·) → (dedFrom p l).Pairwise (· < ·) ∧ (∀ c ∈ dedFrom p l, p < c) ∧ ∀ c, c ∈ dedFrom p l ∨ c = p ↔ c ∈ l ∨ c = p
  | [], p, _ => by simp [dedFrom]
  | x :: l, p, h => by
    have h1 := List.pairwise_cons.1 h
    simp only [dedFrom]
    by_cases e : x = p
    · subst e
      obtain ⟨a, b, c⟩ := dedFrom_spec l x h1.2
      rw [if_pos rfl]
      refine ⟨a, b, fun d => ?_⟩
      rw [c d, List.mem_cons]
      constructor
      · rintro (h | h) <;> simp [h]
      · rintro ((h | h) | h) <;> simp [h]
    · obtain ⟨a, b, c⟩ := dedFrom_spec l x h1.2
      have hx : p < x := by have := h1.1 x (List.mem_cons_self ..); omega
      rw [if_neg e]
      refine ⟨List.pairwise_cons.2 ⟨b, a⟩, fun d hd => ?_, fun d => ?_⟩
      · rcases List.mem_cons.1 hd with rfl | hd
        · exact hx
        · have := b d hd; omega
      · have := c d
        rw [List.mem_cons, List.mem_cons]
        constructor
        · rintro ((h | h) | h)
          · simp [h]
          · rcases this.1 (.inl h) with h | h <;> simp [h]
          · simp [h]
        · rintro ((h | h) | h)
          · simp [h]
          · rcases this.2 (.inl h) with h | h <;> simp [h]
          · simp [h]
theorem sortI_sorted (l : List Int) : (sortI l).Pairwise (· ≤ ·) := by
  have := List.pairwise_mergeSort (le := leI) (fun a b c h1 h2 => by simp only [leI, decide_eq_true_eq] at *; omega) (fun a b => by simp only [leI, Bool.or_eq_true, decide_eq_true_eq]; omega) l
  exact this.imp (fun h => by simpa [leI] using h)
theorem sortI_mem (l : List Int) (c : Int) : c ∈ sortI l ↔ c ∈ l := List.mem_mergeSort
theorem normI_spec (l : List Int) : (normI l).Pairwise (· < ·) ∧ ∀ c, c ∈ normI l ↔ c ∈ l := by
  have hs := sortI_sorted l
  have hm := sortI_mem l
  unfold normI
  revert hs hm
  cases sortI l with
  | nil => intro _ hm; exact ⟨by simp [compactI], fun c => by rw [← hm c]; simp [compactI]⟩
  | cons x m =>
    intro hs hm
    obtain ⟨a, b, c⟩ := dedFrom_spec m x hs
    refine ⟨List.pairwise_cons.2 ⟨b, a⟩, fun d => ?_⟩
    rw [← hm d]
    show d ∈ x :: dedFrom x m ↔ _
    rw [List.mem_cons, List.mem_cons]
    have := c d
    constructor
    · rintro (h | h)
      · simp [h]
      · rcases this.1 (.inl h) with h | h <;> simp [h]
    · rintro (h | h)
      · simp [h]
      · rcases this.2 (.inl h) with h | h <;> simp [h]
theorem sorted_ext : ∀ {a b : List Int}, a.Pairwise (· < ·) → b.Pairwise (· < ·) → (∀ c, c ∈ a ↔ c ∈ b) → a = b
  | [], [], _, _, _ => rfl
  | [], y :: b, _, _, h => by have := (h y).2 (List.mem_cons_self ..); cases this
  | x :: a, [], _, _, h => by have := (h x).1 (List.mem_cons_self ..); cases this
  | x :: a, y :: b, ha, hb, h => by
    have ha1 := List.pairwise_cons.1 ha
    have hb1 := List.pairwise_cons.1 hb
    have e : x = y := by
      rcases List.mem_cons.1 ((h x).1 (List.mem_cons_self ..)) with e | e
      · exact e
      · rcases List.mem_cons.1 ((h y).2 (List.mem_cons_self ..)) with e2 | e2
        · exact e2.symm
        · have := ha1.1 y e2; have := hb1.1 x e; omega
    subst e
    rw [sorted_ext ha1.2 hb1.2 (fun c => ?_)]
    constructor
    · intro hc
      rcases List.mem_cons.1 ((h c).1 (List.mem_cons_of_mem _ hc)) with e | e
      · have := ha1.1 c hc; omega
      · exact e
    · intro hc
      rcases List.mem_cons.1 ((h c).2 (List.mem_cons_of_mem _ hc)) with e | e
      · have := hb1.1 c hc; omega
      · exact e
theorem normI_nil : normI [] = [] := by have := (normI_spec []).2; exact List.eq_nil_iff_forall_not_mem.2 (fun c hc => by simpa using (this c).1 hc)
theorem normI_snoc (l : List Int) (b : Int) : normI (l ++ [b]) = insI (normI l) b := by
  refine sorted_ext (normI_spec _).1 (insI_sorted (normI_spec l).1) fun c => ?_
  rw [(normI_spec _).2, insI_mem, (normI_spec l).2, List.mem_append, List.mem_singleton, or_comm]
namespace V
theorem tops_snoc (l : List Fnd) (x : Fnd) : tops (l ++ [x]) = topsStep (tops l) x := by unfold tops; rw [List.foldl_append]; rfl
theorem standOf_snoc (l : List Fnd) (x : Fnd) : standOf (l ++ [x]) = if (standOf l).2 = false ∨ behind (standOf l).1 x = true then (x, true) else standOf l := by
  unfold standOf
  rw [tops_snoc]
  cases tops l with
  | nil => simp [topsStep]
  | cons h t =>
    simp only [topsStep, Bool.true_eq_false, false_or]
    by_cases hb : behind h x = true
    · rw [if_pos hb, if_pos hb]
    · rw [if_neg hb, if_neg hb]
      by_cases hb2 : behind x h = true
      · rw [if_pos hb2]
      · rw [if_neg hb2]; rfl
/-- the newest of some -/
def topSeq (l : List Fnd) : Int := l.foldl (fun m f => max m f.en.seq) (-1)
theorem topSeq_le (l : List Fnd) : -1 ≤ topSeq l ∧ ∀ f ∈ l, f.en.seq ≤ topSeq l := by
  have : ∀ (l : List Fnd) (m : Int), m ≤ l.foldl (fun m f => max m f.en.seq) m ∧ ∀ f ∈ l, f.en.seq ≤ l.foldl (fun m f => max m f.en.seq) m := by
    intro l
    induction l with
    | nil => intro m; simp
    | cons x l ih =>
      intro m
      have := ih (max m x.en.seq)
      refine ⟨by simp only [List.foldl_cons]; omega, fun f hf => ?_⟩
      rcases List.mem_cons.1 hf with rfl | hf
      · simp only [List.foldl_cons]; omega
      · exact this.2 f hf
  exact this l (-1)
theorem behind_whole {a b : Fnd} (ha : a.whole = true) (hb : b.whole = true) : behind a b = decide (a.en.seq < b.en.seq) := by
  unfold behind
  split
  · rfl
  · rename_i h
    rw [ha]
    have : ¬ a.en.seq < b.en.seq := by omega
    simp [this]
where
  topSeq_in (m : List Fnd) (hm : m ≠ []) (h0 : ∀ f ∈ m, 0 ≤ f.en.seq) : ∃ f ∈ m, f.en.seq = topSeq m := by
    have : ∀ (m : List Fnd) (a : Int), m.foldl (fun m f => max m f.en.seq) a = a ∨ ∃ f ∈ m, f.en.seq = m.foldl (fun m f => max m f.en.seq) a := by
      intro m
      induction m with
      | nil => intro a; left; rfl
      | cons x m ih =>
        intro a
        rcases ih (max a x.en.seq) with h | ⟨f, hf, e⟩
        · by_cases ha : x.en.seq ≤ a
          · left; simp only [List.foldl_cons]; rw [h]; omega
          · right; exact ⟨x, List.mem_cons_self .., by simp only [List.foldl_cons]; rw [h]; omega⟩
        · right; exact ⟨f, List.mem_cons_of_mem _ hf, e⟩
    rcases this m (-1) with h | h
    · cases m with
      | nil => exact absurd rfl hm
      | cons x m =>
        have h1 := (topSeq_le (x :: m)).2 x (List.mem_cons_self ..)
        have h2 := h0 x (List.mem_cons_self ..)
        have h3 : topSeq (x :: m) = -1 := h
        omega
    · exact h
end V
end Go.Proofs.YtoideahgjgaddaaGreat
/- A closed scan: what begun of ostrakonlaw16 scans. No program in sight. -/
namespace Go.Proofs.YtoideahgjgaddaaGreat
open Go Go.RowKit
namespace B16
def e1 : En := ⟨2, 5, 1, 1 :: List.replicate 15 0⟩
def e2 : En := ⟨2, 4, 1, 2 :: List.replicate 15 0⟩
def e3 : En := ⟨1, 8, 2, zeros16⟩
def w1 : En := ⟨4, 1, 0, zeros16⟩
def w2 : En := ⟨5, 2, 0, zeros16⟩
def w3 : En := ⟨4, 3, 0, zeros16⟩
def N0 : Nand := Nand.new 3 8 2
def N1 : Nand := (R.write N0 1 0 7 [e1, B9.pad]).1
def N2 : Nand := (R.write N1 2 0 7 [e2, e3]).1
theorem G0 : N0.Gd 100 0 := Nand.Gd.new 3 8 2 rfl 100 (by decide)
theorem G1 : N1.Gd 92 0 := write_Gd (by decide) G0
theorem G2 : N2.Gd 84 0 := write_Gd (by decide) G1
theorem off2 : N2.off = false := by kernel_rfl
def L : List Fnd := [⟨e1, 1, 0, 0, 7, true, false⟩, ⟨e2, 2, 0, 0, 7, true, false⟩, ⟨e3, 2, 0, 1, 7, true, false⟩]
def T : Tb := ⟨3, [(1, ⟨2, 0, 1, 7, 8, 2⟩), (2, ⟨1, 0, 0, 7, 5, 1⟩)], [(2, 1), (1, 1)], 9⟩
theorem h_all : V.all N2 = L := by kernel_rfl
theorem h_go : V.goS N2 L 3 3 = ⟨T, [], [], []⟩ := by kernel_rfl
theorem h_size : V.size 3 = 3 := by kernel_rfl
theorem h_next : V.nextOf L = 9 := by kernel_rfl
theorem h_scan : V.scan N2 3 = ⟨T, [], 0, [], 9, 3⟩ := by
  unfold V.scan
  rw [h_all]
  unfold V.scanOf
  rw [h_size, h_go, h_next]
  have : compactI (sortI []) = [] := normI_nil
  dsimp only
  rw [this]
  rfl
end B16
end Go.Proofs.YtoideahgjgaddaaGreat
/- A closed sentence: begun of ostrakonlaw16. -/
namespace Go.Proofs.YtoideahgjgaddaaGreat
open Go Go.RowKit
theorem l11_Begun : Fn Tryz.prog 37 [] [] (fun v As => v = .bool true ∧ As = []) := by
  refine Fn.enter [] Tryz.func37 rfl rfl rfl fun X F hX => ?_
  refine J.r hX tab_ok 400 (fun _ => rfl) fun b1 => ?_
  refine J.r hX tab_ok 400 (fun _ => rfl) fun b2 => ?_
  refine J.ca hX (by kernel_rfl) (l11_begun) [] 0 rfl rfl rfl rfl rfl rfl (fun _ => rfl) ?_
  rintro v As ⟨rfl, rfl⟩
  refine ⟨_, rfl, trivial, ?_⟩
  refine J.r hX tab_ok 400 (fun _ => rfl) fun b3 => ?_
  refine J.rt hX tab_ok [] rfl rfl rfl ?_
  exact ⟨rfl, rfl⟩
open B16
set_option maxRecDepth 20000 in
theorem l16_begun : Fn Tryz.prog 13 [] [] (fun v As => v = .bool true ∧ As = []) := by
  refine Fn.enter [] Tryz.func13 rfl rfl rfl fun X F hX => ?_
  refine J.r hX tab_ok 400 (fun _ => rfl) fun b4 => ?_
  refine J.r hX tab_ok 400 (fun _ => rfl) fun b5 => ?_
  refine J.ca hX (by kernel_rfl) (n_New 3 8 2 rfl) [] 0 rfl rfl rfl rfl rfl rfl (fun _ => rfl) ?_
  rintro v As ⟨q, rfl, rfl⟩
  refine ⟨_, rfl, trivial, ?_⟩
  refine J.r hX tab_ok 400 (fun _ => rfl) fun b6 => ?_
  refine J.cond rfl (fun h => absurd h (by decide)) (fun _ => ?_)
  refine J.r hX tab_ok 400 (fun _ => rfl) fun bx => ?_
  refine J.r hX tab_ok 400 (fun _ => rfl) fun b7 => ?_
  refine J.ca hX (by kernel_rfl) (r_Write q N0 (.pt (bx 0) 45 (cellsE [e1, B9.pad])) 1 0 7 (some ⟨bx 0, 0, none⟩) 2 2 0 [e1, B9.pad] (pt_rd _ _ _ _ _ rfl) rfl (by decide) (G0.less (by decide) (Nat.le_refl _))) [1, 2] 0 rfl rfl rfl rfl rfl rfl (fun _ => rfl) ?_
  rintro v As ⟨rfl, rfl⟩
  refine ⟨_, rfl, trivial, ?_⟩
  refine J.r hX tab_ok 400 (fun _ => rfl) fun by_ => ?_
  refine J.r hX tab_ok 400 (fun _ => rfl) fun b8 => ?_
  refine J.ca hX (by kernel_rfl) (r_Write q N1 (.pt (by_ 0) 45 (cellsE [e2, e3])) 2 0 7 (some ⟨by_ 0, 0, none⟩) 2 2 0 [e2, e3] (pt_rd _ _ _ _ _ rfl) rfl (by decide) (G1.less (by decide) (Nat.le_refl _))) [1, 3] 0 rfl rfl rfl rfl rfl rfl (fun _ => rfl) ?_
  rintro v As ⟨rfl, rfl⟩
  refine ⟨_, rfl, trivial, ?_⟩
  refine J.r hX tab_ok 400 (fun _ => rfl) fun b9 => ?_
  refine J.r hX tab_ok 400 (fun _ => rfl) fun b10 => ?_
  refine J.ca hX (by kernel_rfl) (v_Scan q N2 G2.ok G2.room off2 3) [1] 0 rfl rfl rfl rfl rfl rfl (fun _ => rfl) ?_
  rintro v As ⟨r, a1, c1, a2, c2, rfl, rfl⟩
  refine ⟨_, rfl, trivial, ?_⟩
  rw [h_scan]
  refine J.r hX tab_ok 400 (fun _ => rfl) fun b11 => ?_
  refine J.r hX tab_ok 400 (fun _ => rfl) fun b12 => ?_
  refine J.cond rfl (fun h => absurd h (by decide)) (fun _ => ?_)
  refine J.r hX tab_ok 400 (fun _ => rfl) fun b13 => ?_
  refine J.r hX tab_ok 400 (fun _ => rfl) fun b14 => ?_
  refine J.ca hX (by kernel_rfl) (tb_Get r T 2) [4] 0 rfl rfl rfl rfl rfl rfl (fun _ => rfl) ?_
  rintro v As ⟨rfl, rfl⟩
  refine ⟨_, rfl, trivial, ?_⟩
  rw [show Tb.look T.at_ 2 = some ⟨1, 0, 0, 7, 5, 1⟩ from rfl, Option.getD_some, Option.isSome_some]
  refine J.r hX tab_ok 400 (fun _ => rfl) fun b15 => ?_
  refine J.r hX tab_ok 400 (fun _ => rfl) fun b16 => ?_
  refine J.ca hX (by kernel_rfl) (d_New) [] 0 rfl rfl rfl rfl rfl rfl (fun _ => rfl) ?_
  rintro v As ⟨d, rfl, rfl⟩
  refine ⟨_, rfl, trivial, ?_⟩
  refine J.r hX tab_ok 400 (fun _ => rfl) fun b17 => ?_
  refine J.r hX tab_ok 400 (fun _ => rfl) fun b18 => ?_
  refine J.ca hX (by kernel_rfl) (d_Put d [] (by decide) w1) [9] 0 rfl rfl rfl rfl rfl rfl (fun _ => rfl) ?_
  rintro v As ⟨rfl, rfl⟩
  refine ⟨_, rfl, trivial, ?_⟩
  rw [show dkPut [] w1 = [w1] from rfl]
  refine J.r hX tab_ok 400 (fun _ => rfl) fun b19 => ?_
  refine J.r hX tab_ok 400 (fun _ => rfl) fun b20 => ?_
  refine J.ca hX (by kernel_rfl) (d_Put d [w1] (by decide) w2) [9] 0 rfl rfl rfl rfl rfl rfl (fun _ => rfl) ?_
  rintro v As ⟨rfl, rfl⟩
  refine ⟨_, rfl, trivial, ?_⟩
  rw [show dkPut [w1] w2 = [w1, w2] from rfl]
  refine J.r hX tab_ok 400 (fun _ => rfl) fun b21 => ?_
  refine J.r hX tab_ok 400 (fun _ => rfl) fun b22 => ?_
  refine J.ca hX (by kernel_rfl) (d_Put d [w1, w2] (by decide) w3) [9] 0 rfl rfl rfl rfl rfl rfl (fun _ => rfl) ?_
  rintro v As ⟨rfl, rfl⟩
  refine ⟨_, rfl, trivial, ?_⟩
  rw [show dkPut [w1, w2] w3 = [w2, w3] from rfl]
  refine J.r hX tab_ok 400 (fun _ => rfl) fun b23 => ?_
  refine J.r hX tab_ok 400 (fun _ => rfl) fun b24 => ?_
  refine J.ca hX (by kernel_rfl) (d_First d [w2, w3] (by decide) 5) [9] 0 rfl rfl rfl rfl rfl rfl (fun _ => rfl) ?_
  rintro v As ⟨a3, c3, rfl, rfl⟩
  refine ⟨_, rfl, trivial, ?_⟩
  rw [show dkN [w2, w3] 5 = 2 from rfl, show [w2, w3].take 2 = [w2, w3] from rfl]
  refine J.know (fun h' s => own_some (c := (a3, c3)) (by decide) (s.get (i := 10) rfl)) fun hg => ?_
  obtain ⟨ga, rfl⟩ := hg
  refine J.know (fun h' s => ownP_cap (show ownP _ _ (some ga) 2 c3 _ _ from s.get (i := 10) rfl)) fun hcap => ?_
  refine J.r hX tab_ok 400 (fun _ => rfl) fun b25 => ?_
  refine J.r hX tab_ok 400 (fun _ => rfl) fun b26 => ?_
  refine J.ca hX (by kernel_rfl) (d_Get d [w2, w3] (by decide) 4) [9] 0 rfl rfl rfl rfl rfl rfl (fun _ => rfl) ?_
  rintro v As ⟨rfl, rfl⟩
  refine ⟨_, rfl, trivial, ?_⟩
  rw [show dkGet [w2, w3] 4 = (w3, true) from rfl]
  refine J.r hX tab_ok 400 (fun _ => rfl) fun b27 => ?_
  refine J.r hX tab_ok 400 (fun _ => rfl) fun b28 => ?_
  refine J.ca hX (by kernel_rfl) (l11_Begun) [] 0 rfl rfl rfl rfl rfl rfl (fun _ => rfl) ?_
  rintro v As ⟨rfl, rfl⟩
  refine ⟨_, rfl, trivial, ?_⟩
  refine J.r hX tab_ok 400 (fun _ => rfl) fun b29 => ?_
  refine J.r hX tab_ok 400 (fun _ => rfl) fun b30 => ?_
  refine J.ca hX (by kernel_rfl) (l13_Begun) [] 0 rfl rfl rfl rfl rfl rfl (fun _ => rfl) ?_
  rintro v As ⟨rfl, rfl⟩
  refine ⟨_, rfl, trivial, ?_⟩
  refine J.r hX tab_ok 400 (fun _ => rfl) fun b31 => ?_
  refine J.r hX tab_ok 400 (fun _ => rfl) fun b32 => ?_
  refine J.ca hX (by kernel_rfl) (tb_Len r T) [4] 0 rfl rfl rfl rfl rfl rfl (fun _ => rfl) ?_
  rintro v As ⟨rfl, rfl⟩
  refine ⟨_, rfl, trivial, ?_⟩
  refine J.r hX tab_ok 400 (fun _ => rfl) fun b33 => ?_
  refine J.val hX (.int .i64 5) 0 rfl rfl (fun hg a w he hw => own1_run tab_ok rfl rfl he hg rfl rfl (hw.get (i := 10) rfl) rfl) rfl trivial ?_
  refine J.r hX tab_ok 400 (fun _ => rfl) fun b34 => ?_
  have hRd : Rd (ownA 45 19 (some ga) 2 c3 (cellsE [w2, w3])) (some ⟨ga, 0, none⟩) 19 1 (cellsE [w2]) := (own_rd 45 19 (some ga) 2 c3 (cellsE [w2, w3])).take 1 (by decide)
  refine J.r hX tab_ok 400 (fun _ => rfl) fun b35 => ?_
  refine J.ca hX (by kernel_rfl) (d_Done d [w2, w3] (by decide) (ownA 45 19 (some ga) 2 c3 (cellsE [w2, w3])) (some ⟨ga, 0, none⟩) 1 c3 [w2] hRd rfl (by decide)) [9, 10] 0 rfl rfl rfl rfl rfl rfl (fun _ => rfl) ?_
  rintro v As ⟨rfl, rfl⟩
  refine ⟨_, rfl, trivial, ?_⟩
  rw [show dkDone [w2, w3] [w2] = [w3] from rfl]
  refine J.r hX tab_ok 400 (fun _ => rfl) fun b36 => ?_
  refine J.r hX tab_ok 400 (fun _ => rfl) fun b37 => ?_
  refine J.ca hX (by kernel_rfl) (d_Len d [w3]) [9] 0 rfl rfl rfl rfl rfl rfl (fun _ => rfl) ?_
  rintro v As ⟨rfl, rfl⟩
  refine ⟨_, rfl, trivial, ?_⟩
  refine J.r hX tab_ok 400 (fun _ => rfl) fun b38 => ?_
  refine J.rt hX tab_ok [] rfl rfl rfl ?_
  exact ⟨rfl, rfl⟩
end Go.Proofs.YtoideahgjgaddaaGreat
/- Walks: no desk; no flash, no power: desk's methods, survey.Scan. -/
namespace Go.Proofs.YtoideahgjgaddaaGreat
open Go Go.RowKit
end Go.Proofs.YtoideahgjgaddaaGreat
/- Walks: the sentence DeskNone. -/
namespace Go.Proofs.YtoideahgjgaddaaGreat
open Go Go.RowKit
end Go.Proofs.YtoideahgjgaddaaGreat
/- Plain law: what waits on a desk. No program in sight. -/
namespace Go.Proofs.YtoideahgjgaddaaGreat
/-- no two alike -/
def dkOne (L : List En) : Prop := (L.map (·.lpn)).Nodup
theorem dkOne.app {A B : List En} (h : dkOne (A ++ B)) : ∀ x ∈ A, ∀ y ∈ B, x.lpn ≠ y.lpn := by
  unfold dkOne at h
  rw [List.map_append, List.nodup_append] at h
  exact fun x hx y hy => h.2.2 _ (List.mem_map_of_mem hx) _ (List.mem_map_of_mem hy)
theorem dkOne.right {A B : List En} (h : dkOne (A ++ B)) : dkOne B := by
  unfold dkOne at h ⊢
  rw [List.map_append, List.nodup_append] at h
  exact h.2.1
theorem dkOne.nil : dkOne [] := List.Pairwise.nil
theorem dkOne.put {L : List En} (h : dkOne L) (e : En) : dkOne (dkPut L e) := by
  unfold dkOne dkPut
  rw [List.map_append, List.nodup_append]
  refine ⟨List.Nodup.sublist (List.Sublist.map _ (List.filter_sublist)) h, by simp, fun a ha b hb => ?_⟩
  obtain ⟨x, hx, rfl⟩ := List.mem_map.1 ha
  simp only [List.mem_filter, Bool.not_eq_true', beq_eq_false_iff_ne] at hx
  simp only [List.map_cons, List.map_nil, List.mem_cons, List.not_mem_nil, or_false] at hb
  rw [hb]
  exact hx.2
theorem dkOne.sub {L L' : List En} (h : dkOne L) (s : L'.Sublist L) : dkOne L' := List.Nodup.sublist (List.Sublist.map _ s) h
theorem dk_app {A B : List En} (h : dkOne (A ++ B)) : dkDone (A ++ B) A = B := by
  unfold dkDone
  rw [List.filter_append]
  have h1 : A.filter (fun x => !(A.any fun e => e.lpn == x.lpn && e.seq == x.seq)) = [] := by
    refine List.filter_eq_nil_iff.2 fun x hx => ?_
    simp only [Bool.not_eq_true', Bool.not_eq_false', ne_eq, Bool.not_eq_true, Bool.not_eq_false, List.any_eq_true, Bool.and_eq_true, beq_iff_eq]
    exact ⟨x, hx, rfl, rfl⟩
  have h2 : B.filter (fun x => !(A.any fun e => e.lpn == x.lpn && e.seq == x.seq)) = B := by
    refine List.filter_eq_self.2 fun x hx => ?_
    simp only [Bool.not_eq_true', List.any_eq_false, Bool.and_eq_true, beq_iff_eq, not_and]
    exact fun e he heq _ => h.app e he x hx heq
  rw [h1, h2, List.nil_append]
theorem dk_app2 {e : En} {A B : List En} {s : Int} (hs : s ≠ e.seq) (h : dkOne (e :: (A ++ B))) : dkDone (e :: (A ++ B)) ({ e with seq := s } :: A) = e :: B := by
  have hA : dkOne (A ++ B) := dkOne.right (A := [e]) h
  have he : ∀ y ∈ A ++ B, e.lpn ≠ y.lpn := dkOne.app (A := [e]) h e (List.mem_cons_self ..)
  have hd := dk_app hA
  unfold dkDone at hd ⊢
  rw [List.filter_cons]
  have h0 : (!(({ e with seq := s } :: A).any fun x => x.lpn == e.lpn && x.seq == e.seq)) = true := by
    simp only [Bool.not_eq_true', List.any_eq_false, Bool.and_eq_true, beq_iff_eq, not_and, List.mem_cons]
    rintro x (rfl | hx) h1
    · exact hs
    · exact absurd h1.symm (he x (List.mem_append_left _ hx))
  rw [if_pos h0]
  congr 1
  refine Eq.trans ?_ hd
  refine List.filter_congr fun x hx => ?_
  rw [List.any_cons]
  have : ((e.lpn == x.lpn) : Bool) = false := beq_eq_false_iff_ne.2 (he x hx)
  show (!(((e.lpn == x.lpn) && (s == x.seq)) || _)) = _
  rw [this, Bool.false_and, Bool.false_or]
theorem dk_take {L : List En} (h : dkOne L) (n : Nat) : dkDone L (L.take n) = L.drop n := by
  have := dk_app (A := L.take n) (B := L.drop n) (by rwa [List.take_append_drop])
  rwa [List.take_append_drop] at this
theorem dk_get_in {L : List En} (h : dkOne L) {j : Nat} {x : En} (hx : L[j]? = some x) : dkGet L x.lpn = (x, true) := by
  obtain ⟨hj, rfl⟩ := List.getElem?_eq_some_iff.1 hx
  unfold dkGet
  have : L.find? (fun y => y.lpn == L[j].lpn) = some L[j] := by
    rw [List.find?_eq_some_iff_getElem]
    refine ⟨by simp, j, hj, rfl, fun i hi => ?_⟩
    simp only [Bool.not_eq_true', beq_eq_false_iff_ne]
    intro he
    have := (List.pairwise_iff_getElem.1 h) i j (by simp; omega) (by simp; omega) hi
    simp at this
    exact this he
  rw [this]
end Go.Proofs.YtoideahgjgaddaaGreat
/- Walks: the references' sets of dies: ref1.pow, Dies, Spot, ref6.Parity, Slots. -/
namespace Go.Proofs.YtoideahgjgaddaaGreat
open Go Go.RowKit
end Go.Proofs.YtoideahgjgaddaaGreat
/- Plain laws: a sum tells one changed byte. No program in sight. -/
namespace Go.Proofs.YtoideahgjgaddaaGreat
open Go
namespace K
end K
end Go.Proofs.YtoideahgjgaddaaGreat
/- Plain laws: a page of which one byte was changed is no sherd's page. No program in sight. -/
namespace Go.Proofs.YtoideahgjgaddaaGreat
open Go
namespace Bt
end Bt
namespace S
end S
end Go.Proofs.YtoideahgjgaddaaGreat
/- Plain: bits by lists, sums by lists of bits. No program in sight. -/
namespace Go.Proofs.YtoideahgjgaddaaGreat
open Go
namespace Bt
end Bt
namespace K
end K
namespace S
end S
end Go.Proofs.YtoideahgjgaddaaGreat
/- Walks: the references' bits: ref1.Bits, Num, Of, Step, Sum. -/
namespace Go.Proofs.YtoideahgjgaddaaGreat
open Go Go.RowKit
section
variable {P : Program} {T : Tab} {E : Env} {n : Nat} {ac : Act} {w : World}
end
theorem Rd.drop {A : Atom} {b o size n : Nat} {xs : List Value} (h : Rd A (some ⟨b, o, none⟩) size n xs) (k : Nat) (hk : k ≤ n) : Rd A (some ⟨b, o + k * size, none⟩) size (n - k) (xs.drop (k * size)) := by
  intro h' s
  obtain ⟨h0, h1⟩ := h h' s
  have hle : k * size ≤ n * size := Nat.mul_le_mul_right _ hk
  refine ⟨by rw [List.length_drop, h0, Nat.sub_mul], fun hk0 => ?_⟩
  obtain ⟨b', o', cs, ty, fr, e1, e2, e3⟩ := h1 (by omega)
  simp only [Option.some.injEq, Addr.mk.injEq, and_true] at e1
  obtain ⟨rfl, rfl⟩ := e1
  refine ⟨b, _, cs, ty, fr, rfl, e2, ?_⟩
  rw [← e3, List.drop_take, List.drop_drop, Nat.sub_mul]
end Go.Proofs.YtoideahgjgaddaaGreat
/- Walks: the references' sums: ref1.Step, Sum. -/
namespace Go.Proofs.YtoideahgjgaddaaGreat
open Go Go.RowKit
end Go.Proofs.YtoideahgjgaddaaGreat
/- Walks: the references' sherds: ref9.May. -/
namespace Go.Proofs.YtoideahgjgaddaaGreat
open Go Go.RowKit
end Go.Proofs.YtoideahgjgaddaaGreat
/- The frame: copy. No program in sight. -/
namespace Go.Proofs.YtoideahgjgaddaaGreat
open Go Go.RowKit
theorem hl_setRow {w : World} {g : Nat} {cur cs : Array Value} {t : TypeId} (h : w.heap[g]? = some (.cells cur t (0, 0))) : hl (w.setRow g cs) = hset (hl w) g (.cells cs t (0, 0)) := by
  funext x
  unfold hset
  by_cases e : x = g
  · subst e
    rw [if_pos rfl]
    exact setRow_heap w x cur cs t _ h
  · rw [if_neg e]
    exact setRow_other w g x _ e
section
variable {X : Cx} {P : Program} {T : Tab} {K : List KI} {E : Env} {L : List Atom} {N : Nat} {F : HP} {Post : Value → List Atom → Prop} {rs : List ResultVar}
/-- one-celled things that are read are copied into an array of its own -/
theorem J.copy (hX : IsCx X P rs N F Post) (hT : TabOK P T) {ops : Array Oper} {C : Cl} {lt : Bool} {i : Nat} {t : PT} {o : Oper} {g : G} {x y : Operand} {dT sT e by_ : Nat} {kx tx ky ty : Nat} {gx gy : G} {b off dl dc b2 oo sl sc tb : Nat} {old xs : List Value} {s1 b1 : Nat} {z1 : List Value} {E' : Value → Env} {Ay : Atom} (is iy : Nat)
    (ho : lget ops.toList i = some o) (hg : gd ops.toList E o = some g) (hgo : g.on = true) (hop : o.op = .call ⟨.builtin .copy, #[x, y], #[dT, sT]⟩)
    (hx : ev E x = some ⟨kx, .slice (some ⟨b, off, none⟩) dl dc, tx, gx⟩) (hvx : gx.on = true) (hy : ev E y = some ⟨ky, .slice (some ⟨b2, oo, none⟩) sl sc, ty, gy⟩) (hvy : gy.on = true)
    (hLx : lget L is = some (.pt b tb old)) (hLy : lget L iy = some Ay) (hrd : Rd Ay (some ⟨b2, oo, none⟩) 1 sl xs) (hst : T.get dT = some ⟨.slice e 1, s1, z1, b1⟩) {td : TD} {z : List Value} (he : T.get e = some ⟨td, 1, z, by_⟩)
    (cs : List Value) (hcs : xs.take (Nat.min sl dl) = cs) (hlt : off + cs.length ≤ old.length) (h1 : ∀ u ∈ xs, u.oneCell' = true) (cs' : List Value) (hcs' : old.take off ++ cs ++ old.drop (off + cs.length) = cs') {L2 : List Atom} (hL2 : lset L is (.pt b tb cs') = some L2)
    (hd : ∀ v, putE N o.dst v 0 .tt E = some (E' v)) (hJ : Conj (staysL lt C L2) ∧ J X (.reg ops C t :: K) (E' (goInt cs.length)) L2) : J X (.reg ops C (.alt lt i t .non) :: K) E L := by
  refine J.op hX (S := fun v' L' => v' = goInt cs.length ∧ L' = L.set is (.pt b tb cs')) 0 ho hg hgo (fun a0 w hen hs => ?_) hd (fun v L' ⟨e1, e2⟩ => by subst e1; subst e2; rw [← lset_eq hL2]; exact hJ)
  rw [lget_eq] at hLx hLy
  have ex := ev_spec hen hx
  have ey := ev_spec hen hy
  simp only [Slot.val, hvx, hvy] at ex ey
  obtain ⟨d, f, zv, ok⟩ := tiOf_spec (hT.get hst)
  obtain ⟨fe, rfl, g1, g2⟩ := ok.slice rfl
  have hblk : Blk w b tb old.toArray := hs.pt hLx
  have hrd2 := hrd _ (hs.get hLy)
  have hxl : xs.length = sl := by rw [hrd2.1, Nat.mul_one]
  have hn : cs.length = Nat.min sl dl := by
    rw [← hcs, List.length_take, hxl]
    exact Nat.min_eq_left (Nat.min_le_left sl dl)
  have hsrc : ∀ j v, cs[j]? = some v → w.cell? ((⟨b2, oo, none⟩ : Addr).add j) = some v := fun j u hu => by
    have hj : j < cs.length := (List.getElem?_eq_some_iff.1 hu).1
    rw [← hcs, List.getElem?_take] at hu
    split at hu
    · rw [Addr.add_none]
      refine rd_cell hrd2 ?_ hu
      have := (List.getElem?_eq_some_iff.1 hu).1
      omega
    · cases hu
  have h1' : ∀ v ∈ cs, v.oneCell' = true := fun v hv => h1 v (by rw [← hcs] at hv; exact List.mem_of_mem_take hv)
  have hsz : (P.info? e).map (·.size) = some 1 := by rw [g1]; exact congrArg some g2
  have hrun := run_copy_row (P := P) w dT sT o.type e b off dl dc ⟨b2, oo, none⟩ sl sc old.toArray tb cs ok.hd hsz hblk hn hsrc (by simpa using hlt) h1'
  have harr : (old.toArray.toList.take off ++ cs ++ old.toArray.toList.drop (off + cs.length)).toArray = cs'.toArray := congrArg List.toArray hcs'
  rw [harr] at hrun
  refine ⟨_, _, .value (goInt cs.length), w.setRow b cs'.toArray, ⟨rfl, rfl⟩, ?_, .inl rfl, ?_, Ext.grown (grown_setRow w b _)⟩
  · simp only [execOp, hop, resolve, Sem.run_bind, Sem.run_pure, Result.andThen_ok, invoke, builtin, List.map_toArray, List.map_cons, List.map_nil, ex, ey, hrun]
  · rw [hl_setRow hblk]
    exact hs.setPt cs' hLx
end
end Go.Proofs.YtoideahgjgaddaaGreat
/- Walks: the references' pages: ref9.field, Get. -/
namespace Go.Proofs.YtoideahgjgaddaaGreat
open Go Go.RowKit
end Go.Proofs.YtoideahgjgaddaaGreat
/- Walks: the references' rows: ref9.Own, over, Parity. -/
namespace Go.Proofs.YtoideahgjgaddaaGreat
open Go Go.RowKit
namespace F9
def xo (m n : Int) : Int := IntKind.i64.wrap ((BitVec.ofInt IntKind.i64.bits m ^^^ BitVec.ofInt IntKind.i64.bits n).toNat : Int)
def over (a b : Sh) : Sh := ⟨W.mix a.data b.data 16, xo a.role b.role, xo a.lpn b.lpn, xo a.seq b.seq, a.kind, a.block, a.row, a.mask⟩
end F9
/-- a row's parity as the reference has it: the first k laid over one another -/
def F9.par (b r m : Int) (l : List En) : Sh := l.foldl (fun s e => F9.over s (W.sh b r m e)) ⟨zeros16, 0, 0, 0, 2, b, r, m⟩
end Go.Proofs.YtoideahgjgaddaaGreat
/- Walks: the references' places: ref6.Parity. -/
namespace Go.Proofs.YtoideahgjgaddaaGreat
open Go Go.RowKit
end Go.Proofs.YtoideahgjgaddaaGreat
/- Walks: the references' looks: ref9.Look, one, entry. -/
namespace Go.Proofs.YtoideahgjgaddaaGreat
open Go Go.RowKit
end Go.Proofs.YtoideahgjgaddaaGreat
/- Plain laws: masks, sorted, each once. No program in sight. -/
namespace Go.Proofs.YtoideahgjgaddaaGreat
open Go
end Go.Proofs.YtoideahgjgaddaaGreat
/- Walks: the references' masks: ref9.Masks. -/
namespace Go.Proofs.YtoideahgjgaddaaGreat
open Go Go.RowKit
namespace T2
def tab : Tab := (224, ⟨.arr 256 1, 256, List.replicate 256 (.bool false), 256⟩) :: Go.Proofs.YtoideahgjgaddaaGreat.tab
theorem tab_ok : TabOK Tryz.prog tab := TabOK.mk (by kernel_rfl)
end T2
end Go.Proofs.YtoideahgjgaddaaGreat
