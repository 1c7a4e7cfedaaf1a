/- Helpers of the proofs about ostrakonlaw11, proved here: RfR, RfS, LdE, Lsa, Jn, JnP. No condition. -/
import Derived.Test.YtoideahgjgaddaaGreatQ23
import Derived.Test.YtoideahgjgaddaaGreatQ26
import Derived.Test.YtoideahgjgaddaaGreatQ27
import Derived.Test.YtoideahgjgaddaaGreatRows
import Derived.JoinedOf
set_option maxRecDepth 20000
set_option linter.unusedVariables false
set_option linter.unusedSimpArgs false
set_option linter.unusedSectionVars false
set_option linter.unnecessarySimpa false
namespace Go.Proofs.YtoideahgjgaddaaGreat
open Go Go.RowKit
theorem inB_eq (t : Tb) (b i : Int) : ((Tb.look t.at_ i).isSome && (((Tb.look t.at_ i).getD AtV.zero).block == b)) = Tb.inB t b i := by
 unfold Tb.inB
 cases Tb.look t.at_ i <;> rfl
theorem f13_In (q : Nat) (t : Tb) (m : Nat) (hm : m ≤ 65536) (b : Int) : Fn Tryz.prog 57 [.pointer (some ⟨q, 0, none⟩), .int .i64 b] [RefA q t m]
  (fun v As => ∃ a c, v = slv a (Tb.inK t b m).length c ∧ As = [RefA q t m, ownA 3 1 a (Tb.inK t b m).length c (cellsI (Tb.inK t b m))]) := by
 refine Fn.enter [2, 0] Tryz.func57 rfl rfl rfl fun X F hX => ?_
 refine J.open_ (α := Nat) 1 rfl rfl (fun _ => rfl) fun g => ?_
 refine J.turn1 [] rfl (As := [ownA 3 1 none 0 0 (cellsI [])]) (fun h s => Sep.one ⟨rfl, rfl, rfl⟩) rfl ?_
 refine J.r hX tk 400 (fun _ => rfl) fun b1 => ?_
 refine J.lo (α := (Nat × Option Nat × Nat)) (fun z => z.1 ≤ m) (fun z => [⟨6, .int .i64 z.1, 0, .tt⟩, ⟨5, slv z.2.1 (Tb.inK t b z.1).length z.2.2, 0, .tt⟩, ⟨0, .pointer (some ⟨q, 0, none⟩), 2, .tt⟩, ⟨1, .int .i64 b, 0, .tt⟩]) [3] (fun z => [ownA 3 1 z.2.1 (Tb.inK t b z.1).length z.2.2 (cellsI (Tb.inK t b z.1))]) (fun z => m - z.1) ((0, none, 0)) (Nat.zero_le _) rfl ?_ (fun _ => rfl) fun z hI => ?_
 ·rfl
 obtain ⟨i, ao, co⟩ := z
 dsimp only at hI ⊢
 have his := Tb.inK_succ t b i
 have hil := Tb.inK_len t b i
 refine J.r hX tk 400 (fun _ => rfl) fun b3 => ?_
 refine J.cond rfl (fun h1 => ?_) (fun h1 => ?_)
 ·simp only [decide_eq_true_eq, Int.ofNat_lt] at h1
  have hc0 := stC_cell t.at_ h1 0 (by decide)
  have hc1 := stC_cell t.at_ h1 1 (by decide)
  refine J.r hX tk 400 (fun _ => rfl) fun b4 => ?_
  refine J.val hX (.bool (Tb.look t.at_ (i : Nat)).isSome) 0 rfl rfl (fun hg a w he hs => load1_run tk rfl rfl he hg rfl rfl (hs.get (i := 2) rfl) (by rw [show 0 + (i : Int).toNat * 7 + 0 = i * 7 + 0 from by omega, hc0]; rfl)) rfl trivial ?_
  refine J.r hX tk 400 (fun _ => rfl) fun b5 => ?_
  refine J.val hX (.int .i64 ((Tb.look t.at_ (i : Nat)).getD AtV.zero).block) 0 rfl rfl (fun hg a w he hs => load1_run tk rfl rfl he hg rfl rfl (hs.get (i := 2) rfl) (by rw [show 0 + (i : Int).toNat * 7 + 1 + 0 = i * 7 + 1 from by omega, hc1]; rfl)) rfl trivial ?_
  refine J.r hX tk 3 (fun _ => rfl) fun b6 => ?_
  rw [inB_eq]
  refine J.r hX tk 400 (fun _ => rfl) fun b7 => ?_
  refine J.cond rfl (fun h2 => ?_) (fun h2 => ?_)
  ·rw [if_pos h2] at his
   refine J.r hX tk 400 (fun _ => rfl) fun b8 => ?_
   refine J.append hX tk 3 4 0 rfl rfl rfl rfl rfl rfl rfl rfl rfl rfl rfl rfl rfl rfl rfl rfl ?_ ?_ (fun _ => rfl) fun a2 c2 => ⟨_, (congrArg (fun y => lset _ 3 (ownA _ _ _ _ _ y)) (cellsI_snoc _ (i : Int)).symm).trans rfl, trivial, ?_⟩
   ·simp only [maxLen]; omega
   ·omega
   rw [show (Tb.inK t b i).length + 1 = (Tb.inK t b (i + 1)).length from by rw [his]; simp, ← his]
   refine J.r hX tk 400 (fun _ => rfl) fun b9 => ?_
   refine J.nS ((i + 1, a2, c2)) (by dsimp only; omega) (by dsimp only; omega) [0, 1, 2, 3] rfl rfl
  ·rw [if_neg (by rw [h2]; exact Bool.false_ne_true)] at his
   rw [← his]
   refine J.r hX tk 400 (fun _ => rfl) fun b11 => ?_
   refine J.nS ((i + 1, ao, co)) (by dsimp only; omega) (by dsimp only; omega) [0, 1, 2, 3] rfl rfl
 simp only [decide_eq_false_iff_not, Int.ofNat_lt] at h1
 obtain rfl : i = m := by omega
 refine J.r hX tk 400 (fun _ => rfl) fun b13 => ?_
 refine J.close (f := fun g : Nat => RefP q t i g) g [1, 2] rfl rfl rfl ?_
 refine J.r hX tk 400 (fun _ => rfl) fun b14 => ?_
 refine J.rt hX tk [1, 3] rfl rfl rfl ?_
 exact ⟨ao, co, rfl, rfl⟩
def cntS (l : List (Int × AtV)) (k : Nat) : Nat := (List.range k).countP fun i : Nat => (Tb.look l (i : Int)).isSome
theorem cntS_succ (l : List (Int × AtV)) (k : Nat) : cntS l (k + 1) = cntS l k + (if (Tb.look l (k : Int)).isSome then 1 else 0) := by
 unfold cntS
 rw [List.range_succ, List.countP_append, List.countP_singleton]
theorem cntS_le (l : List (Int × AtV)) (k : Nat) : cntS l k ≤ k := by
 unfold cntS
 have := List.countP_le_length (p := fun i : Nat => (Tb.look l (i : Int)).isSome) (l := List.range k)
 rwa [List.length_range] at this
theorem Tb.Ok.out {t : Tb} (h : t.Ok) {k : Int} (hk : k < 0 ∨ t.logical ≤ k) : Tb.look t.at_ k = none := by
 rw [Tb.look_none]
 intro hm
 obtain ⟨x, hx, rfl⟩ := List.mem_map.1 hm
 have := h.rng x hx
 omega
def lvPl : List Lk := [.int .i64, .int .i64, .int .i64]
theorem leavesPl : leaves Tryz.prog 100 50 = some lvPl := by kernel_rfl
theorem fitsPl (b r s : Int) : Fits lvPl (plL b r s) := ⟨rfl, rfl, rfl, trivial⟩
theorem mkPl (zs : List Value) : mkV Tryz.prog 50 zs = .agg zs.toArray := by simp [mkV, Tryz.underlying50]
theorem gdPl : Tryz.prog.eqGuardType Tryz.prog.depth 50 = false := by kernel_rfl
theorem eqPl (b r s : Int) : eqCells (plL b r s) (plL b r s) = true := by simp [plL, eqCells, cellEq]
theorem l13_SameTable (q1 q : Nat) (t : Tb) (m : Nat) (hm : m ≤ 65536) (hok : t.Ok) (hlog : t.logical = (m : Int)) : Fn Tryz.prog 17 [.pointer (some ⟨q1, 0, none⟩), .pointer (some ⟨q, 0, none⟩), .int .i64 16] [TbA q1 t, RefA q t m]
  (fun v As => v = .bool true ∧ As = [TbA q1 t, RefA q t m]) := by
 refine Fn.enter [2, 3, 0] Tryz.func17 rfl rfl rfl fun X F hX => ?_
 refine J.open_ (α := Nat) 2 rfl rfl (fun _ => rfl) fun g => ?_
 refine J.r hX tk 400 (fun _ => rfl) fun b15 => ?_
 refine J.lo (α := Nat) (fun i => i ≤ m) (fun i => [⟨8, .int .i64 i, 0, .tt⟩, ⟨7, .int .i64 (cntS t.at_ i), 0, .tt⟩, ⟨0, .pointer (some ⟨q1, 0, none⟩), 2, .tt⟩, ⟨1, .pointer (some ⟨q, 0, none⟩), 3, .tt⟩, ⟨2, .int .i64 16, 0, .tt⟩]) [] (fun i => []) (fun i => m - i) (0) (Nat.zero_le _) rfl ?_ (fun _ => rfl) fun i hI => ?_
 ·rfl
 have hcs := cntS_succ t.at_ i
 have hcl := cntS_le t.at_ i
 refine J.r hX tk 400 (fun _ => rfl) fun b17 => ?_
 refine J.cond rfl (fun h1 => ?_) (fun h1 => ?_)
 ·simp only [decide_eq_true_eq, Int.ofNat_lt] at h1
  have hc := stC_at t.at_ h1
  refine J.r hX tk 400 (fun _ => rfl) fun b18 => ?_
  refine J.ca hX (by kernel_rfl) (tb_Get q1 t i) [1] 0 rfl rfl rfl rfl rfl rfl (fun _ => rfl) ?_
  rintro v As ⟨rfl, rfl⟩
  refine ⟨_, rfl, trivial, ?_⟩
  refine J.r hX tk 400 (fun _ => rfl) fun b20 => ?_
  refine J.val hX (.agg (stL (Tb.look t.at_ (i : Nat))).toArray) 0 rfl rfl (fun hg a w he hs => loadN_run tk rfl rfl he hg rfl rfl (hs.get (i := 3) rfl) (by rw [show 0 + (i : Int).toNat * 7 = i * 7 from by omega]; exact hc) rfl) rfl trivial ?_
  cases ho : Tb.look t.at_ (i : Nat) with
  | none =>
   rw [ho] at hcs
   have hcs : cntS t.at_ (i + 1) = cntS t.at_ i := hcs
   refine J.r hX tk 400 (fun _ => rfl) fun b21 => ?_
   refine J.val hX (.bool false) 0 rfl rfl (fun hg a w he hs => by simp [G.on] at hg) rfl trivial ?_
   refine J.r hX tk 400 (fun _ => rfl) fun b22 => ?_
   refine J.val hX (.bool false) 0 rfl rfl (fun hg aa w he hw => (neAgg_run (xs := atL AtV.zero) (ys := atL AtV.zero) rfl rfl rfl he rfl rfl leavesAt (fitsAt _) (fitsAt _) mkAt gdAt).trans (by rw [(eqAt _ _).2 rfl]; rfl)) rfl trivial ?_
   refine J.r hX tk 400 (fun _ => rfl) fun b23 => ?_
   refine J.cond rfl (fun h => by simp at h) (fun _ => ?_)
   refine J.r hX tk 400 (fun _ => rfl) fun b24 => ?_
   refine J.cond rfl (fun h => by simp at h) (fun _ => ?_)
   rw [← hcs]
   refine J.r hX tk 400 (fun _ => rfl) fun b25 => ?_
   refine J.nS (i + 1) (by omega) (by omega) [0, 1, 2, 3] rfl rfl
  | some x =>
   rw [ho] at hcs
   have hcs : cntS t.at_ (i + 1) = cntS t.at_ i + 1 := hcs
   obtain ⟨xb, xr, xl, xm, xs, xo⟩ := x
   refine J.r hX tk 400 (fun _ => rfl) fun b27 => ?_
   refine J.val hX (.bool false) 0 rfl rfl (fun hg aa w he hw => (neAgg_run (xs := plL xb xr xl) (ys := plL xb xr xl) rfl rfl rfl he hg hg leavesPl (fitsPl _ _ _) (fitsPl _ _ _) mkPl gdPl).trans (by rw [eqPl]; rfl)) rfl trivial ?_
   refine J.r hX tk 400 (fun _ => rfl) fun b28 => ?_
   refine J.val hX (.bool false) 0 rfl rfl (fun hg a w he hs => by simp [G.on] at hg) rfl trivial ?_
   refine J.r hX tk 400 (fun _ => rfl) fun b29 => ?_
   refine J.cond rfl (fun h => by simp at h) (fun _ => ?_)
   refine J.r hX tk 400 (fun _ => rfl) fun b30 => ?_
   refine J.cond rfl (fun _ => ?_) (fun h => by simp at h)
   refine J.r hX tk 400 (fun _ => rfl) fun b31 => ?_
   rw [show ((cntS t.at_ i : Nat) : Int) + 1 = ((cntS t.at_ (i + 1) : Nat) : Int) from by omega]
   refine J.r hX tk 400 (fun _ => rfl) fun b32 => ?_
   refine J.nS (i + 1) (by omega) (by omega) [0, 1, 2, 3] rfl rfl
 simp only [decide_eq_false_iff_not, Int.ofNat_lt] at h1
 obtain rfl : i = m := by omega
 refine J.close (f := fun g : Nat => RefP q t i g) g [2, 3] rfl rfl rfl ?_
 refine J.r hX tk 400 (fun _ => rfl) fun b33 => ?_
 refine J.lo (α := Int) (fun b => -1 ≤ b ∧ b ≤ 17) (fun b => [⟨12, .int .i64 b, 0, .tt⟩, ⟨7, .int .i64 (cntS t.at_ i), 0, .tt⟩, ⟨0, .pointer (some ⟨q1, 0, none⟩), 2, .tt⟩, ⟨1, .pointer (some ⟨q, 0, none⟩), 3, .tt⟩, ⟨2, .int .i64 16, 0, .tt⟩]) [] (fun b => []) (fun b => (17 - b).toNat) (-1) (⟨Int.le_refl _, by decide⟩) rfl ?_ (fun _ => rfl) fun b hI => ?_
 ·rfl
 refine J.r hX tk 400 (fun _ => rfl) fun b35 => ?_
 refine J.cond rfl (fun h2 => ?_) (fun h2 => ?_)
 ·have h2 : b ≤ 16 := of_decide_eq_true h2
  have hins : t.ins b = Tb.inK t b i := by rw [hok.ins, hlog, Int.toNat_natCast]
  have hcnt := hok.inK_len b
  rw [hlog, Int.toNat_natCast] at hcnt
  have hil := Tb.inK_len t b i
  refine J.r hX tk 400 (fun _ => rfl) fun b36 => ?_
  refine J.ca hX (by kernel_rfl) (tb_In q1 t i hlog hm b) [1] 0 rfl rfl rfl rfl rfl rfl (fun _ => rfl) ?_
  rintro v As ⟨a1, c1, rfl, rfl⟩
  refine ⟨_, rfl, trivial, ?_⟩
  rw [hins]
  refine J.r hX tk 400 (fun _ => rfl) fun b38 => ?_
  refine J.ca hX (by kernel_rfl) (f13_In q t i hm b) [2] 0 rfl rfl rfl rfl rfl rfl (fun _ => rfl) ?_
  rintro v As ⟨a2, c2, rfl, rfl⟩
  refine ⟨_, rfl, trivial, ?_⟩
  generalize Tb.inK t b i = W at hcnt hil
  refine J.r hX tk 11 (fun _ => rfl) fun b40 => ?_
  rw [ne_self (W.length : Int)]
  refine J.r hX tk 400 (fun _ => rfl) fun b41 => ?_
  refine J.ca hX (by kernel_rfl) (tb_Count q1 t b) [1] 0 rfl rfl rfl rfl rfl rfl (fun _ => rfl) ?_
  rintro v As ⟨rfl, rfl⟩
  refine ⟨_, rfl, trivial, ?_⟩
  rw [← hcnt]
  refine J.r hX tk 3 (fun _ => rfl) fun b43 => ?_
  rw [ne_self (W.length : Int)]
  refine J.r hX tk 400 (fun _ => rfl) fun b44 => ?_
  refine J.cond rfl (fun h => absurd h (by decide)) (fun _ => ?_)
  refine J.r hX tk 400 (fun _ => rfl) fun b45 => ?_
  refine J.lo (α := Nat) (fun j => j ≤ W.length) (fun j => [⟨15, .int .i64 j, 0, .tt⟩, ⟨13, slv a1 W.length c1, 0, .tt⟩, ⟨14, slv a2 W.length c2, 0, .tt⟩, ⟨12, .int .i64 b, 0, .tt⟩, ⟨7, .int .i64 (cntS t.at_ i), 0, .tt⟩, ⟨0, .pointer (some ⟨q1, 0, none⟩), 2, .tt⟩, ⟨1, .pointer (some ⟨q, 0, none⟩), 3, .tt⟩, ⟨2, .int .i64 16, 0, .tt⟩]) [] (fun j => []) (fun j => W.length - j) (0) (Nat.zero_le _) rfl ?_ (fun _ => rfl) fun j hI => ?_
  ·rfl
  refine J.r hX tk 400 (fun _ => rfl) fun b47 => ?_
  refine J.cond rfl (fun h3 => ?_) (fun h3 => ?_)
  ·simp only [decide_eq_true_eq, Int.ofNat_lt] at h3
   obtain ⟨y, hy⟩ : ∃ y, W[j]? = some y := ⟨_, List.getElem?_eq_getElem h3⟩
   refine J.know (p := ∃ g, a1 = some g) (fun h' s => own_some (c := (a1, c1)) (by omega) (s.get (i := 4) rfl)) fun hg => ?_
   obtain ⟨g1, rfl⟩ := hg
   refine J.know (p := ∃ g, a2 = some g) (fun h' s => own_some (c := (a2, c2)) (by omega) (s.get (i := 5) rfl)) fun hg => ?_
   obtain ⟨g2, rfl⟩ := hg
   refine J.r hX tk 400 (fun _ => rfl) fun b48 => ?_
   refine J.plan (.of [0,4,8,13,16,20,24,29,32]) [] [4,5] (by rw [hX.hP]; kernel_rfl) (by kernel_rfl) ?_
   refine J.r hX tk 400 (fun _ => rfl) fun b49 => ?_
   refine J.valT hX (.int .i64 y) 0 rfl rfl (fun hg aa w he hC => own1_run tk rfl rfl he rfl rfl rfl (hC rfl _ (cget_mem (i := 4) rfl)) (by rw [show 0 + (j : Int).toNat * 1 = j from by omega]; exact cellsI_get hy)) rfl ?_
   refine J.r hX tk 400 (fun _ => rfl) fun b50 => ?_
   refine J.valT hX (.int .i64 y) 0 rfl rfl (fun hg aa w he hC => own1_run tk rfl rfl he rfl rfl rfl (hC rfl _ (cget_mem (i := 5) rfl)) (by rw [show 0 + (j : Int).toNat * 1 = j from by omega]; exact cellsI_get hy)) rfl ?_
   refine J.r hX tk 400 (fun _ => rfl) fun b51 => ?_
   refine J.cond rfl (fun h => by simp at h) (fun _ => ?_)
   refine J.r hX tk 400 (fun _ => rfl) fun b52 => ?_
   refine J.nS (j + 1) (by omega) (by omega) [0, 1, 2, 3, 4, 5] rfl rfl
  refine J.r hX tk 400 (fun _ => rfl) fun b54 => ?_
  refine J.nS (b + 1) (⟨by omega, by omega⟩) (by omega) [0, 1, 2, 3] rfl rfl
 have hb : b = 17 := by have := of_decide_eq_false h2; omega
 subst hb
 have hn1 := hok.out (k := -1) (.inl (by decide))
 have hn2 := hok.out (k := (i : Int)) (.inr (by rw [hlog]; exact Int.le_refl _))
 have hlen := hok.at_len
 rw [hlog, Int.toNat_natCast] at hlen
 have hlen : t.at_.length = cntS t.at_ i := hlen
 refine J.r hX tk 400 (fun _ => rfl) fun b56 => ?_
 refine J.ca hX (by kernel_rfl) (tb_Get q1 t (-1)) [1] 0 rfl rfl rfl rfl rfl rfl (fun _ => rfl) ?_
 rintro v As ⟨rfl, rfl⟩
 refine ⟨_, rfl, trivial, ?_⟩
 rw [hn1]
 refine J.open_ (α := Nat) 2 rfl rfl (fun _ => rfl) fun g => ?_
 refine J.r hX tk 400 (fun _ => rfl) fun b58 => ?_
 refine J.ca hX (by kernel_rfl) (tb_Get q1 t i) [1] 0 rfl rfl rfl rfl rfl rfl (fun _ => rfl) ?_
 rintro v As ⟨rfl, rfl⟩
 refine ⟨_, rfl, trivial, ?_⟩
 rw [hn2]
 refine J.close (f := fun g : Nat => RefP q t i g) g [2, 4] rfl rfl rfl ?_
 refine J.r hX tk 400 (fun _ => rfl) fun b60 => ?_
 refine J.ca hX (by kernel_rfl) (tb_Len q1 t) [1] 0 rfl rfl rfl rfl rfl rfl (fun _ => rfl) ?_
 rintro v As ⟨rfl, rfl⟩
 refine ⟨_, rfl, trivial, ?_⟩
 rw [hlen]
 refine J.r hX tk 400 (fun _ => rfl) fun b62 => ?_
 refine J.rt hX tk [1, 2] rfl rfl rfl ?_
 refine ⟨?_, rfl⟩
 show Value.bool _ = Value.bool true
 simp
theorem upR_succ' (N : Nand) (b r : Nat) : V.upR N b (r + 1) = V.upR N b r ++ R.all N (b : Nat) (r : Nat) := by
 rw [V.upR_succ]
 unfold V.upI
 rw [List.take_length]
def inF (L : List Fnd) (m i : Nat) : List Fnd := (L.take i).filter fun f => decide (f.en.lpn < (m : Int))
theorem inF_succ (L : List Fnd) (m i : Nat) (x : Fnd) (h : L[i]? = some x) : inF L m (i + 1) = if x.en.lpn < (m : Int) then inF L m i ++ [x] else inF L m i := by
 unfold inF
 rw [List.take_add_one, h, Option.toList_some, List.filter_append]
 by_cases hp : x.en.lpn < (m : Int)
 ·rw [if_pos hp, List.filter_cons_of_pos (by simpa using hp)]; rfl
 ·rw [if_neg hp, List.filter_cons_of_neg (by simpa using hp)]; simp
theorem inF_len (L : List Fnd) (m i : Nat) : (inF L m i).length ≤ i := by
 unfold inF
 have := List.length_filter_le (fun f : Fnd => decide (f.en.lpn < (m : Int))) (L.take i)
 rw [List.length_take] at this
 omega
theorem next_succ (L : List Fnd) (i : Nat) (x : Fnd) (h : L[i]? = some x) : V.nextOf (L.take (i + 1)) = if x.en.seq ≥ V.nextOf (L.take i) then x.en.seq + 1 else V.nextOf (L.take i) := by
 rw [List.take_add_one, h, Option.toList_some, V.nextOf_snoc]
 split <;> omega
def bstF (I : List Fnd) (m i : Nat) : List Fnd := (List.range m).map fun k : Nat => bestF (I.take i) (k : Int)
theorem bstF_len (I : List Fnd) (m i : Nat) : (bstF I m i).length = m := by simp [bstF]
theorem bstF_get (I : List Fnd) {m i k : Nat} (h : k < m) : (bstF I m i)[k]? = some (bestF (I.take i) (k : Int)) := by simp [bstF, h]
theorem bstF_zero (I : List Fnd) (m : Nat) : bstF I m 0 = List.replicate m Fnd.zero := by
 unfold bstF
 rw [List.take_zero]
 apply List.ext_getElem?
 intro j
 rw [List.getElem?_map, List.getElem?_replicate]
 by_cases h : j < m
 ·rw [List.getElem?_range h, if_pos h]; rfl
 ·rw [List.getElem?_eq_none (by rw [List.length_range]; omega), if_neg h]; rfl
theorem bstF_succ (I : List Fnd) (m i k : Nat) (x : Fnd) (h : I[i]? = some x) (hk : x.en.lpn = (k : Int)) (hr : ∀ f ∈ I, f.en.role ≠ 0) : bstF I m (i + 1) = if (bestF (I.take i) (k : Int)).en.role = 0 ∨ betB x (bestF (I.take i) (k : Int)) = true then (bstF I m i).set k x else bstF I m i := by
 have hs : ∀ j : Nat, bestF (I.take (i + 1)) (j : Int) = if x.en.lpn = (j : Int) ∧ ((bestF (I.take i) (j : Int)).en.role = 0 ∨ betB x (bestF (I.take i) (j : Int)) = true) then x else bestF (I.take i) (j : Int) := fun j => by
  rw [List.take_add_one, h, Option.toList_some]
  exact bestF_snoc _ x (fun f hf => hr f (List.mem_of_mem_take hf)) j
 apply List.ext_getElem?
 intro j
 by_cases hj : j < m
 ·rw [bstF_get I hj, hs j]
  by_cases hc : (bestF (I.take i) (k : Int)).en.role = 0 ∨ betB x (bestF (I.take i) (k : Int)) = true
  ·rw [if_pos hc, List.getElem?_set, bstF_len]
   by_cases e : k = j
   ·subst e
    rw [if_pos ⟨hk, hc⟩, if_pos rfl, if_pos hj]
   ·rw [if_neg (fun h => e (by have := h.1; omega)), if_neg e, bstF_get I hj]
  ·rw [if_neg hc, bstF_get I hj]
   by_cases e : k = j
   ·subst e
    rw [if_neg (fun h => hc h.2)]
   ·rw [if_neg (fun h => e (by have := h.1; omega))]
 ·rw [List.getElem?_eq_none (by rw [bstF_len]; omega), List.getElem?_eq_none]
  split
  ·rw [List.length_set, bstF_len]; omega
  ·rw [bstF_len]; omega
theorem cellsF_rep (m : Nat) : (List.replicate m (fnL Fnd.zero)).flatten = cellsF (List.replicate m Fnd.zero) := by
 unfold cellsF
 rw [List.flatMap_def, List.map_replicate]
theorem inF_mem {L : List Fnd} {m i : Nat} {f : Fnd} (h : f ∈ inF L m i) : f ∈ L ∧ f.en.lpn < (m : Int) := by
 unfold inF at h
 obtain ⟨h1, h2⟩ := List.mem_filter.1 h
 exact ⟨List.mem_of_mem_take h1, of_decide_eq_true h2⟩
theorem bestF_in (L : List Fnd) (m k : Nat) (hk : k < m) : bestF (inF L m L.length) (k : Int) = (V.standOf (V.of L (k : Int))).1 := by
 unfold bestF inF
 rw [List.take_length, of_in L m k hk]
theorem cellsF_pl {l : List Fnd} {k : Nat} {x : Fnd} (h : l[k]? = some x) : ((cellsF l).drop (k * 25 + 19)).take 3 = plL x.block x.row x.slot := by
 have h1 := cellsF_get h
 have h2 := congrArg (fun z => (z.drop 19).take 3) h1
 rw [List.drop_take, List.take_take, List.drop_drop] at h2
 exact h2
theorem f13_Scan (p : Nat) (N : Nand) (hN : N.Ok) (hR : N.Room) (n : Int) (m : Nat) (hm : min (max n 0) 65536 = (m : Int)) : Fn Tryz.prog 16 [.pointer (some ⟨p, 0, none⟩), .int .i64 n] [NandA p N]
  (fun v As => ∃ q a1 c1 a2 c2, v = svV q (V.scan N n) a1 c1 a2 c2 ∧ As = [NandA p N, RefA q (V.scan N n).tb m, ownA 45 19 a1 (V.scan N n).torn.length c1 (cellsE (V.scan N n).torn), ownA 3 1 a2 (V.scan N n).held.length c2 (cellsI (V.scan N n).held)]) := by
 have hbd := hN.bd
 have hsz : V.size n = m := by unfold V.size; omega
 have hm1 : m ≤ 65536 := by omega
 refine Fn.enter [2, 0] Tryz.func16 rfl rfl rfl fun X F hX => ?_
 refine J.r hX tk 400 (fun _ => rfl) fun br => ?_
 refine J.ca hX (by kernel_rfl) (f13_New n m hm) [] 0 rfl rfl rfl rfl rfl rfl (fun _ => rfl) ?_
 rintro v As ⟨q, rfl, rfl⟩
 refine ⟨_, rfl, trivial, ?_⟩
 refine J.turn1 [] rfl (As := [ownA 103 25 none 0 0 (cellsF (V.upB N 0))]) (fun h s => Sep.one ⟨rfl, rfl, rfl⟩) rfl ?_
 refine J.r hX tk 400 (fun _ => rfl) fun bo => ?_
 refine J.lo (α := (Nat × Option Nat × Nat)) (fun z => z.1 ≤ N.blocks) (fun z => [⟨7, .int .i64 z.1, 0, .tt⟩, ⟨6, slv z.2.1 (V.upB N z.1).length z.2.2, 0, .tt⟩, ⟨5, .pointer (some ⟨bo 0, 0, none⟩), 6, .tt⟩, ⟨4, .pointer (some ⟨br 0, 0, none⟩), 3, .tt⟩, ⟨0, .pointer (some ⟨p, 0, none⟩), 2, .tt⟩]) [4] (fun z => [ownA 103 25 z.2.1 (V.upB N z.1).length z.2.2 (cellsF (V.upB N z.1))]) (fun z => N.blocks - z.1) ((0, none, 0)) (Nat.zero_le _) rfl ?_ (fun _ => rfl) fun z hI => ?_
 ·rfl
 obtain ⟨b, ab, cb⟩ := z
 dsimp only at hI ⊢
 refine J.r hX tk 400 (fun _ => rfl) fun b3 => ?_
 refine J.ca hX (by kernel_rfl) (n_Geo p N) [1] 0 rfl rfl rfl rfl rfl rfl (fun _ => rfl) ?_
 rintro v As ⟨rfl, rfl⟩
 refine ⟨_, rfl, trivial, ?_⟩
 refine J.r hX tk 400 (fun _ => rfl) fun b5 => ?_
 refine J.cond rfl (fun h1 => ?_) (fun h1 => ?_)
 ·simp only [decide_eq_true_eq, Int.ofNat_lt] at h1
  rw [← V.upR_zero]
  refine J.r hX tk 400 (fun _ => rfl) fun b6 => ?_
  refine J.lo (α := (Nat × Option Nat × Nat)) (fun z => z.1 ≤ N.pages) (fun z => [⟨8, .int .i64 z.1, 0, .tt⟩, ⟨7, .int .i64 b, 0, .tt⟩, ⟨6, slv z.2.1 (V.upR N b z.1).length z.2.2, 0, .tt⟩, ⟨5, .pointer (some ⟨bo 0, 0, none⟩), 6, .tt⟩, ⟨4, .pointer (some ⟨br 0, 0, none⟩), 3, .tt⟩, ⟨0, .pointer (some ⟨p, 0, none⟩), 2, .tt⟩]) [4] (fun z => [ownA 103 25 z.2.1 (V.upR N b z.1).length z.2.2 (cellsF (V.upR N b z.1))]) (fun z => N.pages - z.1) ((0, ab, cb)) (Nat.zero_le _) rfl ?_ (fun _ => rfl) fun z hI => ?_
  ·rfl
  obtain ⟨r, ar, cr⟩ := z
  dsimp only at hI ⊢
  refine J.r hX tk 400 (fun _ => rfl) fun b8 => ?_
  refine J.ca hX (by kernel_rfl) (n_Geo p N) [1] 0 rfl rfl rfl rfl rfl rfl (fun _ => rfl) ?_
  rintro v As ⟨rfl, rfl⟩
  refine ⟨_, rfl, trivial, ?_⟩
  refine J.r hX tk 400 (fun _ => rfl) fun b10 => ?_
  refine J.cond rfl (fun h2 => ?_) (fun h2 => ?_)
  ·simp only [decide_eq_true_eq, Int.ofNat_lt] at h2
   have hul := upR_len N hN b r (by omega) (by omega)
   have hal := rall_len N hN b r
   have hus := upR_succ' N b r
   refine J.r hX tk 400 (fun _ => rfl) fun b11 => ?_
   refine J.ca hX (by kernel_rfl) (f9_All p N hN hR b r) [1] 0 rfl rfl rfl rfl rfl rfl (fun _ => rfl) ?_
   rintro v As ⟨a1, c1, rfl, rfl⟩
   refine ⟨_, rfl, trivial, ?_⟩
   refine J.r hX tk 400 (fun _ => rfl) fun b13 => ?_
   refine J.appendO hX tk 4 6 rfl rfl rfl rfl rfl rfl rfl rfl rfl rfl rfl rfl rfl (cellsF_one _) ?_ ?_ (fun _ => rfl) fun a6 c6 => ⟨_, (congrArg (fun y => lset _ 4 (ownA _ _ _ _ _ y)) (cellsF_app' _ _)).trans rfl, trivial, ?_⟩
   ·simp only [maxLen]; omega
   ·omega
   rw [show (V.upR N b r).length + (R.all N (b : Nat) (r : Nat)).length = (V.upR N b (r + 1)).length from by rw [hus, List.length_append], ← hus]
   refine J.r hX tk 400 (fun _ => rfl) fun b14 => ?_
   refine J.nS ((r + 1, a6, c6)) (by dsimp only; omega) (by dsimp only; omega) [0, 1, 2, 3, 4, 5] rfl rfl
  simp only [decide_eq_false_iff_not, Int.ofNat_lt] at h2
  obtain rfl : r = N.pages := by omega
  rw [← V.upB_succ]
  refine J.r hX tk 400 (fun _ => rfl) fun b16 => ?_
  refine J.nS ((b + 1, ar, cr)) (by dsimp only; omega) (by dsimp only; omega) [0, 1, 2, 3, 4, 5] rfl rfl
 simp only [decide_eq_false_iff_not, Int.ofNat_lt] at h1
 obtain rfl : b = N.blocks := by omega
 rw [V.upB_all]
 obtain ⟨L, hL⟩ : ∃ L, L = V.all N := ⟨_, rfl⟩
 have hLl := all_len N hN
 have hLb : ∀ f ∈ L, EnBd f.en ∧ (f.en.role = 1 ∨ f.en.role = 2 ∨ f.en.role = 4) ∧ ∃ r : Nat, f.row = (r : Int) ∧ r < N.pages := fun f hf => by
  rw [hL] at hf
  have := all_bd hf
  exact ⟨this.2, all_role hf, this.1⟩
 rw [← hL] at hLl ⊢
 refine J.turn1 [] rfl (As := [ownA 103 25 none 0 0 (cellsF (inF L m 0))]) (fun h s => Sep.one ⟨rfl, rfl, rfl⟩) rfl ?_
 refine J.open_ (α := Nat) 3 rfl rfl (fun _ => rfl) fun g => ?_
 refine J.r hX tk 400 (fun _ => rfl) fun b18 => ?_
 refine J.lo (α := (Nat × Option Nat × Nat)) (fun z => z.1 ≤ L.length) (fun z => [⟨11, .int .i64 z.1, 0, .tt⟩, ⟨9, slv z.2.1 (inF L m z.1).length z.2.2, 0, .tt⟩, ⟨6, slv ab L.length cb, 0, .tt⟩, ⟨5, .pointer (some ⟨bo 0, 0, none⟩), 6, .tt⟩, ⟨4, .pointer (some ⟨br 0, 0, none⟩), 3, .tt⟩, ⟨0, .pointer (some ⟨p, 0, none⟩), 2, .tt⟩]) [5, 6] (fun z => [.pt (bo 0) 40 (svL q (.slice none 0 0) 0 (.slice none 0 0) (V.nextOf (L.take z.1)) L.length), ownA 103 25 z.2.1 (inF L m z.1).length z.2.2 (cellsF (inF L m z.1))]) (fun z => L.length - z.1) ((0, none, 0)) (Nat.zero_le _) rfl ?_ (fun _ => rfl) fun z hI => ?_
 ·rfl
 obtain ⟨i, ai, ci⟩ := z
 dsimp only at hI ⊢
 have hil := inF_len L m i
 refine J.r hX tk 400 (fun _ => rfl) fun b20 => ?_
 refine J.cond rfl (fun h3 => ?_) (fun h3 => ?_)
 ·simp only [decide_eq_true_eq, Int.ofNat_lt] at h3
  obtain ⟨x, hx⟩ : ∃ x, L[i]? = some x := ⟨_, List.getElem?_eq_getElem h3⟩
  have hxb := (hLb x (List.mem_of_getElem? hx)).1
  unfold EnBd at hxb
  have hns := next_succ L i x hx
  have his := inF_succ L m i x hx
  refine J.know (fun h' s => own_some (c := (ab, cb)) (by omega) (s.get (i := 4) rfl)) fun hg => ?_
  obtain ⟨gl, rfl⟩ := hg
  refine J.r hX tk 400 (fun _ => rfl) fun b21 => ?_
  refine J.plan (.of [0,4,8,12,16,21,24,29,32]) [] [4,5] (by rw [hX.hP]; kernel_rfl) (by kernel_rfl) ?_
  refine J.r hX tk 400 (fun _ => rfl) fun b22 => ?_
  refine J.valT hX (.int .i64 x.en.seq) 0 rfl rfl (fun hg a w he hC => own1_run tk rfl rfl he rfl rfl rfl (hC rfl _ (cget_mem (i := 4) rfl)) (by rw [show 0 + (i : Int).toNat * 25 + 0 + 1 = 0 + (i : Int).toNat * 25 + 1 from rfl, cellsF_in hx 1 (by decide)]; rfl)) rfl ?_
  refine J.r hX tk 400 (fun _ => rfl) fun b23 => ?_
  refine J.join (α := Unit) (fun _ => [⟨11, .int .i64 i, 0, .tt⟩, ⟨9, slv ai (inF L m i).length ci, 0, .tt⟩, ⟨6, slv (some gl) L.length cb, 0, .tt⟩, ⟨5, .pointer (some ⟨bo 0, 0, none⟩), 6, .tt⟩, ⟨4, .pointer (some ⟨br 0, 0, none⟩), 3, .tt⟩, ⟨0, .pointer (some ⟨p, 0, none⟩), 2, .tt⟩]) (fun _ => [.hp F, NandA p N, .pt (br 0) 40 [.pointer none, .slice none 0 0, .int .i64 0, .slice none 0 0, .int .i64 0, .int .i64 0], .pt q 114 [.slice (some ⟨g, 0, none⟩) m m, .int .i64 1], ownA 103 25 (some gl) L.length cb (cellsF L), .pt (bo 0) 40 (svL q (.slice none 0 0) 0 (.slice none 0 0) (V.nextOf (L.take (i + 1))) L.length), ownA 103 25 ai (inF L m i).length ci (cellsF (inF L m i)), .pt g 119 (stC [] m)]) (fun hj => ?_) (fun _ => ?_)
  ·refine J.r hX tk 400 (fun _ => rfl) fun b24 => ?_
   refine J.cond rfl (fun h4 => ?_) (fun h4 => ?_)
   ·rw [if_pos (of_decide_eq_true h4)] at hns
    rw [hns] at hj
    refine J.r hX tk 400 (fun _ => rfl) fun b25 => ?_
    refine J.val hX (.int .i64 x.en.seq) 0 rfl rfl (fun hg a w he hs => own1_run tk rfl rfl he rfl rfl rfl (hs.get (i := 4) rfl) (by rw [show 0 + (i : Int).toNat * 25 + 0 + 1 = 0 + (i : Int).toNat * 25 + 1 from rfl, cellsF_in hx 1 (by decide)]; rfl)) rfl trivial ?_
    refine J.r hX tk 4 (fun _ => rfl) fun b26 => ?_
    exact J.goto [0, 1, 2, 3, 4, 5, 6, 7] (hj ()) ⟨rfl, rfl, rfl, rfl, rfl, rfl, trivial⟩ rfl rfl
   ·rw [if_neg (of_decide_eq_false h4)] at hns
    rw [hns] at hj
    refine J.r hX tk 1 (fun _ => rfl) fun b27 => ?_
    exact J.goto [0, 1, 2, 3, 4, 5, 6, 7] (hj ()) ⟨rfl, rfl, rfl, rfl, rfl, rfl, trivial⟩ rfl rfl
  refine J.r hX tk 400 (fun _ => rfl) fun b28 => ?_
  refine J.plan (.of [0,4,8,12,16,21,24,29,32,36,41,44,48]) [] [3,4,5] (by rw [hX.hP]; kernel_rfl) (by kernel_rfl) ?_
  refine J.r hX tk 400 (fun _ => rfl) fun b29 => ?_
  refine J.valT hX (.int .i64 x.en.lpn) 0 rfl rfl (fun hg a w he hC => own1_run tk rfl rfl he rfl rfl rfl (hC rfl _ (cget_mem (i := 4) rfl)) (by rw [show 0 + (i : Int).toNat * 25 + 0 + 0 = 0 + (i : Int).toNat * 25 + 0 from rfl, cellsF_in hx 0 (by decide)]; rfl)) rfl ?_
  refine J.r hX tk 400 (fun _ => rfl) fun b30 => ?_
  refine J.valT hX (.slice (some ⟨g, 0, none⟩) m m) 0 rfl rfl (fun hg a w he hC => load1_run tk rfl rfl he rfl rfl rfl (hC rfl _ (cget_mem (i := 3) rfl)) rfl) rfl ?_
  refine J.r hX tk 400 (fun _ => rfl) fun b31 => ?_
  refine J.cond rfl (fun h5 => ?_) (fun h5 => ?_)
  ·rw [if_pos (of_decide_eq_true h5)] at his
   refine J.r hX tk 400 (fun _ => rfl) fun b32 => ?_
   refine J.val hX (fdV x) 0 rfl rfl (fun hg a w he hs => ownN_run tk rfl rfl he rfl rfl rfl (hs.get (i := 4) rfl) (by rw [show 0 + (i : Int).toNat * 25 = i * 25 from by omega]; exact cellsF_get hx) rfl) rfl trivial ?_
   refine J.r hX tk 400 (fun _ => rfl) fun b33 => ?_
   refine J.append hX tk 6 8 0 rfl rfl rfl rfl rfl rfl rfl rfl rfl rfl rfl rfl rfl rfl rfl rfl ?_ ?_ (fun _ => rfl) fun a2 c2 => ⟨_, (congrArg (fun y => lset _ 6 (ownA _ _ _ _ _ y)) (cellsF_snoc' _ x)).trans rfl, trivial, ?_⟩
   ·simp only [maxLen]; omega
   ·omega
   rw [show (inF L m i).length + 1 = (inF L m (i + 1)).length from by rw [his]; simp, ← his]
   refine J.r hX tk 400 (fun _ => rfl) fun b34 => ?_
   refine J.nS ((i + 1, a2, c2)) (by dsimp only; omega) (by dsimp only; omega) [0, 1, 2, 3, 4, 5, 6, 7] rfl rfl
  ·rw [if_neg (of_decide_eq_false h5)] at his
   rw [← his]
   refine J.r hX tk 400 (fun _ => rfl) fun b36 => ?_
   refine J.nS ((i + 1, ai, ci)) (by dsimp only; omega) (by dsimp only; omega) [0, 1, 2, 3, 4, 5, 6, 7] rfl rfl
 simp only [decide_eq_false_iff_not, Int.ofNat_lt] at h3
 obtain rfl : i = L.length := by omega
 rw [List.take_length]
 have hbin := bestF_in L m
 have hIm : ∀ f ∈ inF L m L.length, f ∈ L ∧ f.en.lpn < (m : Int) := fun f hf => inF_mem hf
 have hIn0 : ∀ k : Nat, k < m → V.of (inF L m L.length) (k : Int) = V.of L (k : Int) := fun k hk => by unfold inF; rw [List.take_length]; exact of_in L m k hk
 obtain ⟨I, hI⟩ : ∃ I, I = inF L m L.length := ⟨_, rfl⟩
 rw [← hI] at hil hbin hIm hIn0 ⊢
 have hIr : ∀ f ∈ I, f.en.role ≠ 0 := fun f hf => by have := (hLb f (hIm f hf).1).2.1; omega
 refine J.r hX tk 400 (fun _ => rfl) fun b38 => ?_
 refine J.val hX (.slice (some ⟨g, 0, none⟩) m m) 0 rfl rfl (fun hg a w he hs => load1_run tk rfl rfl he rfl rfl rfl (hs.get (i := 3) rfl) rfl) rfl trivial ?_
 refine J.r hX tk 1 (fun _ => rfl) fun b39 => ?_
 refine J.makeMany hX tk 9 rfl rfl rfl rfl rfl rfl rfl rfl rfl rfl rfl ?_ ?_ (fun _ => rfl) (fun _ => rfl) fun gB => ⟨trivial, ?_⟩
 ·simp only [maxLen]; omega
 ·omega
 refine J.turn1 [8] rfl (As := [.pt gB 103 (cellsF (bstF I m 0))]) (fun h s => by rw [bstF_zero, ← cellsF_rep]; exact s) rfl ?_
 refine J.r hX tk 400 (fun _ => rfl) fun b40 => ?_
 refine J.lo (α := Nat) (fun k => k ≤ I.length) (fun k => [⟨12, .int .i64 k, 0, .tt⟩, ⟨10, .slice (some ⟨gB, 0, none⟩) m m, 9, .tt⟩, ⟨9, slv ai I.length ci, 0, .tt⟩, ⟨5, .pointer (some ⟨bo 0, 0, none⟩), 6, .tt⟩, ⟨4, .pointer (some ⟨br 0, 0, none⟩), 3, .tt⟩, ⟨0, .pointer (some ⟨p, 0, none⟩), 2, .tt⟩]) [8] (fun k => [.pt gB 103 (cellsF (bstF I m k))]) (fun k => I.length - k) (0) (Nat.zero_le _) rfl ?_ (fun _ => rfl) fun k hI => ?_
 ·rfl
 refine J.r hX tk 400 (fun _ => rfl) fun b42 => ?_
 refine J.cond rfl (fun h6 => ?_) (fun h6 => ?_)
 ·simp only [decide_eq_true_eq, Int.ofNat_lt] at h6
  obtain ⟨x, hx⟩ : ∃ x, I[k]? = some x := ⟨_, List.getElem?_eq_getElem h6⟩
  obtain ⟨hxL, hxm⟩ := hIm x (List.mem_of_getElem? hx)
  have hxb := (hLb x hxL).1
  unfold EnBd at hxb
  obtain ⟨kk, hkk⟩ := Int.eq_ofNat_of_zero_le hxb.1.1
  have hkm : kk < m := by omega
  have hbg := bstF_get I (i := k) hkm
  have hbs := bstF_succ I m k kk x hx hkk hIr
  obtain ⟨y, hy⟩ : ∃ y, y = bestF (I.take k) (kk : Int) := ⟨_, rfl⟩
  rw [← hy] at hbg hbs
  refine J.know (fun h' s => own_some (c := (ai, ci)) (by omega) (s.get (i := 6) rfl)) fun hg => ?_
  obtain ⟨gi, rfl⟩ := hg
  refine J.r hX tk 400 (fun _ => rfl) fun b43 => ?_
  refine J.val hX (.int .i64 kk) 0 rfl rfl (fun hg a w he hs => own1_run tk rfl rfl he rfl rfl rfl (hs.get (i := 6) rfl) (by rw [show 0 + (k : Int).toNat * 25 + 0 + 0 = 0 + (k : Int).toNat * 25 + 0 from rfl, cellsF_in hx 0 (by decide), ← hkk]; rfl)) rfl trivial ?_
  refine J.r hX tk 400 (fun _ => rfl) fun b44 => ?_
  refine J.join (α := Unit) (fun _ => [⟨121, .bool (y.en.role == 0 || betB x y), 0, .tt⟩, ⟨13, .int .i64 kk, 0, .tt⟩, ⟨12, .int .i64 k, 0, .tt⟩, ⟨10, .slice (some ⟨gB, 0, none⟩) m m, 9, .tt⟩, ⟨9, slv (some gi) I.length ci, 0, .tt⟩, ⟨5, .pointer (some ⟨bo 0, 0, none⟩), 6, .tt⟩, ⟨4, .pointer (some ⟨br 0, 0, none⟩), 3, .tt⟩, ⟨0, .pointer (some ⟨p, 0, none⟩), 2, .tt⟩]) (fun _ => [.hp F, NandA p N, .pt (br 0) 40 [.pointer none, .slice none 0 0, .int .i64 0, .slice none 0 0, .int .i64 0, .int .i64 0], .pt q 114 [.slice (some ⟨g, 0, none⟩) m m, .int .i64 1], ownA 103 25 ab L.length cb (cellsF L), .pt (bo 0) 40 (svL q (.slice none 0 0) 0 (.slice none 0 0) (V.nextOf L) L.length), ownA 103 25 (some gi) I.length ci (cellsF I), .pt g 119 (stC [] m), .pt gB 103 (cellsF (bstF I m k))]) (fun hj => ?_) (fun _ => ?_)
  ·refine J.r hX tk 400 (fun _ => rfl) fun b45 => ?_
   refine J.plan (.of [0,4,8,12,16,21,24,28,32,36,40,45,48,52,56,61,66,68]) [] [6,8] (by rw [hX.hP]; kernel_rfl) (by kernel_rfl) ?_
   refine J.r hX tk 400 (fun _ => rfl) fun b46 => ?_
   refine J.valT hX (.int .i64 y.en.role) 0 rfl rfl (fun hg a w he hC => load1_run tk rfl rfl he rfl rfl rfl (hC rfl _ (cget_mem (i := 8) rfl)) (by rw [show 0 + (kk : Int).toNat * 25 + 0 + 2 = 0 + (kk : Int).toNat * 25 + 2 from rfl, cellsF_in hbg 2 (by decide)]; rfl)) rfl ?_
   by_cases hz : y.en.role = 0
   ·rw [beq_iff_eq.2 hz] at hj
    refine J.r hX tk 2 (fun _ => rfl) fun b47 => ?_
    rw [beq_iff_eq.2 hz]
    refine J.r hX tk 400 (fun _ => rfl) fun b48 => ?_
    refine J.valT hX (fdV x) 0 rfl rfl (fun hg a w he hC => by simp [G.on] at hg) rfl ?_
    refine J.r hX tk 400 (fun _ => rfl) fun b49 => ?_
    refine J.valT hX (fdV y) 0 rfl rfl (fun hg a w he hC => by simp [G.on] at hg) rfl ?_
    refine J.r hX tk 400 (fun _ => rfl) fun b50 => ?_
    refine J.gcase hX rfl rfl rfl (by first | exact trivial | (repeat' (first | exact trivial | refine ⟨rfl, ?_⟩))) (fun h => by cases h) (fun _ => ?_)
    refine J.slot (k := 120) (s' := ⟨120, .bool false, 0, .when false⟩) rfl rfl rfl ?_
    refine J.r hX tk 2 (fun _ => rfl) fun b51 => ?_
    exact J.goto [0, 1, 2, 3, 4, 5, 6, 7, 8] (hj ()) ⟨rfl, rfl, rfl, rfl, rfl, rfl, rfl, rfl, trivial⟩ rfl rfl
   ·rw [beq_eq_false_iff_ne.2 hz] at hj
    refine J.r hX tk 2 (fun _ => rfl) fun b52 => ?_
    rw [beq_eq_false_iff_ne.2 hz]
    refine J.r hX tk 400 (fun _ => rfl) fun b53 => ?_
    refine J.valT hX (fdV x) 0 rfl rfl (fun hg a w he hC => ownN_run tk rfl rfl he hg rfl rfl (hC rfl _ (cget_mem (i := 6) rfl)) (by rw [show 0 + (k : Int).toNat * 25 = k * 25 from by omega]; exact cellsF_get hx) rfl) rfl ?_
    refine J.r hX tk 400 (fun _ => rfl) fun b54 => ?_
    refine J.valT hX (fdV y) 0 rfl rfl (fun hg a w he hC => loadN_run tk rfl rfl he hg rfl rfl (hC rfl _ (cget_mem (i := 8) rfl)) (by rw [show 0 + (kk : Int).toNat * 25 = kk * 25 from by omega]; exact cellsF_get hbg) rfl) rfl ?_
    refine J.r hX tk 400 (fun _ => rfl) fun b55 => ?_
    refine J.ca hX (by kernel_rfl) (f13_better x y) [] 0 rfl rfl rfl rfl rfl rfl (fun _ => rfl) ?_
    rintro v As ⟨rfl, rfl⟩
    refine ⟨_, rfl, (by first | exact trivial | (repeat' (first | exact trivial | refine ⟨rfl, ?_⟩))), ?_⟩
    refine J.r hX tk 2 (fun _ => rfl) fun b56 => ?_
    exact J.goto [0, 1, 2, 3, 4, 5, 6, 7, 8] (hj ()) ⟨rfl, rfl, rfl, rfl, rfl, rfl, rfl, rfl, trivial⟩ rfl rfl
  refine J.r hX tk 400 (fun _ => rfl) fun b57 => ?_
  refine J.cond rfl (fun h7 => ?_) (fun h7 => ?_)
  ·have hc : y.en.role = 0 ∨ betB x y = true := by simpa using h7
   rw [if_pos hc] at hbs
   refine J.r hX tk 400 (fun _ => rfl) fun b58 => ?_
   refine J.val hX (fdV x) 0 rfl rfl (fun hg a w he hs => ownN_run tk rfl rfl he rfl rfl rfl (hs.get (i := 6) rfl) (by rw [show 0 + (k : Int).toNat * 25 = k * 25 from by omega]; exact cellsF_get hx) rfl) rfl trivial ?_
   refine J.r hX tk 1 (fun _ => rfl) fun b59 => ?_
   refine J.storeN hX tk 8 rfl rfl rfl rfl rfl rfl rfl rfl rfl rfl rfl rfl rfl ?_ (cellsF ((bstF I m k).set kk x)) ?_ rfl (fun _ => rfl) ⟨trivial, ?_⟩
   ·rw [cellsF_len, bstF_len]
    show 0 + (kk : Int).toNat * 25 + 25 ≤ m * 25
    omega
   ·have := cellsF_set (bstF I m k) [] kk x (by rw [bstF_len]; exact hkm)
    simp only [List.append_nil] at this
    rw [show 0 + (kk : Int).toNat * 25 = kk * 25 from by omega]
    exact this
   rw [← hbs]
   refine J.r hX tk 400 (fun _ => rfl) fun b60 => ?_
   refine J.nS (k + 1) (by omega) (by omega) [0, 1, 2, 3, 4, 5, 6, 7, 8] rfl rfl
  ·have hc : ¬ (y.en.role = 0 ∨ betB x y = true) := by simpa using h7
   rw [if_neg hc] at hbs
   rw [← hbs]
   refine J.r hX tk 400 (fun _ => rfl) fun b62 => ?_
   refine J.nS (k + 1) (by omega) (by omega) [0, 1, 2, 3, 4, 5, 6, 7, 8] rfl rfl
 simp only [decide_eq_false_iff_not, Int.ofNat_lt] at h6
 obtain rfl : k = I.length := by omega
 have hbfin : ∀ j : Nat, j < m → (bstF I m I.length)[j]? = some (V.standOf (V.of L (j : Int))).1 := fun j hj => by
  rw [bstF_get I hj, List.take_length, hbin j hj]
 have hbl := bstF_len I m I.length
 generalize bstF I m I.length = Bs at hbfin hbl
 refine J.close (f := fun g : Nat => RefP q (Tb.new n) m g) g [3, 7] rfl rfl rfl ?_
 refine J.turn1 [] rfl (As := [ownA 45 19 none 0 0 (cellsE [])]) (fun h s => Sep.one ⟨rfl, rfl, rfl⟩) rfl ?_
 refine J.turn1 [] rfl (As := [ownA 3 1 none 0 0 (cellsI [])]) (fun h s => Sep.one ⟨rfl, rfl, rfl⟩) rfl ?_
 refine J.turn1 [] rfl (As := [ownA 45 19 none 0 0 (cellsE [])]) (fun h s => Sep.one ⟨rfl, rfl, rfl⟩) rfl ?_
 refine J.r hX tk 400 (fun _ => rfl) fun b64 => ?_
 have hS0 : V.goS N L n 0 = ⟨Tb.new n, [], [], []⟩ := rfl
 refine J.r hX tk 400 (fun _ => rfl) fun b65 => ?_
 refine J.lo (α := (Nat × (Option Nat × Nat) × (Option Nat × Nat) × (Option Nat × Nat))) (fun z => z.1 ≤ m) (fun z => [⟨15, .int .i64 z.1, 0, .tt⟩, ⟨14, slv z.2.2.2.1 (V.goS N L n z.1).others.length z.2.2.2.2, 0, .tt⟩, ⟨10, .slice (some ⟨gB, 0, none⟩) m m, 9, .tt⟩, ⟨9, slv ai I.length ci, 0, .tt⟩, ⟨5, .pointer (some ⟨bo 0, 0, none⟩), 6, .tt⟩, ⟨4, .pointer (some ⟨br 0, 0, none⟩), 3, .tt⟩, ⟨0, .pointer (some ⟨p, 0, none⟩), 2, .tt⟩]) [3, 5, 9, 10, 11] (fun z => [RefA q (V.goS N L n z.1).tb m, .pt (bo 0) 40 (svL q (slv z.2.1.1 (V.goS N L n z.1).torn.length z.2.1.2) 0 (slv z.2.2.1.1 (normI (V.goS N L n z.1).held).length z.2.2.1.2) (V.nextOf L) L.length), ownA 45 19 z.2.1.1 (V.goS N L n z.1).torn.length z.2.1.2 (cellsE (V.goS N L n z.1).torn), ownA 3 1 z.2.2.1.1 (normI (V.goS N L n z.1).held).length z.2.2.1.2 (cellsI (normI (V.goS N L n z.1).held)), ownA 45 19 z.2.2.2.1 (V.goS N L n z.1).others.length z.2.2.2.2 (cellsE (V.goS N L n z.1).others)]) (fun z => m - z.1) ((0, (none, 0), (none, 0), (none, 0))) (Nat.zero_le _) rfl ?_ (fun _ => rfl) fun z hI => ?_
 ·rw [hS0]; dsimp only; rw [normI_nil]; rfl
 obtain ⟨k, ⟨at_, ct⟩, ⟨ah, ch⟩, ⟨ao, co⟩⟩ := z
 dsimp only at hI ⊢
 have hgl := V.goS_len N L n k
 have hgh := V.goS_held N L n k
 have hnl := normI_len (V.goS N L n k).held
 refine J.r hX tk 400 (fun _ => rfl) fun b66 => ?_
 refine J.cond rfl (fun h8 => ?_) (fun h8 => ?_)
 ·simp only [decide_eq_true_eq, Int.ofNat_lt] at h8
  have hbk := hbfin k h8
  obtain ⟨f, hf⟩ : ∃ f, f = (V.standOf (V.of L (k : Int))).1 := ⟨_, rfl⟩
  have hrole0 := stand_role (l := V.of L (k : Int)) (fun f hf => by have := (hLb f (List.mem_filter.1 hf).1).2.1; omega)
  rw [← hf] at hbk hrole0
  have hst := V.goS_succ N L n k
  refine J.r hX tk 400 (fun _ => rfl) fun b67 => ?_
  refine J.val hX (.int .i64 f.en.role) 0 rfl rfl (fun hg a w he hs => load1_run tk rfl rfl he rfl rfl rfl (hs.get (i := 8) rfl) (by rw [show 0 + (k : Int).toNat * 25 + 0 + 2 = 0 + (k : Int).toNat * 25 + 2 from rfl, cellsF_in hbk 2 (by decide)]; rfl)) rfl trivial ?_
  refine J.r hX tk 400 (fun _ => rfl) fun b68 => ?_
  refine J.cond rfl (fun h9 => ?_) (fun h9 => ?_)
  ·have h2 : (V.standOf (V.of L (k : Int))).2 = false := hrole0.1 (by simpa using h9)
   have hstep : V.goS N L n (k + 1) = V.goS N L n k := by
    rw [hst]; unfold V.step; rw [if_neg (by rw [h2]; exact Bool.false_ne_true)]
   rw [← hstep]
   refine J.r hX tk 400 (fun _ => rfl) fun b69 => ?_
   refine J.nS ((k + 1, (at_, ct), (ah, ch), (ao, co))) (by dsimp only; omega) (by dsimp only; omega) [0, 1, 2, 3, 4, 5, 6, 7, 8, 9, 10, 11] rfl rfl
  have h2 : (V.standOf (V.of L (k : Int))).2 = true := by
   cases hc : (V.standOf (V.of L (k : Int))).2 with
   | true => rfl
   | false =>
    have := hrole0.2 hc
    rw [this] at h9
    cases h9
  have hmem : f ∈ V.of L (k : Int) := by rw [hf]; exact V.standOf_mem h2
  obtain ⟨hfL, hfk0⟩ := List.mem_filter.1 hmem
  have hfk : f.en.lpn = (k : Int) := eq_of_beq hfk0
  obtain ⟨hfb, hfr, r0, hfrow, hr0⟩ := hLb f hfL
  unfold EnBd at hfb
  have hstep : V.goS N L n (k + 1) = if f.whole = true then { V.goS N L n k with tb := (V.goS N L n k).tb.put f.en f.block f.row f.slot f.mask } else if V.last N f = true then ⟨(V.goS N L n k).tb.put f.en f.block f.row f.slot f.mask, (V.goS N L n k).torn ++ [f.en], (V.goS N L n k).held ++ V.holds (V.of L k), (V.goS N L n k).others⟩ else ⟨(V.goS N L n k).tb.put f.en f.block f.row f.slot f.mask, (V.goS N L n k).torn, (V.goS N L n k).held, (V.goS N L n k).others ++ [f.en]⟩ := by
   rw [hst]; unfold V.step; rw [if_pos h2, ← hf]
  have hno : Tb.look (V.goS N L n k).tb.at_ f.en.lpn = none := by rw [hfk, V.goS_look, if_neg (by omega)]
  have hlog : (V.goS N L n k).tb.logical = (m : Int) := by rw [V.goS_log]; exact hm
  have hheld := heldK_all (V.goS N L n k).held I (k : Int) (fun f hf => by have := (hLb f (hIm f hf).1).1; unfold EnBd at this; omega)
  rw [hIn0 k h8] at hheld
  have hhl := V.holds_len (V.of L (k : Int))
  have hol := V.of_len L (k : Int)
  generalize V.goS N L n k = S at hgl hgh hnl hstep hno hlog hheld
  refine J.r hX tk 400 (fun _ => rfl) fun b71 => ?_
  refine J.plan (.of [0,5,8,12,16,20,25,28,32,36,40,45,48,52,56,60,65,70]) [] [5,8] (by rw [hX.hP]; kernel_rfl) (by kernel_rfl) ?_
  refine J.r hX tk 400 (fun _ => rfl) fun b72 => ?_
  refine J.valT hX (enV f.en) 0 rfl rfl (fun hg a w he hC => loadN_run tk rfl rfl he rfl rfl rfl (hC rfl _ (cget_mem (i := 8) rfl)) (by rw [show 0 + (k : Int).toNat * 25 + 0 = k * 25 from by omega]; exact cellsF_en hbk) rfl) rfl ?_
  refine J.r hX tk 400 (fun _ => rfl) fun b73 => ?_
  refine J.valT hX (plV f.block f.row f.slot) 0 rfl rfl (fun hg a w he hC => loadN_run tk rfl rfl he rfl rfl rfl (hC rfl _ (cget_mem (i := 8) rfl)) (by rw [show 0 + (k : Int).toNat * 25 + 19 = k * 25 + 19 from by omega]; exact cellsF_pl hbk) rfl) rfl ?_
  refine J.r hX tk 400 (fun _ => rfl) fun b74 => ?_
  refine J.valT hX (.int .i64 f.mask) 0 rfl rfl (fun hg a w he hC => load1_run tk rfl rfl he rfl rfl rfl (hC rfl _ (cget_mem (i := 8) rfl)) (by rw [cellsF_in hbk 22 (by decide)]; rfl)) rfl ?_
  refine J.r hX tk 400 (fun _ => rfl) fun b75 => ?_
  refine J.ca hX (by kernel_rfl) (f13_Put q S.tb m f.en f.block f.row f.slot f.mask (by omega) hm1 hlog hfr hfb.2 hno) [3] 0 rfl rfl rfl rfl rfl rfl (fun _ => rfl) ?_
  rintro v As ⟨rfl, rfl⟩
  refine ⟨_, rfl, (by first | exact trivial | (repeat' (first | exact trivial | refine ⟨rfl, ?_⟩))), ?_⟩
  refine J.r hX tk 400 (fun _ => rfl) fun b76 => ?_
  refine J.val hX (.bool f.whole) 0 rfl rfl (fun hg a w he hs => load1_run tk rfl rfl he rfl rfl rfl (hs.get (i := 8) rfl) (by rw [cellsF_in hbk 23 (by decide)]; rfl)) rfl trivial ?_
  refine J.r hX tk 400 (fun _ => rfl) fun b77 => ?_
  refine J.cond rfl (fun h10 => ?_) (fun h10 => ?_)
  ·rw [if_pos h10] at hstep
   have e1 := congrArg Sst.tb hstep
   have e2 := congrArg Sst.torn hstep
   have e3 := congrArg Sst.held hstep
   have e4 := congrArg Sst.others hstep
   dsimp only at e1 e2 e3 e4
   rw [← e1, ← e2, ← e3, ← e4]
   refine J.r hX tk 400 (fun _ => rfl) fun b78 => ?_
   refine J.nS ((k + 1, (at_, ct), (ah, ch), (ao, co))) (by dsimp only; omega) (by dsimp only; omega) [0, 1, 2, 3, 4, 5, 6, 7, 8, 9, 10, 11] rfl rfl
  rw [if_neg (by rw [h10]; exact Bool.false_ne_true)] at hstep
  refine J.r hX tk 400 (fun _ => rfl) fun b80 => ?_
  refine J.val hX (fdV f) 0 rfl rfl (fun hg a w he hs => loadN_run tk rfl rfl he rfl rfl rfl (hs.get (i := 8) rfl) (by rw [show 0 + (k : Int).toNat * 25 = k * 25 from by omega]; exact cellsF_get hbk) rfl) rfl trivial ?_
  refine J.r hX tk 400 (fun _ => rfl) fun b81 => ?_
  refine J.ca hX (by kernel_rfl) (f13_last p N hN hR f r0 hfrow (by omega)) [1] 0 rfl rfl rfl rfl rfl rfl (fun _ => rfl) ?_
  rintro v As ⟨rfl, rfl⟩
  refine ⟨_, rfl, trivial, ?_⟩
  refine J.r hX tk 400 (fun _ => rfl) fun b83 => ?_
  refine J.cond rfl (fun h11 => ?_) (fun h11 => ?_)
  ·rw [if_pos h11] at hstep
   have e1 := congrArg Sst.tb hstep
   have e2 := congrArg Sst.torn hstep
   have e3 := congrArg Sst.held hstep
   have e4 := congrArg Sst.others hstep
   dsimp only at e1 e2 e3 e4
   refine J.r hX tk 400 (fun _ => rfl) fun b84 => ?_
   refine J.plan (.of [0,5,8,12,16,20,25,30,34,36,43]) [9,10] [5,8] (by rw [hX.hP]; kernel_rfl) (by kernel_rfl) ?_
   refine J.r hX tk 400 (fun _ => rfl) fun b85 => ?_
   refine J.valT hX (enV f.en) 0 rfl rfl (fun hg a w he hC => loadN_run tk rfl rfl he rfl rfl rfl (hC rfl _ (cget_mem (i := 8) rfl)) (by rw [show 0 + (k : Int).toNat * 25 + 0 = k * 25 from by omega]; exact cellsF_en hbk) rfl) rfl ?_
   refine J.r hX tk 400 (fun _ => rfl) fun b86 => ?_
   refine J.append hX tk 9 12 0 rfl rfl rfl rfl rfl rfl rfl rfl rfl rfl rfl rfl rfl rfl rfl rfl ?_ ?_ (fun _ => rfl) fun a4 c4 => ⟨_, (congrArg (fun y => lset _ 9 (ownA _ _ _ _ _ y)) (cellsE_snoc S.torn f.en)).trans rfl, (by first | exact trivial | (repeat' (first | exact trivial | refine ⟨rfl, ?_⟩))), ?_⟩
   ·simp only [maxLen]; omega
   ·omega
   rw [show S.torn.length + 1 = (S.torn ++ [f.en]).length from by simp]
   refine J.r hX tk 400 (fun _ => rfl) fun b87 => ?_
   refine J.ca hX (by kernel_rfl) (f13_held ah (normI S.held).length ch (normI S.held) rfl (by omega) ai I.length ci I rfl (by omega) k) [10, 6] 0 rfl rfl rfl rfl rfl rfl (fun _ => rfl) ?_
   rintro v As ⟨a5, c5, rfl, rfl⟩
   refine ⟨_, rfl, trivial, ?_⟩
   rw [hheld, ← e1, ← e2, ← e3, ← e4]
   refine J.r hX tk 400 (fun _ => rfl) fun b89 => ?_
   refine J.nS ((k + 1, (a4, c4), (a5, c5), (ao, co))) (by dsimp only; omega) (by dsimp only; omega) [0, 1, 2, 3, 4, 5, 6, 7, 8, 9, 10, 11] rfl rfl
  ·rw [if_neg (by rw [h11]; exact Bool.false_ne_true)] at hstep
   have e1 := congrArg Sst.tb hstep
   have e2 := congrArg Sst.torn hstep
   have e3 := congrArg Sst.held hstep
   have e4 := congrArg Sst.others hstep
   dsimp only at e1 e2 e3 e4
   refine J.r hX tk 400 (fun _ => rfl) fun b91 => ?_
   refine J.val hX (enV f.en) 0 rfl rfl (fun hg a w he hs => loadN_run tk rfl rfl he rfl rfl rfl (hs.get (i := 8) rfl) (by rw [show 0 + (k : Int).toNat * 25 + 0 = k * 25 from by omega]; exact cellsF_en hbk) rfl) rfl trivial ?_
   refine J.r hX tk 400 (fun _ => rfl) fun b92 => ?_
   refine J.append hX tk 11 12 0 rfl rfl rfl rfl rfl rfl rfl rfl rfl rfl rfl rfl rfl rfl rfl rfl ?_ ?_ (fun _ => rfl) fun a4 c4 => ⟨_, (congrArg (fun y => lset _ 11 (ownA _ _ _ _ _ y)) (cellsE_snoc S.others f.en)).trans rfl, trivial, ?_⟩
   ·simp only [maxLen]; omega
   ·omega
   rw [show S.others.length + 1 = (S.others ++ [f.en]).length from by simp, ← e1, ← e2, ← e3, ← e4]
   refine J.r hX tk 400 (fun _ => rfl) fun b93 => ?_
   refine J.nS ((k + 1, (at_, ct), (ah, ch), (a4, c4))) (by dsimp only; omega) (by dsimp only; omega) [0, 1, 2, 3, 4, 5, 6, 7, 8, 9, 10, 11] rfl rfl
 simp only [decide_eq_false_iff_not, Int.ofNat_lt] at h8
 obtain rfl : k = m := by omega
 have hsc : V.scan N n = ⟨(V.goS N L n k).tb, (V.goS N L n k).torn ++ (V.goS N L n k).others, (V.goS N L n k).torn.length, normI (V.goS N L n k).held, V.nextOf L, L.length⟩ := by
  unfold V.scan V.scanOf
  rw [hsz, ← hL]; rfl
 obtain ⟨S, hSS⟩ : ∃ S, V.goS N L n k = S := ⟨_, rfl⟩
 rw [hSS] at hgl hgh hnl hsc
 rw [hSS]
 refine J.r hX tk 400 (fun _ => rfl) fun b95 => ?_
 refine J.appendO hX tk 9 11 rfl rfl rfl rfl rfl rfl rfl rfl rfl rfl rfl rfl rfl (cellsE_one _) ?_ ?_ (fun _ => rfl) fun a6 c6 => ⟨_, (congrArg (fun y => lset _ 9 (ownA _ _ _ _ _ y)) (cellsE_app S.torn S.others)).trans rfl, trivial, ?_⟩
 ·simp only [maxLen]; omega
 ·omega
 rw [show S.torn.length + S.others.length = (S.torn ++ S.others).length from by simp]
 refine J.r hX tk 400 (fun _ => rfl) fun b96 => ?_
 refine J.rt hX tk [1, 3, 9, 10] rfl rfl rfl ?_
 rw [hsc]
 exact ⟨q, a6, c6, ah, ch, rfl, rfl⟩
theorem eqEnR (x : En) : eqCells (enL x) (enL x) = true := by simp [enL, byC, bv, eqCells, cellEq]
theorem s_SurveyAll (g0 g1 g2 : Int) (A : Atom) (ar : Option Addr) (nr cr : Nat) (rows : List RowV) (hAr : Rd A ar 3 nr (rows.flatMap RowV.cells)) (hlr : rows.length = nr) (hrows : ∀ x ∈ rows, x.Ok A)
  (af : Option Addr) (nf cf : Nat) (fs : List FaV) (hAf : Rd A af 7 nf (fs.flatMap FaV.cells)) (hlf : fs.length = nf) (ap : Option Addr) (np cp : Nat) (pgs : List (List UInt8)) (hAp : Rd A ap 32 np (pgs.flatMap pageC)) (hlp : pgs.length = np) (hpg : ∀ p ∈ pgs, p.length = 32) (li : Int) :
  Fn Tryz.prog 3 [.agg #[.int .i64 g0, .int .i64 g1, .int .i64 g2], .slice ar nr cr, .slice af nf cf, .slice ap np cp, .int .i64 li] [A] (fun v As => v = .bool true ∧ As = [A]) := by
 have hl1 := tm_bd li 40 (by decide)
 have hl2 := tm_2 li 40 (by decide)
 obtain ⟨m, hme⟩ := Int.eq_ofNat_of_zero_le hl2.1
 rw [hme] at hl2
 have hm40 : m < 40 := by omega
 refine Fn.enter [0, 0, 0, 0, 0] Tryz.func3 rfl rfl rfl fun X F hX => ?_
 refine J.r hX tk 400 (fun _ => rfl) fun bb => ?_
 refine J.ca hX (by kernel_rfl) (l16_begun) [] 0 rfl rfl rfl rfl rfl rfl (fun _ => rfl) ?_
 rintro v As ⟨rfl, rfl⟩
 refine ⟨_, rfl, trivial, ?_⟩
 refine J.r hX tk 400 (fun _ => rfl) fun b2 => ?_
 refine J.cond rfl (fun h => absurd h (by decide)) (fun _ => ?_)
 refine J.r hX tk 400 (fun _ => rfl) fun b3 => ?_
 refine J.ca hX (by kernel_rfl) (l11_Flash g0 g1 g2 A ar nr cr rows hAr hlr hrows af nf cf fs hAf hlf ap np cp pgs hAp hlp hpg) [1] 0 rfl rfl rfl rfl rfl rfl (fun _ => rfl) ?_
 rintro v As ⟨q, N, rfl, ⟨hG, hT⟩, rfl⟩
 refine ⟨_, rfl, trivial, ?_⟩
 refine J.r hX tk 400 (fun _ => rfl) fun b5 => ?_
 rw [hme]
 refine J.r hX tk 400 (fun _ => rfl) fun b6 => ?_
 refine J.ca hX (by kernel_rfl) (v_Scan q N hG.ok hG.room hT.off m) [3] 0 rfl rfl rfl rfl rfl rfl (fun _ => rfl) ?_
 rintro v As ⟨q1, a1, c1, a2, c2, rfl, rfl⟩
 refine ⟨_, rfl, trivial, ?_⟩
 refine J.r hX tk 400 (fun _ => rfl) fun bs => ?_
 refine J.ca hX (by kernel_rfl) (f13_Scan q N hG.ok hG.room m m (by omega)) [3] 0 rfl rfl rfl rfl rfl rfl (fun _ => rfl) ?_
 rintro v As ⟨q2, a3, c3, a4, c4, rfl, rfl⟩
 refine ⟨_, rfl, trivial, ?_⟩
 have hok : (V.scan N m).tb.Ok := V.goS_ok N (V.all N) m (V.size m)
 have hlog : (V.scan N m).tb.logical = (m : Int) := by
  have := V.goS_log N (V.all N) m (V.size m)
  show (V.goS N (V.all N) m (V.size m)).tb.logical = _
  rw [this]; omega
 have hgl := V.goS_len N (V.all N) m (V.size m)
 have hgh := V.goS_held N (V.all N) m (V.size m)
 have hLl := all_len N hG.ok
 have hnl := normI_len (V.goS N (V.all N) m (V.size m)).held
 have hm40' : V.size m = m := by unfold V.size; omega
 have htl : (V.scan N m).torn.length ≤ 10000000 := by
  show ((V.goS N (V.all N) m (V.size m)).torn ++ (V.goS N (V.all N) m (V.size m)).others).length ≤ _
  rw [List.length_append]; omega
 have hhl : (V.scan N m).held.length ≤ 10000000 := by
  show (normI (V.goS N (V.all N) m (V.size m)).held).length ≤ _
  omega
 clear hgl hgh hnl
 generalize V.scan N m = S at hok hlog htl hhl
 refine J.r hX tk 400 (fun _ => rfl) fun bt => ?_
 refine J.cond rfl (fun h => by simp at h) (fun _ => ?_)
 refine J.r hX tk 400 (fun _ => rfl) fun b9 => ?_
 refine J.lo (α := Nat) (fun i => i ≤ S.torn.length) (fun i => [⟨16, .int .i64 i, 0, .tt⟩, ⟨13, .pointer (some ⟨bs 0, 0, none⟩), 8, .tt⟩, ⟨15, .pointer (some ⟨bt 0, 0, none⟩), 12, .tt⟩]) [] (fun i => []) (fun i => S.torn.length - i) (0) (Nat.zero_le _) rfl ?_ (fun _ => rfl) fun i hI => ?_
 ·rfl
 refine J.r hX tk 400 (fun _ => rfl) fun b11 => ?_
 refine J.cond rfl (fun h1 => ?_) (fun h1 => ?_)
 ·simp only [decide_eq_true_eq, Int.ofNat_lt] at h1
  obtain ⟨y, hy⟩ : ∃ y, S.torn[i]? = some y := ⟨_, List.getElem?_eq_getElem h1⟩
  refine J.know (p := ∃ g, a1 = some g) (fun h' s => own_some (c := (a1, c1)) (by omega) (s.get (i := 5) rfl)) fun hg => ?_
  obtain ⟨g1, rfl⟩ := hg
  refine J.know (p := ∃ g, a3 = some g) (fun h' s => own_some (c := (a3, c3)) (by omega) (s.get (i := 9) rfl)) fun hg => ?_
  obtain ⟨g3, rfl⟩ := hg
  refine J.r hX tk 400 (fun _ => rfl) fun b12 => ?_
  refine J.plan (.of [0,5,8,12,17,20,25,28,32,37,40]) [] [5,7,9,11] (by rw [hX.hP]; kernel_rfl) (by kernel_rfl) ?_
  refine J.r hX tk 400 (fun _ => rfl) fun b13 => ?_
  refine J.valT hX (enV y) 0 rfl rfl (fun hg aa w he hC => ownN_run tk rfl rfl he rfl rfl rfl (hC rfl _ (cget_mem (i := 5) rfl)) (by rw [show 0 + (i : Int).toNat * 19 = i * 19 from by omega]; exact cellsE_get hy) rfl) rfl ?_
  refine J.r hX tk 400 (fun _ => rfl) fun b14 => ?_
  refine J.valT hX (enV y) 0 rfl rfl (fun hg aa w he hC => ownN_run tk rfl rfl he rfl rfl rfl (hC rfl _ (cget_mem (i := 9) rfl)) (by rw [show 0 + (i : Int).toNat * 19 = i * 19 from by omega]; exact cellsE_get hy) rfl) rfl ?_
  refine J.valT hX (.bool false) 0 rfl rfl (fun hg aa w he hC => (neAgg_run (xs := enL y) (ys := enL y) rfl rfl rfl he rfl rfl leavesEn (fitsEn _) (fitsEn _) mkEn gdEn).trans (by rw [eqEnR]; rfl)) rfl ?_
  refine J.r hX tk 400 (fun _ => rfl) fun b15 => ?_
  refine J.cond rfl (fun h => absurd h (by decide)) (fun _ => ?_)
  refine J.r hX tk 400 (fun _ => rfl) fun b16 => ?_
  refine J.nS (i + 1) (by omega) (by omega) [0, 1, 2, 3, 4, 5, 6, 7, 8, 9, 10, 11] rfl rfl
 refine J.r hX tk 400 (fun _ => rfl) fun b18 => ?_
 refine J.lo (α := Nat) (fun j => j ≤ S.held.length) (fun j => [⟨17, .int .i64 j, 0, .tt⟩, ⟨13, .pointer (some ⟨bs 0, 0, none⟩), 8, .tt⟩, ⟨15, .pointer (some ⟨bt 0, 0, none⟩), 12, .tt⟩]) [] (fun j => []) (fun j => S.held.length - j) (0) (Nat.zero_le _) rfl ?_ (fun _ => rfl) fun j hI => ?_
 ·rfl
 refine J.r hX tk 400 (fun _ => rfl) fun b20 => ?_
 refine J.cond rfl (fun h2 => ?_) (fun h2 => ?_)
 ·simp only [decide_eq_true_eq, Int.ofNat_lt] at h2
  obtain ⟨y, hy⟩ : ∃ y, S.held[j]? = some y := ⟨_, List.getElem?_eq_getElem h2⟩
  refine J.know (p := ∃ g, a2 = some g) (fun h' s => own_some (c := (a2, c2)) (by omega) (s.get (i := 6) rfl)) fun hg => ?_
  obtain ⟨g2, rfl⟩ := hg
  refine J.know (p := ∃ g, a4 = some g) (fun h' s => own_some (c := (a4, c4)) (by omega) (s.get (i := 10) rfl)) fun hg => ?_
  obtain ⟨g4, rfl⟩ := hg
  refine J.r hX tk 400 (fun _ => rfl) fun b21 => ?_
  refine J.plan (.of [0,5,8,12,17,20,25,28,32,37,40]) [] [6,7,10,11] (by rw [hX.hP]; kernel_rfl) (by kernel_rfl) ?_
  refine J.r hX tk 400 (fun _ => rfl) fun b22 => ?_
  refine J.valT hX (.int .i64 y) 0 rfl rfl (fun hg aa w he hC => own1_run tk rfl rfl he rfl rfl rfl (hC rfl _ (cget_mem (i := 6) rfl)) (by rw [show 0 + (j : Int).toNat * 1 = j from by omega]; exact cellsI_get hy)) rfl ?_
  refine J.r hX tk 400 (fun _ => rfl) fun b23 => ?_
  refine J.valT hX (.int .i64 y) 0 rfl rfl (fun hg aa w he hC => own1_run tk rfl rfl he rfl rfl rfl (hC rfl _ (cget_mem (i := 10) rfl)) (by rw [show 0 + (j : Int).toNat * 1 = j from by omega]; exact cellsI_get hy)) rfl ?_
  refine J.r hX tk 400 (fun _ => rfl) fun b24 => ?_
  refine J.cond rfl (fun h => by simp at h) (fun _ => ?_)
  refine J.r hX tk 400 (fun _ => rfl) fun b25 => ?_
  refine J.nS (j + 1) (by omega) (by omega) [0, 1, 2, 3, 4, 5, 6, 7, 8, 9, 10, 11] rfl rfl
 refine J.r hX tk 400 (fun _ => rfl) fun b27 => ?_
 refine J.ca hX (by kernel_rfl) (l13_SameTable q1 q2 S.tb m (by omega) hok hlog) [4, 8] 0 rfl rfl rfl rfl rfl rfl (fun _ => rfl) ?_
 rintro v As ⟨rfl, rfl⟩
 refine ⟨_, rfl, trivial, ?_⟩
 refine J.r hX tk 400 (fun _ => rfl) fun b29 => ?_
 refine J.rt hX tk [1] rfl rfl rfl ?_
 exact ⟨rfl, rfl⟩
end Go.Proofs.YtoideahgjgaddaaGreat
namespace Go.Proofs.YtoideahgjgaddaaGreat
open Go
theorem andT {a b : Bool} (ha : a = true) (hb : b = true) : (a && b) = true := by rw [ha, hb]; rfl
theorem joined_of {P : Program} {f : FuncId} {fn : Func} {s : ChangeSpec} {c : OpenClaim} (k0 : (c.wf (OpenSpec.ofChange s)) = true) (k1 : (laidOutB P) = true) (k2 : (mapsRowed P) = true) (k3 : (fn.params.all (P.readableRec ·)) = true) (k4 : (namedTie P c.named s.vars) = true) (k5 : (c.stops == []) = true) (k6 : (P.stops == []) = true) (k7 : (c.knobs == []) = true) (k8 : (P.stopKnobs == []) = true) (k9 : (c.inPlace == P.inPlace f) = true) (k10 : (c.unfollowed == P.unfollowed f) = true) (k11 : (c.recurses == P.recurses f) = true) (k12 : (c.named == P.varsNamed f) = true) (k13 : (c.maps == (fn.params.toList ++ s.plain.varTypes P).any (P.mapsRec ·)) = true) (k14 : (c.ifaces == (fn.params.toList ++ s.plain.varTypes P).any (P.ifacesRec ·)) = true) (k15 : (c.mapsOut == P.mapsAmong fn.resultTypes.toList) = true) (k16 : (c.loops == (fn.params.toList ++ s.plain.varTypes P).any (P.loopsFrom ·)) = true) (k17 : (c.wideKeys == (fn.params.toList ++ s.plain.varTypes P ++ fn.resultTypes.toList).any (P.wideKeysFrom ·)) = true) (k18 : (s.vars.all (P.varReadable ·)) = true) (k19 : (fn.resultTypes.all (fun t => P.readableRec t && decide (t < P.types.size))) = true) (k20 : (c.ifacesOut == fn.resultTypes.toList.any (P.ifacesRec ·)) = true) (k21 : (c.loopsOut == fn.resultTypes.toList.any (P.loopsFrom ·)) = true) (k22 : (c.plainKeys == P.plainKeys) = true) (k23 : (c.shortTexts.isNone) = true) (k24 : (P.stopsHeard) = true) (k25 : (P.mayEnter) = true) (k26 : (c.lifted == P.liftsFinal) = true) (k27 : (P.make == some c.make) = true) (k28a : c.domain.isEmpty = true) (k28 : (c.kinds == []) = true) (k29 : (c.pinned == c.pinnedBy) = true) (k30 : (c.veiled == (fn.params.toList ++ s.plain.varTypes P ++ fn.resultTypes.toList).any (P.veiledRec ·)) = true) (k31 : (c.veiledFits P fn.params.toList (fn.params.toList ++ s.plain.varTypes P ++ fn.resultTypes.toList)) = true) : joinedFacts P f fn s c = true := by
 unfold joinedFacts
 rw [if_pos k28a]
 exact (andT (andT (andT (andT (andT (andT (andT (andT (andT (andT (andT (andT (andT (andT (andT (andT (andT (andT (andT (andT (andT (andT (andT (andT (andT (andT (andT (andT (andT (andT (andT k0 k1) k2) k3) k4) k5) k6) k7) k8) k9) k10) k11) k12) k13) k14) k15) k16) k17) k18) k19) k20) k21) k22) k23) k24) k25) k26) k27) k28) k29) k30) k31)
theorem j_laid : laidOutB Tryz.prog = true := by kernel_rfl
theorem j_rowed : mapsRowed Tryz.prog = true := by kernel_rfl
theorem j_stops : (Tryz.prog.stops == []) = true := by kernel_rfl
theorem j_knobs : (Tryz.prog.stopKnobs == []) = true := by kernel_rfl
theorem j_heard : Tryz.prog.stopsHeard = true := by kernel_rfl
theorem j_enter : Tryz.prog.mayEnter = true := by kernel_rfl
end Go.Proofs.YtoideahgjgaddaaGreat
