/- Helpers of the proofs about ostrakonlaw11, proved here: Lal. No condition. -/
import Derived.Test.YtoideahgjgaddaaGreatP27
import Derived.Test.YtoideahgjgaddaaGreatP28
set_option linter.unusedVariables false
set_option linter.unusedSimpArgs false
set_option linter.unusedSectionVars false
set_option linter.unnecessarySimpa false
/- Walks: the sentence SurveyAlike. -/
namespace Go.Proofs.YtoideahgjgaddaaGreat
open Go Go.RowKit
theorem l16_b2i (b : Bool) : Fn Tryz.prog 36 [.bool b] [] (fun v As => v = .int .i64 (if b then 1 else 0) ∧ As = []) := by
  refine Fn.enter [0] Tryz.func36 rfl rfl rfl fun X F hX => ?_
  cases b with
  | true =>
    refine J.r hX tab_ok 400 (fun _ => rfl) fun b1 => ?_
    refine J.cond rfl (fun _ => ?_) (fun h => by simp at h)
    refine J.r hX tab_ok 400 (fun _ => rfl) fun b2 => ?_
    refine J.rt hX tab_ok [] rfl rfl rfl ?_
    exact ⟨rfl, rfl⟩
  | false =>
    refine J.r hX tab_ok 400 (fun _ => rfl) fun b3 => ?_
    refine J.cond rfl (fun h => by simp at h) (fun _ => ?_)
    refine J.r hX tab_ok 400 (fun _ => rfl) fun b4 => ?_
    refine J.rt hX tab_ok [] rfl rfl rfl ?_
    exact ⟨rfl, rfl⟩
def alN (D B P : Nat) (t1 t2 : Bool) : Nat → Nand
  | 0 => Nand.new D B P
  | k + 1 => (R.write (cutB (likeT D (if k = 0 then t1 else t2)) (alN D B P t1 t2 k)) ((2 + k : Nat) : Int) 0 (mAll D) (padL (D - 1) [enE 1 9])).1.onN
theorem al_Gd {D B P : Nat} (hgm : geoMay D B P = true) (hD : D ≤ 6) (t1 t2 : Bool) : ∀ k j, (Nand.new D B P).Gd (8 * k + j) 0 → (alN D B P t1 t2 k).Gd j 0
  | 0, j, h => h.less (by omega) (Nat.le_refl _)
  | k + 1, j, h => by
    have ih := al_Gd hgm hD t1 t2 k (8 + j) (h.less (by omega) (Nat.le_refl _))
    show (R.write (cutB (likeT D (if k = 0 then t1 else t2)) (alN D B P t1 t2 k)) ((2 + k : Nat) : Int) 0 (mAll D) (padL (D - 1) [enE 1 9])).1.onN.Gd j 0
    generalize (if k = 0 then t1 else t2) = t
    refine (write_Gd (padL_data (one_fit (FitE.mk' (by decide) (by decide)))) ?_).on
    cases t with
    | true => exact ih.cut _ _ (by omega) (by omega)
    | false => exact ih
set_option maxRecDepth 20000 in
theorem s_SurveyAlike (g0 g1 g2 : Int) (t1 t2 : Bool) (A : Atom) :
    Fn Tryz.prog 10 [.agg #[.int .i64 g0, .int .i64 g1, .int .i64 g2], .bool t1, .bool t2] [A] (fun v As => v = .bool true ∧ As = [A]) := by
  refine Fn.enter [0, 0, 0] Tryz.func10 rfl rfl rfl fun X F hX => ?_
  refine J.r hX tab_ok 400 (fun _ => rfl) fun bb => ?_
  refine J.r hX tab_ok 400 (fun _ => rfl) fun b5 => ?_
  refine J.ca hX (by kernel_rfl) (l16_begun) [] 0 rfl rfl rfl rfl rfl rfl (fun _ => rfl) ?_
  rintro v As ⟨rfl, rfl⟩
  refine ⟨_, rfl, trivial, ?_⟩
  refine J.r hX tab_ok 400 (fun _ => rfl) fun b6 => ?_
  refine J.cond rfl (fun h => absurd h (by decide)) (fun _ => ?_)
  refine J.r hX tab_ok 400 (fun _ => rfl) fun b7 => ?_
  refine J.r hX tab_ok 400 (fun _ => rfl) fun b8 => ?_
  refine J.ca hX (by kernel_rfl) (l6_Geo g0 g1 g2) [] 0 rfl rfl rfl rfl rfl rfl (fun _ => rfl) ?_
  rintro v As ⟨D, B, P, rfl, hD, hB, hP, rfl⟩
  refine ⟨_, rfl, trivial, ?_⟩
  have hgm : geoMay D B P = true := by simp [geoMay]; omega
  refine J.r hX tab_ok 400 (fun _ => rfl) fun b9 => ?_
  refine J.r hX tab_ok 400 (fun _ => rfl) fun b10 => ?_
  refine J.ca hX (by kernel_rfl) (n_New D B P hgm) [] 0 rfl rfl rfl rfl rfl rfl (fun _ => rfl) ?_
  rintro v As ⟨q, rfl, rfl⟩
  refine ⟨_, rfl, trivial, ?_⟩
  have G0 : (Nand.new D B P).Gd 1000 0 := Nand.Gd.new D B P hgm 1000 (by decide)
  have hpw := pow_bd D hD.2
  have hA : FitE (enE 1 9) := FitE.mk' (by decide) (by decide)
  have hGd := fun k (hk : k ≤ 2) => al_Gd hgm hD.2 t1 t2 k 900 (G0.less (by omega) (Nat.le_refl _))
  obtain ⟨x, hx, hxb, hpg, ht, hh⟩ := like_law t1 t2 hD hB hP (alN D B P t1 t2 1) (alN D B P t1 t2 2) rfl rfl
  refine J.r hX tab_ok 400 (fun _ => rfl) fun bs => ?_
  rw [geo_all D hD.2]
  refine J.r hX tab_ok 400 (fun _ => rfl) fun b11 => ?_
  refine J.lo (α := Nat) (fun k => k ≤ 2) (fun k => [⟨38, .int .i64 k, 0, .tt⟩, ⟨36, .slice (some ⟨bs 0, 0, none⟩) 2 2, 5, .tt⟩, ⟨37, .int .i64 2, 0, .tt⟩, ⟨9, .int .i64 (mAll D), 0, .tt⟩, ⟨8, .pointer (some ⟨q, 0, none⟩), 0, .tt⟩, ⟨3, .pointer (some ⟨bb 0, 0, none⟩), 3, .tt⟩, ⟨1, .bool t1, 0, .tt⟩, ⟨2, .bool t2, 0, .tt⟩]) [3] (fun k => [NandA q (alN D B P t1 t2 k)]) (fun k => 2 - k) (0) (Nat.zero_le _) rfl ?_ (fun _ => rfl) fun k hI => ?_
  · rfl
  have hG := hGd k hI
  refine J.r hX tab_ok 400 (fun _ => rfl) fun b12 => ?_
  refine J.cond rfl (fun h1 => ?_) (fun h1 => ?_)
  · have h1 : k < 2 := by have := of_decide_eq_true h1; omega
    obtain ⟨N, hN⟩ : ∃ N, N = alN D B P t1 t2 k := ⟨_, rfl⟩
    have hN1 : alN D B P t1 t2 (k + 1) = (R.write (cutB (likeT D (if k = 0 then t1 else t2)) N) ((2 + k : Nat) : Int) 0 (mAll D) (padL (D - 1) [enE 1 9])).1.onN := by rw [hN]; rfl
    rw [← hN] at hG ⊢
    have hcell : ([.bool t1, .bool t2] : List Value)[k]? = some (.bool (if k = 0 then t1 else t2)) := by
      have : k = 0 ∨ k = 1 := by omega
      rcases this with rfl | rfl <;> rfl
    generalize (if k = 0 then t1 else t2) = t at hN1 hcell
    have hGc : (cutB (likeT D t) N).Gd 900 0 := by
      cases t with
      | true => exact hG.cut _ _ (by omega) (by omega)
      | false => exact hG
    refine J.r hX tab_ok 400 (fun _ => rfl) fun b13 => ?_
    refine J.val hX (.bool t) 0 rfl rfl (fun hg aa w he hw => load1_run tab_ok rfl rfl he rfl rfl rfl (hw.get (i := 4) rfl) (by rw [show 0 + (k : Int).toNat * 1 = k from by omega]; exact hcell)) rfl trivial ?_
    refine J.r hX tab_ok 400 (fun _ => rfl) fun b14 => ?_
    refine J.join (α := Unit) (fun _ => [⟨10, .int .i64 k, 0, .tt⟩, ⟨38, .int .i64 k, 0, .tt⟩, ⟨36, .slice (some ⟨bs 0, 0, none⟩) 2 2, 5, .tt⟩, ⟨37, .int .i64 2, 0, .tt⟩, ⟨9, .int .i64 (mAll D), 0, .tt⟩, ⟨8, .pointer (some ⟨q, 0, none⟩), 0, .tt⟩, ⟨3, .pointer (some ⟨bb 0, 0, none⟩), 3, .tt⟩, ⟨1, .bool t1, 0, .tt⟩, ⟨2, .bool t2, 0, .tt⟩]) (fun _ => [.hp F, A, .pt (bb 0) 23 [.int .i64 D, .int .i64 B, .int .i64 P], NandA q (cutB (likeT D t) N), .pt (bs 0) 4 [.bool t1, .bool t2]]) (fun hj => ?_) (fun _ => ?_)
    · cases t with
      | true =>
        refine J.r hX tab_ok 400 (fun _ => rfl) fun b15 => ?_
        refine J.cond rfl (fun _ => ?_) (fun h => by simp at h)
        refine J.r hX tab_ok 400 (fun _ => rfl) fun b16 => ?_
        rw [show ((D : Int) - 1) = ((D - 1 : Nat) : Int) from by omega]
        refine J.r hX tab_ok 400 (fun _ => rfl) fun b17 => ?_
        refine J.ca hX (by kernel_rfl) (n_Cut q N (D - 1 : Nat) 0) [3] 0 rfl rfl rfl rfl rfl rfl (fun _ => rfl) ?_
        rintro v As ⟨rfl, rfl⟩
        refine ⟨_, rfl, trivial, ?_⟩
        refine J.r hX tab_ok 1 (fun _ => rfl) fun b18 => ?_
        exact J.goto [0, 1, 2, 3, 4] (hj ()) ⟨rfl, rfl, rfl, rfl, rfl, rfl, rfl, rfl, rfl, trivial⟩ rfl rfl
      | false =>
        refine J.r hX tab_ok 400 (fun _ => rfl) fun b19 => ?_
        refine J.cond rfl (fun h => by simp at h) (fun _ => ?_)
        refine J.r hX tab_ok 1 (fun _ => rfl) fun b20 => ?_
        exact J.goto [0, 1, 2, 3, 4] (hj ()) ⟨rfl, rfl, rfl, rfl, rfl, rfl, rfl, rfl, rfl, trivial⟩ rfl rfl
    refine J.r hX tab_ok 400 (fun _ => rfl) fun b21 => ?_
    refine J.plan (.of [0,4,8,12,16,21,24,30,34,38,42]) [] [2] (by rw [hX.hP]; kernel_rfl) (by kernel_rfl) ?_
    refine J.r hX tab_ok 400 (fun _ => rfl) fun b22 => ?_
    refine J.r hX tab_ok 400 (fun _ => rfl) fun b23 => ?_
    refine J.ca hX (by kernel_rfl) (l16_entry 1 9) [] 0 rfl rfl rfl rfl rfl rfl (fun _ => rfl) ?_
    rintro v As ⟨rfl, rfl⟩
    refine ⟨_, rfl, (by first | exact trivial | (repeat' (first | exact trivial | refine ⟨rfl, ?_⟩))), ?_⟩
    refine J.r hX tab_ok 400 (fun _ => rfl) fun bl => ?_
    refine J.closeOwn (e := 45) (size := 19) (n := 1) (cap := 1) (xs := cellsE [enE 1 9]) 5 rfl rfl rfl (Nat.le_refl _) (by decide) rfl rfl rfl ?_
    rw [show ((D : Int) - 1) = ((D - 1 : Nat) : Int) from by omega, show (2 : Int) + (k : Int) = ((2 + k : Nat) : Int) from by omega]
    refine J.r hX tab_ok 400 (fun _ => rfl) fun b24 => ?_
    refine J.ca hX (by kernel_rfl) (l16_pads (some (bl 0)) 1 1 (D - 1) [enE 1 9] rfl (by omega) (by omega)) [5] 0 rfl rfl rfl rfl rfl rfl (fun _ => rfl) ?_
    rintro v As ⟨a', c', rfl, rfl⟩
    refine ⟨_, rfl, (by first | exact trivial | (repeat' (first | exact trivial | refine ⟨rfl, ?_⟩))), ?_⟩
    refine J.r hX tab_ok 400 (fun _ => rfl) fun b25 => ?_
    refine J.r hX tab_ok 400 (fun _ => rfl) fun b26 => ?_
    refine J.ca hX (by kernel_rfl) (r_Write q (cutB (likeT D t) N) (ownA 45 19 a' (D - 1) c' (cellsE (padL (D - 1) [enE 1 9]))) ((2 + k : Nat) : Int) 0 (mAll D) (oad a') (D - 1) c' 0 (padL (D - 1) [enE 1 9]) (own_rd _ _ a' _ _ _) (padL_len (show 1 ≤ D - 1 by omega)) (padL_data (one_fit hA)) (hGc.less (by decide) (Nat.le_refl _))) [3, 5] 0 rfl rfl rfl rfl rfl rfl (fun _ => rfl) ?_
    rintro v As ⟨rfl, rfl⟩
    refine ⟨_, rfl, (by first | exact trivial | (repeat' (first | exact trivial | refine ⟨rfl, ?_⟩))), ?_⟩
    refine J.r hX tab_ok 400 (fun _ => rfl) fun b27 => ?_
    refine J.r hX tab_ok 400 (fun _ => rfl) fun b28 => ?_
    refine J.ca hX (by kernel_rfl) (n_On q (R.write (cutB (likeT D t) N) ((2 + k : Nat) : Int) 0 (mAll D) (padL (D - 1) [enE 1 9])).1) [3] 0 rfl rfl rfl rfl rfl rfl (fun _ => rfl) ?_
    rintro v As ⟨rfl, rfl⟩
    refine ⟨_, rfl, trivial, ?_⟩
    rw [← hN1]
    refine J.r hX tab_ok 400 (fun _ => rfl) fun b29 => ?_
    refine J.r hX tab_ok 400 (fun _ => rfl) fun b30 => ?_
    refine J.nS (k + 1) (by omega) (by omega) [0, 1, 2, 3, 4] rfl rfl
  have h2 : k = 2 := by have := of_decide_eq_false h1; omega
  subst h2
  refine J.r hX tab_ok 400 (fun _ => rfl) fun b31 => ?_
  refine J.r hX tab_ok 400 (fun _ => rfl) fun b32 => ?_
  refine J.ca hX (by kernel_rfl) (v_Scan q (alN D B P t1 t2 2) hG.ok hG.room rfl 2) [3] 0 rfl rfl rfl rfl rfl rfl (fun _ => rfl) ?_
  rintro v As ⟨q1, a1, c1, a2, c2, rfl, rfl⟩
  refine ⟨_, rfl, trivial, ?_⟩
  generalize V.scan (alN D B P t1 t2 2) 2 = S at hx hpg ht hh
  obtain ⟨tb, torn, first, held, next, pages⟩ := S
  dsimp only at hx hpg ht hh
  subst hpg hh
  obtain ⟨xb, xr, xl, xm, xs, xo⟩ := x
  dsimp only at hxb
  refine J.r hX tab_ok 400 (fun _ => rfl) fun br => ?_
  refine J.r hX tab_ok 400 (fun _ => rfl) fun b33 => ?_
  refine J.cond rfl (fun h => absurd h (by decide)) (fun _ => ?_)
  refine J.r hX tab_ok 400 (fun _ => rfl) fun b34 => ?_
  refine J.r hX tab_ok 400 (fun _ => rfl) fun b35 => ?_
  refine J.ca hX (by kernel_rfl) (tb_Get q1 tb 1) [5] 0 rfl rfl rfl rfl rfl rfl (fun _ => rfl) ?_
  rintro v As ⟨rfl, rfl⟩
  refine ⟨_, rfl, trivial, ?_⟩
  rw [hx]
  refine J.r hX tab_ok 400 (fun _ => rfl) fun b36 => ?_
  refine J.cond rfl (fun h3 => ?_) (fun h3 => ?_)
  · rw [if_pos h3] at hxb
    subst hxb
    refine J.r hX tab_ok 400 (fun _ => rfl) fun b37 => ?_
    refine J.plan (.of [0,4,8,12,17,20,24,28,32,36,41,44,48,52,56,61,64,68,72,76,80,86,88,92,96,100,105,108,112,116,120]) [30] [8,9] (by rw [hX.hP]; kernel_rfl) (by kernel_rfl) ?_
    refine J.r hX tab_ok 400 (fun _ => rfl) fun b38 => ?_
    refine J.r hX tab_ok 400 (fun _ => rfl) fun b39 => ?_
    refine J.ca hX (by kernel_rfl) (l16_b2i (t1 && t2)) [] 0 rfl rfl rfl rfl rfl rfl (fun _ => rfl) ?_
    rintro v As ⟨rfl, rfl⟩
    refine ⟨_, rfl, (by first | exact trivial | (repeat' (first | exact trivial | refine ⟨rfl, ?_⟩))), ?_⟩
    refine J.r hX tab_ok 400 (fun _ => rfl) fun b40 => ?_
    refine J.rt hX tab_ok [1] rfl rfl rfl ?_
    refine ⟨?_, rfl⟩
    dsimp only
    rw [ht]
    cases t1 <;> cases t2 <;> rfl
  · rw [if_neg (by rw [h3]; exact Bool.false_ne_true)] at hxb
    subst hxb
    refine J.r hX tab_ok 400 (fun _ => rfl) fun b41 => ?_
    refine J.plan (.of [0,4,8,12,17,20,24,28,32,36,41,44,48,52,56,61,64,68,72,76,80,86,88,92,96,100,105,108,112,116,120]) [30] [8,9] (by rw [hX.hP]; kernel_rfl) (by kernel_rfl) ?_
    refine J.r hX tab_ok 400 (fun _ => rfl) fun b42 => ?_
    refine J.r hX tab_ok 400 (fun _ => rfl) fun b43 => ?_
    refine J.ca hX (by kernel_rfl) (l16_b2i (t1 && t2)) [] 0 rfl rfl rfl rfl rfl rfl (fun _ => rfl) ?_
    rintro v As ⟨rfl, rfl⟩
    refine ⟨_, rfl, (by first | exact trivial | (repeat' (first | exact trivial | refine ⟨rfl, ?_⟩))), ?_⟩
    refine J.r hX tab_ok 400 (fun _ => rfl) fun b44 => ?_
    refine J.rt hX tab_ok [1] rfl rfl rfl ?_
    refine ⟨?_, rfl⟩
    dsimp only
    rw [ht]
    cases t1 <;> cases t2 <;> rfl
end Go.Proofs.YtoideahgjgaddaaGreat
