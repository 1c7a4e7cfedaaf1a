/- Helpers of the proofs about ostrakonlaw11, proved here: Lto. No condition. -/
import Derived.Test.YtoideahgjgaddaaGreatP27
import Derived.Test.YtoideahgjgaddaaGreatP28
set_option linter.unusedVariables false
set_option linter.unusedSimpArgs false
set_option linter.unusedSectionVars false
set_option linter.unnecessarySimpa false
/- Walks: the sentences SurveyTorn, SurveyCopy. -/
namespace Go.Proofs.YtoideahgjgaddaaGreat
open Go Go.RowKit
theorem min2_eq (o : Nat) : (if (2 : Int) < (o : Int) then 2 else (o : Int)) = ((min o 2 : Nat) : Int) := by
  split <;> omega
set_option maxRecDepth 20000 in
theorem s_SurveyTorn (g0 g1 g2 oi ki : Int) (A : Atom) :
    Fn Tryz.prog 9 [.agg #[.int .i64 g0, .int .i64 g1, .int .i64 g2], .int .i64 oi, .int .i64 ki] [A] (fun v As => v = .bool true ∧ As = [A]) := by
  refine Fn.enter [0, 0, 0] Tryz.func9 rfl rfl rfl fun X F hX => ?_
  refine J.r hX tab_ok 400 (fun _ => rfl) fun bb => ?_
  refine J.r hX tab_ok 400 (fun _ => rfl) fun b1 => ?_
  refine J.ca hX (by kernel_rfl) (l16_begun) [] 0 rfl rfl rfl rfl rfl rfl (fun _ => rfl) ?_
  rintro v As ⟨rfl, rfl⟩
  refine ⟨_, rfl, trivial, ?_⟩
  refine J.r hX tab_ok 400 (fun _ => rfl) fun b2 => ?_
  refine J.cond rfl (fun h => absurd h (by decide)) (fun _ => ?_)
  refine J.r hX tab_ok 400 (fun _ => rfl) fun b3 => ?_
  refine J.r hX tab_ok 400 (fun _ => rfl) fun b4 => ?_
  refine J.ca hX (by kernel_rfl) (l6_Geo g0 g1 g2) [] 0 rfl rfl rfl rfl rfl rfl (fun _ => rfl) ?_
  rintro v As ⟨D, B, P, rfl, hD, hB, hP, rfl⟩
  refine ⟨_, rfl, trivial, ?_⟩
  have hgm : geoMay D B P = true := by simp [geoMay]; omega
  refine J.r hX tab_ok 400 (fun _ => rfl) fun b5 => ?_
  refine J.r hX tab_ok 400 (fun _ => rfl) fun b6 => ?_
  refine J.ca hX (by kernel_rfl) (n_New D B P hgm) [] 0 rfl rfl rfl rfl rfl rfl (fun _ => rfl) ?_
  rintro v As ⟨q, rfl, rfl⟩
  refine ⟨_, rfl, trivial, ?_⟩
  have G0 : (Nand.new D B P).Gd 1000 0 := Nand.Gd.new D B P hgm 1000 (by decide)
  have hpw := pow_bd D hD.2
  have ho1 := tm_bd oi D (by omega)
  have ho2 := tm_2 oi D (by omega)
  have hk1 := tm_bd ki 20 (by decide)
  have hk2 := tm_2 ki 20 (by decide)
  obtain ⟨o, ho⟩ := Int.eq_ofNat_of_zero_le ho2.1
  rw [ho] at ho2
  have hoD : o < D := by omega
  obtain ⟨kk, hkk⟩ : ∃ kk, (ki.tmod 20 + 20).tmod 20 = kk := ⟨_, rfl⟩
  rw [hkk] at hk2
  have hA : FitE (enE 0 1) := FitE.mk' (by decide) (by decide)
  have hA2 : FitE (enE 1 2) := FitE.mk' (by decide) (by decide)
  have hA3 : FitE (enE 1 3) := FitE.mk' (by decide) (by decide)
  have hA4 : FitE (enE 0 4) := FitE.mk' (by decide) (by decide)
  obtain ⟨N1, hN1⟩ : ∃ N1, N1 = (R.write (Nand.new D B P) 4 0 (mAll D) (padL (D - 1) [enE 0 1, enE 1 2])).1 := ⟨_, rfl⟩
  obtain ⟨N2, hN2⟩ : ∃ N2, N2 = (R.write (N1.setCut o kk) 6 0 (mAll D) (padL (D - 1) [enE 1 3, enE 0 4])).1 := ⟨_, rfl⟩
  obtain ⟨w1, w2, x, y, hx, hy, hx3, hy4, ht, hf, hh⟩ := torn_law hD hB hP hoD hk2 N1 N2 N2.onN hN1 hN2 rfl
  have G1 : N1.Gd 992 0 := by rw [hN1]; exact write_Gd (padL_data (two_fit hA hA2)) (G0.less (by decide) (Nat.le_refl _))
  have G2 : (N1.setCut o kk).Gd 992 0 := G1.cut o kk (by omega) (by omega)
  have G3 : N2.Gd 984 0 := by rw [hN2]; exact write_Gd (padL_data (two_fit hA3 hA4)) (G2.less (by decide) (Nat.le_refl _))
  have G4 : N2.onN.Gd 984 0 := G3.on
  refine J.r hX tab_ok 400 (fun _ => rfl) fun b7 => ?_
  rw [geo_all D hD.2]
  refine J.r hX tab_ok 400 (fun _ => rfl) fun b8 => ?_
  refine J.plan (.of [0,4,8,13,16,22,26,30,34,38,40,44,48,52,56]) [14] [2] (by rw [hX.hP]; kernel_rfl) (by kernel_rfl) ?_
  refine J.r hX tab_ok 400 (fun _ => rfl) fun b9 => ?_
  refine J.r hX tab_ok 400 (fun _ => rfl) fun b10 => ?_
  refine J.ca hX (by kernel_rfl) (l16_entry 0 1) [] 0 rfl rfl rfl rfl rfl rfl (fun _ => rfl) ?_
  rintro v As ⟨rfl, rfl⟩
  refine ⟨_, rfl, (by first | exact trivial | (repeat' (first | exact trivial | refine ⟨rfl, ?_⟩))), ?_⟩
  refine J.r hX tab_ok 400 (fun _ => rfl) fun b11 => ?_
  refine J.r hX tab_ok 400 (fun _ => rfl) fun b12 => ?_
  refine J.ca hX (by kernel_rfl) (l16_entry 1 2) [] 0 rfl rfl rfl rfl rfl rfl (fun _ => rfl) ?_
  rintro v As ⟨rfl, rfl⟩
  refine ⟨_, rfl, (by first | exact trivial | (repeat' (first | exact trivial | refine ⟨rfl, ?_⟩))), ?_⟩
  refine J.r hX tab_ok 400 (fun _ => rfl) fun bl => ?_
  refine J.closeOwn (e := 45) (size := 19) (n := 2) (cap := 2) (xs := cellsE [enE 0 1, enE 1 2]) 4 rfl rfl rfl (Nat.le_refl _) (by decide) rfl rfl rfl ?_
  rw [show ((D : Int) - 1) = ((D - 1 : Nat) : Int) from by omega]
  refine J.r hX tab_ok 400 (fun _ => rfl) fun b13 => ?_
  refine J.ca hX (by kernel_rfl) (l16_pads (some (bl 0)) 2 2 (D - 1) [enE 0 1, enE 1 2] rfl (by omega) (by omega)) [4] 0 rfl rfl rfl rfl rfl rfl (fun _ => rfl) ?_
  rintro v As ⟨a', c', rfl, rfl⟩
  refine ⟨_, rfl, (by first | exact trivial | (repeat' (first | exact trivial | refine ⟨rfl, ?_⟩))), ?_⟩
  refine J.r hX tab_ok 400 (fun _ => rfl) fun b14 => ?_
  refine J.r hX tab_ok 400 (fun _ => rfl) fun b15 => ?_
  refine J.ca hX (by kernel_rfl) (r_Write q (Nand.new D B P) (ownA 45 19 a' (D - 1) c' (cellsE (padL (D - 1) [enE 0 1, enE 1 2]))) 4 0 (mAll D) (oad a') (D - 1) c' 0 (padL (D - 1) [enE 0 1, enE 1 2]) (own_rd _ _ a' _ _ _) (padL_len (show 2 ≤ D - 1 by omega)) (padL_data (two_fit hA hA2)) (G0.less (by decide) (Nat.le_refl _))) [3, 4] 0 rfl rfl rfl rfl rfl rfl (fun _ => rfl) ?_
  rintro v As ⟨rfl, rfl⟩
  refine ⟨_, rfl, (by first | exact trivial | (repeat' (first | exact trivial | refine ⟨rfl, ?_⟩))), ?_⟩
  rw [w1, ← hN1]
  refine J.r hX tab_ok 400 (fun _ => rfl) fun b16 => ?_
  refine J.cond rfl (fun h => absurd h (by decide)) (fun _ => ?_)
  refine J.r hX tab_ok 400 (fun _ => rfl) fun b17 => ?_
  refine J.plan (.of [0,4,9,12,16,21,24,28,33,36,40]) [9,10] [2] (by rw [hX.hP]; kernel_rfl) (by kernel_rfl) ?_
  refine J.r hX tab_ok 400 (fun _ => rfl) fun b18 => ?_
  rw [ho]
  refine J.r hX tab_ok 400 (fun _ => rfl) fun b19 => ?_
  rw [hkk]
  refine J.r hX tab_ok 400 (fun _ => rfl) fun b20 => ?_
  refine J.ca hX (by kernel_rfl) (n_Cut q N1 o kk) [3] 0 rfl rfl rfl rfl rfl rfl (fun _ => rfl) ?_
  rintro v As ⟨rfl, rfl⟩
  refine ⟨_, rfl, trivial, ?_⟩
  refine J.r hX tab_ok 400 (fun _ => rfl) fun b21 => ?_
  refine J.plan (.of [0,4,8,13,16,22,26,30,34,38,40,44,48,52,56]) [14] [2] (by rw [hX.hP]; kernel_rfl) (by kernel_rfl) ?_
  refine J.r hX tab_ok 400 (fun _ => rfl) fun b22 => ?_
  refine J.r hX tab_ok 400 (fun _ => rfl) fun b23 => ?_
  refine J.ca hX (by kernel_rfl) (l16_entry 1 3) [] 0 rfl rfl rfl rfl rfl rfl (fun _ => rfl) ?_
  rintro v As ⟨rfl, rfl⟩
  refine ⟨_, rfl, (by first | exact trivial | (repeat' (first | exact trivial | refine ⟨rfl, ?_⟩))), ?_⟩
  refine J.r hX tab_ok 400 (fun _ => rfl) fun b24 => ?_
  refine J.r hX tab_ok 400 (fun _ => rfl) fun b25 => ?_
  refine J.ca hX (by kernel_rfl) (l16_entry 0 4) [] 0 rfl rfl rfl rfl rfl rfl (fun _ => rfl) ?_
  rintro v As ⟨rfl, rfl⟩
  refine ⟨_, rfl, (by first | exact trivial | (repeat' (first | exact trivial | refine ⟨rfl, ?_⟩))), ?_⟩
  refine J.r hX tab_ok 400 (fun _ => rfl) fun bm => ?_
  refine J.closeOwn (e := 45) (size := 19) (n := 2) (cap := 2) (xs := cellsE [enE 1 3, enE 0 4]) 5 rfl rfl rfl (Nat.le_refl _) (by decide) rfl rfl rfl ?_
  rw [show ((D : Int) - 1) = ((D - 1 : Nat) : Int) from by omega]
  refine J.r hX tab_ok 400 (fun _ => rfl) fun b26 => ?_
  refine J.ca hX (by kernel_rfl) (l16_pads (some (bm 0)) 2 2 (D - 1) [enE 1 3, enE 0 4] rfl (by omega) (by omega)) [5] 0 rfl rfl rfl rfl rfl rfl (fun _ => rfl) ?_
  rintro v As ⟨a3, c3, rfl, rfl⟩
  refine ⟨_, rfl, (by first | exact trivial | (repeat' (first | exact trivial | refine ⟨rfl, ?_⟩))), ?_⟩
  refine J.r hX tab_ok 400 (fun _ => rfl) fun b27 => ?_
  refine J.r hX tab_ok 400 (fun _ => rfl) fun b28 => ?_
  refine J.ca hX (by kernel_rfl) (r_Write q (N1.setCut o kk) (ownA 45 19 a3 (D - 1) c3 (cellsE (padL (D - 1) [enE 1 3, enE 0 4]))) 6 0 (mAll D) (oad a3) (D - 1) c3 0 (padL (D - 1) [enE 1 3, enE 0 4]) (own_rd _ _ a3 _ _ _) (padL_len (show 2 ≤ D - 1 by omega)) (padL_data (two_fit hA3 hA4)) (G2.less (by decide) (Nat.le_refl _))) [3, 5] 0 rfl rfl rfl rfl rfl rfl (fun _ => rfl) ?_
  rintro v As ⟨rfl, rfl⟩
  refine ⟨_, rfl, (by first | exact trivial | (repeat' (first | exact trivial | refine ⟨rfl, ?_⟩))), ?_⟩
  rw [w2, ← hN2]
  refine J.r hX tab_ok 400 (fun _ => rfl) fun b29 => ?_
  refine J.cond rfl (fun h => absurd h (by decide)) (fun _ => ?_)
  refine J.r hX tab_ok 400 (fun _ => rfl) fun b30 => ?_
  refine J.r hX tab_ok 400 (fun _ => rfl) fun b31 => ?_
  refine J.ca hX (by kernel_rfl) (n_On q N2) [3] 0 rfl rfl rfl rfl rfl rfl (fun _ => rfl) ?_
  rintro v As ⟨rfl, rfl⟩
  refine ⟨_, rfl, trivial, ?_⟩
  refine J.r hX tab_ok 400 (fun _ => rfl) fun b32 => ?_
  refine J.r hX tab_ok 400 (fun _ => rfl) fun b33 => ?_
  refine J.ca hX (by kernel_rfl) (v_Scan q N2.onN G4.ok G4.room rfl 2) [3] 0 rfl rfl rfl rfl rfl rfl (fun _ => rfl) ?_
  rintro v As ⟨q1, a1, c1, a2, c2, rfl, rfl⟩
  refine ⟨_, rfl, trivial, ?_⟩
  generalize V.scan N2.onN 2 = S at hx hy ht hf hh
  obtain ⟨tb, torn, first, held, next, pages⟩ := S
  dsimp only at hx hy ht hf hh
  subst hf hh
  refine J.r hX tab_ok 400 (fun _ => rfl) fun bs => ?_
  refine J.r hX tab_ok 400 (fun _ => rfl) fun b34 => ?_
  refine J.cond rfl (fun h => absurd h (by decide)) (fun _ => ?_)
  refine J.r hX tab_ok 400 (fun _ => rfl) fun b35 => ?_
  refine J.r hX tab_ok 400 (fun _ => rfl) fun b36 => ?_
  refine J.ca hX (by kernel_rfl) (tb_Get q1 tb 1) [6] 0 rfl rfl rfl rfl rfl rfl (fun _ => rfl) ?_
  rintro v As ⟨rfl, rfl⟩
  refine ⟨_, rfl, trivial, ?_⟩
  rw [hx]
  refine J.r hX tab_ok 400 (fun _ => rfl) fun b37 => ?_
  refine J.r hX tab_ok 400 (fun _ => rfl) fun b38 => ?_
  refine J.ca hX (by kernel_rfl) (tb_Get q1 tb 0) [6] 0 rfl rfl rfl rfl rfl rfl (fun _ => rfl) ?_
  rintro v As ⟨rfl, rfl⟩
  refine ⟨_, rfl, trivial, ?_⟩
  rw [hy]
  have e1 : decide ((o : Int) ≥ 1) = decide (1 ≤ o) := by rw [decide_eq_decide]; omega
  have e2 : decide ((o : Int) ≥ 2) = decide (2 ≤ o) := by rw [decide_eq_decide]; omega
  by_cases h0 : o = 0
  · simp only [if_pos h0]
    refine J.r hX tab_ok 16 (fun _ => rfl) fun b39 => ?_
    refine J.val hX (.bool false) 0 rfl rfl (fun hg aa w he hw => by simp [G.on] at hg) rfl trivial ?_
    refine J.val hX (.int .i64 0) 0 rfl rfl (fun hg aa w he hw => by simp [G.on] at hg) rfl trivial ?_
    refine J.r hX tab_ok 400 (fun _ => rfl) fun b40 => ?_
    refine J.rt hX tab_ok [1] rfl rfl rfl ?_
    refine ⟨?_, rfl⟩
    subst h0
    simp only [Option.isSome_some, Option.getD_some, hx3, hy4, ht]
    rfl
  · simp only [if_neg h0]
    refine J.know (p := ∃ g, a2 = some g) (fun h' s => own_some (c := (a2, c2)) (by simp) (s.get (i := 8) rfl)) fun hg => ?_
    obtain ⟨gh, rfl⟩ := hg
    refine J.r hX tab_ok 400 (fun _ => rfl) fun b41 => ?_
    refine J.val hX (.int .i64 4) 0 rfl rfl (fun hg aa w he hw => own1_run tab_ok rfl rfl he rfl rfl rfl (hw.get (i := 8) rfl) rfl) rfl trivial ?_
    refine J.r hX tab_ok 400 (fun _ => rfl) fun b42 => ?_
    refine J.rt hX tab_ok [1] rfl rfl rfl ?_
    refine ⟨?_, rfl⟩
    have e4 : decide (((min o 2 : Nat) : Int) > 0) = true := decide_eq_true (by omega)
    simp only [Option.isSome_some, Option.getD_some, hx3, hy4, ht, e1, e2, min2_eq, e4, beq_self_eq_true, Bool.and_self]
    rfl
end Go.Proofs.YtoideahgjgaddaaGreat
