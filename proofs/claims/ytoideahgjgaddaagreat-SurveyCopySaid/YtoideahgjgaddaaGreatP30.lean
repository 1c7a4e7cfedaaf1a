/- Helpers of the proofs about ostrakonlaw11, proved here: Lco. No condition. -/
import Derived.Test.YtoideahgjgaddaaGreatP27
import Derived.Test.YtoideahgjgaddaaGreatP28
set_option linter.unusedVariables false
set_option linter.unusedSimpArgs false
set_option linter.unusedSectionVars false
set_option linter.unnecessarySimpa false
/- Walks: the sentences SurveyCopy, SurveyAlike. -/
namespace Go.Proofs.YtoideahgjgaddaaGreat
open Go Go.RowKit
set_option maxRecDepth 20000 in
theorem s_SurveyCopy (g0 g1 g2 : Int) (same : Bool) (oi : Int) (A : Atom) :
    Fn Tryz.prog 11 [.agg #[.int .i64 g0, .int .i64 g1, .int .i64 g2], .bool same, .int .i64 oi] [A] (fun v As => v = .bool true ∧ As = [A]) := by
  refine Fn.enter [0, 0, 0] Tryz.func11 rfl rfl rfl fun X F hX => ?_
  refine J.r hX tab_ok 400 (fun _ => rfl) fun bb => ?_
  refine J.r hX tab_ok 400 (fun _ => rfl) fun b1 => ?_
  refine J.ca hX (by kernel_rfl) (l16_begun) [] 0 rfl rfl rfl rfl rfl rfl (fun _ => rfl) ?_
  rintro v As ⟨rfl, rfl⟩
  refine ⟨_, rfl, trivial, ?_⟩
  refine J.r hX tab_ok 400 (fun _ => rfl) fun b2 => ?_
  refine J.cond rfl (fun h => absurd h (by decide)) (fun _ => ?_)
  refine J.r hX tab_ok 400 (fun _ => rfl) fun b3 => ?_
  refine J.r hX tab_ok 400 (fun _ => rfl) fun b4 => ?_
  refine J.ca hX (by kernel_rfl) (l6_Geo g0 g1 g2) [] 0 rfl rfl rfl rfl rfl rfl (fun _ => rfl) ?_
  rintro v As ⟨D, B, P, rfl, hD, hB, hP, rfl⟩
  refine ⟨_, rfl, trivial, ?_⟩
  have hgm : geoMay D B P = true := by simp [geoMay]; omega
  refine J.r hX tab_ok 400 (fun _ => rfl) fun b5 => ?_
  refine J.r hX tab_ok 400 (fun _ => rfl) fun b6 => ?_
  refine J.ca hX (by kernel_rfl) (n_New D B P hgm) [] 0 rfl rfl rfl rfl rfl rfl (fun _ => rfl) ?_
  rintro v As ⟨q, rfl, rfl⟩
  refine ⟨_, rfl, trivial, ?_⟩
  have G0 : (Nand.new D B P).Gd 1000 0 := Nand.Gd.new D B P hgm 1000 (by decide)
  have hpw := pow_bd D hD.2
  have ho1 := tm_bd oi ((D : Int) - 1) (by omega)
  have ho2 := tm_2 oi ((D : Int) - 1) (by omega)
  obtain ⟨z, hz⟩ := Int.eq_ofNat_of_zero_le ho2.1
  have hexp : (oi.tmod ((D : Int) - 1) + D - 1).tmod ((D : Int) - 1) = z := by
    rw [← hz, show oi.tmod ((D : Int) - 1) + D - 1 = oi.tmod ((D : Int) - 1) + ((D : Int) - 1) from by omega]
  have ho3 := ho2
  rw [hz] at ho3
  have hn : 1 ≤ 1 + z ∧ 1 + z < D := by omega
  have hA : FitE (enE 1 4) := FitE.mk' (by decide) (by decide)
  have hA2 := copyE_fit same
  obtain ⟨N1, hN1⟩ : ∃ N1, N1 = (R.write (Nand.new D B P) 2 0 (mAll D) (padL (D - 1) [enE 1 4])).1 := ⟨_, rfl⟩
  obtain ⟨N2, hN2⟩ : ∃ N2, N2 = (R.write (N1.setCut (1 + z : Nat) 0) 3 0 (mAll D) (padL (D - 1) [copyE same])).1 := ⟨_, rfl⟩
  obtain ⟨w1, w2, x, hx, hxb, hxs, hnx, ht, hf, hh⟩ := copy_law same hD hB hP hn N1 N2 N2.onN hN1 hN2 rfl
  have G1 : N1.Gd 992 0 := by rw [hN1]; exact write_Gd (padL_data (one_fit hA)) (G0.less (by decide) (Nat.le_refl _))
  have G2 : (N1.setCut (1 + z : Nat) 0).Gd 992 0 := G1.cut (1 + z : Nat) 0 (by omega) (by omega)
  have G3 : N2.Gd 984 0 := by rw [hN2]; exact write_Gd (padL_data (one_fit hA2)) (G2.less (by decide) (Nat.le_refl _))
  have G4 : N2.onN.Gd 984 0 := G3.on
  refine J.r hX tab_ok 400 (fun _ => rfl) fun b7 => ?_
  rw [geo_all D hD.2]
  refine J.r hX tab_ok 400 (fun _ => rfl) fun b8 => ?_
  refine J.ca hX (by kernel_rfl) (l16_entry 1 4) [] 0 rfl rfl rfl rfl rfl rfl (fun _ => rfl) ?_
  rintro v As ⟨rfl, rfl⟩
  refine ⟨_, rfl, trivial, ?_⟩
  refine J.r hX tab_ok 400 (fun _ => rfl) fun b9 => ?_
  refine J.r hX tab_ok 400 (fun _ => rfl) fun b10 => ?_
  refine J.ca hX (by kernel_rfl) (l16_entry 1 4) [] 0 rfl rfl rfl rfl rfl rfl (fun _ => rfl) ?_
  rintro v As ⟨rfl, rfl⟩
  refine ⟨_, rfl, trivial, ?_⟩
  refine J.r hX tab_ok 400 (fun _ => rfl) fun be => ?_
  refine J.join (α := Unit) (fun _ => [⟨10, .pointer (some ⟨be 0, 0, none⟩), 5, .tt⟩, ⟨11, .pointer (some ⟨be (0 + 1), 0, none⟩), 6, .tt⟩, ⟨9, .int .i64 (mAll D), 0, .tt⟩, ⟨8, .pointer (some ⟨q, 0, none⟩), 0, .tt⟩, ⟨3, .pointer (some ⟨bb 0, 0, none⟩), 3, .tt⟩, ⟨2, .int .i64 oi, 0, .tt⟩]) (fun _ => [.hp F, A, .pt (bb 0) 23 [.int .i64 D, .int .i64 B, .int .i64 P], NandA q (Nand.new D B P), .pt (be 0) 45 (enL (enE 1 4)), .pt (be (0 + 1)) 45 (enL (copyE same))]) (fun hj => ?_) (fun _ => ?_)
  · cases same with
    | true =>
      refine J.r hX tab_ok 400 (fun _ => rfl) fun b11 => ?_
      refine J.cond rfl (fun h => by simp at h) (fun _ => ?_)
      refine J.r hX tab_ok 1 (fun _ => rfl) fun b12 => ?_
      exact J.goto [0, 1, 2, 3, 4, 5] (hj ()) ⟨rfl, rfl, rfl, rfl, rfl, rfl, trivial⟩ rfl rfl
    | false =>
      refine J.r hX tab_ok 400 (fun _ => rfl) fun b13 => ?_
      refine J.cond rfl (fun _ => ?_) (fun h => by simp at h)
      refine J.r hX tab_ok 5 (fun _ => rfl) fun b14 => ?_
      exact J.goto [0, 1, 2, 3, 4, 5] (hj ()) ⟨rfl, rfl, rfl, rfl, rfl, rfl, trivial⟩ rfl rfl
  refine J.r hX tab_ok 400 (fun _ => rfl) fun bl => ?_
  refine J.closeOwn (e := 45) (size := 19) (n := 1) (cap := 1) (xs := cellsE [enE 1 4]) 6 rfl rfl rfl (Nat.le_refl _) (by decide) rfl rfl rfl ?_
  rw [show ((D : Int) - 1) = ((D - 1 : Nat) : Int) from by omega]
  refine J.r hX tab_ok 400 (fun _ => rfl) fun b15 => ?_
  refine J.ca hX (by kernel_rfl) (l16_pads (some (bl 0)) 1 1 (D - 1) [enE 1 4] rfl (by omega) (by omega)) [6] 0 rfl rfl rfl rfl rfl rfl (fun _ => rfl) ?_
  rintro v As ⟨a', c', rfl, rfl⟩
  refine ⟨_, rfl, (by first | exact trivial | (repeat' (first | exact trivial | refine ⟨rfl, ?_⟩))), ?_⟩
  refine J.r hX tab_ok 400 (fun _ => rfl) fun b16 => ?_
  refine J.r hX tab_ok 400 (fun _ => rfl) fun b17 => ?_
  refine J.ca hX (by kernel_rfl) (r_Write q (Nand.new D B P) (ownA 45 19 a' (D - 1) c' (cellsE (padL (D - 1) [enE 1 4]))) 2 0 (mAll D) (oad a') (D - 1) c' 0 (padL (D - 1) [enE 1 4]) (own_rd _ _ a' _ _ _) (padL_len (show 1 ≤ D - 1 by omega)) (padL_data (one_fit hA)) (G0.less (by decide) (Nat.le_refl _))) [3, 6] 0 rfl rfl rfl rfl rfl rfl (fun _ => rfl) ?_
  rintro v As ⟨rfl, rfl⟩
  refine ⟨_, rfl, (by first | exact trivial | (repeat' (first | exact trivial | refine ⟨rfl, ?_⟩))), ?_⟩
  rw [w1, ← hN1]
  refine J.r hX tab_ok 400 (fun _ => rfl) fun b18 => ?_
  refine J.cond rfl (fun h => absurd h (by decide)) (fun _ => ?_)
  refine J.r hX tab_ok 400 (fun _ => rfl) fun b19 => ?_
  refine J.plan (.of [0,4,8,13,16,20,24,29,32,36,40,45,48,52,56,62]) [] [2] (by rw [hX.hP]; kernel_rfl) (by kernel_rfl) ?_
  refine J.r hX tab_ok 400 (fun _ => rfl) fun b20 => ?_
  rw [hexp, show (1 : Int) + (z : Int) = ((1 + z : Nat) : Int) from by omega]
  refine J.r hX tab_ok 400 (fun _ => rfl) fun b21 => ?_
  refine J.ca hX (by kernel_rfl) (n_Cut q N1 (1 + z : Nat) 0) [3] 0 rfl rfl rfl rfl rfl rfl (fun _ => rfl) ?_
  rintro v As ⟨rfl, rfl⟩
  refine ⟨_, rfl, (by first | exact trivial | (repeat' (first | exact trivial | refine ⟨rfl, ?_⟩))), ?_⟩
  refine J.r hX tab_ok 400 (fun _ => rfl) fun bm => ?_
  refine J.closeOwn (e := 45) (size := 19) (n := 1) (cap := 1) (xs := cellsE [copyE same]) 7 rfl rfl rfl (Nat.le_refl _) (by decide) rfl rfl rfl ?_
  rw [show ((D : Int) - 1) = ((D - 1 : Nat) : Int) from by omega]
  refine J.r hX tab_ok 400 (fun _ => rfl) fun b22 => ?_
  refine J.ca hX (by kernel_rfl) (l16_pads (some (bm 0)) 1 1 (D - 1) [copyE same] rfl (by omega) (by omega)) [7] 0 rfl rfl rfl rfl rfl rfl (fun _ => rfl) ?_
  rintro v As ⟨a3, c3, rfl, rfl⟩
  refine ⟨_, rfl, (by first | exact trivial | (repeat' (first | exact trivial | refine ⟨rfl, ?_⟩))), ?_⟩
  refine J.r hX tab_ok 400 (fun _ => rfl) fun b23 => ?_
  refine J.r hX tab_ok 400 (fun _ => rfl) fun b24 => ?_
  refine J.ca hX (by kernel_rfl) (r_Write q (N1.setCut (1 + z : Nat) 0) (ownA 45 19 a3 (D - 1) c3 (cellsE (padL (D - 1) [copyE same]))) 3 0 (mAll D) (oad a3) (D - 1) c3 0 (padL (D - 1) [copyE same]) (own_rd _ _ a3 _ _ _) (padL_len (show 1 ≤ D - 1 by omega)) (padL_data (one_fit hA2)) (G2.less (by decide) (Nat.le_refl _))) [3, 7] 0 rfl rfl rfl rfl rfl rfl (fun _ => rfl) ?_
  rintro v As ⟨rfl, rfl⟩
  refine ⟨_, rfl, (by first | exact trivial | (repeat' (first | exact trivial | refine ⟨rfl, ?_⟩))), ?_⟩
  rw [w2, ← hN2]
  refine J.r hX tab_ok 400 (fun _ => rfl) fun b25 => ?_
  refine J.cond rfl (fun h => absurd h (by decide)) (fun _ => ?_)
  refine J.r hX tab_ok 400 (fun _ => rfl) fun b26 => ?_
  refine J.r hX tab_ok 400 (fun _ => rfl) fun b27 => ?_
  refine J.ca hX (by kernel_rfl) (n_On q N2) [3] 0 rfl rfl rfl rfl rfl rfl (fun _ => rfl) ?_
  rintro v As ⟨rfl, rfl⟩
  refine ⟨_, rfl, trivial, ?_⟩
  refine J.r hX tab_ok 400 (fun _ => rfl) fun b28 => ?_
  refine J.r hX tab_ok 400 (fun _ => rfl) fun b29 => ?_
  refine J.ca hX (by kernel_rfl) (v_Scan q N2.onN G4.ok G4.room rfl 2) [3] 0 rfl rfl rfl rfl rfl rfl (fun _ => rfl) ?_
  rintro v As ⟨q1, a1, c1, a2, c2, rfl, rfl⟩
  refine ⟨_, rfl, trivial, ?_⟩
  generalize V.scan N2.onN 2 = S at hx hnx ht hf hh
  obtain ⟨tb, torn, first, held, next, pages⟩ := S
  dsimp only at hx hnx ht hf hh
  obtain ⟨t0, rfl⟩ := List.length_eq_one_iff.1 ht
  subst hf hh hnx
  obtain ⟨xb, xr, xl, xm, xs, xo⟩ := x
  dsimp only at hxb hxs
  subst hxb hxs
  refine J.r hX tab_ok 400 (fun _ => rfl) fun bs => ?_
  refine J.r hX tab_ok 400 (fun _ => rfl) fun b30 => ?_
  refine J.cond rfl (fun h => absurd h (by decide)) (fun _ => ?_)
  refine J.r hX tab_ok 400 (fun _ => rfl) fun b31 => ?_
  refine J.r hX tab_ok 400 (fun _ => rfl) fun b32 => ?_
  refine J.ca hX (by kernel_rfl) (tb_Get q1 tb 1) [8] 0 rfl rfl rfl rfl rfl rfl (fun _ => rfl) ?_
  rintro v As ⟨rfl, rfl⟩
  refine ⟨_, rfl, trivial, ?_⟩
  rw [hx]
  refine J.know (p := ∃ g, a2 = some g) (fun h' s => own_some (c := (a2, c2)) (by simp) (s.get (i := 10) rfl)) fun hg => ?_
  obtain ⟨gh, rfl⟩ := hg
  refine J.r hX tab_ok 400 (fun _ => rfl) fun b33 => ?_
  refine J.val hX (.int .i64 2) 0 rfl rfl (fun hg aa w he hw => own1_run tab_ok rfl rfl he rfl rfl rfl (hw.get (i := 10) rfl) rfl) rfl trivial ?_
  refine J.r hX tab_ok 400 (fun _ => rfl) fun b34 => ?_
  refine J.rt hX tab_ok [1] rfl rfl rfl ?_
  exact ⟨rfl, rfl⟩
end Go.Proofs.YtoideahgjgaddaaGreat
