/- Helpers of the proofs about ostrakonlaw11, proved here: BgI, Ls, BgJ, ApO, SvD, BgK, BgL, DskZ, Lz, PlDk, RfA, PlP, RfE, RfF, RfB, Cp, RfG, RfC, RfD, RfH, PlW, RfM, Fa. No condition. -/
import Derived.Test.YtdocmcapegcoeaaGreatR02
import Derived.Test.YtdocmcapegcoeaaGreatR04
import Derived.Test.YtdocmcapegcoeaaGreatR12
import Derived.Test.YtdocmcapegcoeaaGreatR13
import Derived.Test.YtdocmcapegcoeaaGreatR15
import Derived.Test.YtdocmcapegcoeaaGreatR16
import Derived.Test.YtdocmcapegcoeaaGreatR17
import Derived.Test.YtdocmcapegcoeaaGreatR18
import Derived.Test.YtdocmcapegcoeaaGreatR20
import Derived.Test.YtdocmcapegcoeaaGreatR22
import Derived.Test.YtdocmcapegcoeaaGreatR23
import Derived.Test.YtdocmcapegcoeaaGreatR25
set_option maxRecDepth 20000
set_option linter.unusedVariables false
set_option linter.unusedSimpArgs false
set_option linter.unusedSectionVars false
set_option linter.unnecessarySimpa false
namespace Go.Proofs.YtdocmcapegcoeaaGreat
open Go Go.RowKit
namespace B11
def N0 : Nand := Nand.new 3 8 2
def N1 : Nand := (R.write N0 1 0 7 [B9.e, B9.pad]).1
def N2 : Nand := (N1.fault 4 0 0 0 0 0).2
def fn : Fnd := ⟨B9.e, 1, 0, 0, 7, true, true⟩
theorem G0 : N0.Gd 100 0 := Nand.Gd.new 3 8 2 rfl 100 (by decide)
theorem G1 : N1.Gd 92 0 := write_Gd (by decide) G0
theorem G2 : N2.Gd 92 0 := G1.fault0 4 0 0 0 0 0 (by decide)
theorem h_w : (R.write N0 1 0 7 [B9.e, B9.pad]).2 = (0, 0) := by kernel_rfl
theorem h_l1 : (M.look N1 0 1 0).2 = 1 := by kernel_rfl
theorem h_l2 : (M.look N1 0 1 0).1.lpn = 3 := by kernel_rfl
theorem h_l3 : (M.look N1 0 2 0).2 = 2 := by kernel_rfl
theorem h_r : R.read N2 1 0 0 7 = (B9.e, 0) := by kernel_rfl
theorem h_a : R.all N2 1 0 = [fn] := by kernel_rfl
theorem h_m : M.masks N2 1 0 = [7] := by kernel_rfl
end B11
open B11
theorem l11_begun : Fn Tryz.prog 181 [] [] (fun v As => v = .bool true ∧ As = []) := by
 refine Fn.enter [] Tryz.func181 rfl rfl rfl fun X F hX => ?_
 refine J.r hX tk 400 (fun _ => rfl) fun b1 => ?_
 refine J.ca hX (by kernel_rfl) (n_New 3 8 2 rfl) [] 0 rfl rfl rfl rfl rfl rfl (fun _ => rfl) ?_
 rintro v As ⟨q, rfl, rfl⟩
 refine ⟨_, rfl, trivial, ?_⟩
 refine J.r hX tk 400 (fun _ => rfl) fun b3 => ?_
 refine J.cond rfl (fun h => absurd h (by decide)) (fun _ => ?_)
 refine J.r hX tk 400 (fun _ => rfl) fun b1 => ?_
 refine J.ca hX (by kernel_rfl) (r_Write q N0 (.pt (b1 (0 + 1)) 38 (cellsE [B9.e, B9.pad])) 1 0 7 (some ⟨b1 (0 + 1), 0, none⟩) 2 2 0 [B9.e, B9.pad] (pt_rd _ _ _ _ _ rfl) rfl (by decide) (G0.less (by decide) (Nat.le_refl _))) [1, 3] 0 rfl rfl rfl rfl rfl rfl (fun _ => rfl) ?_
 rintro v As ⟨rfl, rfl⟩
 refine ⟨_, rfl, trivial, ?_⟩
 rw [h_w]
 refine J.r hX tk 400 (fun _ => rfl) fun b5 => ?_
 refine J.ca hX (by kernel_rfl) (m_Look q N1 G1.ok G1.room 0 1 0) [1] 0 rfl rfl rfl rfl rfl rfl (fun _ => rfl) ?_
 rintro v As ⟨rfl, rfl⟩
 refine ⟨_, rfl, trivial, ?_⟩
 rw [h_l1]
 refine J.r hX tk 400 (fun _ => rfl) fun b7 => ?_
 refine J.ca hX (by kernel_rfl) (m_Look q N1 G1.ok G1.room 0 2 0) [1] 0 rfl rfl rfl rfl rfl rfl (fun _ => rfl) ?_
 rintro v As ⟨rfl, rfl⟩
 refine ⟨_, rfl, trivial, ?_⟩
 rw [h_l3]
 refine J.r hX tk 400 (fun _ => rfl) fun b9 => ?_
 refine J.ca hX (by kernel_rfl) (n_Fault q N1 G1.ok 0 4 0 0 0 0 0) [1] 0 rfl rfl rfl rfl rfl rfl (fun _ => rfl) ?_
 rintro v As ⟨rfl, rfl⟩
 refine ⟨_, rfl, trivial, ?_⟩
 refine J.r hX tk 400 (fun _ => rfl) fun b11 => ?_
 refine J.ca hX (by kernel_rfl) (r_Read q N2 G2.ok G2.room 1 0 0 7 (by decide) (by decide)) [1] 0 rfl rfl rfl rfl rfl rfl (fun _ => rfl) ?_
 rintro v As ⟨rfl, rfl⟩
 refine ⟨_, rfl, trivial, ?_⟩
 rw [h_r]
 refine J.r hX tk 400 (fun _ => rfl) fun b13 => ?_
 refine J.ca hX (by kernel_rfl) (r_All q N2 G2.ok G2.room 1 0) [1] 0 rfl rfl rfl rfl rfl rfl (fun _ => rfl) ?_
 rintro v As ⟨a, c, rfl, rfl⟩
 refine ⟨_, rfl, trivial, ?_⟩
 rw [h_a]
 refine J.know (fun h' s => own_some (c := (a, c)) (by decide) (s.get (i := 7) rfl)) fun hg => ?_
 obtain ⟨ga, rfl⟩ := hg
 refine J.r hX tk 400 (fun _ => rfl) fun b15 => ?_
 refine J.ca hX (by kernel_rfl) (l7_Begun) [] 0 rfl rfl rfl rfl rfl rfl (fun _ => rfl) ?_
 rintro v As ⟨rfl, rfl⟩
 refine ⟨_, rfl, trivial, ?_⟩
 refine J.r hX tk 400 (fun _ => rfl) fun b17 => ?_
 refine J.ca hX (by kernel_rfl) (l9_Begun) [] 0 rfl rfl rfl rfl rfl rfl (fun _ => rfl) ?_
 rintro v As ⟨rfl, rfl⟩
 refine ⟨_, rfl, trivial, ?_⟩
 refine J.r hX tk 400 (fun _ => rfl) fun b18 => ?_
 rw [h_l2]
 refine J.val hX (.bool true) 0 rfl rfl (fun hg x w he hw => (eqAgg_run (xs := enL B9.e) (ys := enL B9.e) rfl rfl rfl he hg rfl leavesEn (fitsEn _) (fitsEn _) mkEn gdEn).trans (by rw [(eqEn _ _ rfl rfl).2 rfl])) rfl trivial ?_
 refine J.r hX tk 400 (fun _ => rfl) fun b19 => ?_
 refine J.val hX (.bool true) 0 rfl rfl (fun hg x w he hw => own1_run tk rfl rfl he hg rfl rfl (hw.get (i := 7) rfl) rfl) rfl trivial ?_
 refine J.r hX tk 400 (fun _ => rfl) fun b20 => ?_
 refine J.val hX (.bool true) 0 rfl rfl (fun hg x w he hw => own1_run tk rfl rfl he hg rfl rfl (hw.get (i := 7) rfl) rfl) rfl trivial ?_
 refine J.r hX tk 400 (fun _ => rfl) fun b21 => ?_
 refine J.val hX (.int .i64 7) 0 rfl rfl (fun hg x w he hw => own1_run tk rfl rfl he hg rfl rfl (hw.get (i := 7) rfl) rfl) rfl trivial ?_
 refine J.r hX tk 400 (fun _ => rfl) fun b22 => ?_
 refine J.ca hX (by kernel_rfl) (m_Masks q N2 G2.ok G2.room 1 0) [1] 0 rfl rfl rfl rfl rfl rfl (fun _ => rfl) ?_
 rintro v As ⟨a2, c2, rfl, rfl⟩
 refine ⟨_, rfl, trivial, ?_⟩
 rw [h_m]
 refine J.r hX tk 400 (fun _ => rfl) fun b23 => ?_
 refine J.rt hX tk [] rfl rfl rfl ?_
 exact ⟨rfl, rfl⟩
end Go.Proofs.YtdocmcapegcoeaaGreat
namespace Go.Proofs.YtdocmcapegcoeaaGreat
open Go Go.RowKit
theorem tm_bd (a : Int) (n : Int) (hn : 0 < n) : -n < a.tmod n ∧ a.tmod n < n := by
 refine ⟨?_, Int.tmod_lt_of_pos a hn⟩
 obtain ⟨k, rfl | rfl⟩ := Int.eq_nat_or_neg a
 ·have := Int.tmod_nonneg (a := (k : Int)) n (by omega); omega
 ·rw [Int.neg_tmod]
  have := Int.tmod_lt_of_pos (k : Int) hn
  omega
theorem tm_2 (a : Int) (n : Int) (hn : 0 < n) : 0 ≤ (a.tmod n + n).tmod n ∧ (a.tmod n + n).tmod n < n := by
 have := tm_bd a n hn
 exact ⟨Int.tmod_nonneg _ (by omega), Int.tmod_lt_of_pos _ hn⟩
theorem l6_Geo (a b c : Int) : Fn Tryz.prog 16 [.int .i64 a, .int .i64 b, .int .i64 c] [] (fun v As => ∃ D B P : Nat, v = .agg #[.int .i64 D, .int .i64 B, .int .i64 P] ∧ (3 ≤ D ∧ D ≤ 6) ∧ (8 ≤ B ∧ B ≤ 16) ∧ (2 ≤ P ∧ P ≤ 8) ∧ As = []) := by
 have a1 := tm_bd a 4 (by decide)
 have a2 := tm_2 a 4 (by decide)
 have b1 := tm_bd b 9 (by decide)
 have b2 := tm_2 b 9 (by decide)
 have c1 := tm_bd c 7 (by decide)
 have c2 := tm_2 c 7 (by decide)
 refine Fn.enter [0, 0, 0] Tryz.func16 rfl rfl rfl fun X F hX => ?_
 refine J.r hX tk 400 (fun _ => rfl) fun b1 => ?_
 refine J.rt hX tk [] rfl rfl rfl ?_
 obtain ⟨D, hD⟩ := Int.eq_ofNat_of_zero_le a2.1
 obtain ⟨B, hB⟩ := Int.eq_ofNat_of_zero_le b2.1
 obtain ⟨P, hP⟩ := Int.eq_ofNat_of_zero_le c2.1
 refine ⟨3 + D, 8 + B, 2 + P, ?_, by omega, by omega, by omega, rfl⟩
 rw [hD, hB, hP, Int.natCast_add, Int.natCast_add, Int.natCast_add]
 rfl
theorem pow_bd (D : Nat) (h : D ≤ 6) : (2 : Int) ^ (min (D : Int).toNat IntKind.i64.bits) = ((2 ^ D : Nat) : Int) ∧ (1 : Int) ≤ ((2 ^ D : Nat) : Int) ∧ ((2 ^ D : Nat) : Int) ≤ 64 := by
 have : ∀ D : Nat, D < 7 → (2 : Int) ^ (min (D : Int).toNat IntKind.i64.bits) = ((2 ^ D : Nat) : Int) ∧ (1 : Int) ≤ ((2 ^ D : Nat) : Int) ∧ ((2 ^ D : Nat) : Int) ≤ 64 := by decide
 exact this D (by omega)
namespace B13
def e1 : En := { En.zero with lpn := 4, seq := 7, role := 1 }
def e2 : En := { En.zero with lpn := 4, seq := 6, role := 1 }
def e3 : En := { En.zero with lpn := 10, seq := 9, role := 1 }
def T0 : Tb := ⟨10, [], [], 1⟩
def T1 : Tb := ⟨10, [(4, ⟨2, 1, 0, 7, 7, 1⟩)], [(2, 1)], 8⟩
def t0 : Tl := Tl.new 3 8 2
def t1 : Tl := ⟨3, 8, 2, ⟨3, 0, false, false⟩ :: List.replicate 7 Sb.zero, 0⟩
def t2 : Tl := ⟨3, 8, 2, [⟨3, 0, false, false⟩, Sb.zero, ⟨0, 2, false, false⟩, Sb.zero, Sb.zero, Sb.zero, Sb.zero, Sb.zero], 0⟩
theorem h0 : Tb.new 10 = T0 := by kernel_rfl
theorem h1 : Tb.put T0 e1 2 1 0 7 = T1 := by kernel_rfl
theorem h2 : Tb.put T1 e2 0 0 0 7 = T1 := by kernel_rfl
theorem h3 : Tb.put T1 e3 0 0 0 7 = T1 := by kernel_rfl
theorem p1 : Tb.putB T0 e1 = true := by kernel_rfl
theorem p2 : Tb.putB T1 e2 = false := by kernel_rfl
theorem p3 : Tb.putB T1 e3 = false := by kernel_rfl
theorem w1 : t0.wore 0 3 = t1 := by kernel_rfl
theorem w2 : t1.bad 1 2 = t2 := by kernel_rfl
theorem c0 (k : Int) : 0 ≤ T0.count k ∧ T0.count k ≤ 1000000 := by
 have : T0.count k = 0 := rfl
 rw [this]; omega
theorem c1 (k : Int) : 0 ≤ T1.count k ∧ T1.count k ≤ 1000000 := by
 have : T1.count k = (if k = 2 then some (1 : Int) else none).getD 0 := rfl
 rw [this]
 split <;> simp
theorem o1 : pkLeast (fun x y => cmpI (t2.wear x) (t2.wear y)) (pkSome (pkFree t2 T1) (-1) t2.b) = 1 := by kernel_rfl
theorem o2 : pkLeast (fun x y => orI [cmpI (T1.count x) (T1.count y), cmpI (t2.wear x) (t2.wear y)]) (pkSome (pkUsed t2 T1) (-1) t2.b) = 2 := by kernel_rfl
theorem o3 : (pkSome (pkFree t2 T1) (-1) t2.b).length = 7 := by kernel_rfl
theorem o4 : pkSome (pkSpent t2 T1) (-1) t2.b = [] := by kernel_rfl
theorem o5 : pkSome (pkHurt t2 T1) (-1) t2.b = [2] := by kernel_rfl
theorem o6 : T1.ins 2 = [4] := by kernel_rfl
theorem o7 : t2.mask 2 = 5 := by kernel_rfl
theorem o8 : t2.usable 2 = true := by kernel_rfl
theorem o9 : t2.alive = 7 := by kernel_rfl
theorem o10 : t2.wear 0 = 3 := by kernel_rfl
theorem o11 : t2.blank 3 = true := by kernel_rfl
theorem o12 : T1.count 2 = 1 := by kernel_rfl
end B13
theorem l13_begun : Fn Tryz.prog 182 [] [] (fun v As => v = .bool true ∧ As = []) := by
 refine Fn.enter [] Tryz.func182 rfl rfl rfl fun X F hX => ?_
 refine J.r hX tk 400 (fun _ => rfl) fun b1 => ?_
 refine J.ca hX (by kernel_rfl) (tb_New 10) [] 0 rfl rfl rfl rfl rfl rfl (fun _ => rfl) ?_
 rintro v As ⟨r, rfl, rfl⟩
 refine ⟨_, rfl, trivial, ?_⟩
 rw [B13.h0]
 refine J.r hX tk 400 (fun _ => rfl) fun b3 => ?_
 refine J.ca hX (by kernel_rfl) (tl_New 3 8 2 rfl) [] 0 rfl rfl rfl rfl rfl rfl (fun _ => rfl) ?_
 rintro v As ⟨q, rfl, rfl⟩
 refine ⟨_, rfl, trivial, ?_⟩
 rw [show Tl.new 3 8 2 = B13.t0 from rfl]
 refine J.r hX tk 400 (fun _ => rfl) fun b5 => ?_
 refine J.ca hX (by kernel_rfl) (tl_NewZ) [] 0 rfl rfl rfl rfl rfl rfl (fun _ => rfl) ?_
 rintro v As ⟨rfl, rfl⟩
 refine ⟨_, rfl, trivial, ?_⟩
 refine J.r hX tk 400 (fun _ => rfl) fun b7 => ?_
 refine J.cond rfl (fun h => absurd h (by decide)) (fun _ => ?_)
 refine J.r hX tk 400 (fun _ => rfl) fun b8 => ?_
 refine J.ca hX (by kernel_rfl) (tb_Put r B13.T0 B13.e1 2 1 0 7 (by decide) B13.c0) [1] 0 rfl rfl rfl rfl rfl rfl (fun _ => rfl) ?_
 rintro v As ⟨rfl, rfl⟩
 refine ⟨_, rfl, trivial, ?_⟩
 rw [B13.h1, B13.p1]
 refine J.r hX tk 400 (fun _ => rfl) fun b10 => ?_
 refine J.ca hX (by kernel_rfl) (tb_Put r B13.T1 B13.e2 0 0 0 7 (by decide) B13.c1) [1] 0 rfl rfl rfl rfl rfl rfl (fun _ => rfl) ?_
 rintro v As ⟨rfl, rfl⟩
 refine ⟨_, rfl, trivial, ?_⟩
 rw [B13.h2, B13.p2]
 refine J.r hX tk 400 (fun _ => rfl) fun b12 => ?_
 refine J.ca hX (by kernel_rfl) (tb_Put r B13.T1 B13.e3 0 0 0 7 (by decide) B13.c1) [1] 0 rfl rfl rfl rfl rfl rfl (fun _ => rfl) ?_
 rintro v As ⟨rfl, rfl⟩
 refine ⟨_, rfl, trivial, ?_⟩
 rw [B13.h3, B13.p3]
 refine J.r hX tk 400 (fun _ => rfl) fun b14 => ?_
 refine J.ca hX (by kernel_rfl) (tb_Get r B13.T1 4) [1] 0 rfl rfl rfl rfl rfl rfl (fun _ => rfl) ?_
 rintro v As ⟨rfl, rfl⟩
 refine ⟨_, rfl, trivial, ?_⟩
 rw [show Tb.look B13.T1.at_ 4 = some ⟨2, 1, 0, 7, 7, 1⟩ from rfl, Option.getD_some, Option.isSome_some]
 refine J.r hX tk 400 (fun _ => rfl) fun b16 => ?_
 refine J.ca hX (by kernel_rfl) (tl_Wore q B13.t0 (by decide) rfl 0 3) [2] 0 rfl rfl rfl rfl rfl rfl (fun _ => rfl) ?_
 rintro v As ⟨rfl, rfl⟩
 refine ⟨_, rfl, trivial, ?_⟩
 rw [B13.w1]
 refine J.r hX tk 400 (fun _ => rfl) fun b18 => ?_
 refine J.ca hX (by kernel_rfl) (tl_Bad q B13.t1 (by decide) rfl 1 2) [2] 0 rfl rfl rfl rfl rfl rfl (fun _ => rfl) ?_
 rintro v As ⟨rfl, rfl⟩
 refine ⟨_, rfl, trivial, ?_⟩
 rw [B13.w2]
 refine J.r hX tk 400 (fun _ => rfl) fun b20 => ?_
 refine J.ca hX (by kernel_rfl) (l7_Begun) [] 0 rfl rfl rfl rfl rfl rfl (fun _ => rfl) ?_
 rintro v As ⟨rfl, rfl⟩
 refine ⟨_, rfl, trivial, ?_⟩
 refine J.r hX tk 400 (fun _ => rfl) fun b22 => ?_
 refine J.ca hX (by kernel_rfl) (l9_Begun) [] 0 rfl rfl rfl rfl rfl rfl (fun _ => rfl) ?_
 rintro v As ⟨rfl, rfl⟩
 refine ⟨_, rfl, trivial, ?_⟩
 refine J.r hX tk 400 (fun _ => rfl) fun b24 => ?_
 refine J.ca hX (by kernel_rfl) (tb_Len r B13.T1) [1] 0 rfl rfl rfl rfl rfl rfl (fun _ => rfl) ?_
 rintro v As ⟨rfl, rfl⟩
 refine ⟨_, rfl, trivial, ?_⟩
 refine J.r hX tk 400 (fun _ => rfl) fun b26 => ?_
 refine J.ca hX (by kernel_rfl) (tb_Count r B13.T1 2) [1] 0 rfl rfl rfl rfl rfl rfl (fun _ => rfl) ?_
 rintro v As ⟨rfl, rfl⟩
 refine ⟨_, rfl, trivial, ?_⟩
 rw [B13.o12]
 refine J.r hX tk 400 (fun _ => rfl) fun b28 => ?_
 refine J.ca hX (by kernel_rfl) (tb_In r B13.T1 10 rfl (by decide) 2) [1] 0 rfl rfl rfl rfl rfl rfl (fun _ => rfl) ?_
 rintro v As ⟨a1, c1, rfl, rfl⟩
 refine ⟨_, rfl, trivial, ?_⟩
 rw [B13.o6]
 refine J.r hX tk 400 (fun _ => rfl) fun b30 => ?_
 refine J.ca hX (by kernel_rfl) (tb_Next r B13.T1) [1] 0 rfl rfl rfl rfl rfl rfl (fun _ => rfl) ?_
 rintro v As ⟨rfl, rfl⟩
 refine ⟨_, rfl, trivial, ?_⟩
 refine J.r hX tk 400 (fun _ => rfl) fun b32 => ?_
 refine J.ca hX (by kernel_rfl) (tl_Wear q B13.t2 (by decide) rfl 0) [2] 0 rfl rfl rfl rfl rfl rfl (fun _ => rfl) ?_
 rintro v As ⟨rfl, rfl⟩
 refine ⟨_, rfl, trivial, ?_⟩
 rw [B13.o10]
 refine J.r hX tk 400 (fun _ => rfl) fun b34 => ?_
 refine J.ca hX (by kernel_rfl) (tl_Mask q B13.t2 (by decide) rfl 2) [2] 0 rfl rfl rfl rfl rfl rfl (fun _ => rfl) ?_
 rintro v As ⟨rfl, rfl⟩
 refine ⟨_, rfl, trivial, ?_⟩
 rw [B13.o7]
 refine J.r hX tk 400 (fun _ => rfl) fun b36 => ?_
 refine J.ca hX (by kernel_rfl) (tl_Usable q B13.t2 (by decide) rfl 2) [2] 0 rfl rfl rfl rfl rfl rfl (fun _ => rfl) ?_
 rintro v As ⟨rfl, rfl⟩
 refine ⟨_, rfl, trivial, ?_⟩
 rw [B13.o8]
 refine J.r hX tk 400 (fun _ => rfl) fun b38 => ?_
 refine J.ca hX (by kernel_rfl) (tl_Alive q B13.t2) [2] 0 rfl rfl rfl rfl rfl rfl (fun _ => rfl) ?_
 rintro v As ⟨rfl, rfl⟩
 refine ⟨_, rfl, trivial, ?_⟩
 rw [B13.o9]
 refine J.r hX tk 400 (fun _ => rfl) fun b40 => ?_
 refine J.ca hX (by kernel_rfl) (p_Open q B13.t2 (by decide) rfl r B13.T1 (-1)) [2, 1] 0 rfl rfl rfl rfl rfl rfl (fun _ => rfl) ?_
 rintro v As ⟨rfl, rfl⟩
 refine ⟨_, rfl, trivial, ?_⟩
 rw [B13.o1]
 refine J.r hX tk 400 (fun _ => rfl) fun b42 => ?_
 refine J.ca hX (by kernel_rfl) (p_Victim q B13.t2 (by decide) rfl r B13.T1 (-1)) [2, 1] 0 rfl rfl rfl rfl rfl rfl (fun _ => rfl) ?_
 rintro v As ⟨rfl, rfl⟩
 refine ⟨_, rfl, trivial, ?_⟩
 rw [B13.o2]
 refine J.r hX tk 400 (fun _ => rfl) fun b44 => ?_
 refine J.ca hX (by kernel_rfl) (p_Free q B13.t2 (by decide) rfl r B13.T1 (-1)) [2, 1] 0 rfl rfl rfl rfl rfl rfl (fun _ => rfl) ?_
 rintro v As ⟨rfl, rfl⟩
 refine ⟨_, rfl, trivial, ?_⟩
 rw [B13.o3]
 refine J.r hX tk 400 (fun _ => rfl) fun b46 => ?_
 refine J.ca hX (by kernel_rfl) (p_Spent q B13.t2 (by decide) rfl r B13.T1 (-1)) [2, 1] 0 rfl rfl rfl rfl rfl rfl (fun _ => rfl) ?_
 rintro v As ⟨a2, c2, rfl, rfl⟩
 refine ⟨_, rfl, trivial, ?_⟩
 rw [B13.o4]
 refine J.r hX tk 400 (fun _ => rfl) fun b48 => ?_
 refine J.ca hX (by kernel_rfl) (p_Hurt q B13.t2 (by decide) rfl r B13.T1 10 rfl (by decide)) [2, 1] 0 rfl rfl rfl rfl rfl rfl (fun _ => rfl) ?_
 rintro v As ⟨a3, c3, rfl, rfl⟩
 refine ⟨_, rfl, trivial, ?_⟩
 rw [B13.o5]
 refine J.r hX tk 400 (fun _ => rfl) fun b50 => ?_
 refine J.ca hX (by kernel_rfl) (tl_Blank q B13.t2 (by decide) rfl 3) [2] 0 rfl rfl rfl rfl rfl rfl (fun _ => rfl) ?_
 rintro v As ⟨rfl, rfl⟩
 refine ⟨_, rfl, trivial, ?_⟩
 rw [B13.o11]
 refine J.r hX tk 400 (fun _ => rfl) fun b52 => ?_
 refine J.rt hX tk [] rfl rfl rfl ?_
 exact ⟨rfl, rfl⟩
theorem l13_Begun : Fn Tryz.prog 140 [] [] (fun v As => v = .bool true ∧ As = []) := by
 refine Fn.enter [] Tryz.func140 rfl rfl rfl fun X F hX => ?_
 refine J.r hX tk 400 (fun _ => rfl) fun b53 => ?_
 refine J.ca hX (by kernel_rfl) (l13_begun) [] 0 rfl rfl rfl rfl rfl rfl (fun _ => rfl) ?_
 rintro v As ⟨rfl, rfl⟩
 refine ⟨_, rfl, trivial, ?_⟩
 refine J.r hX tk 400 (fun _ => rfl) fun b55 => ?_
 refine J.rt hX tk [] rfl rfl rfl ?_
 exact ⟨rfl, rfl⟩
section
variable {X : Cx} {P : Program} {K : List KI} {E : Env} {L : List Atom} {N : Nat} {F : HP} {Post : Value → List Atom → Prop} {rs : List ResultVar} {T : Tab}
theorem append_none_run (hT : TabOK P T) {o : Oper} {x y : Operand} {st e size by_ ks tgs ky tgy : Nat} {gs gy : G} {a : Option Nat} {n cap : Nat} {xs : List Value} {s1 b1 : Nat} {z1 : List Value} {ac : Act} {w : World} {NN : Nat}
  (hop : o.op = .call ⟨.builtin .append, #[x, y], #[st, st]⟩) (hx : ev E x = some ⟨ks, slv a n cap, tgs, gs⟩) (hvx : gs.on = true) (hy : ev E y = some ⟨ky, .slice none 0 0, tgy, gy⟩) (hvy : gy.on = true) (hen : EnvOK NN E ac)
  (hst : T.get st = some ⟨.slice e size, s1, z1, b1⟩) {td : TD} {z : List Value} (he : T.get e = some ⟨td, size, z, by_⟩) (hown : ownP e size a n cap xs (hl w)) :
  (execOp ac.eval o).run P w = .ok (.value (slv a n cap)) w := by
 obtain ⟨d, f, zv, ok⟩ := tiOf_spec (hT.get hst)
 obtain ⟨fe, rfl, g1, g2⟩ := ok.slice rfl
 obtain ⟨d', f', zv', ok'⟩ := tiOf_spec (hT.get he)
 have hf : fe = f' := by have := g1.symm.trans ok'.hf; injection this
 subst hf
 have ex := ev_spec hen hx
 have ey := ev_spec hen hy
 simp only [Slot.val, hvx, hvy] at ex ey
 have hr := run_append_owned_none (P := P) w 0 st o.type e fe size ok.hd ok'.hf _ n xs (ownP_row hown)
 simp only [execOp, hop, resolve, Sem.run_bind, Sem.run_pure, Result.andThen_ok, invoke, builtin, List.map_toArray, List.map_cons, List.map_nil, ex, ey, hr]
theorem J.appendO (hX : IsCx X P rs N F Post) (hT : TabOK P T) {ops : Array Oper} {C : Cl} {lt : Bool} {i : Nat} {t : PT} {o : Oper} {x y : Operand} {st e size by_ : Nat} {ks tgs : Nat} {gs : G} {a : Option Nat} {n cap : Nat} {xs : List Value} {ky tgy : Nat} {gy : G} {ay : Option Nat} {m cy : Nat} {cs : List Value} {s1 b1 : Nat} {z1 : List Value} {E' : Value → Env} (is iy : Nat)
  (ho : lget ops.toList i = some o) (hg : gd ops.toList E o = some .tt) (hop : o.op = .call ⟨.builtin .append, #[x, y], #[st, st]⟩)
  (hx : ev E x = some ⟨ks, slv a n cap, tgs, gs⟩) (hvx : gs.on = true) (hy : ev E y = some ⟨ky, slv ay m cy, tgy, gy⟩) (hvy : gy.on = true)
  (hLs : lget L is = some (ownA e size a n cap xs)) (hLy : lget L iy = some (ownA e size ay m cy cs)) (hst : T.get st = some ⟨.slice e size, s1, z1, b1⟩) {td : TD} {z : List Value} (he : T.get e = some ⟨td, size, z, by_⟩) (hz : Nat.beq z.length size = true)
  (hsz : Nat.blt 0 size = true) (h1 : ∀ u ∈ cs, u.oneCell' = true) (h63 : n + m ≤ maxLen) (hbytes : (n + m) * by_ ≤ 140737488355328)
  (hd : ∀ v, putE N o.dst v 0 .tt E = some (E' v))
  (hJ : ∀ a' cap', ∃ L', lset L is (ownA e size a' (n + m) cap' (xs ++ cs)) = some L' ∧ Conj (staysL lt C L') ∧ J X (.reg ops C t :: K) (E' (slv a' (n + m) cap')) L') : J X (.reg ops C (.alt lt i t .non) :: K) E L := by
 cases ay with
 | some b => exact J.appendR hX hT (oo := 0) is iy 0 ho hg rfl hop hx hvx hy hvy hLs hLy (own_rd _ _ (some b) _ _ _) hst he hz hsz h1 h63 hbytes hd hJ
 | none =>
  rw [lget_eq] at hLs hLy
  refine J.know (p := cs.length = m * size ∧ m = 0 ∧ cy = 0) (fun h s => (show ownP e size none m cy cs h from s.get hLy)) fun hk => ?_
  obtain ⟨q1, rfl, rfl⟩ := hk
  have hcs : cs = [] := List.eq_nil_of_length_eq_zero (by rw [q1, Nat.zero_mul])
  subst hcs
  obtain ⟨L', e1, e2, e3⟩ := hJ a cap
  rw [Nat.add_zero, List.append_nil] at e1
  rw [Nat.add_zero] at e3
  have hL : L' = L := by
   rw [lset_eq e1]
   apply List.ext_getElem?
   intro j
   rw [List.getElem?_set]
   split
   ·rename_i e; subst e; split
    ·exact hLs.symm
    ·rename_i e4; rw [List.getElem?_eq_none (by omega)]
   ·rfl
  subst hL
  exact J.val hX (slv a n cap) 0 ho hg (fun _ ac w hen hs => append_none_run hT hop hx hvx hy hvy hen hst he (show ownP e size a n cap xs (hl w) from hs.get hLs)) (hd _) e2 e3
end
def FOk (m : Nat) (L : List Fnd) (Z : List FSlot) : Prop := Z.map (·.l) = (List.range m).map fun k : Nat => V.of L (k : Int)
theorem FOk.len {m : Nat} {L : List Fnd} {Z : List FSlot} (h : FOk m L Z) : Z.length = m := by have := congrArg List.length h; simpa using this
theorem FOk.get {m : Nat} {L : List Fnd} {Z : List FSlot} (h : FOk m L Z) {k : Nat} (hk : k < m) : ∃ z, Z[k]? = some z ∧ z.l = V.of L (k : Int) := by
 have hl := h.len
 refine ⟨Z[k], List.getElem?_eq_getElem (by omega), ?_⟩
 have := congrArg (fun l => l[k]?) h
 simp only [List.getElem?_map, List.getElem?_range hk, List.getElem?_eq_getElem (show k < Z.length by omega), Option.map_some, Option.some.injEq] at this
 exact this
theorem FOk.zero (m : Nat) : FOk m [] (List.replicate m ⟨none, 0, []⟩) := by
 unfold FOk
 apply List.ext_getElem?
 intro i
 rw [List.getElem?_map, List.getElem?_replicate, List.getElem?_map]
 by_cases h : i < m
 ·rw [if_pos h, List.getElem?_range h]; simp [V.of]
 ·rw [if_neg h, List.getElem?_eq_none (by simp; omega)]; rfl
theorem FOk.hit {m : Nat} {L : List Fnd} {Z : List FSlot} (h : FOk m L Z) {x : Fnd} {k : Nat} (hx : x.en.lpn = (k : Int)) {z z' : FSlot} (hz : Z[k]? = some z) (hz' : z'.l = z.l ++ [x]) : FOk m (L ++ [x]) (Z.set k z') := by
 have hl := h.len
 have hk : k < Z.length := (List.getElem?_eq_some_iff.1 hz).1
 have hzl : z.l = V.of L (k : Int) := by
  obtain ⟨z2, h1, h2⟩ := h.get (k := k) (by omega)
  rw [hz] at h1; injection h1 with h1; subst h1; exact h2
 unfold FOk
 rw [List.map_set, show Z.map (·.l) = _ from h, hz', hzl]
 apply List.ext_getElem?
 intro i
 rw [List.getElem?_set, List.getElem?_map, List.getElem?_map]
 by_cases e : k = i
 ·subst e
  rw [if_pos rfl, if_pos (by simp; omega), List.getElem?_range (by omega), Option.map_some, V.of_snoc, if_pos hx]
 ·rw [if_neg e]
  by_cases h2 : i < m
  ·rw [List.getElem?_range h2, Option.map_some, Option.map_some, V.of_snoc, if_neg (by omega)]
  ·rw [List.getElem?_eq_none (by simp; omega)]; rfl
theorem FOk.miss {m : Nat} {L : List Fnd} {Z : List FSlot} (h : FOk m L Z) {x : Fnd} (hx : (m : Int) ≤ x.en.lpn) : FOk m (L ++ [x]) Z := by
 unfold FOk
 rw [show Z.map (·.l) = _ from h]
 apply List.map_congr_left
 intro i hi
 rw [List.mem_range] at hi
 rw [V.of_snoc, if_neg (by omega)]
theorem FOk.le {m : Nat} {L : List Fnd} {Z : List FSlot} (h : FOk m L Z) {k : Nat} {z : FSlot} (hz : Z[k]? = some z) : z.l.length ≤ L.length := by
 have hl := h.len
 have hk : k < Z.length := (List.getElem?_eq_some_iff.1 hz).1
 obtain ⟨z2, h1, h2⟩ := h.get (k := k) (by omega)
 rw [hz] at h1; injection h1 with h1; subst h1
 rw [h2]; exact V.of_len L k
theorem flatMap_le {α β : Type} (f : α → List β) (c : Nat) (l : List α) (h : ∀ x ∈ l, (f x).length ≤ c) : (l.flatMap f).length ≤ c * l.length := by
 induction l with
 | nil => simp
 | cons x l ih =>
  rw [List.flatMap_cons, List.length_append, List.length_cons]
  have := h x (List.mem_cons_self ..)
  have := ih (fun y hy => h y (List.mem_cons_of_mem _ hy))
  rw [Nat.mul_add]; omega
theorem rall_len (N : Nand) (hN : N.Ok) (b r : Int) : (R.all N b r).length ≤ 42 := by
 have hbd := hN.bd
 have := outI_len N b r (M.masks N b r).length (by omega)
 unfold outI at this
 rwa [List.take_length] at this
theorem upB_len (N : Nand) (hN : N.Ok) (b : Nat) (hb : b ≤ 16) : (V.upB N b).length ≤ 5376 := by
 have hbd := hN.bd
 unfold V.upB
 have := flatMap_le (fun b : Nat => (List.range N.pages).flatMap fun r => R.all N (b : Nat) (r : Nat)) 336 (List.range b) (fun x _ => by
  have := flatMap_le (fun r : Nat => R.all N (x : Nat) (r : Nat)) 42 (List.range N.pages) (fun r _ => rall_len N hN _ _)
  rw [List.length_range] at this
  omega)
 rw [List.length_range] at this
 omega
theorem upR_len (N : Nand) (hN : N.Ok) (b r : Nat) (hb : b ≤ 16) (hr : r ≤ 8) : (V.upR N b r).length ≤ 5712 := by
 have h1 := upB_len N hN b hb
 have := flatMap_le (fun r : Nat => R.all N (b : Nat) (r : Nat)) 42 (List.range r) (fun r _ => rall_len N hN _ _)
 rw [List.length_range] at this
 unfold V.upR
 rw [List.length_append]; omega
theorem upI_len (N : Nand) (hN : N.Ok) (b r i : Nat) (hb : b ≤ 16) (hr : r ≤ 8) : (V.upI N b r i).length ≤ 5754 := by
 have h1 := upR_len N hN b r hb hr
 have := rall_len N hN b r
 unfold V.upI
 rw [List.length_append, List.length_take]; omega
theorem upB_bd (N : Nand) (b : Nat) : ∀ f ∈ V.upB N b, EnBd f.en := by
 intro f h
 unfold V.upB at h
 rw [List.mem_flatMap] at h
 obtain ⟨_, _, h⟩ := h
 rw [List.mem_flatMap] at h
 obtain ⟨_, _, h⟩ := h
 exact (fnd_bd h).2.2
theorem upR_bd (N : Nand) (b r : Nat) : ∀ f ∈ V.upR N b r, EnBd f.en := by
 intro f h
 unfold V.upR at h
 rw [List.mem_append] at h
 rcases h with h | h
 ·exact upB_bd N b f h
 ·rw [List.mem_flatMap] at h
  obtain ⟨_, _, h⟩ := h
  exact (fnd_bd h).2.2
theorem upI_bd (N : Nand) (b r i : Nat) : ∀ f ∈ V.upI N b r i, EnBd f.en := by
 intro f h
 unfold V.upI at h
 rw [List.mem_append] at h
 rcases h with h | h
 ·exact upR_bd N b r f h
 ·exact (fnd_bd (List.mem_of_mem_take h)).2.2
theorem Sep.ofAll {L : List Atom} {h : Hl} (hL : ∀ A ∈ L, ∀ h, A.sat h) : Sep L h := ⟨fun _ => 0, fun i A hA => hL A (List.mem_of_getElem? hA) _⟩
def svL (q : Nat) (torn : Value) (first : Int) (held : Value) (next pages : Int) : List Value := [.pointer (some ⟨q, 0, none⟩), torn, .int .i64 first, held, .int .i64 next, .int .i64 pages]
def svV (q : Nat) (S : Scd) (a1 : Option Nat) (c1 : Nat) (a2 : Option Nat) (c2 : Nat) : Value := .agg (svL q (slv a1 S.torn.length c1) S.first (slv a2 S.held.length c2) S.next S.pages).toArray
def sv0 (q : Nat) (L : List Fnd) : List Value := svL q (.slice none 0 0) 0 (.slice none 0 0) (V.nextOf L) L.length
theorem flat_single {α : Type} (x : α) : ∀ n : Nat, (List.replicate n [x]).flatten = List.replicate n x
 | 0 => rfl
 | n + 1 => by rw [List.replicate_succ, List.replicate_succ, List.flatten_cons, flat_single x n]; rfl
theorem hdrs_zero (m : Nat) : (List.replicate m [Value.slice none 0 0]).flatten = hdrs (List.replicate m ⟨none, 0, []⟩) := by
 rw [flat_single]; unfold hdrs; rw [List.map_replicate]; rfl
theorem hdrs_getI {Z : List FSlot} {k : Int} {z : FSlot} (h : Z[k.toNat]? = some z) : (hdrs Z)[0 + k.toNat * 1]? = some z.hdr := by
 rw [show 0 + k.toNat * 1 = k.toNat from by omega, hdrs, List.getElem?_map, h]; rfl
theorem max_if (a b : Int) : (if b > a then b else a) = max a b := by split <;> omega
theorem cellsI_app (l m : List Int) : cellsI l ++ cellsI m = cellsI (l ++ m) := by simp [cellsI]
theorem cellsE_app (l m : List En) : cellsE l ++ cellsE m = cellsE (l ++ m) := by simp [cellsE]
theorem cellsI_one (l : List Int) : ∀ u ∈ cellsI l, u.oneCell' = true := by
 intro u hu
 simp only [cellsI, List.mem_map] at hu
 obtain ⟨x, _, rfl⟩ := hu
 rfl
theorem v_Scan (p : Nat) (N : Nand) (hN : N.Ok) (hR : N.Room) (hoff : N.off = false) (n : Int) : Fn Tryz.prog 134 [.pointer (some ⟨p, 0, none⟩), .int .i64 n] [NandA p N]
  (fun v As => ∃ q a1 c1 a2 c2, v = .tuple #[svV q (V.scan N n) a1 c1 a2 c2, .int .i64 0] ∧ As = [NandA p N, TbA q (V.scan N n).tb, ownA 38 19 a1 (V.scan N n).torn.length c1 (cellsE (V.scan N n).torn), ownA 3 1 a2 (V.scan N n).held.length c2 (cellsI (V.scan N n).held)]) := by
 have hbd := hN.bd
 refine Fn.enter [2, 0] Tryz.func134 rfl rfl rfl fun X F hX => ?_
 refine J.r hX tk 400 (fun _ => rfl) fun br => ?_
 refine J.cond rfl (fun h => by simp at h) (fun _ => ?_)
 refine J.r hX tk 400 (fun _ => rfl) fun b2 => ?_
 refine J.ca hX (by kernel_rfl) (n_Power p N) [1] 0 rfl rfl rfl rfl rfl rfl (fun _ => rfl) ?_
 rintro v As ⟨rfl, rfl⟩
 refine ⟨_, rfl, trivial, ?_⟩
 rw [hoff]
 refine J.r hX tk 400 (fun _ => rfl) fun b4 => ?_
 refine J.cond rfl (fun h => absurd h (by decide)) (fun _ => ?_)
 refine J.r hX tk 400 (fun _ => rfl) fun b5 => ?_
 refine J.ca hX (by kernel_rfl) (tb_New n) [] 0 rfl rfl rfl rfl rfl rfl (fun _ => rfl) ?_
 rintro v As ⟨q, rfl, rfl⟩
 refine ⟨_, rfl, trivial, ?_⟩
 refine J.r hX tk 11 (fun _ => rfl) fun bo => ?_
 rw [tb_mm]
 obtain ⟨m, hm⟩ : ∃ m : Nat, min (max n 0) 65536 = (m : Int) := ⟨(min (max n 0) 65536).toNat, by omega⟩
 have hms : V.size n = m := by unfold V.size; omega
 have hm1 : m ≤ 65536 := by omega
 rw [hm]
 refine J.makeMany hX tk 6 rfl rfl rfl rfl rfl rfl rfl rfl rfl rfl rfl ?_ ?_ (fun _ => rfl) (fun _ => rfl) fun g => ⟨trivial, ?_⟩
 ·simp only [maxLen]; omega
 ·omega
 rw [hdrs_zero]
 refine J.r hX tk 400 (fun _ => rfl) fun bs => ?_
 refine J.turn1 [] rfl (As := [.hp (HP.of (fats (List.replicate m ⟨none, 0, []⟩)))]) (fun h s => Sep.hpOf.2 (Sep.ofAll fun A hA h => by
  unfold fats at hA
  rw [List.map_replicate, List.mem_replicate] at hA
  rw [hA.2]
  exact ⟨rfl, rfl, rfl⟩)) rfl ?_
 refine J.r hX tk 400 (fun _ => rfl) fun b7 => ?_
 refine J.ca hX (by kernel_rfl) (n_Geo p N) [1] 0 rfl rfl rfl rfl rfl rfl (fun _ => rfl) ?_
 rintro v As ⟨rfl, rfl⟩
 refine ⟨_, rfl, trivial, ?_⟩
 refine J.r hX tk 400 (fun _ => rfl) fun b8 => ?_
 refine J.lo (α := (Nat × List FSlot)) (fun z => z.1 ≤ N.blocks ∧ FOk m (V.upB N z.1) z.2) (fun z => [⟨38, .int .i64 z.1, 0, .tt⟩, ⟨37, .int .i64 N.blocks, 0, .tt⟩, ⟨0, .pointer (some ⟨p, 0, none⟩), 2, .tt⟩, ⟨4, .pointer (some ⟨br 0, 0, none⟩), 3, .tt⟩, ⟨6, .pointer (some ⟨bo 0, 0, none⟩), 5, .tt⟩, ⟨7, .pointer (some ⟨bs 0, 0, none⟩), 7, .tt⟩]) [4, 5, 7] (fun z => [.pt (bo 0) 177 (sv0 q (V.upB N z.1)), .pt g 139 (hdrs z.2), .hp (HP.of (fats z.2))]) (fun z => N.blocks - z.1) ((0, List.replicate m ⟨none, 0, []⟩)) (⟨Nat.zero_le _, FOk.zero m⟩) rfl ?_ (fun _ => rfl) fun z hI => ?_
 ·rfl
 obtain ⟨b, Z⟩ := z
 dsimp only at hI ⊢
 obtain ⟨hb, hZ⟩ := hI
 refine J.r hX tk 400 (fun _ => rfl) fun b9 => ?_
 refine J.cond rfl (fun h1 => ?_) (fun h1 => ?_)
 ·simp only [decide_eq_true_eq, Int.ofNat_lt] at h1
  refine J.r hX tk 400 (fun _ => rfl) fun b10 => ?_
  refine J.ca hX (by kernel_rfl) (n_Geo p N) [1] 0 rfl rfl rfl rfl rfl rfl (fun _ => rfl) ?_
  rintro v As ⟨rfl, rfl⟩
  refine ⟨_, rfl, trivial, ?_⟩
  rw [← V.upR_zero] at hZ
  rw [← V.upR_zero]
  refine J.r hX tk 400 (fun _ => rfl) fun b12 => ?_
  refine J.lo (α := (Nat × List FSlot)) (fun z => z.1 ≤ N.pages ∧ FOk m (V.upR N b z.1) z.2) (fun z => [⟨44, .int .i64 z.1, 0, .tt⟩, ⟨43, .int .i64 N.pages, 0, .tt⟩, ⟨8, .int .i64 b, 0, .tt⟩, ⟨38, .int .i64 b, 0, .tt⟩, ⟨37, .int .i64 N.blocks, 0, .tt⟩, ⟨0, .pointer (some ⟨p, 0, none⟩), 2, .tt⟩, ⟨4, .pointer (some ⟨br 0, 0, none⟩), 3, .tt⟩, ⟨6, .pointer (some ⟨bo 0, 0, none⟩), 5, .tt⟩, ⟨7, .pointer (some ⟨bs 0, 0, none⟩), 7, .tt⟩]) [4, 5, 7] (fun z => [.pt (bo 0) 177 (sv0 q (V.upR N b z.1)), .pt g 139 (hdrs z.2), .hp (HP.of (fats z.2))]) (fun z => N.pages - z.1) ((0, Z)) (⟨Nat.zero_le _, hZ⟩) rfl ?_ (fun _ => rfl) fun z hI => ?_
  ·rfl
  clear hZ Z
  obtain ⟨r, Z⟩ := z
  dsimp only at hI ⊢
  obtain ⟨hr, hZ⟩ := hI
  refine J.r hX tk 400 (fun _ => rfl) fun b13 => ?_
  refine J.cond rfl (fun h2 => ?_) (fun h2 => ?_)
  ·simp only [decide_eq_true_eq, Int.ofNat_lt] at h2
   refine J.r hX tk 400 (fun _ => rfl) fun b14 => ?_
   refine J.ca hX (by kernel_rfl) (r_All p N hN hR b r) [1] 0 rfl rfl rfl rfl rfl rfl (fun _ => rfl) ?_
   rintro v As ⟨al, cl, rfl, rfl⟩
   refine ⟨_, rfl, trivial, ?_⟩
   rw [← V.upI_zero] at hZ
   rw [← V.upI_zero]
   refine J.r hX tk 400 (fun _ => rfl) fun b16 => ?_
   refine J.lo (α := (Nat × List FSlot)) (fun z => z.1 ≤ (R.all N b r).length ∧ FOk m (V.upI N b r z.1) z.2) (fun z => [⟨52, .int .i64 z.1, 0, .tt⟩, ⟨51, .int .i64 (R.all N b r).length, 0, .tt⟩, ⟨50, slv al (R.all N b r).length cl, 0, .tt⟩, ⟨9, .int .i64 r, 0, .tt⟩, ⟨44, .int .i64 r, 0, .tt⟩, ⟨43, .int .i64 N.pages, 0, .tt⟩, ⟨8, .int .i64 b, 0, .tt⟩, ⟨38, .int .i64 b, 0, .tt⟩, ⟨37, .int .i64 N.blocks, 0, .tt⟩, ⟨0, .pointer (some ⟨p, 0, none⟩), 2, .tt⟩, ⟨4, .pointer (some ⟨br 0, 0, none⟩), 3, .tt⟩, ⟨6, .pointer (some ⟨bo 0, 0, none⟩), 5, .tt⟩, ⟨7, .pointer (some ⟨bs 0, 0, none⟩), 7, .tt⟩]) [4, 5, 7] (fun z => [.pt (bo 0) 177 (sv0 q (V.upI N b r z.1)), .pt g 139 (hdrs z.2), .hp (HP.of (fats z.2))]) (fun z => (R.all N b r).length - z.1) ((0, Z)) (⟨Nat.zero_le _, hZ⟩) rfl ?_ (fun _ => rfl) fun z hI => ?_
   ·rfl
   clear hZ Z
   obtain ⟨i, Z⟩ := z
   dsimp only at hI ⊢
   obtain ⟨hi, hZ⟩ := hI
   refine J.r hX tk 400 (fun _ => rfl) fun b17 => ?_
   refine J.cond rfl (fun h3 => ?_) (fun h3 => ?_)
   ·simp only [decide_eq_true_eq, Int.ofNat_lt] at h3
    obtain ⟨x, hx⟩ : ∃ x, (R.all N b r)[i]? = some x := ⟨_, List.getElem?_eq_getElem h3⟩
    have hup := V.upI_succ hx
    have hrl := rall_len N hN b r
    have hxb := (fnd_bd (List.mem_of_getElem? hx)).2.2
    have hul := upI_len N hN b r i (by omega) (by omega)
    have hnb := V.nextOf_bd (upI_bd N b r i)
    refine J.know (fun h' s => own_some (c := (al, cl)) (by omega) (s.get (i := 8) rfl)) fun hg => ?_
    obtain ⟨gl, rfl⟩ := hg
    refine J.r hX tk 400 (fun _ => rfl) fun b18 => ?_
    refine J.val hX (fdV x) 0 rfl rfl (fun hg a w he hs => ?_) rfl trivial ?_
    ·exact ownN_run tk rfl rfl he rfl rfl rfl (hs.get (i := 8) rfl) (by rw [show 0 + (i : Int).toNat * 25 = i * 25 from by omega]; exact cellsF_get hx) rfl
    unfold EnBd at hxb
    refine J.r hX tk 400 (fun _ => rfl) fun bf => ?_
    have hn1 : V.nextOf (V.upI N b r (i + 1)) = max (V.nextOf (V.upI N b r i)) (x.en.seq + 1) := by rw [hup, V.nextOf_snoc]
    have hn2 : ((V.upI N b r i).length : Int) + 1 = ((V.upI N b r (i + 1)).length : Int) := by rw [hup, List.length_append]; rfl
    rw [max_if, ← hn1, hn2]
    refine J.r hX tk 400 (fun _ => rfl) fun b19 => ?_
    refine J.plan (.of [0,4,9,12,16,20,25,28,32]) [] [6, 9] (by rw [hX.hP]; kernel_rfl) (by kernel_rfl) ?_
    refine J.r hX tk 400 (fun _ => rfl) fun b20 => ?_
    refine J.cond rfl (fun h4 => ?_) (fun h4 => ?_)
    ·simp only [decide_eq_true_eq] at h4
     obtain ⟨z, hz, hzl⟩ := hZ.get (k := x.en.lpn.toNat) (by omega)
     have hzle := hZ.le hz
     have hZl := hZ.len
     refine J.openAt 7 x.en.lpn.toNat rfl rfl (fats_get hz) rfl ?_
     refine J.r hX tk 400 (fun _ => rfl) fun b22 => ?_
     refine J.plan (.of [0,4,8,13,16,20,25,28,32,36,41,44,48,53,56,61,65,70,74,76,83]) [19,20] [5,6,9] (by rw [hX.hP]; kernel_rfl) (by kernel_rfl) ?_
     refine J.r hX tk 15 (fun _ => rfl) fun b23 => ?_
     refine J.valT hX z.hdr 0 rfl rfl (fun hg a w he hC => load1_run tk rfl rfl he rfl rfl rfl (hC rfl _ (cget_mem (i := 5) rfl)) (hdrs_getI hz)) rfl ?_
     refine J.r hX tk 400 (fun _ => rfl) fun b24 => ?_
     refine J.append hX tk 10 11 0 rfl rfl rfl rfl rfl rfl rfl rfl rfl rfl rfl rfl rfl rfl rfl rfl ?_ ?_ (fun _ => rfl) fun a' c' => ⟨_, (congrArg (fun y => lset _ 10 (ownA _ _ _ _ _ y)) (cellsF_snoc z.l x).symm).trans rfl, ⟨rfl, rfl, rfl, trivial⟩, ?_⟩
     ·simp only [maxLen]; omega
     ·omega
     rw [show z.l.length + 1 = (z.l ++ [x]).length from by simp]
     refine J.r hX tk 400 (fun _ => rfl) fun b25 => ?_
     have hhit := hZ.hit (x := x) (k := x.en.lpn.toNat) (by omega) hz (z' := ⟨a', c', z.l ++ [x]⟩) rfl
     refine J.store1 hX tk 5 rfl rfl rfl rfl rfl rfl rfl rfl rfl rfl rfl rfl rfl ?_ (hdrs (Z.set x.en.lpn.toNat ⟨a', c', z.l ++ [x]⟩)) ?_ rfl (fun _ => rfl) ⟨(by first | exact trivial | (repeat' (first | exact trivial | refine ⟨rfl, ?_⟩))), ?_⟩
     ·rw [show (hdrs Z).length = Z.length from by simp [hdrs]]; omega
     ·rw [show 0 + x.en.lpn.toNat * 1 = x.en.lpn.toNat from by omega]; exact hdrs_set Z _ ⟨a', c', z.l ++ [x]⟩
     refine J.closeAt (A := (FSlot.mk a' c' (z.l ++ [x])).atom) 7 10 x.en.lpn.toNat rfl rfl rfl ?_
     rw [fats_set]
     refine J.r hX tk 400 (fun _ => rfl) fun b26 => ?_
     refine J.nS ((i + 1, Z.set x.en.lpn.toNat ⟨a', c', z.l ++ [x]⟩)) (⟨by dsimp only; omega, by dsimp only; rw [hup]; exact hhit⟩) (by dsimp only; omega) [0, 1, 2, 3, 4, 5, 6, 7, 8] rfl rfl
    ·simp only [decide_eq_false_iff_not] at h4
     have hmiss := hZ.miss (x := x) (by omega)
     refine J.r hX tk 400 (fun _ => rfl) fun b27 => ?_
     refine J.nS ((i + 1, Z)) (⟨by dsimp only; omega, by dsimp only; rw [hup]; exact hmiss⟩) (by dsimp only; omega) [0, 1, 2, 3, 4, 5, 6, 7, 8] rfl rfl
   ·simp only [decide_eq_false_iff_not, Int.ofNat_lt] at h3
    obtain rfl : i = (R.all N b r).length := by omega
    rw [← V.upR_succ] at hZ
    rw [← V.upR_succ]
    refine J.r hX tk 400 (fun _ => rfl) fun b28 => ?_
    refine J.nS ((r + 1, Z)) (⟨by dsimp only; omega, hZ⟩) (by dsimp only; omega) [0, 1, 2, 3, 4, 5, 6, 7] rfl rfl
  ·simp only [decide_eq_false_iff_not, Int.ofNat_lt] at h2
   obtain rfl : r = N.pages := by omega
   rw [← V.upB_succ] at hZ
   rw [← V.upB_succ]
   refine J.r hX tk 400 (fun _ => rfl) fun b30 => ?_
   refine J.nS ((b + 1, Z)) (⟨by dsimp only; omega, hZ⟩) (by dsimp only; omega) [0, 1, 2, 3, 4, 5, 6, 7] rfl rfl
 simp only [decide_eq_false_iff_not, Int.ofNat_lt] at h1
 obtain rfl : b = N.blocks := by omega
 rw [V.upB_all] at hZ
 rw [V.upB_all]
 have hZl := hZ.len
 have hLb : ∀ f ∈ V.all N, EnBd f.en := fun f hf => (all_bd hf).2
 have hLl := all_len N hN
 subst hZl
 refine J.r hX tk 400 (fun _ => rfl) fun b32 => ?_
 refine J.turn1 [] rfl (As := [ownA 38 19 none 0 0 (cellsE []), ownA 3 1 none 0 0 (cellsI []), ownA 38 19 none 0 0 (cellsE [])]) (fun h s => Sep.ofAll fun A hA h => by
  simp only [List.mem_cons, List.not_mem_nil, or_false] at hA
  rcases hA with rfl | rfl | rfl <;> exact ⟨rfl, rfl, rfl⟩) rfl ?_
 refine J.r hX tk 400 (fun _ => rfl) fun b33 => ?_
 refine J.lo (α := (Nat × (Option Nat × Nat) × (Option Nat × Nat) × (Option Nat × Nat))) (fun z => z.1 ≤ Z.length) (fun z => [⟨105, .int .i64 z.1, 0, .tt⟩, ⟨104, .int .i64 Z.length, 0, .tt⟩, ⟨12, slv z.2.2.2.1 (V.goS N (V.all N) n z.1).others.length z.2.2.2.2, 0, .tt⟩, ⟨0, .pointer (some ⟨p, 0, none⟩), 2, .tt⟩, ⟨4, .pointer (some ⟨br 0, 0, none⟩), 3, .tt⟩, ⟨6, .pointer (some ⟨bo 0, 0, none⟩), 5, .tt⟩, ⟨7, .pointer (some ⟨bs 0, 0, none⟩), 7, .tt⟩]) [3, 4, 8, 9, 10] (fun z => [TbA q (V.goS N (V.all N) n z.1).tb, .pt (bo 0) 177 (svL q (slv z.2.1.1 (V.goS N (V.all N) n z.1).torn.length z.2.1.2) 0 (slv z.2.2.1.1 (V.goS N (V.all N) n z.1).held.length z.2.2.1.2) (V.nextOf (V.all N)) (V.all N).length), ownA 38 19 z.2.1.1 (V.goS N (V.all N) n z.1).torn.length z.2.1.2 (cellsE (V.goS N (V.all N) n z.1).torn), ownA 3 1 z.2.2.1.1 (V.goS N (V.all N) n z.1).held.length z.2.2.1.2 (cellsI (V.goS N (V.all N) n z.1).held), ownA 38 19 z.2.2.2.1 (V.goS N (V.all N) n z.1).others.length z.2.2.2.2 (cellsE (V.goS N (V.all N) n z.1).others)]) (fun z => Z.length - z.1) ((0, (none, 0), (none, 0), (none, 0))) (Nat.zero_le _) rfl ?_ (fun _ => rfl) fun z hI => ?_
 ·rfl
 obtain ⟨k, ⟨a1, c1⟩, ⟨a2, c2⟩, ⟨a3, c3⟩⟩ := z
 dsimp only at hI ⊢
 have hgl := V.goS_len N (V.all N) n k
 have hgh := V.goS_held N (V.all N) n k
 refine J.r hX tk 400 (fun _ => rfl) fun b34 => ?_
 refine J.cond rfl (fun h2 => ?_) (fun h2 => ?_)
 ·simp only [decide_eq_true_eq, Int.ofNat_lt] at h2
  obtain ⟨z, hz, hzl⟩ := hZ.get (k := k) h2
  have hzle := hZ.le hz
  have hstep := V.goS_succ N (V.all N) n k
  have hok := V.goS_ok N (V.all N) n k
  have hhl := V.holds_len (V.of (V.all N) k)
  have hol := V.of_len (V.all N) k
  have hsm := V.standOf_mem (l := V.of (V.all N) k)
  generalize hS : V.goS N (V.all N) n k = S at hgl hgh hstep hok
  refine J.r hX tk 400 (fun _ => rfl) fun b35 => ?_
  refine J.ca hX (by kernel_rfl) (v_stands (bs 0) p g Z k z hz (by omega) (by omega)) [6, 5, 7] 0 rfl rfl rfl rfl rfl rfl (fun _ => rfl) ?_
  rintro v As ⟨rfl, rfl⟩
  refine ⟨_, rfl, trivial, ?_⟩
  rw [hzl]
  unfold V.step at hstep
  obtain ⟨f, is, hs⟩ : ∃ f is, V.standOf (V.of (V.all N) k) = (f, is) := ⟨_, _, rfl⟩
  rw [hs] at hsm hstep ⊢
  dsimp only at hsm hstep ⊢
  refine J.r hX tk 400 (fun _ => rfl) fun bf => ?_
  refine J.cond rfl (fun h3 => ?_) (fun h3 => ?_)
  ·simp only [Bool.not_eq_true'] at h3
   subst h3
   rw [if_neg Bool.false_ne_true] at hstep
   rw [← hstep]
   refine J.r hX tk 400 (fun _ => rfl) fun b38 => ?_
   refine J.nS ((k + 1, (a1, c1), (a2, c2), (a3, c3))) (by dsimp only; omega) (by dsimp only; omega) [0, 1, 2, 3, 4, 5, 6, 7, 8, 9, 10] rfl rfl
  simp only [Bool.not_eq_false'] at h3
  subst h3
  rw [if_pos rfl] at hstep
  have hfm : f ∈ V.all N := by have := hsm rfl; unfold V.of at this; exact (List.mem_filter.1 this).1
  obtain ⟨⟨r0, hr0, hr1⟩, hfb⟩ := all_bd hfm
  unfold EnBd at hfb
  refine J.r hX tk 400 (fun _ => rfl) fun b40 => ?_
  refine J.ca hX (by kernel_rfl) (tb_Put q S.tb f.en f.block f.row f.slot f.mask (by omega) hok.bd) [3] 0 rfl rfl rfl rfl rfl rfl (fun _ => rfl) ?_
  rintro v As ⟨rfl, rfl⟩
  refine ⟨_, rfl, trivial, ?_⟩
  refine J.r hX tk 400 (fun _ => rfl) fun b42 => ?_
  refine J.cond rfl (fun h4 => ?_) (fun h4 => ?_)
  ·rw [if_pos h4] at hstep
   have e1 := congrArg Sst.tb hstep
   have e2 := congrArg Sst.torn hstep
   have e3 := congrArg Sst.held hstep
   have e4 := congrArg Sst.others hstep
   dsimp only at e1 e2 e3 e4
   rw [← e1, ← e2, ← e3, ← e4]
   refine J.r hX tk 400 (fun _ => rfl) fun b43 => ?_
   refine J.nS ((k + 1, (a1, c1), (a2, c2), (a3, c3))) (by dsimp only; omega) (by dsimp only; omega) [0, 1, 2, 3, 4, 5, 6, 7, 8, 9, 10] rfl rfl
  rw [if_neg (by rw [h4]; exact Bool.false_ne_true)] at hstep
  refine J.r hX tk 400 (fun _ => rfl) fun b45 => ?_
  refine J.ca hX (by kernel_rfl) (v_last p N hN hR (bs 0) (.slice (some ⟨g, 0, none⟩) Z.length Z.length) f r0 hr0 (by omega)) [1, 6] 0 rfl rfl rfl rfl rfl rfl (fun _ => rfl) ?_
  rintro v As ⟨rfl, rfl⟩
  refine ⟨_, rfl, trivial, ?_⟩
  refine J.r hX tk 400 (fun _ => rfl) fun b47 => ?_
  refine J.cond rfl (fun h5 => ?_) (fun h5 => ?_)
  ·rw [if_pos h5] at hstep
   have e1 := congrArg Sst.tb hstep
   have e2 := congrArg Sst.torn hstep
   have e3 := congrArg Sst.held hstep
   have e4 := congrArg Sst.others hstep
   dsimp only at e1 e2 e3 e4
   refine J.r hX tk 400 (fun _ => rfl) fun b48 => ?_
   refine J.append hX tk 8 12 0 rfl rfl rfl rfl rfl rfl rfl rfl rfl rfl rfl rfl rfl rfl rfl rfl ?_ ?_ (fun _ => rfl) fun a4 c4 => ⟨_, (congrArg (fun y => lset _ 8 (ownA _ _ _ _ _ y)) (cellsE_snoc S.torn f.en)).trans rfl, trivial, ?_⟩
   ·simp only [maxLen]; omega
   ·omega
   rw [show S.torn.length + 1 = (S.torn ++ [f.en]).length from by simp]
   refine J.r hX tk 400 (fun _ => rfl) fun b49 => ?_
   refine J.plan (.of [0,5,8,12,18,23,24,31]) [5,6,7] [4] (by rw [hX.hP]; kernel_rfl) (by kernel_rfl) ?_
   refine J.r hX tk 400 (fun _ => rfl) fun b50 => ?_
   refine J.ca hX (by kernel_rfl) (v_holds (bs 0) p g Z k z hz (by omega) (by omega)) [6, 5, 7] 0 rfl rfl rfl rfl rfl rfl (fun _ => rfl) ?_
   rintro v As ⟨a5, c5, rfl, rfl⟩
   refine ⟨_, rfl, (by first | exact trivial | (repeat' (first | exact trivial | refine ⟨rfl, ?_⟩))), ?_⟩
   rw [hzl]
   refine J.r hX tk 400 (fun _ => rfl) fun b52 => ?_
   refine J.appendO hX tk 9 13 rfl rfl rfl rfl rfl rfl rfl rfl rfl rfl rfl rfl rfl (cellsI_one _) ?_ ?_ (fun _ => rfl) fun a6 c6 => ⟨_, (congrArg (fun y => lset _ 9 (ownA _ _ _ _ _ y)) (cellsI_app S.held (V.holds (V.of (V.all N) k)))).trans rfl, (by first | exact trivial | (repeat' (first | exact trivial | refine ⟨rfl, ?_⟩))), ?_⟩
   ·simp only [maxLen]; omega
   ·omega
   rw [show S.held.length + (V.holds (V.of (V.all N) k)).length = (S.held ++ V.holds (V.of (V.all N) k)).length from by simp]
   rw [← e1, ← e2, ← e3, ← e4]
   refine J.r hX tk 400 (fun _ => rfl) fun b53 => ?_
   refine J.nS ((k + 1, (a4, c4), (a6, c6), (a3, c3))) (by dsimp only; omega) (by dsimp only; omega) [0, 1, 2, 3, 4, 5, 6, 7, 8, 9, 10] rfl rfl
  ·rw [if_neg (by rw [h5]; exact Bool.false_ne_true)] at hstep
   have e1 := congrArg Sst.tb hstep
   have e2 := congrArg Sst.torn hstep
   have e3 := congrArg Sst.held hstep
   have e4 := congrArg Sst.others hstep
   dsimp only at e1 e2 e3 e4
   refine J.r hX tk 400 (fun _ => rfl) fun b55 => ?_
   refine J.append hX tk 10 12 0 rfl rfl rfl rfl rfl rfl rfl rfl rfl rfl rfl rfl rfl rfl rfl rfl ?_ ?_ (fun _ => rfl) fun a4 c4 => ⟨_, (congrArg (fun y => lset _ 10 (ownA _ _ _ _ _ y)) (cellsE_snoc S.others f.en)).trans rfl, trivial, ?_⟩
   ·simp only [maxLen]; omega
   ·omega
   rw [show S.others.length + 1 = (S.others ++ [f.en]).length from by simp]
   rw [← e1, ← e2, ← e3, ← e4]
   refine J.r hX tk 400 (fun _ => rfl) fun b56 => ?_
   refine J.nS ((k + 1, (a1, c1), (a2, c2), (a4, c4))) (by dsimp only; omega) (by dsimp only; omega) [0, 1, 2, 3, 4, 5, 6, 7, 8, 9, 10] rfl rfl
 simp only [decide_eq_false_iff_not, Int.ofNat_lt] at h2
 obtain rfl : k = Z.length := by omega
 have hsc : V.scan N n = ⟨(V.goS N (V.all N) n Z.length).tb, (V.goS N (V.all N) n Z.length).torn ++ (V.goS N (V.all N) n Z.length).others, (V.goS N (V.all N) n Z.length).torn.length, compactI (sortI (V.goS N (V.all N) n Z.length).held), V.nextOf (V.all N), (V.all N).length⟩ := by
  unfold V.scan V.scanOf; rw [hms]
 generalize V.goS N (V.all N) n Z.length = S at hgl hgh hsc
 refine J.r hX tk 400 (fun _ => rfl) fun b58 => ?_
 refine J.appendO hX tk 8 10 rfl rfl rfl rfl rfl rfl rfl rfl rfl rfl rfl rfl rfl (cellsE_one _) ?_ ?_ (fun _ => rfl) fun a6 c6 => ⟨_, (congrArg (fun y => lset _ 8 (ownA _ _ _ _ _ y)) (cellsE_app S.torn S.others)).trans rfl, (by first | exact trivial | (repeat' (first | exact trivial | refine ⟨rfl, ?_⟩))), ?_⟩
 ·simp only [maxLen]; omega
 ·omega
 rw [show S.torn.length + S.others.length = (S.torn ++ S.others).length from by simp]
 refine J.r hX tk 400 (fun _ => rfl) fun b59 => ?_
 refine J.ca hX (by kernel_rfl) (x_SortN a2 S.held.length c2 S.held rfl (by omega)) [9] 0 rfl rfl rfl rfl rfl rfl (fun _ => rfl) ?_
 rintro v As ⟨rfl, rfl⟩
 refine ⟨_, rfl, trivial, ?_⟩
 refine J.r hX tk 400 (fun _ => rfl) fun b61 => ?_
 refine J.ca hX (by kernel_rfl) (x_Compact a2 S.held.length c2 (sortI S.held) (sortI_len _) (by omega)) [9] 0 rfl rfl rfl rfl rfl rfl (fun _ => rfl) ?_
 rintro v As ⟨l', hl', rfl, rfl⟩
 refine ⟨_, rfl, trivial, ?_⟩
 refine J.r hX tk 400 (fun _ => rfl) fun b63 => ?_
 refine J.rt hX tk [1, 3, 8, 9] rfl rfl rfl ?_
 rw [hsc, ← hl']
 exact ⟨q, a6, c6, a2, c2, rfl, rfl⟩
namespace B16
def e1 : En := ⟨2, 5, 1, 1 :: List.replicate 15 0⟩
def e2 : En := ⟨2, 4, 1, 2 :: List.replicate 15 0⟩
def e3 : En := ⟨1, 8, 2, zeros16⟩
def w1 : En := ⟨4, 1, 0, zeros16⟩
def w2 : En := ⟨5, 2, 0, zeros16⟩
def w3 : En := ⟨4, 3, 0, zeros16⟩
def N0 : Nand := Nand.new 3 8 2
def N1 : Nand := (R.write N0 1 0 7 [e1, B9.pad]).1
def N2 : Nand := (R.write N1 2 0 7 [e2, e3]).1
theorem G0 : N0.Gd 100 0 := Nand.Gd.new 3 8 2 rfl 100 (by decide)
theorem G1 : N1.Gd 92 0 := write_Gd (by decide) G0
theorem G2 : N2.Gd 84 0 := write_Gd (by decide) G1
theorem off2 : N2.off = false := by kernel_rfl
def L : List Fnd := [⟨e1, 1, 0, 0, 7, true, false⟩, ⟨e2, 2, 0, 0, 7, true, false⟩, ⟨e3, 2, 0, 1, 7, true, false⟩]
def T : Tb := ⟨3, [(1, ⟨2, 0, 1, 7, 8, 2⟩), (2, ⟨1, 0, 0, 7, 5, 1⟩)], [(2, 1), (1, 1)], 9⟩
theorem h_all : V.all N2 = L := by kernel_rfl
theorem h_go : V.goS N2 L 3 3 = ⟨T, [], [], []⟩ := by kernel_rfl
theorem h_size : V.size 3 = 3 := by kernel_rfl
theorem h_next : V.nextOf L = 9 := by kernel_rfl
theorem h_scan : V.scan N2 3 = ⟨T, [], 0, [], 9, 3⟩ := by
 unfold V.scan
 rw [h_all]
 unfold V.scanOf
 rw [h_size, h_go, h_next]
 have : compactI (sortI []) = [] := normI_nil
 dsimp only
 rw [this]
 rfl
end B16
end Go.Proofs.YtdocmcapegcoeaaGreat
namespace Go.Proofs.YtdocmcapegcoeaaGreat
open Go Go.RowKit
theorem l11_Begun : Fn Tryz.prog 139 [] [] (fun v As => v = .bool true ∧ As = []) := by
 refine Fn.enter [] Tryz.func139 rfl rfl rfl fun X F hX => ?_
 refine J.r hX tk 400 (fun _ => rfl) fun b1 => ?_
 refine J.ca hX (by kernel_rfl) (l11_begun) [] 0 rfl rfl rfl rfl rfl rfl (fun _ => rfl) ?_
 rintro v As ⟨rfl, rfl⟩
 refine ⟨_, rfl, trivial, ?_⟩
 refine J.r hX tk 400 (fun _ => rfl) fun b3 => ?_
 refine J.rt hX tk [] rfl rfl rfl ?_
 exact ⟨rfl, rfl⟩
open B16
theorem l16_begun : Fn Tryz.prog 99 [] [] (fun v As => v = .bool true ∧ As = []) := by
 refine Fn.enter [] Tryz.func99 rfl rfl rfl fun X F hX => ?_
 refine J.r hX tk 400 (fun _ => rfl) fun b4 => ?_
 refine J.ca hX (by kernel_rfl) (n_New 3 8 2 rfl) [] 0 rfl rfl rfl rfl rfl rfl (fun _ => rfl) ?_
 rintro v As ⟨q, rfl, rfl⟩
 refine ⟨_, rfl, trivial, ?_⟩
 refine J.r hX tk 400 (fun _ => rfl) fun b6 => ?_
 refine J.cond rfl (fun h => absurd h (by decide)) (fun _ => ?_)
 refine J.r hX tk 400 (fun _ => rfl) fun bx => ?_
 refine J.ca hX (by kernel_rfl) (r_Write q N0 (.pt (bx 0) 38 (cellsE [e1, B9.pad])) 1 0 7 (some ⟨bx 0, 0, none⟩) 2 2 0 [e1, B9.pad] (pt_rd _ _ _ _ _ rfl) rfl (by decide) (G0.less (by decide) (Nat.le_refl _))) [1, 2] 0 rfl rfl rfl rfl rfl rfl (fun _ => rfl) ?_
 rintro v As ⟨rfl, rfl⟩
 refine ⟨_, rfl, trivial, ?_⟩
 refine J.r hX tk 400 (fun _ => rfl) fun by_ => ?_
 refine J.ca hX (by kernel_rfl) (r_Write q N1 (.pt (by_ 0) 38 (cellsE [e2, e3])) 2 0 7 (some ⟨by_ 0, 0, none⟩) 2 2 0 [e2, e3] (pt_rd _ _ _ _ _ rfl) rfl (by decide) (G1.less (by decide) (Nat.le_refl _))) [1, 3] 0 rfl rfl rfl rfl rfl rfl (fun _ => rfl) ?_
 rintro v As ⟨rfl, rfl⟩
 refine ⟨_, rfl, trivial, ?_⟩
 refine J.r hX tk 400 (fun _ => rfl) fun b9 => ?_
 refine J.ca hX (by kernel_rfl) (v_Scan q N2 G2.ok G2.room off2 3) [1] 0 rfl rfl rfl rfl rfl rfl (fun _ => rfl) ?_
 rintro v As ⟨r, a1, c1, a2, c2, rfl, rfl⟩
 refine ⟨_, rfl, trivial, ?_⟩
 rw [h_scan]
 refine J.r hX tk 400 (fun _ => rfl) fun b11 => ?_
 refine J.cond rfl (fun h => absurd h (by decide)) (fun _ => ?_)
 refine J.r hX tk 400 (fun _ => rfl) fun b13 => ?_
 refine J.ca hX (by kernel_rfl) (tb_Get r T 2) [4] 0 rfl rfl rfl rfl rfl rfl (fun _ => rfl) ?_
 rintro v As ⟨rfl, rfl⟩
 refine ⟨_, rfl, trivial, ?_⟩
 rw [show Tb.look T.at_ 2 = some ⟨1, 0, 0, 7, 5, 1⟩ from rfl, Option.getD_some, Option.isSome_some]
 refine J.r hX tk 400 (fun _ => rfl) fun b15 => ?_
 refine J.ca hX (by kernel_rfl) (d_New) [] 0 rfl rfl rfl rfl rfl rfl (fun _ => rfl) ?_
 rintro v As ⟨d, rfl, rfl⟩
 refine ⟨_, rfl, trivial, ?_⟩
 refine J.r hX tk 400 (fun _ => rfl) fun b17 => ?_
 refine J.ca hX (by kernel_rfl) (d_Put d [] (by decide) w1) [9] 0 rfl rfl rfl rfl rfl rfl (fun _ => rfl) ?_
 rintro v As ⟨rfl, rfl⟩
 refine ⟨_, rfl, trivial, ?_⟩
 rw [show dkPut [] w1 = [w1] from rfl]
 refine J.r hX tk 400 (fun _ => rfl) fun b19 => ?_
 refine J.ca hX (by kernel_rfl) (d_Put d [w1] (by decide) w2) [9] 0 rfl rfl rfl rfl rfl rfl (fun _ => rfl) ?_
 rintro v As ⟨rfl, rfl⟩
 refine ⟨_, rfl, trivial, ?_⟩
 rw [show dkPut [w1] w2 = [w1, w2] from rfl]
 refine J.r hX tk 400 (fun _ => rfl) fun b21 => ?_
 refine J.ca hX (by kernel_rfl) (d_Put d [w1, w2] (by decide) w3) [9] 0 rfl rfl rfl rfl rfl rfl (fun _ => rfl) ?_
 rintro v As ⟨rfl, rfl⟩
 refine ⟨_, rfl, trivial, ?_⟩
 rw [show dkPut [w1, w2] w3 = [w2, w3] from rfl]
 refine J.r hX tk 400 (fun _ => rfl) fun b23 => ?_
 refine J.ca hX (by kernel_rfl) (d_First d [w2, w3] (by decide) 5) [9] 0 rfl rfl rfl rfl rfl rfl (fun _ => rfl) ?_
 rintro v As ⟨a3, c3, rfl, rfl⟩
 refine ⟨_, rfl, trivial, ?_⟩
 rw [show dkN [w2, w3] 5 = 2 from rfl, show [w2, w3].take 2 = [w2, w3] from rfl]
 refine J.know (fun h' s => own_some (c := (a3, c3)) (by decide) (s.get (i := 10) rfl)) fun hg => ?_
 obtain ⟨ga, rfl⟩ := hg
 refine J.know (fun h' s => ownP_cap (show ownP _ _ (some ga) 2 c3 _ _ from s.get (i := 10) rfl)) fun hcap => ?_
 refine J.r hX tk 400 (fun _ => rfl) fun b25 => ?_
 refine J.ca hX (by kernel_rfl) (d_Get d [w2, w3] (by decide) 4) [9] 0 rfl rfl rfl rfl rfl rfl (fun _ => rfl) ?_
 rintro v As ⟨rfl, rfl⟩
 refine ⟨_, rfl, trivial, ?_⟩
 rw [show dkGet [w2, w3] 4 = (w3, true) from rfl]
 refine J.r hX tk 400 (fun _ => rfl) fun b27 => ?_
 refine J.ca hX (by kernel_rfl) (l11_Begun) [] 0 rfl rfl rfl rfl rfl rfl (fun _ => rfl) ?_
 rintro v As ⟨rfl, rfl⟩
 refine ⟨_, rfl, trivial, ?_⟩
 refine J.r hX tk 400 (fun _ => rfl) fun b29 => ?_
 refine J.ca hX (by kernel_rfl) (l13_Begun) [] 0 rfl rfl rfl rfl rfl rfl (fun _ => rfl) ?_
 rintro v As ⟨rfl, rfl⟩
 refine ⟨_, rfl, trivial, ?_⟩
 refine J.r hX tk 400 (fun _ => rfl) fun b31 => ?_
 refine J.ca hX (by kernel_rfl) (tb_Len r T) [4] 0 rfl rfl rfl rfl rfl rfl (fun _ => rfl) ?_
 rintro v As ⟨rfl, rfl⟩
 refine ⟨_, rfl, trivial, ?_⟩
 refine J.r hX tk 400 (fun _ => rfl) fun b33 => ?_
 refine J.val hX (.int .i64 5) 0 rfl rfl (fun hg a w he hw => own1_run tk rfl rfl he hg rfl rfl (hw.get (i := 10) rfl) rfl) rfl trivial ?_
 refine J.r hX tk 400 (fun _ => rfl) fun b34 => ?_
 have hRd : Rd (ownA 38 19 (some ga) 2 c3 (cellsE [w2, w3])) (some ⟨ga, 0, none⟩) 19 1 (cellsE [w2]) := (own_rd 38 19 (some ga) 2 c3 (cellsE [w2, w3])).take 1 (by decide)
 refine J.r hX tk 400 (fun _ => rfl) fun b35 => ?_
 refine J.ca hX (by kernel_rfl) (d_Done d [w2, w3] (by decide) (ownA 38 19 (some ga) 2 c3 (cellsE [w2, w3])) (some ⟨ga, 0, none⟩) 1 c3 [w2] hRd rfl (by decide)) [9, 10] 0 rfl rfl rfl rfl rfl rfl (fun _ => rfl) ?_
 rintro v As ⟨rfl, rfl⟩
 refine ⟨_, rfl, trivial, ?_⟩
 rw [show dkDone [w2, w3] [w2] = [w3] from rfl]
 refine J.r hX tk 400 (fun _ => rfl) fun b36 => ?_
 refine J.ca hX (by kernel_rfl) (d_Len d [w3]) [9] 0 rfl rfl rfl rfl rfl rfl (fun _ => rfl) ?_
 rintro v As ⟨rfl, rfl⟩
 refine ⟨_, rfl, trivial, ?_⟩
 refine J.r hX tk 400 (fun _ => rfl) fun b38 => ?_
 refine J.rt hX tk [] rfl rfl rfl ?_
 exact ⟨rfl, rfl⟩
end Go.Proofs.YtdocmcapegcoeaaGreat
namespace Go.Proofs.YtdocmcapegcoeaaGreat
end Go.Proofs.YtdocmcapegcoeaaGreat
namespace Go.Proofs.YtdocmcapegcoeaaGreat
open Go
namespace Bt
end Bt
namespace K
end K
namespace S
end S
end Go.Proofs.YtdocmcapegcoeaaGreat
namespace Go.Proofs.YtdocmcapegcoeaaGreat
open Go Go.RowKit
section
variable {P : Program} {T : Tab} {E : Env} {n : Nat} {ac : Act} {w : World}
end
theorem Rd.drop {A : Atom} {b o size n : Nat} {xs : List Value} (h : Rd A (some ⟨b, o, none⟩) size n xs) (k : Nat) (hk : k ≤ n) : Rd A (some ⟨b, o + k * size, none⟩) size (n - k) (xs.drop (k * size)) := by
 intro h' s
 obtain ⟨h0, h1⟩ := h h' s
 have hle : k * size ≤ n * size := Nat.mul_le_mul_right _ hk
 refine ⟨by rw [List.length_drop, h0, Nat.sub_mul], fun hk0 => ?_⟩
 obtain ⟨b', o', cs, ty, fr, e1, e2, e3⟩ := h1 (by omega)
 simp only [Option.some.injEq, Addr.mk.injEq, and_true] at e1
 obtain ⟨rfl, rfl⟩ := e1
 refine ⟨b, _, cs, ty, fr, rfl, e2, ?_⟩
 rw [← e3, List.drop_take, List.drop_drop, Nat.sub_mul]
section
variable {X : Cx} {P : Program} {T : Tab} {K : List KI} {E : Env} {L : List Atom} {N : Nat} {F : HP} {Post : Value → List Atom → Prop} {rs : List ResultVar}
end
namespace F9
end F9
namespace T2
end T2
end Go.Proofs.YtdocmcapegcoeaaGreat
