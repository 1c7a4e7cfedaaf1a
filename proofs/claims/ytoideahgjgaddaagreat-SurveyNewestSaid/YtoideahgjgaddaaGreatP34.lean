/- Helpers of the proofs about ostrakonlaw11, proved here: Lnw. No condition. -/
import Derived.Test.YtoideahgjgaddaaGreatP27
set_option linter.unusedVariables false
set_option linter.unusedSimpArgs false
set_option linter.unusedSectionVars false
set_option linter.unnecessarySimpa false
/- Walks: the sentence SurveyNewest. -/
namespace Go.Proofs.YtoideahgjgaddaaGreat
open Go Go.RowKit
/-- a sequence, as the sentence makes it -/
def sqI (x : Int) : Int := 1 + IntKind.i64.wrap ((BitVec.ofInt IntKind.i64.bits x &&& BitVec.ofInt IntKind.i64.bits 63).toNat : Int)
theorem and63 (x : Int) : 0 ≤ IntKind.i64.wrap ((BitVec.ofInt IntKind.i64.bits x &&& BitVec.ofInt IntKind.i64.bits 63).toNat : Int) ∧ IntKind.i64.wrap ((BitVec.ofInt IntKind.i64.bits x &&& BitVec.ofInt IntKind.i64.bits 63).toNat : Int) ≤ 63 := by
  have h : (BitVec.ofInt IntKind.i64.bits x &&& BitVec.ofInt IntKind.i64.bits 63).toNat ≤ 63 := by
    rw [BitVec.toNat_and]
    have : (BitVec.ofInt IntKind.i64.bits 63).toNat = 63 := by decide
    rw [this]
    exact Nat.and_le_right
  generalize (BitVec.ofInt IntKind.i64.bits x &&& BitVec.ofInt IntKind.i64.bits 63).toNat = n at h
  have e : IntKind.i64.wrap (n : Int) = n := by
    simp only [IntKind.wrap, IntKind.bits, IntKind.signed]
    have h1 : (n : Int) % 2 ^ 64 = n := Int.emod_eq_of_lt (by omega) (by omega)
    simp [h1]
    omega
  rw [e]; omega
theorem nw_Gd {N0 : Nand} (f : Nat → Int) (hs : ∀ i, 0 ≤ f i ∧ f i ≤ 1099511627775) : ∀ i k, N0.Gd (8 * i + k) 0 → (nwN N0 f i).Gd k 0
  | 0, k, h => h.less (by omega) (Nat.le_refl _)
  | i + 1, k, h => write_Gd (padL_data (one_fit (FitE.mk' (by decide) (hs i)))) (nw_Gd f hs i (8 + k) (h.less (by omega) (Nat.le_refl _)))
theorem nwTop_le {f : Nat → Int} (hs : ∀ i, f i ≤ 64) : ∀ i, (nwTop f i).1 ≤ 64
  | 0 => by show (0 : Int) ≤ 64; decide
  | i + 1 => by
    have := nwTop_le hs i
    show (if f i > (nwTop f i).1 then (f i, ((i : Nat) : Int)) else nwTop f i).1 ≤ 64
    split
    · exact hs i
    · exact this
set_option maxRecDepth 20000 in
theorem s_SurveyNewest (g0 g1 g2 : Int) (A : Atom) (ao : Option Addr) (no co : Nat) (xs : List Int) (hA : Rd A ao 1 no (xs.flatMap fun x => [Value.int .i64 x])) (hlo : xs.length = no) (hdo : ∀ x ∈ xs, -9223372036854775808 ≤ x ∧ x ≤ 9223372036854775807) :
    Fn Tryz.prog 8 [.agg #[.int .i64 g0, .int .i64 g1, .int .i64 g2], .slice ao no co] [A] (fun v As => v = .bool true ∧ As = [A]) := by
  rw [cellsI_flat] at hA
  refine Fn.enter [0, 0] Tryz.func8 rfl rfl rfl fun X F hX => ?_
  refine J.r hX tab_ok 400 (fun _ => rfl) fun bb => ?_
  refine J.r hX tab_ok 400 (fun _ => rfl) fun b1 => ?_
  refine J.ca hX (by kernel_rfl) (l16_begun) [] 0 rfl rfl rfl rfl rfl rfl (fun _ => rfl) ?_
  rintro v As ⟨rfl, rfl⟩
  refine ⟨_, rfl, trivial, ?_⟩
  refine J.r hX tab_ok 400 (fun _ => rfl) fun b2 => ?_
  refine J.cond rfl (fun h => absurd h (by decide)) (fun _ => ?_)
  refine J.r hX tab_ok 400 (fun _ => rfl) fun b3 => ?_
  refine J.r hX tab_ok 400 (fun _ => rfl) fun b4 => ?_
  refine J.ca hX (by kernel_rfl) (l6_Geo g0 g1 g2) [] 0 rfl rfl rfl rfl rfl rfl (fun _ => rfl) ?_
  rintro v As ⟨D, B, P, rfl, hD, hB, hP, rfl⟩
  refine ⟨_, rfl, trivial, ?_⟩
  have hgm : geoMay D B P = true := by simp [geoMay]; omega
  refine J.r hX tab_ok 400 (fun _ => rfl) fun b5 => ?_
  refine J.r hX tab_ok 400 (fun _ => rfl) fun b6 => ?_
  refine J.ca hX (by kernel_rfl) (n_New D B P hgm) [] 0 rfl rfl rfl rfl rfl rfl (fun _ => rfl) ?_
  rintro v As ⟨q, rfl, rfl⟩
  refine ⟨_, rfl, trivial, ?_⟩
  have G0 : (Nand.new D B P).Gd 1000 0 := Nand.Gd.new D B P hgm 1000 (by decide)
  have hpw := pow_bd D hD.2
  obtain ⟨f, hf⟩ : ∃ f : Nat → Int, ∀ i, f i = sqI (xs.getD i 0) := ⟨_, fun _ => rfl⟩
  have hs : ∀ i, 1 ≤ f i ∧ f i ≤ 64 := fun i => by rw [hf]; have := and63 (xs.getD i 0); unfold sqI; omega
  have hs0 : ∀ i, 0 ≤ f i ∧ f i ≤ 1099511627775 := fun i => by have := hs i; omega
  have hI0 := nw_inv (N0 := Nand.new D B P) (new_calm D B P) (fun b i => ⟨rfl, rfl⟩) hD hB.2 (show 0 < P by omega) f hs0
  have hGd := fun i (hi : i ≤ B) => nw_Gd (N0 := Nand.new D B P) f hs0 i 800 (G0.less (by omega) (Nat.le_refl _))
  refine J.r hX tab_ok 400 (fun _ => rfl) fun b7 => ?_
  rw [geo_all D hD.2]
  refine J.r hX tab_ok 400 (fun _ => rfl) fun b8 => ?_
  refine J.lo (α := (Nat × Int × Int)) (fun z => z.1 ≤ no ∧ z.1 ≤ B ∧ z.2 = nwTop f z.1) (fun z => [⟨10, .int .i64 z.1, 0, .tt⟩, ⟨8, .int .i64 z.2.1, 0, .tt⟩, ⟨9, .int .i64 z.2.2, 0, .tt⟩, ⟨7, .int .i64 (mAll D), 0, .tt⟩, ⟨6, .pointer (some ⟨q, 0, none⟩), 0, .tt⟩, ⟨2, .pointer (some ⟨bb 0, 0, none⟩), 3, .tt⟩, ⟨1, .slice ao no co, 0, .tt⟩]) [3] (fun z => [NandA q (nwN (Nand.new D B P) f z.1)]) (fun z => no - z.1) ((0, 0, 0)) (⟨Nat.zero_le _, Nat.zero_le _, rfl⟩) rfl ?_ (fun _ => rfl) fun z hI => ?_
  · rfl
  obtain ⟨i, top, pl⟩ := z
  dsimp only at hI ⊢
  obtain ⟨hi1, hi2, htop⟩ := hI
  obtain ⟨hNI, hw⟩ := hI0 i hi2
  have hG := hGd i hi2
  refine J.r hX tab_ok 400 (fun _ => rfl) fun b9 => ?_
  refine J.cond rfl (fun h1 => ?_) (fun h1 => ?_)
  · simp only [Bool.and_eq_true, decide_eq_true_eq, Int.ofNat_lt] at h1
    obtain ⟨h1, h2⟩ := h1
    have hw := hw h2
    obtain ⟨x, hx⟩ : ∃ x, xs[i]? = some x := ⟨_, List.getElem?_eq_getElem (by omega)⟩
    have hsx := and63 x
    have hfi : 1 + IntKind.i64.wrap ((BitVec.ofInt IntKind.i64.bits x &&& BitVec.ofInt IntKind.i64.bits 63).toNat : Int) = f i := by rw [hf, List.getD_eq_getElem?_getD, hx]; rfl
    refine J.know (p := ∃ g o, ao = some ⟨g, o, none⟩) (fun h' s => Rd.addr (hA _ (s.get (i := 1) rfl)) (by omega)) fun hk => ?_
    obtain ⟨gm, om, rfl⟩ := hk
    refine J.r hX tab_ok 400 (fun _ => rfl) fun b10 => ?_
    refine J.val hX (.int .i64 x) 0 rfl rfl (fun hg aa w he hw => rd1_run tab_ok rfl rfl he rfl rfl rfl (hA _ (hw.get (i := 1) rfl)) (by omega) (j := i) (by omega) (cellsI_get hx)) rfl trivial ?_
    refine J.r hX tab_ok 3 (fun _ => rfl) fun b11 => ?_
    rw [hfi]
    refine J.r hX tab_ok 400 (fun _ => rfl) fun b12 => ?_
    refine J.plan (.of [0,4,8,12,17,20,24,30,34,38,42,44,48,52,56,60]) [15] [2] (by rw [hX.hP]; kernel_rfl) (by kernel_rfl) ?_
    refine J.r hX tab_ok 400 (fun _ => rfl) fun b13 => ?_
    refine J.r hX tab_ok 400 (fun _ => rfl) fun b14 => ?_
    refine J.ca hX (by kernel_rfl) (l16_entry 2 (f i)) [] 0 rfl rfl rfl rfl rfl rfl (fun _ => rfl) ?_
    rintro v As ⟨rfl, rfl⟩
    refine ⟨_, rfl, (by first | exact trivial | (repeat' (first | exact trivial | refine ⟨rfl, ?_⟩))), ?_⟩
    refine J.r hX tab_ok 400 (fun _ => rfl) fun bl => ?_
    refine J.closeOwn (e := 45) (size := 19) (n := 1) (cap := 1) (xs := cellsE [enE 2 (f i)]) 4 rfl rfl rfl (Nat.le_refl _) (by decide) rfl rfl rfl ?_
    rw [show ((D : Int) - 1) = ((D - 1 : Nat) : Int) from by omega]
    refine J.r hX tab_ok 400 (fun _ => rfl) fun b15 => ?_
    refine J.ca hX (by kernel_rfl) (l16_pads (some (bl 0)) 1 1 (D - 1) [enE 2 (f i)] rfl (by omega) (by omega)) [4] 0 rfl rfl rfl rfl rfl rfl (fun _ => rfl) ?_
    rintro v As ⟨a', c', rfl, rfl⟩
    refine ⟨_, rfl, (by first | exact trivial | (repeat' (first | exact trivial | refine ⟨rfl, ?_⟩))), ?_⟩
    refine J.r hX tab_ok 400 (fun _ => rfl) fun b16 => ?_
    refine J.r hX tab_ok 400 (fun _ => rfl) fun b17 => ?_
    refine J.ca hX (by kernel_rfl) (r_Write q (nwN (Nand.new D B P) f i) (ownA 45 19 a' (D - 1) c' (cellsE (padL (D - 1) [enE 2 (f i)]))) i 0 (mAll D) (oad a') (D - 1) c' 0 (padL (D - 1) [enE 2 (f i)]) (own_rd _ _ a' _ _ _) (padL_len (show 1 ≤ D - 1 by omega)) (padL_data (one_fit (FitE.mk' (by decide) (hs0 i)))) (hG.less (by decide) (Nat.le_refl _))) [3, 4] 0 rfl rfl rfl rfl rfl rfl (fun _ => rfl) ?_
    rintro v As ⟨rfl, rfl⟩
    refine ⟨_, rfl, (by first | exact trivial | (repeat' (first | exact trivial | refine ⟨rfl, ?_⟩))), ?_⟩
    have hw : (R.write (nwN (Nand.new D B P) f i) i 0 (mAll D) (padL (D - 1) [enE 2 (f i)])).2.2 = 0 := hw
    have hN1 : (R.write (nwN (Nand.new D B P) f i) i 0 (mAll D) (padL (D - 1) [enE 2 (f i)])).1 = nwN (Nand.new D B P) f (i + 1) := rfl
    rw [hw, hN1]
    refine J.r hX tab_ok 400 (fun _ => rfl) fun b18 => ?_
    refine J.cond rfl (fun h => absurd h (by decide)) (fun _ => ?_)
    refine J.r hX tab_ok 400 (fun _ => rfl) fun b19 => ?_
    refine J.cond rfl (fun h4 => ?_) (fun h4 => ?_)
    · have ht : nwTop f (i + 1) = (f i, (i : Int)) := by
        show (if f i > (nwTop f i).1 then (f i, ((i : Nat) : Int)) else nwTop f i) = _
        rw [← htop, if_pos (of_decide_eq_true h4)]
      refine J.r hX tab_ok 400 (fun _ => rfl) fun b20 => ?_
      refine J.r hX tab_ok 400 (fun _ => rfl) fun b21 => ?_
      refine J.nS ((i + 1, f i, i)) (⟨by dsimp only; omega, by dsimp only; omega, ht.symm⟩) (by dsimp only; omega) [0, 1, 2, 3] rfl rfl
    · have ht : nwTop f (i + 1) = (top, pl) := by
        show (if f i > (nwTop f i).1 then (f i, ((i : Nat) : Int)) else nwTop f i) = _
        rw [← htop, if_neg (of_decide_eq_false h4)]
      refine J.r hX tab_ok 400 (fun _ => rfl) fun b22 => ?_
      refine J.r hX tab_ok 400 (fun _ => rfl) fun b23 => ?_
      refine J.nS ((i + 1, top, pl)) (⟨by dsimp only; omega, by dsimp only; omega, ht.symm⟩) (by dsimp only; omega) [0, 1, 2, 3] rfl rfl
  obtain ⟨l1, l2, l3, l4⟩ := nw_law hNI hi2 (show 0 < P by omega) (fun i => (hs i).1)
  have htp := (nw_top (D := D) (fun i => (hs i).1) i).2.2
  refine J.r hX tab_ok 400 (fun _ => rfl) fun b24 => ?_
  refine J.r hX tab_ok 400 (fun _ => rfl) fun b25 => ?_
  refine J.ca hX (by kernel_rfl) (v_Scan q (nwN (Nand.new D B P) f i) hG.ok hG.room hNI.calm.off 5) [3] 0 rfl rfl rfl rfl rfl rfl (fun _ => rfl) ?_
  rintro v As ⟨q1, a1, c1, a2, c2, rfl, rfl⟩
  refine ⟨_, rfl, trivial, ?_⟩
  have htl := nwTop_le (fun i => (hs i).2) i
  have hds : (Nand.new D B P).dies = D := rfl
  rw [hds] at l4
  rw [← htop] at l1 l4 htp htl
  dsimp only at htl
  generalize V.scan (nwN (Nand.new D B P) f i) 5 = S at l1 l2 l3 l4
  obtain ⟨tb, torn, first, held, next, pages⟩ := S
  dsimp only at l1 l2 l3 l4
  subst l1 l2 l3
  refine J.r hX tab_ok 400 (fun _ => rfl) fun bs => ?_
  refine J.r hX tab_ok 400 (fun _ => rfl) fun b26 => ?_
  refine J.cond rfl (fun h => absurd h (by decide)) (fun _ => ?_)
  refine J.r hX tab_ok 400 (fun _ => rfl) fun b27 => ?_
  refine J.r hX tab_ok 400 (fun _ => rfl) fun b28 => ?_
  refine J.ca hX (by kernel_rfl) (tb_Get q1 tb 2) [4] 0 rfl rfl rfl rfl rfl rfl (fun _ => rfl) ?_
  rintro v As ⟨rfl, rfl⟩
  refine ⟨_, rfl, trivial, ?_⟩
  rw [l4]
  by_cases hz : i = 0
  · rw [if_pos hz] at htp ⊢
    obtain ⟨h5, _⟩ := htp
    dsimp only at h5
    subst h5
    refine J.r hX tab_ok 400 (fun _ => rfl) fun b29 => ?_
    refine J.rt hX tab_ok [1] rfl rfl rfl ?_
    exact ⟨rfl, rfl⟩
  · rw [if_neg hz] at htp ⊢
    obtain ⟨h5, _⟩ := htp
    dsimp only at h5
    refine J.r hX tab_ok 400 (fun _ => rfl) fun b30 => ?_
    refine J.rt hX tab_ok [1] rfl rfl rfl ?_
    refine ⟨?_, rfl⟩
    have h6 : decide (top > 0) = true := decide_eq_true h5
    simp [h6]
end Go.Proofs.YtoideahgjgaddaaGreat
