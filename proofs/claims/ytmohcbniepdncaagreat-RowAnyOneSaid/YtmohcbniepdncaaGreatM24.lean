/- Helpers of the proofs about ostrakonlaw11, proved here: Ln. No condition. -/
import Derived.Test.YtmohcbniepdncaaGreatM22
import Derived.Test.YtmohcbniepdncaaGreatM23
set_option linter.unusedVariables false
set_option linter.unusedSimpArgs false
set_option linter.unusedSectionVars false
set_option linter.unnecessarySimpa false
namespace Go.Proofs.YtmohcbniepdncaaGreat
open Go Go.RowKit
theorem spot_has (m : Int) (d : Nat) : decide (spotI (dI m) (d : Int) ≥ 0) = L.has m (d : Nat) := by
  have hmem : (d : Int) ∈ dI m ↔ L.has m (d : Nat) = true := by
    unfold dI dsk
    constructor
    · intro h
      obtain ⟨k, hk, e⟩ := List.mem_map.1 h
      have : k = d := by omega
      subst this
      exact (List.mem_filter.1 hk).2
    · intro h
      have h8 := (L.has_lt m d h).2.1
      exact List.mem_map.2 ⟨d, List.mem_filter.2 ⟨List.mem_range.2 (by omega), h⟩, rfl⟩
  have hsp : ∀ l : List Int, decide (spotI l (d : Int) ≥ 0) = decide ((d : Int) ∈ l) := fun l => by
    induction l with
    | nil => rfl
    | cons x l ih =>
      unfold spotI
      by_cases h : x = (d : Int)
      · rw [if_pos h, decide_eq_true (by decide : (0 : Int) ≥ 0), decide_eq_true (by rw [h]; exact List.mem_cons_self)]
      · rw [if_neg h]
        by_cases h2 : (d : Int) ∈ l
        · rw [decide_eq_true h2] at ih
          have := of_decide_eq_true ih
          rw [if_neg (by omega), decide_eq_true (by omega), decide_eq_true (List.mem_cons_of_mem _ h2)]
        · rw [decide_eq_false h2] at ih
          have := of_decide_eq_false ih
          rw [if_pos (by omega), decide_eq_false (by omega), decide_eq_false (by
            intro hm
            rcases List.mem_cons.1 hm with e | e
            · exact h e.symm
            · exact h2 e)]
  rw [hsp, decide_eq_decide.2 hmem]
  exact Bool.decide_coe _
set_option maxRecDepth 20000 in
theorem s_RowAnyOne (g0 g1 g2 bl mk di ki xx : Int) (A : Atom) (al : Option Addr) (nl cl : Nat) (l : List En) (hAl : Rd A al 19 nl (cellsE l)) (hll : l.length = nl) (hcl : nl ≤ cl) (hdl : ∀ s ∈ l, s.data.length = 16) :
    Fn Tryz.prog 4 [.agg #[.int .i64 g0, .int .i64 g1, .int .i64 g2], .int .i64 bl, .int .i64 mk, .slice al nl cl, .int .i64 di, .int .i64 ki, .int .i64 xx] [A] (fun v As => v = .bool true ∧ As = [A]) := by
  refine Fn.enter [0, 0, 0, 0, 0, 0, 0] Tryz.func4 rfl rfl rfl fun X F hX => ?_
  refine J.r hX tab_ok 400 (fun _ => rfl) fun bb => ?_
  refine J.r hX tab_ok 400 (fun _ => rfl) fun b1 => ?_
  refine J.ca hX (by kernel_rfl) (l11_begun) [] 0 rfl rfl rfl rfl rfl rfl (fun _ => rfl) ?_
  rintro v As ⟨rfl, rfl⟩
  refine ⟨_, rfl, trivial, ?_⟩
  refine J.r hX tab_ok 400 (fun _ => rfl) fun b2 => ?_
  refine J.cond rfl (fun h => absurd h (by decide)) (fun _ => ?_)
  refine J.r hX tab_ok 400 (fun _ => rfl) fun b3 => ?_
  refine J.r hX tab_ok 400 (fun _ => rfl) fun b4 => ?_
  refine J.ca hX (by kernel_rfl) (l6_Geo g0 g1 g2) [] 0 rfl rfl rfl rfl rfl rfl (fun _ => rfl) ?_
  rintro v As ⟨D, B, P, rfl, hD, hB, hP, rfl⟩
  refine ⟨_, rfl, trivial, ?_⟩
  have hgm : geoMay D B P = true := by simp [geoMay]; omega
  refine J.r hX tab_ok 400 (fun _ => rfl) fun b5 => ?_
  refine J.r hX tab_ok 400 (fun _ => rfl) fun b6 => ?_
  refine J.ca hX (by kernel_rfl) (n_New D B P hgm) [] 0 rfl rfl rfl rfl rfl rfl (fun _ => rfl) ?_
  rintro v As ⟨q, rfl, rfl⟩
  refine ⟨_, rfl, trivial, ?_⟩
  have hb1 := tm_bd bl B (by omega)
  have hb2 := tm_2 bl B (by omega)
  have hpw := pow_bd D hD.2
  refine J.r hX tab_ok 400 (fun _ => rfl) fun b7 => ?_
  refine J.plan (.of [0,4,9,12,16,21,24,28,33,36,40]) [9,10] [2] (by rw [hX.hP]; kernel_rfl) (by kernel_rfl) ?_
  refine J.r hX tab_ok 22 (fun _ => rfl) fun b8 => ?_
  obtain ⟨b, hbe⟩ := Int.eq_ofNat_of_zero_le hb2.1
  rw [hbe] at hb2
  have hbB : b < B := by omega
  have hone : 1 ≤ 2 ^ D := Nat.one_le_two_pow
  have eall : (1 * 2 ^ min (D : Int).toNat IntKind.i64.bits - 1 : Int) = mAll D := by rw [hpw.1]; unfold mAll; omega
  obtain ⟨mm, hM1, hM2⟩ := and_mask hD.2 mk
  have hM3 : 0 ≤ (mm : Int) ∧ (mm : Int) < 2 ^ D := ⟨by omega, by exact_mod_cast hM2⟩
  rw [hbe, eall, hM1]
  have e8 : ∀ n : Nat, (if (8 : Int) < (n : Int) then 8 else (n : Int)) = ((min n 8 : Nat) : Int) := fun n => by split <;> omega
  obtain ⟨n8, hn8⟩ : ∃ x, min nl 8 = x := ⟨_, rfl⟩
  obtain ⟨l8, hl8⟩ : ∃ x, l.take n8 = x := ⟨_, rfl⟩
  have R1 : Rd A al 19 n8 (cellsE l8) := by rw [← hl8, ← cellsE_take]; exact hAl.take n8 (by omega)
  have L1 : l8.length = n8 := by rw [← hl8, List.length_take]; omega
  have D1 : ∀ s ∈ l8, s.data.length = 16 := fun s hs => hdl s (by rw [← hl8] at hs; exact List.mem_of_mem_take hs)
  refine J.r hX tab_ok 7 (fun _ => rfl) fun b9 => ?_
  rw [e8, hn8]
  refine J.val hX (.slice al n8 cl) 0 rfl rfl (fun _ a w he hC => cut_run rfl rfl rfl he rfl rfl (by omega)) rfl trivial ?_
  have G0 : (Nand.new D B P).Gd 1000 0 := Nand.Gd.new D B P hgm 1000 (by decide)
  refine J.r hX tab_ok 400 (fun _ => rfl) fun b10 => ?_
  refine J.r hX tab_ok 400 (fun _ => rfl) fun b11 => ?_
  refine J.ca hX (by kernel_rfl) (r_Write q (Nand.new D B P) A b 0 mm al n8 cl 0 l8 R1 L1 D1 (G0.less (by decide) (Nat.le_refl _))) [3, 1] 0 rfl rfl rfl rfl rfl rfl (fun _ => rfl) ?_
  rintro v As ⟨rfl, rfl⟩
  refine ⟨_, rfl, trivial, ?_⟩
  cases hPB : W.parB b 0 mm l8 with
  | false =>
    rw [show (R.write (Nand.new D B P) b 0 mm l8).2.2 = 1 from by unfold R.write; rw [hPB]; rfl]
    refine J.r hX tab_ok 400 (fun _ => rfl) fun b12 => ?_
    refine J.cond rfl (fun _ => ?_) (fun h => absurd h (by decide))
    refine J.r hX tab_ok 400 (fun _ => rfl) fun b13 => ?_
    refine J.r hX tab_ok 400 (fun _ => rfl) fun b14 => ?_
    refine J.ca hX (by kernel_rfl) (f9_Parity b 0 mm A al n8 cl l8 R1 L1 D1) [1] 0 rfl rfl rfl rfl rfl rfl (fun _ => rfl) ?_
    rintro v As ⟨rfl, rfl⟩
    refine ⟨_, rfl, trivial, ?_⟩
    rw [hPB]
    refine J.r hX tab_ok 400 (fun _ => rfl) fun b15 => ?_
    refine J.rt hX tab_ok [1] rfl rfl rfl ?_
    exact ⟨rfl, rfl⟩
  | true =>
    have hd1 := tm_bd di D (by omega)
    have hd2 := tm_2 di D (by omega)
    have hk1 := tm_bd ki 3 (by omega)
    have hk2 := tm_2 ki 3 (by omega)
    have hn1 := tm_bd xx 32 (by omega)
    have hn2 := tm_2 xx 32 (by omega)
    have hx1 := tm_bd xx 200 (by omega)
    have hx2 := tm_2 xx 200 (by omega)
    obtain ⟨d, hde⟩ := Int.eq_ofNat_of_zero_le hd2.1
    obtain ⟨n, hne⟩ := Int.eq_ofNat_of_zero_le hn2.1
    obtain ⟨kd, hkd⟩ : ∃ kd : Int, 3 + ((ki.tmod 3 + 3).tmod 3) = kd := ⟨_, rfl⟩
    obtain ⟨xv, hxv⟩ : ∃ xv : Int, 1 + ((xx.tmod 200 + 200).tmod 200) = xv := ⟨_, rfl⟩
    rw [hde] at hd2
    rw [hne] at hn2
    have hdD : d < D := by omega
    obtain ⟨law1, law2, law3, law4, law5⟩ := any_law (n := n) (kd := kd) (x := xv) hD hB hP hbB hM3 D1 hPB hdD (by omega) (by omega) (by omega)
    have G1 : (anN0 D B P b mm l8).Gd 992 0 := write_Gd D1 (G0.less (by decide) (Nat.le_refl _))
    have G2 : (anF D B P b mm l8 kd d n xv).2.Gd 992 0 := G1.fault0 kd d b 0 n xv (by omega)
    rw [law1]
    refine J.r hX tab_ok 400 (fun _ => rfl) fun b16 => ?_
    refine J.cond rfl (fun h => absurd h (by decide)) (fun _ => ?_)
    refine J.r hX tab_ok 400 (fun _ => rfl) fun b17 => ?_
    refine J.plan (.take true 1 (.take true 2 (.take true 3 (.take true 4 (.take true 7 (.take true 8 (.take false 9 (.take true 10 (.take true 11 (.take false 12 (.take true 13 (.take true 14 (.take false 15 (.take true 16 (.take true 17 (.take true 18 (.take true 19 (.take true 20 (.take true 21 (.take true 22 (.take true 23 (.take true 24 (.take true 25 (.take true 26 (.take true 27 (.alt false 0 ((.take true 5 (.alt false 6 ((.of [112,118,123])) (.alt false 29 ((.of [26,112,123])) .non)))) (.alt false 29 ((.of [2,20,26,112,123])) .non))))))))))))))))))))))))))) [30] [2] (by rw [hX.hP]; kernel_rfl) (by kernel_rfl) ?_
    refine J.r hX tab_ok 400 (fun _ => rfl) fun b18 => ?_
    rw [hde, hne, hxv]
    refine J.join (α := Nat) (fun x => [⟨21, .pointer (some ⟨x, 0, none⟩), 4, .tt⟩, ⟨16, .pointer (some ⟨q, 0, none⟩), 0, .tt⟩, ⟨1, .int .i64 b, 0, .tt⟩, ⟨2, .int .i64 mm, 0, .tt⟩, ⟨3, .slice al n8 cl, 0, .tt⟩]) (fun x => [.hp F, A, NandA q (anN0 D B P b mm l8), .pt x 57 [.int .i64 0, .int .i64 kd, .int .i64 d, .int .i64 b, .int .i64 0, .int .i64 n, .int .i64 xv]]) (fun hj => ?_) (fun x => ?_)
    · have hk3 : (ki.tmod 3 + 3).tmod 3 = 0 ∨ (ki.tmod 3 + 3).tmod 3 = 1 ∨ (ki.tmod 3 + 3).tmod 3 = 2 := by omega
      clear law1 law2 law3 law4 law5 G2
      rcases hk3 with hk3 | hk3 | hk3
      all_goals rw [hk3] at hkd ⊢
      all_goals subst hkd
      all_goals refine J.alts ?_ ?_
      · skip
        refine J.r hX tab_ok 2 (fun _ => rfl) fun x1 => ?_
        refine J.alts ?_ ?_
        · skip
          refine J.val hX (.int .i64 3) 0 rfl rfl (fun hg a w he hw => load1_run tab_ok rfl rfl he rfl rfl rfl (hw.get (i := 4) rfl) rfl) rfl ⟨rfl, trivial⟩ ?_
          refine J.r hX tab_ok 4 (fun _ => rfl) fun x2 => ?_
          exact J.goto [0, 1, 3, 5] (hj (x2 0)) ⟨rfl, rfl, rfl, rfl, rfl, trivial⟩ rfl rfl
        · skip
          refine J.r hX tab_ok 1 (fun _ => rfl) fun x2 => ?_
          refine J.val hX (.int .i64 3) 0 rfl rfl (fun hg a w he hw => load1_run tab_ok rfl rfl he rfl rfl rfl (hw.get (i := 4) rfl) rfl) rfl ⟨rfl, trivial⟩ ?_
          refine J.r hX tab_ok 3 (fun _ => rfl) fun x3 => ?_
          exact J.goto [0, 1, 3, 5] (hj (x2 0)) ⟨rfl, rfl, rfl, rfl, rfl, trivial⟩ rfl rfl
      · skip
        refine J.r hX tab_ok 3 (fun _ => rfl) fun x1 => ?_
        refine J.val hX (.int .i64 3) 0 rfl rfl (fun hg a w he hw => load1_run tab_ok rfl rfl he rfl rfl rfl (hw.get (i := 5) rfl) rfl) rfl ⟨rfl, trivial⟩ ?_
        refine J.r hX tab_ok 3 (fun _ => rfl) fun x2 => ?_
        exact J.goto [0, 1, 3, 4] (hj (x1 0)) ⟨rfl, rfl, rfl, rfl, rfl, trivial⟩ rfl rfl
      · skip
        refine J.r hX tab_ok 2 (fun _ => rfl) fun x1 => ?_
        refine J.alts ?_ ?_
        · skip
          refine J.val hX (.int .i64 4) 0 rfl rfl (fun hg a w he hw => load1_run tab_ok rfl rfl he rfl rfl rfl (hw.get (i := 4) rfl) rfl) rfl ⟨rfl, trivial⟩ ?_
          refine J.r hX tab_ok 4 (fun _ => rfl) fun x2 => ?_
          exact J.goto [0, 1, 3, 5] (hj (x2 0)) ⟨rfl, rfl, rfl, rfl, rfl, trivial⟩ rfl rfl
        · skip
          refine J.r hX tab_ok 1 (fun _ => rfl) fun x2 => ?_
          refine J.val hX (.int .i64 4) 0 rfl rfl (fun hg a w he hw => load1_run tab_ok rfl rfl he rfl rfl rfl (hw.get (i := 4) rfl) rfl) rfl ⟨rfl, trivial⟩ ?_
          refine J.r hX tab_ok 3 (fun _ => rfl) fun x3 => ?_
          exact J.goto [0, 1, 3, 5] (hj (x2 0)) ⟨rfl, rfl, rfl, rfl, rfl, trivial⟩ rfl rfl
      · skip
        refine J.r hX tab_ok 3 (fun _ => rfl) fun x1 => ?_
        refine J.val hX (.int .i64 4) 0 rfl rfl (fun hg a w he hw => load1_run tab_ok rfl rfl he rfl rfl rfl (hw.get (i := 5) rfl) rfl) rfl ⟨rfl, trivial⟩ ?_
        refine J.r hX tab_ok 3 (fun _ => rfl) fun x2 => ?_
        exact J.goto [0, 1, 3, 4] (hj (x1 0)) ⟨rfl, rfl, rfl, rfl, rfl, trivial⟩ rfl rfl
      · skip
        refine J.r hX tab_ok 2 (fun _ => rfl) fun x1 => ?_
        refine J.alts ?_ ?_
        · skip
          refine J.val hX (.int .i64 5) 0 rfl rfl (fun hg a w he hw => load1_run tab_ok rfl rfl he rfl rfl rfl (hw.get (i := 4) rfl) rfl) rfl ⟨rfl, trivial⟩ ?_
          refine J.r hX tab_ok 4 (fun _ => rfl) fun x2 => ?_
          exact J.goto [0, 1, 3, 5] (hj (x2 0)) ⟨rfl, rfl, rfl, rfl, rfl, trivial⟩ rfl rfl
        · skip
          refine J.r hX tab_ok 1 (fun _ => rfl) fun x2 => ?_
          refine J.val hX (.int .i64 5) 0 rfl rfl (fun hg a w he hw => load1_run tab_ok rfl rfl he rfl rfl rfl (hw.get (i := 4) rfl) rfl) rfl ⟨rfl, trivial⟩ ?_
          refine J.r hX tab_ok 3 (fun _ => rfl) fun x3 => ?_
          exact J.goto [0, 1, 3, 5] (hj (x2 0)) ⟨rfl, rfl, rfl, rfl, rfl, trivial⟩ rfl rfl
      · skip
        refine J.r hX tab_ok 3 (fun _ => rfl) fun x1 => ?_
        refine J.val hX (.int .i64 5) 0 rfl rfl (fun hg a w he hw => load1_run tab_ok rfl rfl he rfl rfl rfl (hw.get (i := 5) rfl) rfl) rfl ⟨rfl, trivial⟩ ?_
        refine J.r hX tab_ok 3 (fun _ => rfl) fun x2 => ?_
        exact J.goto [0, 1, 3, 4] (hj (x1 0)) ⟨rfl, rfl, rfl, rfl, rfl, trivial⟩ rfl rfl
    refine J.r hX tab_ok 400 (fun _ => rfl) fun b19 => ?_
    refine J.r hX tab_ok 400 (fun _ => rfl) fun b20 => ?_
    refine J.ca hX (by kernel_rfl) (n_Fault q (anN0 D B P b mm l8) G1.ok 0 kd d b 0 n xv) [2] 0 rfl rfl rfl rfl rfl rfl (fun _ => rfl) ?_
    rintro v As ⟨rfl, rfl⟩
    refine ⟨_, rfl, trivial, ?_⟩
    have law2' : ((anN0 D B P b mm l8).fault kd d b 0 n xv).1 = true := law2
    obtain ⟨N2, hN2⟩ : ∃ N2, (anF D B P b mm l8 kd d n xv).2 = N2 := ⟨_, rfl⟩
    have hN2' : ((anN0 D B P b mm l8).fault kd d b 0 n xv).2 = N2 := hN2
    rw [law2', hN2']
    rw [hN2] at G2 law3 law4 law5
    refine J.r hX tab_ok 400 (fun _ => rfl) fun b21 => ?_
    refine J.cond rfl (fun h => absurd h (by decide)) (fun _ => ?_)
    refine J.r hX tab_ok 400 (fun _ => rfl) fun b22 => ?_
    refine J.r hX tab_ok 400 (fun _ => rfl) fun b23 => ?_
    refine J.lo (α := Nat) (fun i => i ≤ n8) (fun i => [⟨22, .int .i64 i, 0, .tt⟩, ⟨21, .pointer (some ⟨x, 0, none⟩), 4, .tt⟩, ⟨16, .pointer (some ⟨q, 0, none⟩), 0, .tt⟩, ⟨1, .int .i64 b, 0, .tt⟩, ⟨2, .int .i64 mm, 0, .tt⟩, ⟨3, .slice al n8 cl, 0, .tt⟩]) [] (fun i => []) (fun i => n8 - i) (0) (Nat.zero_le _) rfl ?_ (fun _ => rfl) fun i hI => ?_
    · rfl
    refine J.r hX tab_ok 400 (fun _ => rfl) fun b24 => ?_
    refine J.cond rfl (fun h2 => ?_) (fun h2 => ?_)
    · simp only [decide_eq_true_eq, Int.ofNat_lt] at h2
      obtain ⟨e, he⟩ : ∃ e, l8[i]? = some e := ⟨_, List.getElem?_eq_getElem (by omega)⟩
      have hed : e.data.length = 16 := D1 _ (List.mem_of_getElem? he)
      have hge : l8.getD i En.zero = e := by rw [List.getD_eq_getElem?_getD, he]; rfl
      refine J.know (p := ∃ g o, al = some ⟨g, o, none⟩) (fun h' s => Rd.addr (R1 _ (s.get (i := 1) rfl)) (by omega)) fun hk => ?_
      obtain ⟨gm, om, rfl⟩ := hk
      refine J.r hX tab_ok 400 (fun _ => rfl) fun b25 => ?_
      refine J.r hX tab_ok 400 (fun _ => rfl) fun b26 => ?_
      refine J.ca hX (by kernel_rfl) (r_Read q N2 G2.ok G2.room b 0 i mm (by omega) (by omega)) [2] 0 rfl rfl rfl rfl rfl rfl (fun _ => rfl) ?_
      rintro v As ⟨rfl, rfl⟩
      refine ⟨_, rfl, trivial, ?_⟩
      rw [law3 i (by omega), hge]
      refine J.r hX tab_ok 400 (fun _ => rfl) fun b27 => ?_
      refine J.plan (.of [0,4,8,13,16,20,24,29,32,36]) [] [1,4] (by rw [hX.hP]; kernel_rfl) (by kernel_rfl) ?_
      refine J.r hX tab_ok 7 (fun _ => rfl) fun b28 => ?_
      refine J.valT hX (enV e) 0 rfl rfl (fun hg a w he' hC => rdN_run tab_ok rfl rfl he' rfl rfl rfl (R1 _ (hC rfl _ (cget_mem (i := 1) rfl))) (by omega) (j := i * 19) (by omega) (cellsE_get he) rfl) rfl ?_
      refine J.valT hX (.bool false) 0 rfl rfl (fun hg a w he' hC => (neAgg_run (xs := enL e) (ys := enL e) rfl rfl rfl he' rfl rfl leavesEn (fitsEn _) (fitsEn _) mkEn gdEn).trans (by rw [(eqEn _ _ hed hed).2 rfl]; rfl)) rfl ?_
      refine J.r hX tab_ok 400 (fun _ => rfl) fun b29 => ?_
      refine J.cond rfl (fun h => by simp at h) (fun _ => ?_)
      refine J.r hX tab_ok 400 (fun _ => rfl) fun b30 => ?_
      refine J.r hX tab_ok 400 (fun _ => rfl) fun b31 => ?_
      refine J.nS (i + 1) (by omega) (by omega) [0, 1, 2, 3] rfl rfl
    simp only [decide_eq_false_iff_not, Int.ofNat_lt] at h2
    refine J.r hX tab_ok 400 (fun _ => rfl) fun b32 => ?_
    refine J.r hX tab_ok 400 (fun _ => rfl) fun b33 => ?_
    refine J.ca hX (by kernel_rfl) (r_All q N2 G2.ok G2.room b 0) [2] 0 rfl rfl rfl rfl rfl rfl (fun _ => rfl) ?_
    rintro v As ⟨af, cf, rfl, rfl⟩
    refine ⟨_, rfl, trivial, ?_⟩
    generalize hF : R.all N2 b 0 = FF at law4 law5
    have hFl : FF.length ≤ 42 := by
      rw [← hF]
      have := outI_len N2 b 0 (M.masks N2 b 0).length (by have := G2.ok.bd; omega)
      unfold outI at this; rw [List.take_length] at this; exact this
    refine J.r hX tab_ok 400 (fun _ => rfl) fun b34 => ?_
    refine J.r hX tab_ok 400 (fun _ => rfl) fun b35 => ?_
    refine J.ca hX (by kernel_rfl) (f1_Spot mm d) [] 0 rfl rfl rfl rfl rfl rfl (fun _ => rfl) ?_
    rintro v As ⟨rfl, rfl⟩
    refine ⟨_, rfl, trivial, ?_⟩
    refine J.r hX tab_ok 400 (fun _ => rfl) fun b36 => ?_
    rw [spot_has mm d]
    refine J.r hX tab_ok 400 (fun _ => rfl) fun b37 => ?_
    refine J.lo (α := Nat) (fun i => i ≤ n8) (fun i => [⟨28, .int .i64 i, 0, .tt⟩, ⟨27, .int .i64 ((l8.take i).filter fun e => e.role == 3).length, 0, .tt⟩, ⟨26, .bool (L.has mm d), 0, .tt⟩, ⟨25, slv af FF.length cf, 0, .tt⟩, ⟨21, .pointer (some ⟨x, 0, none⟩), 4, .tt⟩, ⟨1, .int .i64 b, 0, .tt⟩, ⟨2, .int .i64 mm, 0, .tt⟩, ⟨3, .slice al n8 cl, 0, .tt⟩]) [] (fun i => []) (fun i => n8 - i) (0) (Nat.zero_le _) rfl ?_ (fun _ => rfl) fun i hI => ?_
    · rfl
    refine J.r hX tab_ok 400 (fun _ => rfl) fun b38 => ?_
    refine J.cond rfl (fun h2 => ?_) (fun h2 => ?_)
    · simp only [decide_eq_true_eq, Int.ofNat_lt] at h2
      obtain ⟨e, hx⟩ : ∃ e, l8[i]? = some e := ⟨_, List.getElem?_eq_getElem (by omega)⟩
      have hfs := filter_succ (fun e => e.role == 3) l8 i e hx
      have hfl := List.length_filter_le (fun e : En => e.role == 3) (l8.take i)
      have htl : (l8.take i).length ≤ i := by rw [List.length_take]; omega
      refine J.know (p := ∃ g o, al = some ⟨g, o, none⟩) (fun h' s => Rd.addr (R1 _ (s.get (i := 1) rfl)) (by omega)) fun hk => ?_
      obtain ⟨gm, om, rfl⟩ := hk
      refine J.r hX tab_ok 400 (fun _ => rfl) fun b39 => ?_
      refine J.val hX (.int .i64 e.role) 0 rfl rfl (fun hg a w he hw => rd1_run tab_ok rfl rfl he rfl rfl rfl (R1 _ (hw.get (i := 1) rfl)) (by omega) (j := i * 19 + 2) (by omega) (by rw [cellsE_cell hx 2 (by decide)]; rfl)) rfl trivial ?_
      refine J.r hX tab_ok 400 (fun _ => rfl) fun b40 => ?_
      refine J.cond rfl (fun h3 => ?_) (fun h3 => ?_)
      · rw [if_pos h3] at hfs
        refine J.r hX tab_ok 400 (fun _ => rfl) fun b41 => ?_
        have e22 : (((l8.take i).filter fun e => e.role == 3).length : Int) + 1 = (((l8.take (i + 1)).filter fun e => e.role == 3).length : Int) := by omega
        rw [e22]
        refine J.r hX tab_ok 400 (fun _ => rfl) fun b42 => ?_
        refine J.nS (i + 1) (by omega) (by omega) [0, 1, 2, 3, 4] rfl rfl
      · rw [if_neg (by rw [h3]; simp)] at hfs
        have e22 : (((l8.take i).filter fun e => e.role == 3).length : Int) = (((l8.take (i + 1)).filter fun e => e.role == 3).length : Int) := by omega
        rw [e22]
        refine J.r hX tab_ok 400 (fun _ => rfl) fun b43 => ?_
        refine J.r hX tab_ok 400 (fun _ => rfl) fun b44 => ?_
        refine J.nS (i + 1) (by omega) (by omega) [0, 1, 2, 3, 4] rfl rfl
    simp only [decide_eq_false_iff_not, Int.ofNat_lt] at h2
    have htk : l8.take i = l8 := List.take_of_length_le (by omega)
    rw [htk]
    generalize (l8.filter fun e => e.role == 3).length = pc at law5
    refine J.r hX tab_ok 400 (fun _ => rfl) fun b45 => ?_
    refine J.r hX tab_ok 400 (fun _ => rfl) fun b46 => ?_
    refine J.lo (α := Nat) (fun j => j ≤ FF.length) (fun j => [⟨29, .int .i64 j, 0, .tt⟩, ⟨27, .int .i64 pc, 0, .tt⟩, ⟨26, .bool (L.has mm d), 0, .tt⟩, ⟨25, slv af FF.length cf, 0, .tt⟩, ⟨21, .pointer (some ⟨x, 0, none⟩), 4, .tt⟩, ⟨1, .int .i64 b, 0, .tt⟩, ⟨2, .int .i64 mm, 0, .tt⟩, ⟨3, .slice al n8 cl, 0, .tt⟩]) [] (fun j => []) (fun j => FF.length - j) (0) (Nat.zero_le _) rfl ?_ (fun _ => rfl) fun j hI => ?_
    · rfl
    refine J.r hX tab_ok 400 (fun _ => rfl) fun b47 => ?_
    refine J.cond rfl (fun h3 => ?_) (fun h3 => ?_)
    · simp only [decide_eq_true_eq, Int.ofNat_lt] at h3
      refine J.know (fun h' s => own_some (c := (af, cf)) (by omega) (s.get (i := 4) rfl)) fun hg => ?_
      obtain ⟨gf, rfl⟩ := hg
      obtain ⟨y, hy⟩ : ∃ y, FF[j]? = some y := ⟨_, List.getElem?_eq_getElem h3⟩
      obtain ⟨hw, hmk⟩ := law4 y (List.mem_of_getElem? hy)
      refine J.r hX tab_ok 400 (fun _ => rfl) fun b48 => ?_
      refine J.plan (.of [0,4,8,12,17,20,24,28,32,40,44,49,38,52,56,60,64,68,72,76,80,85,88,92,96]) [] [1,2,3,4] (by rw [hX.hP]; kernel_rfl) (by kernel_rfl) ?_
      refine J.r hX tab_ok 4 (fun _ => rfl) fun b49 => ?_
      refine J.valT hX (.bool y.whole) 0 rfl rfl (fun hg a w he hC => own1_run tab_ok rfl rfl he rfl rfl rfl (hC rfl _ (cget_mem (i := 4) rfl)) (by rw [show 0 + (j : Int).toNat * 25 + 23 = j * 25 + 23 from by omega, cellsF_cell hy 23 (by decide)]; rfl)) rfl ?_
      refine J.r hX tab_ok 400 (fun _ => rfl) fun b50 => ?_
      refine J.gcase hX rfl rfl rfl ⟨rfl, rfl, rfl, rfl, trivial⟩ (fun hb => ?_) (fun hb => ?_)
      · rw [hb] at hw ⊢
        refine J.r hX tab_ok 400 (fun _ => rfl) fun b51 => ?_
        refine J.ca hX (by kernel_rfl) (f6_Parity mm b 0) [] 0 rfl rfl rfl rfl rfl rfl (fun _ => rfl) ?_
        rintro v As ⟨rfl, rfl⟩
        refine ⟨_, rfl, ⟨rfl, rfl, rfl, rfl, trivial⟩, ?_⟩
        refine J.r hX tab_ok 400 (fun _ => rfl) fun b52 => ?_
        refine J.valT hX (.int .i64 mm) 0 rfl rfl (fun hg a w he hC => own1_run tab_ok rfl rfl he hg rfl rfl (hC rfl _ (cget_mem (i := 4) rfl)) (by rw [show 0 + (j : Int).toNat * 25 + 22 = j * 25 + 22 from by omega, cellsF_cell hy 22 (by decide), ← hmk]; rfl)) rfl ?_
        refine J.r hX tab_ok 400 (fun _ => rfl) fun b53 => ?_
        refine J.cond rfl (fun h4 => ?_) (fun h4 => ?_)
        · exfalso
          rw [hw] at h4
          revert h4
          cases (G.parity mm b 0 == (d : Int)) <;> simp
        refine J.r hX tab_ok 400 (fun _ => rfl) fun b54 => ?_
        refine J.r hX tab_ok 400 (fun _ => rfl) fun b55 => ?_
        refine J.nS (j + 1) (by omega) (by omega) [0, 1, 2, 3, 4] rfl rfl
      · rw [hb] at hw ⊢
        refine J.r hX tab_ok 400 (fun _ => rfl) fun b56 => ?_
        refine J.valT hX (.bool false) 0 rfl rfl (fun hg a w he hC => by simp [G.on] at hg) rfl ?_
        refine J.r hX tab_ok 400 (fun _ => rfl) fun b57 => ?_
        refine J.valT hX (.int .i64 mm) 0 rfl rfl (fun hg a w he hC => own1_run tab_ok rfl rfl he hg rfl rfl (hC rfl _ (cget_mem (i := 4) rfl)) (by rw [show 0 + (j : Int).toNat * 25 + 22 = j * 25 + 22 from by omega, cellsF_cell hy 22 (by decide), ← hmk]; rfl)) rfl ?_
        refine J.r hX tab_ok 400 (fun _ => rfl) fun b58 => ?_
        refine J.cond rfl (fun h4 => ?_) (fun h4 => ?_)
        · exfalso
          rw [hw] at h4
          revert h4
          simp
        refine J.r hX tab_ok 400 (fun _ => rfl) fun b59 => ?_
        refine J.r hX tab_ok 400 (fun _ => rfl) fun b60 => ?_
        refine J.nS (j + 1) (by omega) (by omega) [0, 1, 2, 3, 4] rfl rfl
    simp only [decide_eq_false_iff_not, Int.ofNat_lt] at h3
    obtain rfl : j = FF.length := by omega
    refine J.r hX tab_ok 400 (fun _ => rfl) fun b61 => ?_
    rw [show ((FF.length : Int) == (n8 : Int) - (pc : Int)) = true from by rw [beq_iff_eq]; omega]
    refine J.r hX tab_ok 400 (fun _ => rfl) fun b62 => ?_
    refine J.rt hX tab_ok [1] rfl rfl rfl ?_
    exact ⟨rfl, rfl⟩
end Go.Proofs.YtmohcbniepdncaaGreat
