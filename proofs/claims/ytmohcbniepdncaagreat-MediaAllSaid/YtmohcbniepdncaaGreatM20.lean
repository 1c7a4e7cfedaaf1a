/- Helpers of the proofs about ostrakonlaw11, proved here: Ls, Clm. No condition. -/
import Derived.Test.YtmohcbniepdncaaGreatM13
import Derived.Test.YtmohcbniepdncaaGreatM14
import Derived.Test.YtmohcbniepdncaaGreatM17
import Derived.Test.YtmohcbniepdncaaGreatM19
import Derived.Test.YtmohcbniepdncaaGreatRows
import Derived.ProofKit
import Derived.OpenShut
import Derived.ChangeOld
import Derived.Below
import Derived.Deep.Slices
import Derived.Deep.Strs
import Derived.Lib.SmallJoins
set_option linter.unusedVariables false
set_option linter.unusedSimpArgs false
set_option linter.unusedSectionVars false
set_option linter.unnecessarySimpa false
namespace Go.Proofs.YtmohcbniepdncaaGreat
open Go Go.RowKit
theorem tm_bd (a : Int) (n : Int) (hn : 0 < n) : -n < a.tmod n ∧ a.tmod n < n := by
  refine ⟨?_, Int.tmod_lt_of_pos a hn⟩
  obtain ⟨k, rfl | rfl⟩ := Int.eq_nat_or_neg a
  · have := Int.tmod_nonneg (a := (k : Int)) n (by omega); omega
  · rw [Int.neg_tmod]
    have := Int.tmod_lt_of_pos (k : Int) hn
    omega
theorem tm_2 (a : Int) (n : Int) (hn : 0 < n) : 0 ≤ (a.tmod n + n).tmod n ∧ (a.tmod n + n).tmod n < n := by
  have := tm_bd a n hn
  exact ⟨Int.tmod_nonneg _ (by omega), Int.tmod_lt_of_pos _ hn⟩
theorem l6_Geo (a b c : Int) : Fn Tryz.prog 19 [.int .i64 a, .int .i64 b, .int .i64 c] [] (fun v As => ∃ D B P : Nat, v = .agg #[.int .i64 D, .int .i64 B, .int .i64 P] ∧ (3 ≤ D ∧ D ≤ 6) ∧ (8 ≤ B ∧ B ≤ 16) ∧ (2 ≤ P ∧ P ≤ 8) ∧ As = []) := by
  have a1 := tm_bd a 4 (by decide)
  have a2 := tm_2 a 4 (by decide)
  have b1 := tm_bd b 9 (by decide)
  have b2 := tm_2 b 9 (by decide)
  have c1 := tm_bd c 7 (by decide)
  have c2 := tm_2 c 7 (by decide)
  refine Fn.enter [0, 0, 0] Tryz.func19 rfl rfl rfl fun X F hX => ?_
  refine J.r hX tab_ok 400 (fun _ => rfl) fun b1 => ?_
  refine J.rt hX tab_ok [] rfl rfl rfl ?_
  obtain ⟨D, hD⟩ := Int.eq_ofNat_of_zero_le a2.1
  obtain ⟨B, hB⟩ := Int.eq_ofNat_of_zero_le b2.1
  obtain ⟨P, hP⟩ := Int.eq_ofNat_of_zero_le c2.1
  refine ⟨3 + D, 8 + B, 2 + P, ?_, by omega, by omega, by omega, rfl⟩
  rw [hD, hB, hP, Int.natCast_add, Int.natCast_add, Int.natCast_add]
  rfl
theorem cellsE_take (l : List En) : ∀ k, (cellsE l).take (k * 19) = cellsE (l.take k) := by
  induction l with
  | nil => intro k; simp [cellsE]
  | cons x l ih =>
    intro k
    cases k with
    | zero => rfl
    | succ k =>
      have := ih k
      simp only [cellsE, List.flatMap_cons, List.take_succ_cons] at this ⊢
      rw [show (k + 1) * 19 = (enL x).length + k * 19 from by rw [enL_len]; omega, List.take_length_add_append, this]
/-- a slice that came in, cut to a few -/
theorem cut_run {E : Env} {n : Nat} {ac : Act} {w : World} {o : Oper} {x y : Operand} {k1 k2 t1 t2 : Nat} {g1 g2 : G} {a : Option Addr} {m c h : Nat} {kk : IntKind} (hop : o.op = .slice 47 x none (some y) none) (hx : ev E x = some ⟨k1, .slice a m c, t1, g1⟩) (hy : ev E y = some ⟨k2, .int kk h, t2, g2⟩) (he : EnvOK n E ac) (v1 : g1.on = true) (v2 : g2.on = true) (hc : h ≤ c) :
    (execOp ac.eval o).run Tryz.prog w = .ok (.value (.slice a h c)) w := by
  have e1 := ev_spec he hx
  have e2 := ev_spec he hy
  simp only [Slot.val, v1, v2] at e1 e2
  obtain ⟨d, f, zv, ok⟩ := tiOf_spec (tab_ok.get (t := 47) rfl)
  obtain ⟨fe, rfl, g1, g2⟩ := ok.slice rfl
  have h0 : ∀ ad : Addr, ad.add 0 = ad := fun ad => by unfold Addr.add; rw [if_pos rfl]
  cases a with
  | none =>
    simp only [execOp, hop, Option.map_some, Option.map_none, e1, e2, Instr.sliceAt, Instr.slice, Instr.sliceBounds, Instr.sliceBound, asIntOf, Sem.run_bind, Sem.run_pure, Result.andThen_ok, underlying_run ok.hd, sizeOf_run g1, g2]
    simp [hc, h0]
  | some ad =>
    simp only [execOp, hop, Option.map_some, Option.map_none, e1, e2, Instr.sliceAt, Instr.slice, Instr.sliceBounds, Instr.sliceBound, asIntOf, Sem.run_bind, Sem.run_pure, Result.andThen_ok, underlying_run ok.hd, sizeOf_run g1, g2]
    simp [hc, h0]
theorem pow_bd (D : Nat) (h : D ≤ 6) : (2 : Int) ^ (min (D : Int).toNat IntKind.i64.bits) = ((2 ^ D : Nat) : Int) ∧ (1 : Int) ≤ ((2 ^ D : Nat) : Int) ∧ ((2 ^ D : Nat) : Int) ≤ 64 := by
  have : ∀ D : Nat, D < 7 → (2 : Int) ^ (min (D : Int).toNat IntKind.i64.bits) = ((2 ^ D : Nat) : Int) ∧ (1 : Int) ≤ ((2 ^ D : Nat) : Int) ∧ ((2 ^ D : Nat) : Int) ≤ 64 := by decide
  exact this D (by omega)
theorem andNot_mask {D d : Nat} (h : D ≤ 6) (hd : d < D) : IntKind.i64.wrap ((BitVec.ofInt IntKind.i64.bits (mAll D) &&& ~~~BitVec.ofInt IntKind.i64.bits ((2 ^ d : Nat) : Int)).toNat : Int) = mBut D d := by
  have : ∀ D : Nat, D < 7 → ∀ d : Nat, d < 7 → d < D → IntKind.i64.wrap ((BitVec.ofInt IntKind.i64.bits (mAll D) &&& ~~~BitVec.ofInt IntKind.i64.bits ((2 ^ d : Nat) : Int)).toNat : Int) = mBut D d := by decide
  exact this D (by omega) d (by omega) hd
theorem cellsF_cell : ∀ {l : List Fnd} {k : Nat} {x : Fnd}, l[k]? = some x → ∀ j, j < 25 → (cellsF l)[k * 25 + j]? = (fnL x)[j]? := by
  intro l k x h j hj
  have h1 := cellsF_get h
  rw [← h1, List.getElem?_take, if_pos hj, List.getElem?_drop]
theorem cellsF_en {l : List Fnd} {k : Nat} {x : Fnd} (h : l[k]? = some x) : ((cellsF l).drop (k * 25)).take 19 = enL x.en := by
  have h1 := congrArg (List.take 19) (cellsF_get h)
  rw [List.take_take] at h1
  exact h1
theorem cellsE_get {l : List En} {k : Nat} {x : En} (h : l[k]? = some x) : ((cellsE l).drop (k * 19)).take 19 = enL x := by
  have := cellsE_at l [] k x h; rwa [List.append_nil] at this
theorem cellsE_cell {l : List En} {k : Nat} {x : En} (h : l[k]? = some x) (j : Nat) (hj : j < 19) : (cellsE l)[k * 19 + j]? = (enL x)[j]? := by
  rw [← cellsE_get h, List.getElem?_take, if_pos hj, List.getElem?_drop]
theorem filter_succ {α : Type} (p : α → Bool) (l : List α) (k : Nat) (x : α) (h : l[k]? = some x) : ((l.take (k + 1)).filter p).length = ((l.take k).filter p).length + (if p x then 1 else 0) := by
  rw [List.take_add_one, h, Option.toList_some, List.filter_append, List.length_append]
  cases hp : p x <;> simp [hp]
set_option maxRecDepth 20000 in
theorem s_RowStale (g0 g1 g2 bl di : Int) (A : Atom) (al : Option Addr) (nl cl : Nat) (l : List En) (hAl : Rd A al 19 nl (cellsE l)) (hll : l.length = nl) (hcl : nl ≤ cl) (hdl : ∀ s ∈ l, s.data.length = 16)
    (am : Option Addr) (nm cm : Nat) (m : List En) (hAm : Rd A am 19 nm (cellsE m)) (hml : m.length = nm) (hcm : nm ≤ cm) (hdm : ∀ s ∈ m, s.data.length = 16) :
    Fn Tryz.prog 8 [.agg #[.int .i64 g0, .int .i64 g1, .int .i64 g2], .int .i64 bl, .int .i64 di, .slice al nl cl, .slice am nm cm] [A] (fun v As => v = .bool true ∧ As = [A]) := by
  refine Fn.enter [0, 0, 0, 0, 0] Tryz.func8 rfl rfl rfl fun X F hX => ?_
  refine J.r hX tab_ok 400 (fun _ => rfl) fun bb => ?_
  refine J.r hX tab_ok 400 (fun _ => rfl) fun b2 => ?_
  refine J.ca hX (by kernel_rfl) (l11_begun) [] 0 rfl rfl rfl rfl rfl rfl (fun _ => rfl) ?_
  rintro v As ⟨rfl, rfl⟩
  refine ⟨_, rfl, trivial, ?_⟩
  refine J.r hX tab_ok 400 (fun _ => rfl) fun b3 => ?_
  refine J.cond rfl (fun h => absurd h (by decide)) (fun _ => ?_)
  refine J.r hX tab_ok 400 (fun _ => rfl) fun b4 => ?_
  refine J.r hX tab_ok 400 (fun _ => rfl) fun b5 => ?_
  refine J.ca hX (by kernel_rfl) (l6_Geo g0 g1 g2) [] 0 rfl rfl rfl rfl rfl rfl (fun _ => rfl) ?_
  rintro v As ⟨D, B, P, rfl, hD, hB, hP, rfl⟩
  refine ⟨_, rfl, trivial, ?_⟩
  have hgm : geoMay D B P = true := by simp [geoMay]; omega
  refine J.r hX tab_ok 400 (fun _ => rfl) fun b6 => ?_
  refine J.r hX tab_ok 400 (fun _ => rfl) fun b7 => ?_
  refine J.ca hX (by kernel_rfl) (n_New D B P hgm) [] 0 rfl rfl rfl rfl rfl rfl (fun _ => rfl) ?_
  rintro v As ⟨q, rfl, rfl⟩
  refine ⟨_, rfl, trivial, ?_⟩
  have hb1 := tm_bd bl B (by omega)
  have hb2 := tm_2 bl B (by omega)
  have hd1 := tm_bd di D (by omega)
  have hd2 := tm_2 di D (by omega)
  have hpw := pow_bd D hD.2
  refine J.r hX tab_ok 400 (fun _ => rfl) fun b8 => ?_
  refine J.plan (.of [0,4,9,12,16,21,24,28,33,36,40,44,49,52,56,61,64,68,73,76,80,84]) [21] [2] (by rw [hX.hP]; kernel_rfl) (by kernel_rfl) ?_
  refine J.r hX tab_ok 400 (fun _ => rfl) fun b9 => ?_
  obtain ⟨b, hbe⟩ := Int.eq_ofNat_of_zero_le hb2.1
  obtain ⟨d, hde⟩ := Int.eq_ofNat_of_zero_le hd2.1
  rw [hbe] at hb2
  rw [hde] at hd2
  have hbB : b < B := by omega
  have hdD : d < D := by omega
  have hone : 1 ≤ 2 ^ D := Nat.one_le_two_pow
  have eall : (1 * 2 ^ min (D : Int).toNat IntKind.i64.bits - 1 : Int) = mAll D := by rw [hpw.1]; unfold mAll; omega
  have MF := maskFacts hD.1 hD.2 hdD
  rw [hbe, hde, eall]
  have e8 : ∀ n : Nat, (if (8 : Int) < (n : Int) then 8 else (n : Int)) = ((min n 8 : Nat) : Int) := fun n => by split <;> omega
  obtain ⟨n8, hn8⟩ : ∃ x, min nl 8 = x := ⟨_, rfl⟩
  obtain ⟨m8, hm8⟩ : ∃ x, min nm 8 = x := ⟨_, rfl⟩
  obtain ⟨l8, hl8⟩ : ∃ x, l.take n8 = x := ⟨_, rfl⟩
  obtain ⟨k8, hk8⟩ : ∃ x, m.take m8 = x := ⟨_, rfl⟩
  have R1 : Rd A al 19 n8 (cellsE l8) := by rw [← hl8, ← cellsE_take]; exact hAl.take n8 (by omega)
  have R2 : Rd A am 19 m8 (cellsE k8) := by rw [← hk8, ← cellsE_take]; exact hAm.take m8 (by omega)
  have L1 : l8.length = n8 := by rw [← hl8, List.length_take]; omega
  have L2 : k8.length = m8 := by rw [← hk8, List.length_take]; omega
  have D1 : ∀ s ∈ l8, s.data.length = 16 := fun s hs => hdl s (by rw [← hl8] at hs; exact List.mem_of_mem_take hs)
  have D2 : ∀ s ∈ k8, s.data.length = 16 := fun s hs => hdm s (by rw [← hk8] at hs; exact List.mem_of_mem_take hs)
  refine J.r hX tab_ok 400 (fun _ => rfl) fun b10 => ?_
  refine J.plan (.of [0,4,8,12,16,20,24,28,32,36,40,44]) [11] [] (by rw [hX.hP]; kernel_rfl) (by kernel_rfl) ?_
  refine J.r hX tab_ok 4 (fun _ => rfl) fun b11 => ?_
  rw [e8, hn8]
  refine J.valT hX (.slice al n8 cl) 0 rfl rfl (fun _ a w he hC => cut_run rfl rfl rfl he rfl rfl (by omega)) rfl ?_
  refine J.r hX tab_ok 4 (fun _ => rfl) fun b12 => ?_
  rw [e8, hm8]
  refine J.valT hX (.slice am m8 cm) 0 rfl rfl (fun _ a w he hC => cut_run rfl rfl rfl he rfl rfl (by omega)) rfl ?_
  have G0 : (Nand.new D B P).Gd 1000 0 := Nand.Gd.new D B P hgm 1000 (by decide)
  have G1 : (stN1 D B P b l8).Gd 992 0 := write_Gd D1 (G0.less (by decide) (Nat.le_refl _))
  have G2 : (stN2 D B P b d l8).Gd 992 0 := G1.fault0 2 d b 0 0 0 (by decide)
  have G3 : ∀ k j, k + j ≤ 992 → (erN (stN2 D B P b d l8) b k).Gd j 0 := fun k j h => er_Gd _ _ _ k j (G2.less h (Nat.le_refl _))
  have G4 : (stN4 D B P b d l8 k8).Gd 900 0 := write_Gd D2 (G3 D 908 (by omega))
  refine J.r hX tab_ok 400 (fun _ => rfl) fun b13 => ?_
  refine J.r hX tab_ok 400 (fun _ => rfl) fun b14 => ?_
  refine J.ca hX (by kernel_rfl) (r_Write q (Nand.new D B P) A b 0 (mAll D) al n8 cl 0 l8 R1 L1 D1 (G0.less (by decide) (Nat.le_refl _))) [3, 1] 0 rfl rfl rfl rfl rfl rfl (fun _ => rfl) ?_
  rintro v As ⟨rfl, rfl⟩
  refine ⟨_, rfl, trivial, ?_⟩
  refine J.r hX tab_ok 400 (fun _ => rfl) fun b15 => ?_
  refine J.cond rfl (fun w1 => ?_) (fun w1 => ?_)
  · refine J.r hX tab_ok 400 (fun _ => rfl) fun b16 => ?_
    refine J.rt hX tab_ok [1] rfl rfl rfl ?_
    exact ⟨rfl, rfl⟩
  simp only [bne_eq_false_iff_eq] at w1
  refine J.r hX tab_ok 400 (fun _ => rfl) fun b17 => ?_
  refine J.r hX tab_ok 400 (fun _ => rfl) fun b18 => ?_
  refine J.ca hX (by kernel_rfl) (n_Fault q (stN1 D B P b l8) G1.ok 0 2 d b 0 0 0) [3] 0 rfl rfl rfl rfl rfl rfl (fun _ => rfl) ?_
  rintro v As ⟨rfl, rfl⟩
  refine ⟨_, rfl, trivial, ?_⟩
  refine J.r hX tab_ok 400 (fun _ => rfl) fun b19 => ?_
  refine J.r hX tab_ok 400 (fun _ => rfl) fun b20 => ?_
  refine J.lo (α := Nat) (fun k => k ≤ D) (fun k => [⟨16, .int .i64 k, 0, .tt⟩, ⟨12, .pointer (some ⟨q, 0, none⟩), 0, .tt⟩, ⟨5, .pointer (some ⟨bb 0, 0, none⟩), 3, .tt⟩, ⟨1, .int .i64 b, 0, .tt⟩, ⟨2, .int .i64 d, 0, .tt⟩, ⟨13, .int .i64 (mAll D), 0, .tt⟩, ⟨4, .slice am m8 cm, 0, .tt⟩]) [3] (fun k => [NandA q (erN (stN2 D B P b d l8) b k)]) (fun k => D - k) (0) (Nat.zero_le _) rfl ?_ (fun _ => rfl) fun k hI => ?_
  · rfl
  refine J.r hX tab_ok 400 (fun _ => rfl) fun b21 => ?_
  refine J.cond rfl (fun h1 => ?_) (fun h1 => ?_)
  · simp only [decide_eq_true_eq, Int.ofNat_lt] at h1
    have Gk := G3 k 1 (by omega)
    refine J.r hX tab_ok 400 (fun _ => rfl) fun b22 => ?_
    refine J.r hX tab_ok 400 (fun _ => rfl) fun b23 => ?_
    refine J.ca hX (by kernel_rfl) (n_Erase q (erN (stN2 D B P b d l8) b k) Gk.ok Gk.room Gk.nodup (Nat.le_trans Gk.few (by decide)) k b) [3] 0 rfl rfl rfl rfl rfl rfl (fun _ => rfl) ?_
    rintro v As ⟨rfl, rfl⟩
    refine ⟨_, rfl, trivial, ?_⟩
    rw [← erN_succ]
    refine J.r hX tab_ok 400 (fun _ => rfl) fun b24 => ?_
    refine J.r hX tab_ok 400 (fun _ => rfl) fun b25 => ?_
    refine J.nS (k + 1) (by omega) (by omega) [0, 1, 2, 3] rfl rfl
  simp only [decide_eq_false_iff_not, Int.ofNat_lt] at h1
  obtain rfl : D = k := by omega
  have hpd := pow_bd d (by omega)
  refine J.r hX tab_ok 400 (fun _ => rfl) fun b26 => ?_
  rw [show (1 * 2 ^ min (d : Int).toNat IntKind.i64.bits : Int) = ((2 ^ d : Nat) : Int) from by rw [hpd.1]; omega, andNot_mask hD.2 hdD]
  refine J.r hX tab_ok 400 (fun _ => rfl) fun b27 => ?_
  refine J.ca hX (by kernel_rfl) (r_Write q (stN3 D B P b d l8) A b 0 (mBut D d) am m8 cm 0 k8 R2 L2 D2 ((G3 D 908 (by omega)).less (by decide) (Nat.le_refl _))) [3, 1] 0 rfl rfl rfl rfl rfl rfl (fun _ => rfl) ?_
  rintro v As ⟨rfl, rfl⟩
  refine ⟨_, rfl, trivial, ?_⟩
  refine J.r hX tab_ok 400 (fun _ => rfl) fun b28 => ?_
  refine J.cond rfl (fun w2 => ?_) (fun w2 => ?_)
  · refine J.r hX tab_ok 400 (fun _ => rfl) fun b29 => ?_
    refine J.rt hX tab_ok [1] rfl rfl rfl ?_
    exact ⟨rfl, rfl⟩
  simp only [bne_eq_false_iff_eq] at w2
  obtain ⟨law1, law2, law3⟩ := stale_law hD hB hP hbB hdD D1 D2 w1 w2
  refine J.r hX tab_ok 400 (fun _ => rfl) fun b30 => ?_
  refine J.r hX tab_ok 400 (fun _ => rfl) fun b31 => ?_
  refine J.ca hX (by kernel_rfl) (r_All q (stN4 D B P b d l8 k8) G4.ok G4.room b 0) [3] 0 rfl rfl rfl rfl rfl rfl (fun _ => rfl) ?_
  rintro v As ⟨af, cf, rfl, rfl⟩
  refine ⟨_, rfl, trivial, ?_⟩
  generalize hF : R.all (stN4 D B P b d l8 k8) b 0 = FF at law1 law2
  have hFl : FF.length ≤ 42 := by
    rw [← hF]
    have := outI_len (stN4 D B P b d l8 k8) b 0 (M.masks (stN4 D B P b d l8 k8) b 0).length (by have := G4.ok.bd; omega)
    unfold outI at this; rw [List.take_length] at this; exact this
  refine J.r hX tab_ok 400 (fun _ => rfl) fun b32 => ?_
  refine J.r hX tab_ok 400 (fun _ => rfl) fun b33 => ?_
  refine J.lo (α := Nat) (fun i => i ≤ FF.length) (fun i => [⟨21, .int .i64 i, 0, .tt⟩, ⟨20, .int .i64 ((FF.take i).filter fun x => x.mask != mAll D).length, 0, .tt⟩, ⟨19, slv af FF.length cf, 0, .tt⟩, ⟨12, .pointer (some ⟨q, 0, none⟩), 0, .tt⟩, ⟨13, .int .i64 (mAll D), 0, .tt⟩, ⟨4, .slice am m8 cm, 0, .tt⟩]) [] (fun i => []) (fun i => FF.length - i) (0) (Nat.zero_le _) rfl ?_ (fun _ => rfl) fun i hI => ?_
  · rfl
  refine J.r hX tab_ok 400 (fun _ => rfl) fun b34 => ?_
  refine J.cond rfl (fun h2 => ?_) (fun h2 => ?_)
  · simp only [decide_eq_true_eq, Int.ofNat_lt] at h2
    refine J.know (fun h' s => own_some (c := (af, cf)) (by omega) (s.get (i := 4) rfl)) fun hg => ?_
    obtain ⟨gf, rfl⟩ := hg
    obtain ⟨x, hx⟩ : ∃ x, FF[i]? = some x := ⟨_, List.getElem?_eq_getElem h2⟩
    have hfs := filter_succ (fun x => x.mask != mAll D) FF i x hx
    have hfl := List.length_filter_le (fun x => x.mask != mAll D) (FF.take i)
    have htl : (FF.take i).length ≤ i := by rw [List.length_take]; omega
    refine J.r hX tab_ok 400 (fun _ => rfl) fun b35 => ?_
    refine J.val hX (.int .i64 x.mask) 0 rfl rfl (fun hg a w he hw => own1_run tab_ok rfl rfl he rfl rfl rfl (hw.get (i := 4) rfl) (by rw [show 0 + (i : Int).toNat * 25 + 22 = i * 25 + 22 from by omega, cellsF_cell hx 22 (by decide)]; rfl)) rfl trivial ?_
    refine J.r hX tab_ok 400 (fun _ => rfl) fun b36 => ?_
    refine J.cond rfl (fun h3 => ?_) (fun h3 => ?_)
    · simp only [bne_iff_ne, ne_eq] at h3
      obtain ⟨hw, k, hk, hmk⟩ := law1 x (List.mem_of_getElem? hx) h3
      have hkm : k < m8 := by rw [← L2]; exact (List.getElem?_eq_some_iff.1 hmk).1
      have hxd : x.en.data.length = 16 := D2 _ (List.mem_of_getElem? hmk)
      rw [if_pos (by simpa using h3)] at hfs
      refine J.know (p := ∃ g o, am = some ⟨g, o, none⟩) (fun h' s => Rd.addr (R2 _ (s.get (i := 1) rfl)) (by omega)) fun hk => ?_
      obtain ⟨gm, om, rfl⟩ := hk
      refine J.r hX tab_ok 400 (fun _ => rfl) fun b37 => ?_
      refine J.plan (.of [0,4,8,12,17,20,24,28,32,36,40,45,48,52,56,60,64,68,73,76,81,84,88]) [] [1,4] (by rw [hX.hP]; kernel_rfl) (by kernel_rfl) ?_
      refine J.r hX tab_ok 4 (fun _ => rfl) fun b38 => ?_
      refine J.valT hX (.bool true) 0 rfl rfl (fun hg a w he hC => own1_run tab_ok rfl rfl he rfl rfl rfl (hC rfl _ (cget_mem (i := 4) rfl)) (by rw [show 0 + (i : Int).toNat * 25 + 23 = i * 25 + 23 from by omega, cellsF_cell hx 23 (by decide), ← hw]; rfl)) rfl ?_
      refine J.r hX tab_ok 400 (fun _ => rfl) fun b39 => ?_
      refine J.valT hX (enV x.en) 0 rfl rfl (fun hg a w he hC => ownN_run tab_ok rfl rfl he rfl rfl rfl (hC rfl _ (cget_mem (i := 4) rfl)) (by rw [show 0 + (i : Int).toNat * 25 + 0 = i * 25 from by omega]; exact cellsF_en hx) rfl) rfl ?_
      refine J.r hX tab_ok 400 (fun _ => rfl) fun b40 => ?_
      refine J.valT hX (.int .i64 k) 0 rfl rfl (fun hg a w he hC => own1_run tab_ok rfl rfl he rfl rfl rfl (hC rfl _ (cget_mem (i := 4) rfl)) (by rw [show 0 + (i : Int).toNat * 25 + 19 + 2 = i * 25 + 21 from by omega, cellsF_cell hx 21 (by decide), ← hk]; rfl)) rfl ?_
      refine J.r hX tab_ok 400 (fun _ => rfl) fun b41 => ?_
      refine J.valT hX (enV x.en) 0 rfl rfl (fun hg a w he hC => rdN_run tab_ok rfl rfl he rfl rfl rfl (R2 _ (hC rfl _ (cget_mem (i := 1) rfl))) (by omega) (j := k * 19) (by omega) (cellsE_get hmk) rfl) rfl ?_
      refine J.valT hX (.bool false) 0 rfl rfl (fun hg a w he hC => (neAgg_run (xs := enL x.en) (ys := enL x.en) rfl rfl rfl he rfl rfl leavesEn (fitsEn _) (fitsEn _) mkEn gdEn).trans (by rw [(eqEn _ _ hxd hxd).2 rfl]; rfl)) rfl ?_
      refine J.r hX tab_ok 400 (fun _ => rfl) fun b42 => ?_
      refine J.cond rfl (fun h => absurd h (by decide)) (fun _ => ?_)
      refine J.r hX tab_ok 400 (fun _ => rfl) fun b43 => ?_
      have e20 : (((FF.take i).filter fun x => x.mask != mAll D).length : Int) + 1 = (((FF.take (i + 1)).filter fun x => x.mask != mAll D).length : Int) := by omega
      rw [e20]
      refine J.r hX tab_ok 400 (fun _ => rfl) fun b44 => ?_
      refine J.nS (i + 1) (by omega) (by omega) [0, 1, 2, 3, 4] rfl rfl
    · simp only [bne_eq_false_iff_eq] at h3
      rw [if_neg (by rw [h3]; simp)] at hfs
      have e20 : (((FF.take i).filter fun x => x.mask != mAll D).length : Int) = (((FF.take (i + 1)).filter fun x => x.mask != mAll D).length : Int) := by omega
      rw [e20]
      refine J.r hX tab_ok 400 (fun _ => rfl) fun b45 => ?_
      refine J.r hX tab_ok 400 (fun _ => rfl) fun b46 => ?_
      refine J.nS (i + 1) (by omega) (by omega) [0, 1, 2, 3, 4] rfl rfl
  simp only [decide_eq_false_iff_not, Int.ofNat_lt] at h2
  obtain rfl : i = FF.length := by omega
  rw [List.take_length]
  generalize (FF.filter fun x => x.mask != mAll D).length = kc at law2
  refine J.r hX tab_ok 400 (fun _ => rfl) fun b47 => ?_
  refine J.r hX tab_ok 400 (fun _ => rfl) fun b48 => ?_
  refine J.lo (α := Nat) (fun i => i ≤ m8) (fun i => [⟨23, .int .i64 i, 0, .tt⟩, ⟨22, .int .i64 ((k8.take i).filter fun e => e.role == 3).length, 0, .tt⟩, ⟨20, .int .i64 kc, 0, .tt⟩, ⟨12, .pointer (some ⟨q, 0, none⟩), 0, .tt⟩, ⟨4, .slice am m8 cm, 0, .tt⟩]) [] (fun i => []) (fun i => m8 - i) (0) (Nat.zero_le _) rfl ?_ (fun _ => rfl) fun i hI => ?_
  · rfl
  refine J.r hX tab_ok 400 (fun _ => rfl) fun b49 => ?_
  refine J.cond rfl (fun h2 => ?_) (fun h2 => ?_)
  · simp only [decide_eq_true_eq, Int.ofNat_lt] at h2
    obtain ⟨x, hx⟩ : ∃ x, k8[i]? = some x := ⟨_, List.getElem?_eq_getElem (by omega)⟩
    have hfs := filter_succ (fun e => e.role == 3) k8 i x hx
    have hfl := List.length_filter_le (fun e : En => e.role == 3) (k8.take i)
    have htl : (k8.take i).length ≤ i := by rw [List.length_take]; omega
    refine J.know (p := ∃ g o, am = some ⟨g, o, none⟩) (fun h' s => Rd.addr (R2 _ (s.get (i := 1) rfl)) (by omega)) fun hk => ?_
    obtain ⟨gm, om, rfl⟩ := hk
    refine J.r hX tab_ok 400 (fun _ => rfl) fun b50 => ?_
    refine J.val hX (.int .i64 x.role) 0 rfl rfl (fun hg a w he hw => rd1_run tab_ok rfl rfl he rfl rfl rfl (R2 _ (hw.get (i := 1) rfl)) (by omega) (j := i * 19 + 2) (by omega) (by rw [cellsE_cell hx 2 (by decide)]; rfl)) rfl trivial ?_
    refine J.r hX tab_ok 400 (fun _ => rfl) fun b51 => ?_
    refine J.cond rfl (fun h3 => ?_) (fun h3 => ?_)
    · rw [if_pos h3] at hfs
      refine J.r hX tab_ok 400 (fun _ => rfl) fun b52 => ?_
      have e22 : (((k8.take i).filter fun e => e.role == 3).length : Int) + 1 = (((k8.take (i + 1)).filter fun e => e.role == 3).length : Int) := by omega
      rw [e22]
      refine J.r hX tab_ok 400 (fun _ => rfl) fun b53 => ?_
      refine J.nS (i + 1) (by omega) (by omega) [0, 1, 2, 3, 4] rfl rfl
    · rw [if_neg (by rw [h3]; simp)] at hfs
      have e22 : (((k8.take i).filter fun e => e.role == 3).length : Int) = (((k8.take (i + 1)).filter fun e => e.role == 3).length : Int) := by omega
      rw [e22]
      refine J.r hX tab_ok 400 (fun _ => rfl) fun b54 => ?_
      refine J.r hX tab_ok 400 (fun _ => rfl) fun b55 => ?_
      refine J.nS (i + 1) (by omega) (by omega) [0, 1, 2, 3, 4] rfl rfl
  simp only [decide_eq_false_iff_not, Int.ofNat_lt] at h2
  have hm : i = m8 := by omega
  have htk : k8.take i = k8 := List.take_of_length_le (by omega)
  rw [htk]
  refine J.r hX tab_ok 400 (fun _ => rfl) fun b56 => ?_
  refine J.gcase hX rfl rfl rfl trivial (fun hb => ?_) (fun hb => ?_)
  · rw [hb]
    refine J.r hX tab_ok 400 (fun _ => rfl) fun b57 => ?_
    refine J.ca hX (by kernel_rfl) (n_Broken q (stN4 D B P b d l8 k8)) [3] 0 rfl rfl rfl rfl rfl rfl (fun _ => rfl) ?_
    rintro v As ⟨rfl, rfl⟩
    refine ⟨_, rfl, trivial, ?_⟩
    rw [law3]
    refine J.r hX tab_ok 400 (fun _ => rfl) fun b58 => ?_
    refine J.rt hX tab_ok [1] rfl rfl rfl ?_
    exact ⟨rfl, rfl⟩
  · rw [beq_eq_false_iff_ne] at hb
    omega
end Go.Proofs.YtmohcbniepdncaaGreat
namespace Go.Proofs.YtmohcbniepdncaaGreat
open Go Go.RowKit
open Go.ChangeShapes Go.WideShapes
/-- the memory as it was -/
def frz (W : World) : Atom := .hp ⟨Hle (hl W), fun _ _ l s => s.trans l⟩
theorem frz_rd {W : World} {a : Option Addr} {size n : Nat} {xs : List Value} (h : rdP a size n xs (hl W)) : Rd (frz W) a size n xs := fun _ s => h.up s
theorem Fn.whole {P : Program} {f : FuncId} {args : List Value} {r : Value} {W : World} (h : Fn P f args [frz W] (fun v As => v = r ∧ As = [frz W])) : Calls P f args.toArray W fun e w' => e = .returned r ∧ Below W.heap.size W w' := by
  have hs : Sep (.hp ⟨fun _ => True, fun _ _ _ s => s⟩ :: [frz W]) (hl W) := by
    refine ⟨fun _ => 1, fun i A hA => ?_⟩
    match i, hA with
    | 0, hA => simp at hA; subst hA; trivial
    | 1, hA =>
      simp at hA; subst hA
      intro b o hb
      exact res_some.2 ⟨rfl, hb⟩
    | i + 2, hA => simp at hA
  refine (h _ W hs).mono fun e w' ⟨v, As, e1, ⟨e2, e3⟩, s, x⟩ => ?_
  subst e2 e3
  have hle : Hle (hl W) (hl w') := s.get (i := 1) rfl
  refine ⟨e1, x.os, x.tape, x.output, x.size, fun k hk => ?_⟩
  have : W.heap[k]? = some W.heap[k] := Array.getElem?_eq_getElem hk
  rw [this]
  exact hle k _ this
theorem rd_none {size : Nat} {h : Hl} : rdP none size 0 [] h := ⟨by simp, fun h => absurd h (by omega)⟩
/-- a slice that came in -/
theorem rd_open {α : Type} {W : World} {base size n : Nat} {a : Addr} (f : α → List Value) (hsz : 0 < size)
    (h : ∀ i, i < n → ∃ x, W.cells? base (a.add (i * size)) size = some (f x)) : ∃ l : List α, l.length = n ∧ rdP (some a) size n (l.flatMap f) (hl W) := by
  have h1 : ∀ m, m ≤ n → ∃ l : List α, l.length = m ∧ (l.flatMap f).length = m * size ∧ ∀ i, i < m * size → W.cell? (a.add i) = (l.flatMap f)[i]? := by
    intro m
    induction m with
    | zero => exact fun _ => ⟨[], rfl, by simp, fun i hi => by omega⟩
    | succ m ih =>
      intro hm
      obtain ⟨l, e1, e2, e3⟩ := ih (by omega)
      obtain ⟨x, hx⟩ := h m (by omega)
      obtain ⟨_, q1, q2⟩ := World.cells?_some hx
      have hlen : ((l ++ [x]).flatMap f).length = (m + 1) * size := by simp [List.flatMap_append, e2, q1, Nat.succ_mul]
      refine ⟨l ++ [x], by simp [e1], hlen, fun i hi => ?_⟩
      rw [List.flatMap_append, List.getElem?_append, e2]
      split
      · exact e3 i (by assumption)
      · rename_i hge
        have := q2 (i - m * size) (by rw [Nat.succ_mul] at hi; omega)
        rw [Deep.add_add, show m * size + (i - m * size) = i by omega] at this
        rw [this]; simp
  obtain ⟨l, e1, e2, e3⟩ := h1 n (Nat.le_refl n)
  refine ⟨l, e1, e2, fun hn => ?_⟩
  obtain ⟨b, o, sp⟩ := a
  have hpos : 0 < n * size := Nat.mul_pos hn hsz
  have h0 := e3 0 hpos
  have hv : (l.flatMap f)[0]? = some ((l.flatMap f)[0]'(by omega)) := List.getElem?_eq_getElem _
  rw [hv] at h0
  have hsp : sp = none := by simpa [Addr.add] using World.cell?_spot h0
  subst hsp
  have hcell : ∀ i, W.cell? ⟨b, o + i, none⟩ = W.cell? ((⟨b, o, none⟩ : Addr).add i) := fun i => by rw [Addr.add_none]
  have hblk : ∃ cs ty fr, W.heap[b]? = some (.cells cs ty fr) := by
    unfold World.cell? at h0
    cases hh : W.heap[b]? with
    | none => simp [Addr.add, hh] at h0
    | some ob =>
      cases ob with
      | cells cs ty fr => exact ⟨cs, ty, fr, rfl⟩
      | _ => simp [Addr.add, hh] at h0
  obtain ⟨cs, ty, fr, hh⟩ := hblk
  refine ⟨b, o, cs, ty, fr, rfl, hh, ?_⟩
  apply List.ext_getElem?
  intro i
  rw [List.getElem?_take]
  split
  · rename_i hi
    rw [← e3 i hi, ← hcell, cell_of_row W b (o + i) cs ty fr hh]
    simp
  · rename_i hi
    exact (List.getElem?_eq_none (by omega)).symm
section
variable {H : Type} {enc : TypeId × Value → H} {w : World} {base : Nat} {spare : Nat → Bool} {held : Bool}
theorem one_byte {fuel : Nat} {cs : List Value} {y : DataW H × List MemPlace} (h : DataW.trod enc Tryz.prog w base spare held fuel 5 cs = some y) : ∃ b : UInt8, cs = [bv b] := by
  obtain ⟨n, rfl, _, hw⟩ := DataW.trod_int Tryz.underlying5 h
  have : 0 ≤ n ∧ n ≤ 255 := by simpa [Lit.wf, IntKind.min, IntKind.max, IntKind.signed, IntKind.bits] using hw
  refine ⟨UInt8.ofNat n.toNat, ?_⟩
  simp only [bv, List.cons.injEq, and_true]
  congr 1
  have : n.toNat < 256 := by omega
  have h2 : (UInt8.ofNat n.toNat).toNat = n.toNat := by simp; omega
  rw [h2]; omega
theorem bytes_of {m : Nat} {fuel : Nat} : ∀ {cs : List Value}, cs.length = m → (∀ i, i < m → ∃ y, DataW.trod enc Tryz.prog w base spare held fuel 5 ((cs.drop i).take 1) = some y) → ∃ l : List UInt8, l.length = m ∧ cs = l.map bv := by
  induction m with
  | zero => intro cs h _; exact ⟨[], rfl, List.eq_nil_of_length_eq_zero h⟩
  | succ m ih =>
    intro cs h hx
    match cs, h with
    | c :: r, h =>
      obtain ⟨y, hy⟩ := hx 0 (by omega)
      obtain ⟨b, hb⟩ := one_byte hy
      obtain ⟨l, e1, e2⟩ := ih (cs := r) (by simpa using h) (fun i hi => by simpa using hx (i + 1) (by omega))
      refine ⟨b :: l, by simp [e1], ?_⟩
      simp at hb
      simp [hb, e2]
theorem one_i64 {t : TypeId} (ht : Tryz.prog.underlying t = some (.int .i64)) {fuel : Nat} {cs : List Value} {y : DataW H × List MemPlace} (h : DataW.trod enc Tryz.prog w base spare held fuel t cs = some y) : ∃ n, cs = [.int .i64 n] := by
  obtain ⟨n, rfl, _, _⟩ := DataW.trod_int ht h
  exact ⟨n, rfl⟩
theorem data_of {fuel : Nat} {cs : List Value} {y : DataW H × List MemPlace} (h : DataW.trod enc Tryz.prog w base spare held fuel 41 cs = some y) : ∃ l : List UInt8, l.length = 16 ∧ cs = dataC l := by
  obtain ⟨xs, m, _, _, hl, hlen, hx⟩ := DataW.trod_array Tryz.underlying41 h
  have h1 : Tryz.prog.cellsOf 5 = 1 := by kernel_rfl
  have h16 : Tryz.prog.cellsOf 41 = 16 := by kernel_rfl
  obtain ⟨l, e1, e2⟩ := bytes_of (m := 16) (hl.trans h16) (fun i hi => by
    have := hx i hi
    rw [h1, Nat.mul_one, List.getElem?_eq_getElem (by omega)] at this
    exact ⟨_, this⟩)
  refine ⟨l, e1, ?_⟩
  match l, e1 with
  | [_, _, _, _, _, _, _, _, _, _, _, _, _, _, _, _], _ => subst e2; rfl
theorem en_of {fuel : Nat} {cs : List Value} {y : DataW H × List MemPlace} (h : DataW.trod enc Tryz.prog w base spare held fuel 60 cs = some y) : ∃ e : En, e.data.length = 16 ∧ cs = enL e := by
  obtain ⟨y0, y1, y2, y3, n, _, hl, h0, h1, h2, h3⟩ := Joins.trod_struct4 Tryz.underlying60 h
  have hlen : cs.length = 19 := hl.trans (by kernel_rfl)
  have c1 : Tryz.prog.cellsOf 3 = 1 := by kernel_rfl
  have c2 : Tryz.prog.cellsOf 2 = 1 := by kernel_rfl
  have c3 : Tryz.prog.cellsOf 41 = 16 := by kernel_rfl
  simp only [c1, c2, c3] at h0 h1 h2 h3
  obtain ⟨n0, q0⟩ := one_i64 Tryz.underlying3 h0
  obtain ⟨n1, q1⟩ := one_i64 Tryz.underlying2 h1
  obtain ⟨n2, q2⟩ := one_i64 Tryz.underlying3 h2
  obtain ⟨d, hd, q3⟩ := data_of h3
  refine ⟨⟨n0, n1, n2, d⟩, hd, ?_⟩
  match cs, hlen with
  | [_, _, _, _, _, _, _, _, _, _, _, _, _, _, _, _, _, _, _], _ =>
    simp at q0 q1 q2
    simp only [List.drop_succ_cons, List.drop_zero, List.take_succ_cons, List.take_zero, dataC] at q3
    subst q0 q1 q2
    simp only [enL, List.cons.injEq] at q3 ⊢
    simp only [true_and]
    exact q3
/-- a slice of entries that came in -/
theorem open_ens {held' : Bool} {fuel : Nat} {a : Option Addr} {len cap : Nat} {x : DataW H × List MemPlace} (h : DataW.trod enc Tryz.prog w base spare held' fuel 47 [.slice a len cap] = some x) :
    len ≤ cap ∧ cap ≤ maxLen ∧ ∃ l : List En, l.length = len ∧ (∀ e ∈ l, e.data.length = 16) ∧ rdP a 19 len (cellsE l) (hl w) := by
  rcases Deep.open_slice Tryz.underlying47 h with ⟨hcs, _⟩ | ⟨a', len', cap', m, n, D, Pl, hcs, hb, hlc, hm, hmm, rfl, hx⟩
  · simp at hcs
    obtain ⟨rfl, rfl, rfl⟩ := hcs
    exact ⟨Nat.le_refl _, Nat.zero_le _, [], rfl, fun _ h => by simp at h, rd_none⟩
  · simp at hcs
    obtain ⟨rfl, rfl, rfl⟩ := hcs
    have c1 : Tryz.prog.cellsOf 60 = 19 := by kernel_rfl
    rw [c1] at hx
    obtain ⟨l, e1, e2⟩ := rd_open (W := w) (base := base) (size := 19) (n := len) (a := a') (fun e : { e : En // e.data.length = 16 } => enL e.1) (by decide) (fun i hi => by
      obtain ⟨cs, q1, q2⟩ := hx i (by rw [hmm]; split <;> omega)
      obtain ⟨e, he, rfl⟩ := en_of q2
      exact ⟨⟨e, he⟩, q1⟩)
    refine ⟨hlc, hm, l.map (·.1), by simpa using e1, fun e he => ?_, ?_⟩
    · obtain ⟨x, _, rfl⟩ := List.mem_map.1 he
      exact x.2
    · unfold cellsE
      rw [List.flatMap_map]
      exact e2
end
end Go.Proofs.YtmohcbniepdncaaGreat
