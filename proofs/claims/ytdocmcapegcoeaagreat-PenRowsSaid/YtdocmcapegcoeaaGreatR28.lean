/- Helpers of the proofs about ostrakonlaw11, proved here: Lpr, Jn, JnP. No condition. -/
import Derived.Test.YtdocmcapegcoeaaGreatR27
import Derived.Test.YtdocmcapegcoeaaGreatRows
import Derived.JoinedOf
set_option maxRecDepth 20000
set_option linter.unusedVariables false
set_option linter.unusedSimpArgs false
set_option linter.unusedSectionVars false
set_option linter.unnecessarySimpa false
namespace Go.Proofs.YtdocmcapegcoeaaGreat
open Go Go.RowKit
def eL (lpn : Int) (j : Nat) : List En := (List.range j).map fun i : Nat => e18 (lpn + i) (lpn + i + 1)
theorem eL_succ (lpn : Int) (j : Nat) : eL lpn (j + 1) = eL lpn j ++ [e18 (lpn + j) (lpn + j + 1)] := by unfold eL; rw [List.range_succ, List.map_append]; rfl
theorem eL_len (lpn : Int) (j : Nat) : (eL lpn j).length = j := by simp [eL]
theorem eL_get (lpn : Int) {j i : Nat} (h : i < j) : (eL lpn j).getD i En.zero = e18 (lpn + i) (lpn + i + 1) := by
 unfold eL
 rw [List.getD_eq_getElem?_getD, List.getElem?_map, List.getElem?_range h]; rfl
theorem eL_data (lpn : Int) (j : Nat) : ∀ s ∈ eL lpn j, s.data.length = 16 := by
 intro s hs
 simp only [eL, List.mem_map] at hs
 obtain ⟨i, _, rfl⟩ := hs
 rfl
theorem e18_fit {k s : Int} (h : 0 ≤ k ∧ k ≤ 65535) : FitR (e18 k s) := ⟨h, .inl rfl, rfl⟩
theorem eL_fit {lpn : Int} {j : Nat} (h : 0 ≤ lpn ∧ lpn + j ≤ 65535) : ∀ e ∈ eL lpn j, FitR e := by
 intro s hs
 simp only [eL, List.mem_map, List.mem_range] at hs
 obtain ⟨i, hi, rfl⟩ := hs
 exact e18_fit (by omega)
theorem eL_nodup (lpn : Int) (j : Nat) : ((eL lpn j).map (·.lpn)).Nodup := by
 unfold eL
 rw [List.map_map]
 refine nodup_map_range _ _ fun k k' _ hk e => ?_
 simp only [Function.comp_apply, e18] at e
 omega
theorem all_mAll : ∀ D, D < 7 → L.all (D : Nat) = mAll D := by decide +kernel
theorem s_PenRows (g0 g1 g2 : Int) (A : Atom) (ao : Option Addr) (no co : Nat) (xs : List Int) (hA : Rd A ao 1 no (xs.flatMap fun x => [Value.int .i64 x])) (hlo : xs.length = no) (hdo : ∀ x ∈ xs, -9223372036854775808 ≤ x ∧ x ≤ 9223372036854775807) :
  Fn Tryz.prog 3 [.agg #[.int .i64 g0, .int .i64 g1, .int .i64 g2], .slice ao no co] [A] (fun v As => v = .bool true ∧ As = [A]) := by
 rw [cellsI_flat] at hA
 refine Fn.enter [0, 0] Tryz.func3 rfl rfl rfl fun X F hX => ?_
 refine J.r hX tk 400 (fun _ => rfl) fun bb => ?_
 refine J.ca hX (by kernel_rfl) (l18_begun) [] 0 rfl rfl rfl rfl rfl rfl (fun _ => rfl) ?_
 rintro v As ⟨rfl, rfl⟩
 refine ⟨_, rfl, trivial, ?_⟩
 refine J.r hX tk 400 (fun _ => rfl) fun b2 => ?_
 refine J.cond rfl (fun h => absurd h (by decide)) (fun _ => ?_)
 refine J.r hX tk 400 (fun _ => rfl) fun b3 => ?_
 refine J.ca hX (by kernel_rfl) (l6_Geo g0 g1 g2) [] 0 rfl rfl rfl rfl rfl rfl (fun _ => rfl) ?_
 rintro v As ⟨D, B, P, rfl, hD, hB, hP, rfl⟩
 refine ⟨_, rfl, trivial, ?_⟩
 have hgm : geoMay D B P = true := by simp [geoMay]; omega
 have hpw := pow_bd D hD.2
 refine J.r hX tk 400 (fun _ => rfl) fun b5 => ?_
 refine J.ca hX (by kernel_rfl) (l18_bench D B P hgm 2000) [] 0 rfl rfl rfl rfl rfl rfl (fun _ => rfl) ?_
 rintro v As ⟨n, t, l, q, rfl, rfl⟩
 refine ⟨_, rfl, trivial, ?_⟩
 have hBP : B * P ≤ 128 := Nat.mul_le_mul hB.2 hP.2
 have hBP2 : (B : Int) * P = ((B * P : Nat) : Int) := by omega
 have hO0 : (Dv.new D B P 2000).Ok (1280 * 200) 0 := Dv.Ok.new D B P 2000 hgm _ (by decide)
 have hS0 := SeqI.new D B P 2000
 have hsl0 : (Dv.new D B P 2000).slots = (D : Int) - 1 := by
  have h0 := hS0.at1 hO0 (q := 0) (r := 0) (by omega) (by omega) (by omega)
  have hl : (Dv.new D B P 2000).left = false := rfl
  have h1 : (Dv.new D B P 2000).at1 = (Dv.new D B P 2000).opened := by unfold Dv.at1; rw [hl]; rfl
  unfold Dv.slots
  rw [hl, if_neg Bool.false_ne_true]
  have h2 := h0.2.2.2.1
  rw [h1] at h2
  rw [← h2]
  exact congrArg G.slots (Dv.mask_clean hO0.t.len _ _ _).symm
 refine J.r hX tk 400 (fun _ => rfl) fun b7 => ?_
 refine J.plan (.of [0,6,8,12,16,24,29,32,22,36,40]) [] [1,2,3,4,5,6] (by rw [hX.hP]; kernel_rfl) (by kernel_rfl) ?_
 refine J.r hX tk 400 (fun _ => rfl) fun b8 => ?_
 refine J.ca hX (by kernel_rfl) (pn_Open q n t l (Dv.new D B P 2000)) [3] 0 rfl rfl rfl rfl rfl rfl (fun _ => rfl) ?_
 rintro v As ⟨rfl, rfl⟩
 refine ⟨_, rfl, (by first | exact trivial | (repeat' (first | exact trivial | refine ⟨rfl, ?_⟩))), ?_⟩
 rw [show (Dv.new D B P 2000).op = -1 from rfl]
 refine J.r hX tk 400 (fun _ => rfl) fun b10 => ?_
 refine J.ca hX (by kernel_rfl) (pn_Slots q n t l (Dv.new D B P 2000) (by show B ≤ 1000; omega) hO0.t.len) [3, 4, 5, 6] 0 rfl rfl rfl rfl rfl rfl (fun _ => rfl) ?_
 rintro v As ⟨rfl, rfl⟩
 refine ⟨_, rfl, (by first | exact trivial | (repeat' (first | exact trivial | refine ⟨rfl, ?_⟩))), ?_⟩
 rw [hsl0]
 refine J.r hX tk 400 (fun _ => rfl) fun b12 => ?_
 rw [ne_selfI, ne_selfI]
 refine J.r hX tk 400 (fun _ => rfl) fun b13 => ?_
 refine J.cond rfl (fun h => absurd h (by decide)) (fun _ => ?_)
 refine J.r hX tk 400 (fun _ => rfl) fun b14 => ?_
 refine J.lo (α := (Nat × Nat × Nat × Dv)) (fun z => (z.1 ≤ no ∧ z.1 = z.2.1) ∧ z.2.1 ≤ B * P ∧ z.2.2.1 ≤ 6 * z.2.1 ∧ SeqI D B P z.2.1 z.2.2.2 ∧ z.2.2.2.next = (z.2.2.1 : Int) + 1 ∧ z.2.2.2.T.logical = 2000 ∧ z.2.2.2.Ok (1280 * (200 - z.2.1)) 0) (fun z => [⟨12, .int .i64 z.1, 0, .tt⟩, ⟨10, .int .i64 z.2.1, 0, .tt⟩, ⟨11, .int .i64 z.2.2.1, 0, .tt⟩, ⟨2, .pointer (some ⟨bb 0, 0, none⟩), 3, .tt⟩, ⟨1, .slice ao no co, 0, .tt⟩, ⟨6, .pointer (some ⟨n, 0, none⟩), 0, .tt⟩, ⟨8, .pointer (some ⟨l, 0, none⟩), 0, .tt⟩, ⟨9, .pointer (some ⟨q, 0, none⟩), 0, .tt⟩]) [3, 4, 5, 6] (fun z => DvP q n t l z.2.2.2) (fun z => no - z.1) ((0, 0, 0, Dv.new D B P 2000)) (⟨⟨Nat.zero_le _, rfl⟩, Nat.zero_le _, Nat.zero_le _, hS0, rfl, rfl, hO0⟩) rfl ?_ (fun _ => rfl) fun z hI => ?_
 ·rfl
 obtain ⟨i, rows, lpn, S⟩ := z
 dsimp only at hI ⊢
 obtain ⟨⟨hi, hir⟩, hrows, hlpn, hS, hnx, hlog, hO⟩ := hI
 have hlpn2 : lpn ≤ 768 := by omega
 refine J.r hX tk 400 (fun _ => rfl) fun b16 => ?_
 refine J.cond rfl (fun h1 => ?_) (fun h1 => ?_)
 ·simp only [Bool.and_eq_true, decide_eq_true_eq] at h1
  have hi1 : i < no := by omega
  have hr1 : rows < B * P := by omega
  obtain ⟨x, hx⟩ : ∃ x, xs[i]? = some x := ⟨_, List.getElem?_eq_getElem (by omega)⟩
  obtain ⟨w, hw, hw1⟩ : ∃ w : Nat, 1 + (x.tmod 6 + 6).tmod 6 = (w : Int) ∧ 1 ≤ w ∧ w ≤ 6 := by
   have h1 := tm_bd x 6 (by decide)
   have h2 := tm_2 x 6 (by decide)
   exact ⟨(1 + (x.tmod 6 + 6).tmod 6).toNat, by omega, by omega⟩
  refine J.know (p := ∃ g o, ao = some ⟨g, o, none⟩) (fun h' s => Rd.addr (hA _ (s.get (i := 1) rfl)) (by omega)) fun hk => ?_
  obtain ⟨gm, om, rfl⟩ := hk
  refine J.r hX tk 400 (fun _ => rfl) fun b17 => ?_
  refine J.val hX (.int .i64 x) 0 rfl rfl (fun hg aa w he hw => rd1_run tk rfl rfl he rfl rfl rfl (hA _ (hw.get (i := 1) rfl)) (by omega) (j := i) (by omega) (cellsI_get hx)) rfl trivial ?_
  have hxm := tm_bd x 6 (by decide)
  refine J.r hX tk 400 (fun _ => rfl) fun b18 => ?_
  rw [hw]
  refine J.turn1 [] rfl (As := [ownA 38 19 none 0 0 (cellsE [])]) (fun h s => Sep.one ⟨rfl, rfl, rfl⟩) rfl ?_
  refine J.r hX tk 400 (fun _ => rfl) fun b19 => ?_
  refine J.lo (α := (Nat × Option Nat × Nat)) (fun z => z.1 ≤ w) (fun z => [⟨15, .int .i64 z.1, 0, .tt⟩, ⟨14, slv z.2.1 (eL lpn z.1).length z.2.2, 0, .tt⟩, ⟨13, .int .i64 w, 0, .tt⟩, ⟨12, .int .i64 i, 0, .tt⟩, ⟨10, .int .i64 rows, 0, .tt⟩, ⟨11, .int .i64 lpn, 0, .tt⟩, ⟨2, .pointer (some ⟨bb 0, 0, none⟩), 3, .tt⟩, ⟨1, .slice (some ⟨gm, om, none⟩) no co, 0, .tt⟩, ⟨6, .pointer (some ⟨n, 0, none⟩), 0, .tt⟩, ⟨8, .pointer (some ⟨l, 0, none⟩), 0, .tt⟩, ⟨9, .pointer (some ⟨q, 0, none⟩), 0, .tt⟩]) [7] (fun z => [ownA 38 19 z.2.1 (eL lpn z.1).length z.2.2 (cellsE (eL lpn z.1))]) (fun z => w - z.1) ((0, none, 0)) (Nat.zero_le _) rfl ?_ (fun _ => rfl) fun z hI => ?_
  ·rfl
  obtain ⟨j, ga, ca⟩ := z
  dsimp only at hI ⊢
  have hel := eL_len lpn j
  refine J.r hX tk 400 (fun _ => rfl) fun b20 => ?_
  refine J.cond rfl (fun h2 => ?_) (fun h2 => ?_)
  ·simp only [decide_eq_true_eq, Int.ofNat_lt] at h2
   have hsu := eL_succ lpn j
   refine J.r hX tk 400 (fun _ => rfl) fun b21 => ?_
   refine J.ca hX (by kernel_rfl) (l18_entry (lpn + j) (lpn + j + 1)) [] 0 rfl rfl rfl rfl rfl rfl (fun _ => rfl) ?_
   rintro v As ⟨rfl, rfl⟩
   refine ⟨_, rfl, trivial, ?_⟩
   refine J.r hX tk 400 (fun _ => rfl) fun b23 => ?_
   refine J.append hX tk 7 8 0 rfl rfl rfl rfl rfl rfl rfl rfl rfl rfl rfl rfl rfl rfl rfl rfl ?_ ?_ (fun _ => rfl) fun a3 c3 => ⟨_, (congrArg (fun z => lset _ 7 (ownA _ _ _ _ _ z)) (cellsE_snoc (eL lpn j) (e18 (lpn + j) (lpn + j + 1)))).trans rfl, trivial, ?_⟩
   ·simp only [maxLen]; omega
   ·omega
   rw [← hsu, show (eL lpn j).length + 1 = (eL lpn (j + 1)).length from by rw [hsu]; simp]
   refine J.r hX tk 400 (fun _ => rfl) fun b24 => ?_
   refine J.nS ((j + 1, a3, c3)) (by dsimp only; omega) (by dsimp only; omega) [0, 1, 2, 3, 4, 5, 6, 7] rfl rfl
  simp only [decide_eq_false_iff_not, Int.ofNat_lt] at h2
  obtain rfl : j = w := by omega
  obtain ⟨q0, r0, hq0, hr0⟩ : ∃ q0 r0, rows = q0 * P + r0 ∧ r0 < P := ⟨rows / P, rows % P, by rw [Nat.mul_comm]; exact (Nat.div_add_mod rows P).symm, Nat.mod_lt _ (by omega)⟩
  have hq1 : q0 < B := by
   rcases Nat.lt_or_ge q0 B with h | h
   ·exact h
   ·have : B * P ≤ q0 * P := Nat.mul_le_mul_right _ h
    omega
  have hdata := eL_data lpn j
  have hfit := eL_fit (lpn := lpn) (j := j) (by omega)
  have hO1 : S.Ok (8 * Dv.fuel + 1280 * (200 - (rows + 1))) 0 := hO.less (by unfold Dv.fuel; omega)
  obtain ⟨hp1, hp2, hp3, hp4, hp5, hp6, hp7⟩ := hS.pen (l := eL lpn j) hO1 hq0 hr0 hq1 hfit (by omega) (by omega)
  obtain ⟨ha1, ha2, ha3, ha4, ha5⟩ := hS.at1 hO1 hq0 hr0 hq1
  have hat := Dv.at1_like S
  have hlook := hp6.look hp5.inv hp7 hfit (fun e he => by
   rw [hat.2.1, hlog]
   simp only [eL, List.mem_map, List.mem_range] at he
   obtain ⟨z, hz, rfl⟩ := he
   show (lpn : Int) + z < 2000
   omega) (eL_nodup lpn j)
  refine J.r hX tk 400 (fun _ => rfl) fun b26 => ?_
  rw [slv_oad]
  refine J.r hX tk 400 (fun _ => rfl) fun b27 => ?_
  refine J.ca hX (by kernel_rfl) (pn_Write q n t l S _ 0 hO1 (ownA 38 19 ga (eL lpn j).length ca (cellsE (eL lpn j))) (oad ga) (eL lpn j).length ca (eL lpn j) (own_rd 38 19 ga (eL lpn j).length ca (cellsE (eL lpn j))) rfl (by omega) hdata) [3, 4, 5, 6, 7] 0 rfl rfl rfl rfl rfl rfl (fun _ => rfl) ?_
  rintro v As ⟨rfl, rfl⟩
  refine ⟨_, rfl, trivial, ?_⟩
  rw [hp1, hp2, hel]
  rw [hp2, hel] at hlook
  obtain ⟨κ, hκ⟩ : ∃ κ, κ = min j (D - 1) := ⟨_, rfl⟩
  have hκ6 : κ ≤ 6 := by omega
  have hmin : (if (D : Int) - 1 < (j : Int) then (D : Int) - 1 else (j : Int)) = (κ : Int) := by rw [hκ]; split <;> omega
  rw [← hκ] at hlook ⊢
  have hop : (wroteP S.at1 (eL lpn j)).op = (q0 : Nat) := ha1
  have hnx2 : (wroteP S.at1 (eL lpn j)).next = (lpn : Int) + 1 + κ := by
   show S.at1.next + (S.at1.fit (eL lpn j) : Int) = _
   rw [hp2, hat.2.2, hnx, hel, hκ]
  have hlog2 : (wroteP S.at1 (eL lpn j)).T.logical = 2000 := by
   have := (Dv.pen_keep hO1 hdata).2.2
   rw [hp1] at this
   exact this.trans hlog
  rw [ha1, ha2, ha3, hat.2.2, hnx] at hlook
  generalize wroteP S.at1 (eL lpn j) = W at hlook hp3 hp4 hop hnx2 hlog2 ⊢
  dsimp only
  have hquo : (rows : Int).tdiv (P : Int) = (q0 : Int) := by
   have : rows / P = q0 := by rw [hq0, Nat.mul_comm, Nat.mul_add_div (by omega), Nat.div_eq_of_lt hr0]; omega
   rw [Int.tdiv_eq_ediv_of_nonneg (by omega), ← Int.natCast_ediv, this]
  have hrem : (rows : Int).tmod (P : Int) = (r0 : Int) := by
   have : rows % P = r0 := by rw [hq0, Nat.mul_comm, Nat.mul_add_mod, Nat.mod_eq_of_lt hr0]
   rw [Int.tmod_eq_emod_of_nonneg (by omega), ← Int.natCast_emod, this]
  refine J.r hX tk 400 (fun _ => rfl) fun b28 => ?_
  refine J.plan (.of [0,4,8,12,16,20,25,28,32,36,40,44,48,56,60,65,68,54,72,76]) [] [1,2,3,4,5,6] (by rw [hX.hP]; kernel_rfl) (by kernel_rfl) ?_
  refine J.r hX tk 11 (fun _ => rfl) fun b29 => ?_
  rw [hmin, ne_selfI (κ : Int)]
  refine J.r hX tk 400 (fun _ => rfl) fun b30 => ?_
  refine J.ca hX (by kernel_rfl) (pn_Open q n t l W) [3] 0 rfl rfl rfl rfl rfl rfl (fun _ => rfl) ?_
  rintro v As ⟨rfl, rfl⟩
  refine ⟨_, rfl, (by first | exact trivial | (repeat' (first | exact trivial | refine ⟨rfl, ?_⟩))), ?_⟩
  rw [hop, hquo]
  refine J.r hX tk 400 (fun _ => rfl) fun b32 => ?_
  rw [ne_selfI (q0 : Int)]
  refine J.r hX tk 400 (fun _ => rfl) fun b33 => ?_
  refine J.cond rfl (fun h => absurd h (by decide)) (fun _ => ?_)
  refine J.r hX tk 400 (fun _ => rfl) fun b34 => ?_
  refine J.lo (α := Nat) (fun u => u ≤ κ) (fun u => [⟨18, .int .i64 u, 0, .tt⟩, ⟨16, .int .i64 κ, 0, .tt⟩, ⟨12, .int .i64 i, 0, .tt⟩, ⟨10, .int .i64 rows, 0, .tt⟩, ⟨11, .int .i64 lpn, 0, .tt⟩, ⟨2, .pointer (some ⟨bb 0, 0, none⟩), 3, .tt⟩, ⟨1, .slice (some ⟨gm, om, none⟩) no co, 0, .tt⟩, ⟨6, .pointer (some ⟨n, 0, none⟩), 0, .tt⟩, ⟨8, .pointer (some ⟨l, 0, none⟩), 0, .tt⟩, ⟨9, .pointer (some ⟨q, 0, none⟩), 0, .tt⟩]) [] (fun u => []) (fun u => κ - u) (0) (Nat.zero_le _) rfl ?_ (fun _ => rfl) fun u hI => ?_
  ·rfl
  refine J.r hX tk 400 (fun _ => rfl) fun b36 => ?_
  refine J.cond rfl (fun h3 => ?_) (fun h3 => ?_)
  ·simp only [decide_eq_true_eq, Int.ofNat_lt] at h3
   have hlu := hlook.1 u h3
   rw [eL_get lpn (show u < j by omega), show (lpn : Int) + 1 + u = lpn + u + 1 from by omega] at hlu
   have hlu : Tb.look W.T.at_ ((lpn : Int) + u) = some ⟨q0, r0, u, L.all D, lpn + u + 1, 1⟩ := hlu
   rw [all_mAll D (by omega)] at hlu
   refine J.r hX tk 400 (fun _ => rfl) fun b37 => ?_
   refine J.ca hX (by kernel_rfl) (tb_Get l W.T (lpn + u)) [6] 0 rfl rfl rfl rfl rfl rfl (fun _ => rfl) ?_
   rintro v As ⟨rfl, rfl⟩
   refine ⟨_, rfl, trivial, ?_⟩
   rw [hlu, Option.getD_some, Option.isSome_some]
   refine J.r hX tk 400 (fun _ => rfl) fun bp => ?_
   refine J.plan (.of [0,4,8,12,17,20,24,29,32,36,40,45,48,52,56,60,64,68,72,77,80,85,88,92,96,100,104,108,112,117,120,124,128,132,136,140]) [] [1,2,3,4,5,6,7,8] (by rw [hX.hP]; kernel_rfl) (by kernel_rfl) ?_
   refine J.r hX tk 14 (fun _ => rfl) fun b40 => ?_
   rw [hquo, hrem]
   refine J.r hX tk 400 (fun _ => rfl) fun b41 => ?_
   refine J.valT hX (.bool false) 0 rfl rfl (fun hg aa w he hC => (neAgg_run (xs := plL q0 r0 u) (ys := plL q0 r0 u) rfl rfl rfl he rfl rfl leavesPc (fitsPc _ _ _) (fitsPc _ _ _) mkPc gdPc).trans (by rw [eqPc]; simp)) rfl ?_
   refine J.r hX tk 400 (fun _ => rfl) fun b42 => ?_
   rw [geo_all D hD.2]
   dsimp only
   rw [ne_selfI (mAll D), ne_selfI ((lpn : Int) + u + 1)]
   refine J.r hX tk 400 (fun _ => rfl) fun b43 => ?_
   refine J.cond rfl (fun h => absurd h (by decide)) (fun _ => ?_)
   refine J.r hX tk 400 (fun _ => rfl) fun b44 => ?_
   refine J.nS (u + 1) (by omega) (by omega) [0, 1, 2, 3, 4, 5, 6, 7] rfl rfl
  simp only [decide_eq_false_iff_not, Int.ofNat_lt] at h3
  obtain rfl : u = κ := by omega
  refine J.r hX tk 400 (fun _ => rfl) fun b46 => ?_
  refine J.nS ((i + 1, rows + 1, lpn + u, W)) (⟨⟨by dsimp only; omega, by dsimp only; omega⟩, by dsimp only; omega, by dsimp only; omega, hp3, by dsimp only; rw [hnx2]; omega, hlog2, hp4⟩) (by dsimp only; omega) [0, 1, 2, 3, 4, 5, 6] rfl rfl
 simp only [Bool.and_eq_false_iff, decide_eq_false_iff_not] at h1
 have hRD : rows * D ≤ 128 * 6 := Nat.mul_le_mul (by omega) hD.2
 have hRD2 : (rows : Int) * D = ((rows * D : Nat) : Int) := by omega
 have hops : S.N.ops = (rows : Int) * D := by rw [hS.ops]; omega
 refine J.r hX tk 400 (fun _ => rfl) fun b48 => ?_
 refine J.plan (.of [0,8,12,17,20,6,24]) [] [1,2,3,4,5,6] (by rw [hX.hP]; kernel_rfl) (by kernel_rfl) ?_
 refine J.r hX tk 400 (fun _ => rfl) fun b49 => ?_
 refine J.ca hX (by kernel_rfl) (n_Ops n S.N) [4] 0 rfl rfl rfl rfl rfl rfl (fun _ => rfl) ?_
 rintro v As ⟨rfl, rfl⟩
 refine ⟨_, rfl, (by first | exact trivial | (repeat' (first | exact trivial | refine ⟨rfl, ?_⟩))), ?_⟩
 rw [hops]
 refine J.r hX tk 400 (fun _ => rfl) fun b51 => ?_
 rw [ne_selfI ((rows : Int) * D)]
 refine J.r hX tk 400 (fun _ => rfl) fun b52 => ?_
 refine J.cond rfl (fun h => absurd h (by decide)) (fun _ => ?_)
 refine J.r hX tk 400 (fun _ => rfl) fun b53 => ?_
 refine J.cond rfl (fun h2 => ?_) (fun h2 => ?_)
 ·simp only [beq_iff_eq] at h2
  have hrw : rows = B * P := by omega
  subst hrw
  have hOf : S.Ok (8 * Dv.fuel + 0) 0 := hO.less (by unfold Dv.fuel; omega)
  have hfu := hS.full (l := [e18 0 5]) hOf (by simp)
  refine J.r hX tk 400 (fun _ => rfl) fun b54 => ?_
  refine J.ca hX (by kernel_rfl) (l18_entry 0 5) [] 0 rfl rfl rfl rfl rfl rfl (fun _ => rfl) ?_
  rintro v As ⟨rfl, rfl⟩
  refine ⟨_, rfl, trivial, ?_⟩
  refine J.r hX tk 400 (fun _ => rfl) fun by_ => ?_
  refine J.ca hX (by kernel_rfl) (pn_Write q n t l S 0 0 hOf (.pt (by_ 0) 38 (cellsE [e18 0 5])) (some ⟨by_ 0, 0, none⟩) 1 1 [e18 0 5] (pt_rd _ _ _ _ _ rfl) rfl (by decide) (by decide)) [3, 4, 5, 6, 7] 0 rfl rfl rfl rfl rfl rfl (fun _ => rfl) ?_
  rintro v As ⟨rfl, rfl⟩
  refine ⟨_, rfl, trivial, ?_⟩
  rw [hfu.1]
  refine J.r hX tk 400 (fun _ => rfl) fun b57 => ?_
  refine J.ca hX (by kernel_rfl) (pn_Slots q n t l S (by have := hO.t.b; have := hS.blocks; omega) hO.t.len) [3, 4, 5, 6] 0 rfl rfl rfl rfl rfl rfl (fun _ => rfl) ?_
  rintro v As ⟨rfl, rfl⟩
  refine ⟨_, rfl, trivial, ?_⟩
  rw [hfu.2]
  refine J.r hX tk 400 (fun _ => rfl) fun b59 => ?_
  refine J.rt hX tk [1] rfl rfl rfl ?_
  exact ⟨rfl, rfl⟩
 ·refine J.r hX tk 400 (fun _ => rfl) fun b60 => ?_
  refine J.ca hX (by kernel_rfl) (n_Broken n S.N) [4] 0 rfl rfl rfl rfl rfl rfl (fun _ => rfl) ?_
  rintro v As ⟨rfl, rfl⟩
  refine ⟨_, rfl, trivial, ?_⟩
  rw [hS.broken]
  refine J.r hX tk 400 (fun _ => rfl) fun b62 => ?_
  refine J.rt hX tk [1] rfl rfl rfl ?_
  exact ⟨rfl, rfl⟩
end Go.Proofs.YtdocmcapegcoeaaGreat
namespace Go.Proofs.YtdocmcapegcoeaaGreat
open Go
theorem andT {a b : Bool} (ha : a = true) (hb : b = true) : (a && b) = true := by rw [ha, hb]; rfl
theorem joined_of {P : Program} {f : FuncId} {fn : Func} {s : ChangeSpec} {c : OpenClaim} (k0 : (c.wf (OpenSpec.ofChange s)) = true) (k1 : (laidOutB P) = true) (k2 : (mapsRowed P) = true) (k3 : (fn.params.all (P.readableRec ·)) = true) (k4 : (namedTie P c.named s.vars) = true) (k5 : (c.stops == []) = true) (k6 : (P.stops == []) = true) (k7 : (c.knobs == []) = true) (k8 : (P.stopKnobs == []) = true) (k9 : (c.inPlace == P.inPlace f) = true) (k10 : (c.unfollowed == P.unfollowed f) = true) (k11 : (c.recurses == P.recurses f) = true) (k12 : (c.named == P.varsNamed f) = true) (k13 : (c.maps == (fn.params.toList ++ s.plain.varTypes P).any (P.mapsRec ·)) = true) (k14 : (c.ifaces == (fn.params.toList ++ s.plain.varTypes P).any (P.ifacesRec ·)) = true) (k15 : (c.mapsOut == P.mapsAmong fn.resultTypes.toList) = true) (k16 : (c.loops == (fn.params.toList ++ s.plain.varTypes P).any (P.loopsFrom ·)) = true) (k17 : (c.wideKeys == (fn.params.toList ++ s.plain.varTypes P ++ fn.resultTypes.toList).any (P.wideKeysFrom ·)) = true) (k18 : (s.vars.all (P.varReadable ·)) = true) (k19 : (fn.resultTypes.all (fun t => P.readableRec t && decide (t < P.types.size))) = true) (k20 : (c.ifacesOut == fn.resultTypes.toList.any (P.ifacesRec ·)) = true) (k21 : (c.loopsOut == fn.resultTypes.toList.any (P.loopsFrom ·)) = true) (k22 : (c.plainKeys == P.plainKeys) = true) (k23 : (c.shortTexts.isNone) = true) (k24 : (P.stopsHeard) = true) (k25 : (P.mayEnter) = true) (k26 : (c.lifted == P.liftsFinal) = true) (k27 : (P.make == some c.make) = true) (k28a : c.domain.isEmpty = true) (k28 : (c.kinds == []) = true) (k29 : (c.pinned == c.pinnedBy) = true) (k30 : (c.veiled == (fn.params.toList ++ s.plain.varTypes P ++ fn.resultTypes.toList).any (P.veiledRec ·)) = true) (k31 : (c.veiledFits P fn.params.toList (fn.params.toList ++ s.plain.varTypes P ++ fn.resultTypes.toList)) = true) : joinedFacts P f fn s c = true := by
 unfold joinedFacts
 rw [if_pos k28a]
 exact (andT (andT (andT (andT (andT (andT (andT (andT (andT (andT (andT (andT (andT (andT (andT (andT (andT (andT (andT (andT (andT (andT (andT (andT (andT (andT (andT (andT (andT (andT (andT k0 k1) k2) k3) k4) k5) k6) k7) k8) k9) k10) k11) k12) k13) k14) k15) k16) k17) k18) k19) k20) k21) k22) k23) k24) k25) k26) k27) k28) k29) k30) k31)
theorem j_laid : laidOutB Tryz.prog = true := by kernel_rfl
theorem j_rowed : mapsRowed Tryz.prog = true := by kernel_rfl
theorem j_stops : (Tryz.prog.stops == []) = true := by kernel_rfl
theorem j_knobs : (Tryz.prog.stopKnobs == []) = true := by kernel_rfl
theorem j_heard : Tryz.prog.stopsHeard = true := by kernel_rfl
theorem j_enter : Tryz.prog.mayEnter = true := by kernel_rfl
end Go.Proofs.YtdocmcapegcoeaaGreat
