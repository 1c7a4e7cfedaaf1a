/- Helpers of the proofs about ostrakonlaw11, proved here: Ldo. No condition. -/
import Derived.Test.YtoideahgjgaddaaGreatP27
set_option linter.unusedVariables false
set_option linter.unusedSimpArgs false
set_option linter.unusedSectionVars false
set_option linter.unnecessarySimpa false
/- Walks: the sentence DeskOrder. -/
namespace Go.Proofs.YtoideahgjgaddaaGreat
open Go Go.RowKit
theorem fn_succ (k : Int) (W : List Int) (j : Nat) (x : Int) (h : W[j]? = some x) : ((W.take (j + 1)).filter fun y => y != k) = if x = k then (W.take j).filter (fun y => y != k) else (W.take j).filter (fun y => y != k) ++ [x] := by
  rw [List.take_add_one, h, Option.toList_some, List.filter_append]
  by_cases e : x = k
  · rw [if_pos e]; simp [e]
  · rw [if_neg e]; simp [e]
theorem put_lpn (L : List En) (e : En) : (dkPut L e).map (·.lpn) = ((L.map (·.lpn)).filter fun y => y != e.lpn) ++ [e.lpn] := by
  unfold dkPut
  rw [List.map_append, List.filter_map]
  rfl
theorem dk_drop {L : List En} (h : dkOne L) (n : Nat) : dkDone (L.drop n) (L.take n) = L.drop n := by
  unfold dkDone
  rw [List.filter_eq_self]
  intro x hx
  rw [Bool.not_eq_true', List.any_eq_false]
  intro e he
  have := dkOne.app (A := L.take n) (B := L.drop n) (by rwa [List.take_append_drop]) e he x hx
  simp [this]
theorem dkN3_eq (L : List En) : (if (L.length : Int) < 3 then (L.length : Int) else 3) = (dkN L 3 : Int) := by
  unfold dkN
  split <;> omega
theorem cellsI_drop (l : List Int) (k : Nat) : (cellsI l).drop (k * 1) = cellsI (l.drop k) := by simp [cellsI]
theorem rd_dropI {a : Option (Nat × Nat)} {n c h : Nat} {L : List Int} {hh : Hl} (s : rdP (oad2 a) 1 n (cellsI L) hh) (hl : L.length = n) (hn : h ≤ n) (hc : n ≤ c) : rdP (oad2 (cutA a 1 h c)) 1 (L.drop h).length (cellsI (L.drop h)) hh := by
  have := rd_cutA s hn hc
  rwa [cellsI_drop, ← hl, ← List.length_drop] at this
set_option maxRecDepth 20000 in
theorem s_DeskOrder (A : Atom) (ao : Option Addr) (no co : Nat) (xs : List Int) (hA : Rd A ao 1 no (xs.flatMap fun x => [Value.int .i64 x])) (hlo : xs.length = no) (hdo : ∀ x ∈ xs, -9223372036854775808 ≤ x ∧ x ≤ 9223372036854775807) :
    Fn Tryz.prog 12 [.slice ao no co] [A] (fun v As => v = .bool true ∧ As = [A]) := by
  rw [cellsI_flat] at hA
  refine Fn.enter [0] Tryz.func12 rfl rfl rfl fun X F hX => ?_
  refine J.r hX tab_ok 400 (fun _ => rfl) fun b1 => ?_
  refine J.r hX tab_ok 400 (fun _ => rfl) fun b2 => ?_
  refine J.ca hX (by kernel_rfl) (l16_begun) [] 0 rfl rfl rfl rfl rfl rfl (fun _ => rfl) ?_
  rintro v As ⟨rfl, rfl⟩
  refine ⟨_, rfl, trivial, ?_⟩
  refine J.r hX tab_ok 400 (fun _ => rfl) fun b3 => ?_
  refine J.cond rfl (fun h => absurd h (by decide)) (fun _ => ?_)
  refine J.r hX tab_ok 400 (fun _ => rfl) fun b4 => ?_
  refine J.r hX tab_ok 400 (fun _ => rfl) fun b5 => ?_
  refine J.ca hX (by kernel_rfl) (d_New) [] 0 rfl rfl rfl rfl rfl rfl (fun _ => rfl) ?_
  rintro v As ⟨d, rfl, rfl⟩
  refine ⟨_, rfl, trivial, ?_⟩
  refine J.turn1 [] rfl (As := [ownA 3 1 none 0 0 (cellsI [])]) (fun h s => Sep.one ⟨rfl, rfl, rfl⟩) rfl ?_
  refine J.r hX tab_ok 400 (fun _ => rfl) fun b6 => ?_
  refine J.r hX tab_ok 400 (fun _ => rfl) fun b7 => ?_
  refine J.lo (α := (Nat × List En × Option Nat × Nat)) (fun z => z.1 ≤ 30 ∧ dkOne z.2.1 ∧ z.2.1.length ≤ z.1) (fun z => [⟨6, .int .i64 z.1, 0, .tt⟩, ⟨0, .slice ao no co, 0, .tt⟩, ⟨4, .pointer (some ⟨d, 0, none⟩), 0, .tt⟩, ⟨5, slv z.2.2.1 (z.2.1.map (·.lpn)).length z.2.2.2, 0, .tt⟩]) [2, 3] (fun z => [DeskA d z.2.1, ownA 3 1 z.2.2.1 (z.2.1.map (·.lpn)).length z.2.2.2 (cellsI (z.2.1.map (·.lpn)))]) (fun z => 30 - z.1) ((0, [], none, 0)) (⟨Nat.zero_le _, dkOne.nil, Nat.le_refl _⟩) rfl ?_ (fun _ => rfl) fun z hI => ?_
  · rfl
  obtain ⟨i, L, aw, cw⟩ := z
  dsimp only at hI ⊢
  obtain ⟨hi, hone, hLi⟩ := hI
  refine J.r hX tab_ok 400 (fun _ => rfl) fun b8 => ?_
  refine J.cond rfl (fun h1 => ?_) (fun h1 => ?_)
  · simp only [Bool.and_eq_true, decide_eq_true_eq, Int.ofNat_lt] at h1
    obtain ⟨h1, h2⟩ := h1
    have h2 : i < 30 := by omega
    obtain ⟨x, hx⟩ : ∃ x, xs[i]? = some x := ⟨_, List.getElem?_eq_getElem (by omega)⟩
    refine J.know (p := ∃ g o, ao = some ⟨g, o, none⟩) (fun h' s => Rd.addr (hA _ (s.get (i := 1) rfl)) (by omega)) fun hk => ?_
    obtain ⟨gm, om, rfl⟩ := hk
    refine J.r hX tab_ok 400 (fun _ => rfl) fun b9 => ?_
    refine J.val hX (.int .i64 x) 0 rfl rfl (fun hg aa w he hw => rd1_run tab_ok rfl rfl he rfl rfl rfl (hA _ (hw.get (i := 1) rfl)) (by omega) (j := i) (by omega) (cellsI_get hx)) rfl trivial ?_
    refine J.r hX tab_ok 2 (fun _ => rfl) fun b10 => ?_
    generalize IntKind.i64.wrap _ = k
    refine J.r hX tab_ok 400 (fun _ => rfl) fun b11 => ?_
    refine J.r hX tab_ok 400 (fun _ => rfl) fun b12 => ?_
    refine J.ca hX (by kernel_rfl) (l16_entry k (i + 1)) [] 0 rfl rfl rfl rfl rfl rfl (fun _ => rfl) ?_
    rintro v As ⟨rfl, rfl⟩
    refine ⟨_, rfl, trivial, ?_⟩
    refine J.r hX tab_ok 400 (fun _ => rfl) fun b13 => ?_
    refine J.r hX tab_ok 400 (fun _ => rfl) fun b14 => ?_
    refine J.ca hX (by kernel_rfl) (d_Put d L (by omega) (enE k (i + 1))) [2] 0 rfl rfl rfl rfl rfl rfl (fun _ => rfl) ?_
    rintro v As ⟨rfl, rfl⟩
    refine ⟨_, rfl, trivial, ?_⟩
    refine J.turn1 [] rfl (As := [ownA 3 1 none 0 0 (cellsI [])]) (fun h s => Sep.one ⟨rfl, rfl, rfl⟩) rfl ?_
    have hpl : (dkPut L (enE k (i + 1))).map (·.lpn) = ((L.map (·.lpn)).filter fun y => y != k) ++ [k] := put_lpn L (enE k (i + 1))
    have hpu := hone.put (enE k (i + 1))
    have hpn := dkPut_len L (enE k (i + 1))
    have hWl : (L.map (·.lpn)).length = L.length := List.length_map _
    generalize hW : L.map (·.lpn) = W at hpl hWl
    refine J.r hX tab_ok 400 (fun _ => rfl) fun b15 => ?_
    refine J.r hX tab_ok 400 (fun _ => rfl) fun b16 => ?_
    refine J.lo (α := (Nat × Option Nat × Nat)) (fun z => z.1 ≤ W.length) (fun z => [⟨9, .int .i64 z.1, 0, .tt⟩, ⟨8, slv z.2.1 ((W.take z.1).filter fun y => y != k).length z.2.2, 0, .tt⟩, ⟨7, .int .i64 k, 0, .tt⟩, ⟨6, .int .i64 i, 0, .tt⟩, ⟨0, .slice (some ⟨gm, om, none⟩) no co, 0, .tt⟩, ⟨4, .pointer (some ⟨d, 0, none⟩), 0, .tt⟩, ⟨5, slv aw W.length cw, 0, .tt⟩]) [4] (fun z => [ownA 3 1 z.2.1 ((W.take z.1).filter fun y => y != k).length z.2.2 (cellsI ((W.take z.1).filter fun y => y != k))]) (fun z => W.length - z.1) ((0, none, 0)) (Nat.zero_le _) rfl ?_ (fun _ => rfl) fun z hI => ?_
    · rfl
    obtain ⟨j, am, cm⟩ := z
    dsimp only at hI ⊢
    have hfl : ((W.take j).filter fun y => y != k).length ≤ j := Nat.le_trans (List.length_filter_le _ _) (by rw [List.length_take]; omega)
    refine J.r hX tab_ok 400 (fun _ => rfl) fun b17 => ?_
    refine J.cond rfl (fun h3 => ?_) (fun h3 => ?_)
    · simp only [decide_eq_true_eq, Int.ofNat_lt] at h3
      obtain ⟨y, hy⟩ : ∃ y, W[j]? = some y := ⟨_, List.getElem?_eq_getElem h3⟩
      have hfs := fn_succ k W j y hy
      refine J.know (p := ∃ g, aw = some g) (fun h' s => own_some (c := (aw, cw)) (by omega) (s.get (i := 3) rfl)) fun hg => ?_
      obtain ⟨gw, rfl⟩ := hg
      refine J.r hX tab_ok 400 (fun _ => rfl) fun b18 => ?_
      refine J.val hX (.int .i64 y) 0 rfl rfl (fun hg aa w he hw => own1_run tab_ok rfl rfl he rfl rfl rfl (hw.get (i := 3) rfl) (by rw [show 0 + (j : Int).toNat * 1 = j from by omega]; exact cellsI_get hy)) rfl trivial ?_
      refine J.r hX tab_ok 400 (fun _ => rfl) fun b19 => ?_
      refine J.cond rfl (fun h4 => ?_) (fun h4 => ?_)
      · simp only [bne_iff_ne, ne_eq] at h4
        rw [if_neg h4] at hfs
        refine J.r hX tab_ok 400 (fun _ => rfl) fun b20 => ?_
        refine J.val hX (.int .i64 y) 0 rfl rfl (fun hg aa w he hw => own1_run tab_ok rfl rfl he rfl rfl rfl (hw.get (i := 3) rfl) (by rw [show 0 + (j : Int).toNat * 1 = j from by omega]; exact cellsI_get hy)) rfl trivial ?_
        refine J.r hX tab_ok 400 (fun _ => rfl) fun b21 => ?_
        refine J.append hX tab_ok 4 5 0 rfl rfl rfl rfl rfl rfl rfl rfl rfl rfl rfl rfl rfl rfl rfl rfl ?_ ?_ (fun _ => rfl) fun a2 c2 => ⟨_, (congrArg (fun y => lset _ 4 (ownA _ _ _ _ _ y)) (cellsI_snoc _ y).symm).trans rfl, trivial, ?_⟩
        · simp only [maxLen]; omega
        · omega
        rw [show ((W.take j).filter fun y => y != k).length + 1 = ((W.take (j + 1)).filter fun y => y != k).length from by rw [hfs]; simp, ← hfs]
        refine J.r hX tab_ok 400 (fun _ => rfl) fun b22 => ?_
        refine J.r hX tab_ok 400 (fun _ => rfl) fun b23 => ?_
        refine J.nS ((j + 1, a2, c2)) (by dsimp only; omega) (by dsimp only; omega) [0, 1, 2, 3, 4] rfl rfl
      · simp only [bne_eq_false_iff_eq] at h4
        rw [if_pos h4] at hfs
        rw [← hfs]
        refine J.r hX tab_ok 400 (fun _ => rfl) fun b24 => ?_
        refine J.r hX tab_ok 400 (fun _ => rfl) fun b25 => ?_
        refine J.nS ((j + 1, am, cm)) (by dsimp only; omega) (by dsimp only; omega) [0, 1, 2, 3, 4] rfl rfl
    simp only [decide_eq_false_iff_not, Int.ofNat_lt] at h3
    obtain rfl : j = W.length := by omega
    rw [List.take_length]
    have hfl := List.length_filter_le (fun y : Int => y != k) W
    refine J.r hX tab_ok 400 (fun _ => rfl) fun b26 => ?_
    refine J.append hX tab_ok 4 5 0 rfl rfl rfl rfl rfl rfl rfl rfl rfl rfl rfl rfl rfl rfl rfl rfl ?_ ?_ (fun _ => rfl) fun a2 c2 => ⟨_, (congrArg (fun y => lset _ 4 (ownA _ _ _ _ _ y)) (cellsI_snoc _ k).symm).trans rfl, trivial, ?_⟩
    · simp only [maxLen]; omega
    · omega
    rw [show (W.filter fun y => y != k).length + 1 = ((dkPut L (enE k (i + 1))).map (·.lpn)).length from by rw [hpl]; simp, ← hpl]
    refine J.r hX tab_ok 400 (fun _ => rfl) fun b27 => ?_
    refine J.r hX tab_ok 400 (fun _ => rfl) fun b28 => ?_
    refine J.nS ((i + 1, dkPut L (enE k (i + 1)), a2, c2)) (⟨by dsimp only; omega, hpu, by dsimp only; omega⟩) (by dsimp only; omega) [0, 1, 2, 4] rfl rfl
  refine J.know (fun h' s => ownP_cap (s.get (i := 3) rfl)) fun hcap => ?_
  refine J.know (fun h' s => ownP_nil (s.get (i := 3) rfl)) fun hnil => ?_
  obtain ⟨a0, ha0⟩ : ∃ a0, a0 = aw.map fun g => (g, 0) := ⟨_, rfl⟩
  have hsl : ∀ n c, slv aw n c = .slice (oad2 a0) n c := fun n c => by rw [ha0]; cases aw <;> rfl
  have hoa : oad aw = oad2 a0 := by rw [ha0]; cases aw <;> rfl
  have hz0 : a0 = none → cw = 0 := fun e => hnil (by rw [ha0] at e; cases aw with | none => rfl | some g => cases e)
  refine J.turn1 [3] rfl (As := [rdA (oad2 a0) 1 (L.map (·.lpn)).length (cellsI (L.map (·.lpn)))]) (fun h s => Sep.one (by rw [← hoa]; exact own_rd _ _ _ _ _ _ _ (s.get (i := 0) rfl))) rfl ?_
  rw [hsl]
  refine J.r hX tab_ok 400 (fun _ => rfl) fun b29 => ?_
  refine J.r hX tab_ok 400 (fun _ => rfl) fun b30 => ?_
  refine J.lo (α := (List En × Option (Nat × Nat) × Nat)) (fun z => dkOne z.1 ∧ z.1.length ≤ 30 ∧ (z.1.map (·.lpn)).length ≤ z.2.2 ∧ (z.2.1 = none → z.2.2 = 0)) (fun z => [⟨4, .pointer (some ⟨d, 0, none⟩), 0, .tt⟩, ⟨5, .slice (oad2 z.2.1) (z.1.map (·.lpn)).length z.2.2, 0, .tt⟩]) [2, 3] (fun z => [DeskA d z.1, rdA (oad2 z.2.1) 1 (z.1.map (·.lpn)).length (cellsI (z.1.map (·.lpn)))]) (fun z => z.1.length) ((L, a0, cw)) (⟨hone, by dsimp only; omega, hcap, hz0⟩) rfl ?_ (fun _ => rfl) fun z hI => ?_
  · rfl
  obtain ⟨M, a, c⟩ := z
  dsimp only at hI ⊢
  obtain ⟨hone, hM, hMc, hMz⟩ := hI
  have hWl : (M.map (·.lpn)).length = M.length := List.length_map _
  obtain ⟨W, hW⟩ : ∃ W, W = M.map (·.lpn) := ⟨_, rfl⟩
  rw [← hW] at hMc hWl ⊢
  refine J.r hX tab_ok 400 (fun _ => rfl) fun b31 => ?_
  refine J.cond rfl (fun h2 => ?_) (fun h2 => ?_)
  · have h2 : 0 < M.length := by have := of_decide_eq_true h2; omega
    refine J.r hX tab_ok 400 (fun _ => rfl) fun b32 => ?_
    refine J.r hX tab_ok 400 (fun _ => rfl) fun b33 => ?_
    refine J.ca hX (by kernel_rfl) (d_First d M (by omega) 3) [2] 0 rfl rfl rfl rfl rfl rfl (fun _ => rfl) ?_
    rintro v As ⟨a', c', rfl, rfl⟩
    refine ⟨_, rfl, trivial, ?_⟩
    have hk3 : (if (W.length : Int) < 3 then (W.length : Int) else 3) = (dkN M 3 : Int) := by rw [hWl]; exact dkN3_eq M
    have hkM : dkN M 3 ≤ M.length := Nat.min_le_right _ _
    have hk0 : 0 < dkN M 3 := by unfold dkN; omega
    generalize dkN M 3 = k at hk3 hkM hk0
    refine J.r hX tab_ok 400 (fun _ => rfl) fun b34 => ?_
    rw [hk3, ne_selfI (k : Int)]
    refine J.r hX tab_ok 400 (fun _ => rfl) fun b35 => ?_
    refine J.cond rfl (fun h => absurd h (by decide)) (fun _ => ?_)
    refine J.r hX tab_ok 400 (fun _ => rfl) fun b36 => ?_
    refine J.r hX tab_ok 400 (fun _ => rfl) fun b37 => ?_
    refine J.lo (α := Nat) (fun j => j ≤ k) (fun j => [⟨11, .int .i64 j, 0, .tt⟩, ⟨10, slv a' k c', 0, .tt⟩, ⟨4, .pointer (some ⟨d, 0, none⟩), 0, .tt⟩, ⟨5, .slice (oad2 a) W.length c, 0, .tt⟩]) [] (fun j => []) (fun j => k - j) (0) (Nat.zero_le _) rfl ?_ (fun _ => rfl) fun j hI => ?_
    · rfl
    refine J.r hX tab_ok 400 (fun _ => rfl) fun b38 => ?_
    refine J.cond rfl (fun h3 => ?_) (fun h3 => ?_)
    · simp only [decide_eq_true_eq, Int.ofNat_lt] at h3
      obtain ⟨y, hy⟩ : ∃ y, M[j]? = some y := ⟨_, List.getElem?_eq_getElem (by omega)⟩
      have hyk : (M.take k)[j]? = some y := by rw [List.getElem?_take, if_pos h3]; exact hy
      have hyw : W[j]? = some y.lpn := by rw [hW, List.getElem?_map, hy]; rfl
      refine J.know (p := ∃ g, a' = some g) (fun h' s => own_some (c := (a', c')) (by omega) (s.get (i := 4) rfl)) fun hg => ?_
      obtain ⟨gf, rfl⟩ := hg
      refine J.know (p := ∃ y, a = some y) (fun h' s => oad2_some (s.get (i := 3) rfl) (by omega)) fun hk => ?_
      obtain ⟨⟨gl, ol⟩, rfl⟩ := hk
      refine J.r hX tab_ok 400 (fun _ => rfl) fun b39 => ?_
      refine J.plan (.of [0,4,8,12,17,20,24,28,33,36]) [] [3,4] (by rw [hX.hP]; kernel_rfl) (by kernel_rfl) ?_
      refine J.r hX tab_ok 400 (fun _ => rfl) fun b40 => ?_
      refine J.valT hX (.int .i64 y.lpn) 0 rfl rfl (fun hg aa w he hC => own1_run tab_ok rfl rfl he rfl rfl rfl (hC rfl _ (cget_mem (i := 4) rfl)) (by rw [show 0 + (j : Int).toNat * 19 + 0 = j * 19 + 0 from by omega, cellsE_cell hyk 0 (by decide)]; rfl)) rfl ?_
      refine J.r hX tab_ok 400 (fun _ => rfl) fun b41 => ?_
      refine J.valT hX (.int .i64 y.lpn) 0 rfl rfl (fun hg aa w he hC => rd1_run tab_ok rfl rfl he rfl rfl rfl (hC rfl _ (cget_mem (i := 3) rfl)) (by omega) (j := j) (by omega) (cellsI_get hyw)) rfl ?_
      refine J.r hX tab_ok 1 (fun _ => rfl) fun b42 => ?_
      rw [ne_selfI y.lpn]
      refine J.r hX tab_ok 400 (fun _ => rfl) fun b43 => ?_
      refine J.cond rfl (fun h => absurd h (by decide)) (fun _ => ?_)
      refine J.r hX tab_ok 400 (fun _ => rfl) fun b44 => ?_
      refine J.r hX tab_ok 400 (fun _ => rfl) fun b45 => ?_
      refine J.nS (j + 1) (by omega) (by omega) [0, 1, 2, 3, 4] rfl rfl
    refine J.r hX tab_ok 400 (fun _ => rfl) fun b46 => ?_
    refine J.r hX tab_ok 400 (fun _ => rfl) fun b47 => ?_
    refine J.ca hX (by kernel_rfl) (d_Done d M (by omega) (ownA 45 19 a' k c' (cellsE (M.take k))) (oad a') k c' (M.take k) (own_rd _ _ a' _ _ _) (by rw [List.length_take]; omega) (by omega)) [2, 4] 0 rfl rfl rfl rfl rfl rfl (fun _ => rfl) ?_
    rintro v As ⟨rfl, rfl⟩
    refine ⟨_, rfl, trivial, ?_⟩
    rw [dk_take hone k]
    have hd2 : (((M.length : Int) - ((M.drop k).length : Int)) != (k : Int)) = false := by
      rw [bne_eq_false_iff_eq, List.length_drop]
      omega
    refine J.r hX tab_ok 3 (fun _ => rfl) fun b48 => ?_
    rw [hd2]
    refine J.r hX tab_ok 400 (fun _ => rfl) fun b49 => ?_
    refine J.r hX tab_ok 400 (fun _ => rfl) fun b50 => ?_
    refine J.ca hX (by kernel_rfl) (d_Done d (M.drop k) (by rw [List.length_drop]; omega) (ownA 45 19 a' k c' (cellsE (M.take k))) (oad a') k c' (M.take k) (own_rd _ _ a' _ _ _) (by rw [List.length_take]; omega) (by omega)) [2, 4] 0 rfl rfl rfl rfl rfl rfl (fun _ => rfl) ?_
    rintro v As ⟨rfl, rfl⟩
    refine ⟨_, rfl, trivial, ?_⟩
    rw [dk_drop hone k]
    refine J.r hX tab_ok 1 (fun _ => rfl) fun b51 => ?_
    rw [show ((((M.drop k).length : Int) - ((M.drop k).length : Int)) != 0) = false from by rw [Int.sub_self]; rfl]
    refine J.r hX tab_ok 400 (fun _ => rfl) fun b52 => ?_
    refine J.cond rfl (fun h => absurd h (by decide)) (fun _ => ?_)
    refine J.r hX tab_ok 5 (fun _ => rfl) fun b53 => ?_
    have hkW : k ≤ W.length := by omega
    refine J.val hX (.slice (oad2 (cutA a 1 k c)) (W.length - k) (c - k)) 0 rfl rfl (fun hg aa w he hw => cutlo2_run tab_ok rfl rfl rfl he rfl rfl rfl rfl rfl hkW) rfl trivial ?_
    have hdr : W.drop k = (M.drop k).map (·.lpn) := by rw [hW, List.map_drop]
    refine J.turn1 [3] rfl (As := [rdA (oad2 (cutA a 1 k c)) 1 (W.drop k).length (cellsI (W.drop k))]) (fun h s => Sep.one (rd_dropI (s.get (i := 0) rfl) rfl hkW hMc)) rfl ?_
    rw [show W.length - k = (W.drop k).length from (List.length_drop ..).symm, hdr]
    refine J.r hX tab_ok 400 (fun _ => rfl) fun b54 => ?_
    refine J.r hX tab_ok 400 (fun _ => rfl) fun b55 => ?_
    refine J.nS ((M.drop k, cutA a 1 k c, c - k)) (⟨hone.sub (List.drop_sublist ..), by dsimp only; rw [List.length_drop]; omega, by dsimp only; rw [← hdr, List.length_drop]; omega, cutA_none hMz⟩) (by dsimp only; rw [List.length_drop]; omega) [0, 1, 2, 3] rfl rfl
  have h0 : M.length = 0 := by have := of_decide_eq_false h2; omega
  obtain rfl : M = [] := List.eq_nil_of_length_eq_zero h0
  refine J.r hX tab_ok 400 (fun _ => rfl) fun b56 => ?_
  refine J.r hX tab_ok 400 (fun _ => rfl) fun b57 => ?_
  refine J.ca hX (by kernel_rfl) (d_Len d []) [2] 0 rfl rfl rfl rfl rfl rfl (fun _ => rfl) ?_
  rintro v As ⟨rfl, rfl⟩
  refine ⟨_, rfl, trivial, ?_⟩
  refine J.r hX tab_ok 400 (fun _ => rfl) fun b58 => ?_
  refine J.r hX tab_ok 400 (fun _ => rfl) fun b59 => ?_
  refine J.ca hX (by kernel_rfl) (d_First d [] (by decide) 5) [2] 0 rfl rfl rfl rfl rfl rfl (fun _ => rfl) ?_
  rintro v As ⟨a', c', rfl, rfl⟩
  refine ⟨_, rfl, trivial, ?_⟩
  refine J.r hX tab_ok 400 (fun _ => rfl) fun b60 => ?_
  refine J.rt hX tab_ok [1] rfl rfl rfl ?_
  exact ⟨rfl, rfl⟩
end Go.Proofs.YtoideahgjgaddaaGreat
