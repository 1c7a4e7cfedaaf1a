/- Helpers of the proofs about ostrakonlaw11, proved here: Sv, SvB, FdF, SvC, Srt189, SrtN. No condition. -/
import Derived.Test.YtoideahgjgaddaaGreatM05
import Derived.Test.YtoideahgjgaddaaGreatM14
import Derived.Test.YtoideahgjgaddaaGreatM15
import Derived.Test.YtoideahgjgaddaaGreatM16
import Derived.Test.YtoideahgjgaddaaGreatM17
import Derived.Test.YtoideahgjgaddaaGreatM18
import Derived.Shelf.Sort.Plain
set_option linter.unusedVariables false
set_option linter.unusedSimpArgs false
set_option linter.unusedSectionVars false
set_option linter.unnecessarySimpa false
namespace Go.Proofs.YtoideahgjgaddaaGreat
open Go Go.RowKit
abbrev fdV (x : Fnd) : Value := .agg (fnL x).toArray
def Fnd.zero : Fnd := ⟨En.zero, 0, 0, 0, 0, false, false⟩
theorem v_behind (a b : Fnd) : Fn Tryz.prog 135 [fdV a, fdV b] [] (fun v As => v = .bool (V.behind a b) ∧ As = []) := by
  refine Fn.enter [0, 0] Tryz.func135 rfl rfl rfl fun X F hX => ?_
  refine J.r hX tab_ok 400 (fun _ => rfl) fun b1 => ?_
  refine J.cond rfl (fun h1 => ?_) (fun h1 => ?_)
  · refine J.r hX tab_ok 400 (fun _ => rfl) fun b2 => ?_
    refine J.rt hX tab_ok [] rfl rfl rfl ?_
    simp only [bne_iff_ne, ne_eq] at h1
    exact ⟨by rw [V.behind, if_pos h1], rfl⟩
  · simp only [bne_eq_false_iff_eq] at h1
    refine J.run hX tab_ok 400 (fun b3 => rfl) (fun b3 => ?_) (fun b3 => ?_)
    · (repeat' (first | exact Conj.nil | refine Conj.cons ?_ ?_ | exact rfl | exact hq | (rw [hq]; rfl) | (rw [(Bool.not_eq_true' _).mp hq]) | intro hq | omega | (simp; done) | (simp_all; done)))
    refine J.r hX tab_ok 400 (fun _ => rfl) fun b4 => ?_
    refine J.rt hX tab_ok [] rfl rfl rfl ?_
    exact ⟨by rw [V.behind, if_neg (by simp [h1])], rfl⟩
theorem tops_succ {l : List Fnd} {k : Nat} {x : Fnd} (h : l[k]? = some x) : V.tops (l.take (k + 1)) = V.topsStep (V.tops (l.take k)) x := by
  unfold V.tops
  rw [List.take_add_one, h, Option.toList_some, List.foldl_append]; rfl
theorem topsStep_len (o : List Fnd) (x : Fnd) : (V.topsStep o x).length ≤ o.length + 1 := by
  cases o with
  | nil => simp [V.topsStep]
  | cons h t =>
    simp only [V.topsStep]
    split
    · simp
    · split <;> simp
theorem tops_len (l : List Fnd) : (V.tops l).length ≤ l.length := by
  have : ∀ k, k ≤ l.length → (V.tops (l.take k)).length ≤ k := by
    intro k
    induction k with
    | zero => intro _; simp [V.tops]
    | succ k ih =>
      intro hk
      rw [tops_succ (List.getElem?_eq_getElem (by omega))]
      have := topsStep_len (V.tops (l.take k)) l[k]
      have := ih (by omega)
      omega
  have := this l.length (Nat.le_refl _)
  rwa [List.take_length] at this
theorem v_tops (a : Option Nat) (n cap : Nat) (l : List Fnd) (hl : l.length = n) (hn : n ≤ 100000) : Fn Tryz.prog 88 [slv a n cap] [ownA 103 25 a n cap (cellsF l)]
    (fun v As => ∃ a' c', v = slv a' (V.tops l).length c' ∧ As = [ownA 103 25 a n cap (cellsF l), ownA 103 25 a' (V.tops l).length c' (cellsF (V.tops l))]) := by
  refine Fn.enter [0] Tryz.func88 rfl rfl rfl fun X F hX => ?_
  refine J.turn1 [] rfl (As := [ownA 103 25 none 0 0 (cellsF [])]) (fun h s => Sep.one ⟨rfl, rfl, rfl⟩) rfl ?_
  refine J.r hX tab_ok 400 (fun _ => rfl) fun b5 => ?_
  refine J.r hX tab_ok 400 (fun _ => rfl) fun b6 => ?_
  refine J.lo (α := (Nat × Option Nat × Nat × List Fnd)) (fun z => z.1 ≤ n ∧ V.tops (l.take z.1) = z.2.2.2) (fun z => [⟨8, .int .i64 z.1, 0, .tt⟩, ⟨7, .int .i64 n, 0, .tt⟩, ⟨6, slv a n cap, 0, .tt⟩, ⟨3, slv z.2.1 z.2.2.2.length z.2.2.1, 0, .tt⟩]) [2] (fun z => [ownA 103 25 z.2.1 z.2.2.2.length z.2.2.1 (cellsF z.2.2.2)]) (fun z => n - z.1) ((0, none, 0, [])) (⟨Nat.zero_le _, rfl⟩) rfl ?_ (fun _ => rfl) fun z hI => ?_
  · rfl
  obtain ⟨k, a1, c1, out⟩ := z
  dsimp only at hI ⊢
  obtain ⟨hI, hto⟩ := hI
  refine J.r hX tab_ok 400 (fun _ => rfl) fun b7 => ?_
  refine J.cond rfl (fun h1 => ?_) (fun h1 => ?_)
  · simp only [decide_eq_true_eq, Int.ofNat_lt] at h1
    cases a with
    | none =>
      refine J.know (fun h' s => (s.get (i := 1) rfl).2.1) fun hn0 => ?_
      omega
    | some g =>
    obtain ⟨x, hx⟩ : ∃ x, l[k]? = some x := ⟨_, List.getElem?_eq_getElem (by omega)⟩
    have hts := tops_succ hx
    have hlen := tops_len (l.take k)
    rw [List.length_take, hto] at hlen
    rw [hto] at hts
    refine J.r hX tab_ok 400 (fun _ => rfl) fun b8 => ?_
    refine J.val hX (fdV x) 0 rfl rfl (fun hg a w he hs => ?_) rfl trivial ?_
    · exact ownN_run tab_ok rfl rfl he rfl rfl rfl (hs.get (i := 1) rfl) (by rw [show 0 + (k : Int).toNat * 25 = k * 25 from by omega]; exact cellsF_get hx) rfl
    rcases out with _ | ⟨y, o⟩
    · skip
      refine J.r hX tab_ok 400 (fun _ => rfl) fun b9 => ?_
      refine J.plan (.of [0,4,8,12,16,20,25,29,34,36,40]) [] [1,2,3] (by rw [hX.hP]; kernel_rfl) (by kernel_rfl) ?_
      refine J.r hX tab_ok 5 (fun _ => rfl) fun b10 => ?_
      refine J.valT hX (.pointer (some ⟨g, 0, none⟩)) 0 rfl rfl (fun hg a w he hC => absurd hg (by simp [G.on])) rfl ?_
      refine J.r hX tab_ok 400 (fun _ => rfl) fun b11 => ?_
      refine J.valT hX (fdV x) 0 rfl rfl (fun hg a w he hC => absurd hg (by simp [G.on])) rfl ?_
      refine J.r hX tab_ok 400 (fun _ => rfl) fun b12 => ?_
      refine J.val hX (.bool true) 0 rfl rfl (fun hg a w he hC => absurd hg (by simp [G.on])) rfl (by first | exact trivial | (repeat' (first | exact trivial | refine ⟨rfl, ?_⟩))) ?_
      refine J.r hX tab_ok 400 (fun _ => rfl) fun b13 => ?_
      refine J.cond rfl (fun _ => ?_) (fun h => absurd h (by decide))
      refine J.r hX tab_ok 400 (fun _ => rfl) fun bs => ?_
      refine J.closeOwn (e := 103) (size := 25) (n := 1) (cap := 1) (xs := cellsF [x]) 4 rfl rfl rfl (Nat.le_refl _) (by decide) rfl rfl rfl ?_
      have hs : V.tops (l.take (k + 1)) = [x] := by rw [hts]; rfl
      refine J.slot (k := 3) (s' := ⟨3, slv (some (bs 0)) [x].length 1, 0, .tt⟩) rfl rfl rfl ?_
      refine J.r hX tab_ok 400 (fun _ => rfl) fun b14 => ?_
      refine J.nS ((k + 1, some (bs 0), 1, [x])) (⟨by dsimp only; omega, hs⟩) (by dsimp only; omega) [0, 1, 4] rfl rfl
    · refine J.know (fun h' s => own_some (c := (a1, c1)) (by simp) (s.get (i := 2) rfl)) fun hg => ?_
      obtain ⟨ga, rfl⟩ := hg
      refine J.r hX tab_ok 400 (fun _ => rfl) fun b15 => ?_
      refine J.plan (.of [0,4,8,12,16,20,25,29,34,36,40]) [] [1,2,3] (by rw [hX.hP]; kernel_rfl) (by kernel_rfl) ?_
      refine J.r hX tab_ok 400 (fun _ => rfl) fun b16 => ?_
      refine J.valT hX (fdV y) 0 rfl rfl (fun hg a w he hC => ?_) rfl ?_
      · exact ownN_run tab_ok rfl rfl he hg rfl rfl (hC rfl _ (cget_mem (i := 2) rfl)) rfl rfl
      have hnz : (((y :: o).length : Int) == 0) = false := by rw [beq_eq_false_iff_ne, List.length_cons]; omega
      rw [hnz]
      refine J.r hX tab_ok 400 (fun _ => rfl) fun b17 => ?_
      refine J.r hX tab_ok 400 (fun _ => rfl) fun b18 => ?_
      refine J.ca hX (by kernel_rfl) (v_behind y x) [] 0 rfl rfl rfl rfl rfl rfl (fun _ => rfl) ?_
      rintro v As ⟨rfl, rfl⟩
      refine ⟨_, rfl, (by first | exact trivial | (repeat' (first | exact trivial | refine ⟨rfl, ?_⟩))), ?_⟩
      refine J.r hX tab_ok 400 (fun _ => rfl) fun b19 => ?_
      refine J.cond rfl (fun h2 => ?_) (fun h2 => ?_)
      · refine J.r hX tab_ok 400 (fun _ => rfl) fun bs => ?_
        refine J.closeOwn (e := 103) (size := 25) (n := 1) (cap := 1) (xs := cellsF [x]) 4 rfl rfl rfl (Nat.le_refl _) (by decide) rfl rfl rfl ?_
        have hs : V.tops (l.take (k + 1)) = [x] := by rw [hts]; rw [V.topsStep, if_pos (by simpa using h2)]
        refine J.slot (k := 3) (s' := ⟨3, slv (some (bs 0)) [x].length 1, 0, .tt⟩) rfl rfl rfl ?_
        refine J.r hX tab_ok 400 (fun _ => rfl) fun b20 => ?_
        refine J.nS ((k + 1, some (bs 0), 1, [x])) (⟨by dsimp only; omega, hs⟩) (by dsimp only; omega) [0, 1, 4] rfl rfl
      · refine J.r hX tab_ok 400 (fun _ => rfl) fun b21 => ?_
        refine J.plan (.of [1,4,8,13,19,20,24]) [4,5,6] [1,2,3] (by rw [hX.hP]; kernel_rfl) (by kernel_rfl) ?_
        refine J.r hX tab_ok 400 (fun _ => rfl) fun b22 => ?_
        refine J.valT hX (fdV y) 0 rfl rfl (fun hg a w he hC => ?_) rfl ?_
        · exact ownN_run tab_ok rfl rfl he hg rfl rfl (hC rfl _ (cget_mem (i := 2) rfl)) rfl rfl
        refine J.r hX tab_ok 400 (fun _ => rfl) fun b23 => ?_
        refine J.r hX tab_ok 400 (fun _ => rfl) fun b24 => ?_
        refine J.ca hX (by kernel_rfl) (v_behind x y) [] 0 rfl rfl rfl rfl rfl rfl (fun _ => rfl) ?_
        rintro v As ⟨rfl, rfl⟩
        refine ⟨_, rfl, (by first | exact trivial | (repeat' (first | exact trivial | refine ⟨rfl, ?_⟩))), ?_⟩
        refine J.r hX tab_ok 400 (fun _ => rfl) fun b25 => ?_
        refine J.cond rfl (fun h3 => ?_) (fun h3 => ?_)
        · refine J.r hX tab_ok 400 (fun _ => rfl) fun b26 => ?_
          have hs : V.tops (l.take (k + 1)) = y :: o ++ [x] := by rw [hts, V.topsStep, if_neg (by simpa using h2), if_neg (by simpa using h3)]
          refine J.append hX tab_ok 2 4 0 rfl rfl rfl rfl rfl rfl rfl rfl rfl rfl rfl rfl rfl rfl rfl rfl ?_ ?_ (fun _ => rfl) fun a3 c3 => ⟨_, (congrArg (fun z => lset _ 2 (ownA _ _ _ _ _ z)) (cellsF_snoc (y :: o) x).symm).trans rfl, trivial, ?_⟩
          · simp only [maxLen]; omega
          · omega
          rw [show (y :: o).length + 1 = (y :: o ++ [x]).length from by simp]
          refine J.r hX tab_ok 400 (fun _ => rfl) fun b27 => ?_
          refine J.nS ((k + 1, a3, c3, y :: o ++ [x])) (⟨by dsimp only; omega, hs⟩) (by dsimp only; omega) [0, 1, 2] rfl rfl
        · have hs : V.tops (l.take (k + 1)) = y :: o := by rw [hts, V.topsStep, if_neg (by simpa using h2), if_pos (by simpa using h3)]
          refine J.r hX tab_ok 400 (fun _ => rfl) fun b28 => ?_
          refine J.nS ((k + 1, some ga, c1, y :: o)) (⟨by dsimp only; omega, hs⟩) (by dsimp only; omega) [0, 1, 2] rfl rfl
  · simp only [decide_eq_false_iff_not, Int.ofNat_lt] at h1
    obtain rfl : k = n := by omega
    rw [List.take_of_length_le (by omega)] at hto
    subst hto
    refine J.r hX tab_ok 400 (fun _ => rfl) fun b29 => ?_
    refine J.rt hX tab_ok [1, 2] rfl rfl rfl ?_
    exact ⟨a1, c1, rfl, rfl⟩
end Go.Proofs.YtoideahgjgaddaaGreat
namespace Go.Proofs.YtoideahgjgaddaaGreat
open Go Go.RowKit
def v_lastP (x : Int) : Bool := x != 2 && x != 4
theorem v_last1 (A : Atom) (x : Int) : Fn Tryz.prog 91 [.int .i64 x] [A] (fun v As => v = .bool (v_lastP x) ∧ As = [A]) := by
  refine Fn.enter [0] Tryz.func91 rfl rfl rfl fun X F hX => ?_
  refine J.r hX tab_ok 400 (fun _ => rfl) fun b1 => ?_
  refine J.rt hX tab_ok [1] rfl rfl rfl ?_
  exact ⟨rfl, rfl⟩
theorem blankRow_any (N : Nand) (b r : Int) : V.blankRow N b r = !(((M.rowN N b r N.dies).map (·.2)).any v_lastP) := by
  unfold V.blankRow
  rw [List.any_map, List.not_any_eq_all_not]
  congr 1
  funext x
  show (x.2 == 2 || x.2 == 4) = !(!(x.2 == 2) && !(x.2 == 4))
  cases (x.2 == 2) <;> cases (x.2 == 4) <;> rfl
/-- the rows behind one, up to another, are blank -/
def V.upto (N : Nand) (f : Fnd) (k : Nat) : Bool := (List.range k).all fun r : Nat => decide ((r : Int) ≤ f.row) || V.blankRow N f.block r
theorem V.upto_succ (N : Nand) (f : Fnd) (k : Nat) : V.upto N f (k + 1) = (V.upto N f k && (decide ((k : Int) ≤ f.row) || V.blankRow N f.block k)) := by
  unfold V.upto
  rw [List.range_succ, List.all_append]; simp
theorem V.upto_le (N : Nand) (f : Fnd) (k r0 : Nat) (hr : f.row = (r0 : Int)) (h : k ≤ r0 + 1) : V.upto N f k = true := by
  unfold V.upto
  rw [List.all_eq_true]
  intro r hr2
  rw [List.mem_range] at hr2
  rw [decide_eq_true (by omega)]; rfl
theorem v_last (p : Nat) (N : Nand) (hN : N.Ok) (hR : N.Room) (sp : Nat) (H : Value) (f : Fnd) (r0 : Nat) (hr : f.row = (r0 : Int)) (hr2 : r0 ≤ 1000) : Fn Tryz.prog 46 [.pointer (some ⟨sp, 0, none⟩), fdV f] [NandA p N, .pt sp 99 [.pointer (some ⟨p, 0, none⟩), H]]
    (fun v As => v = .bool (V.last N f) ∧ As = [NandA p N, .pt sp 99 [.pointer (some ⟨p, 0, none⟩), H]]) := by
  have hbd := hN.bd
  refine Fn.enter [3, 0] Tryz.func46 rfl rfl rfl fun X F hX => ?_
  refine J.r hX tab_ok 400 (fun _ => rfl) fun bb => ?_
  rw [hr]
  refine J.r hX tab_ok 400 (fun _ => rfl) fun b2 => ?_
  refine J.lo (α := Nat) (fun k => r0 + 1 ≤ k ∧ V.upto N f k = true ∧ (k = r0 + 1 ∨ k ≤ N.pages)) (fun k => [⟨5, .int .i64 k, 0, .tt⟩, ⟨0, .pointer (some ⟨sp, 0, none⟩), 3, .tt⟩, ⟨3, .pointer (some ⟨bb 0, 0, none⟩), 4, .tt⟩]) [] (fun k => []) (fun k => N.pages - k) (r0 + 1) (⟨Nat.le_refl _, V.upto_le N f _ r0 hr (Nat.le_refl _), .inl rfl⟩) rfl ?_ (fun _ => rfl) fun k hI => ?_
  · rfl
  refine J.r hX tab_ok 400 (fun _ => rfl) fun b3 => ?_
  refine J.r hX tab_ok 400 (fun _ => rfl) fun b4 => ?_
  refine J.ca hX (by kernel_rfl) (n_Geo p N) [1] 0 rfl rfl rfl rfl rfl rfl (fun _ => rfl) ?_
  rintro v As ⟨rfl, rfl⟩
  refine ⟨_, rfl, trivial, ?_⟩
  refine J.r hX tab_ok 400 (fun _ => rfl) fun b5 => ?_
  refine J.cond rfl (fun h1 => ?_) (fun h1 => ?_)
  · simp only [decide_eq_true_eq, Int.ofNat_lt] at h1
    refine J.r hX tab_ok 400 (fun _ => rfl) fun b6 => ?_
    refine J.plan (.of [0,4,8,13,16,20,25,28,34,36,40,44,48,52]) [13] [1,2,3] (by rw [hX.hP]; kernel_rfl) (by kernel_rfl) ?_
    refine J.r hX tab_ok 400 (fun _ => rfl) fun b7 => ?_
    refine J.r hX tab_ok 400 (fun _ => rfl) fun b8 => ?_
    refine J.ca hX (by kernel_rfl) (m_Row p N hN hR f.block k) [1] 0 rfl rfl rfl rfl rfl rfl (fun _ => rfl) ?_
    rintro v As ⟨a1, c1, a2, c2, rfl, rfl⟩
    refine ⟨_, rfl, (by first | exact trivial | (repeat' (first | exact trivial | refine ⟨rfl, ?_⟩))), ?_⟩
    refine J.r hX tab_ok 400 (fun _ => rfl) fun b9 => ?_
    refine J.r hX tab_ok 400 (fun _ => rfl) fun b10 => ?_
    refine J.ca hX (by kernel_rfl) (x_ContainsI 91 [] v_lastP (NandA p N) (by kernel_rfl) ((M.rowN N f.block k N.dies).map (·.2)) (fun x _ => v_last1 (NandA p N) x) a2 N.dies c2 (by simp [M.rowN]) (by omega)) [5, 1] 0 rfl rfl rfl rfl rfl rfl (fun _ => rfl) ?_
    rintro v As ⟨rfl, rfl⟩
    refine ⟨_, rfl, trivial, ?_⟩
    have hbl := blankRow_any N f.block k
    have hk := V.upto_succ N f k
    have hlt : decide ((k : Int) ≤ f.row) = false := by rw [decide_eq_false_iff_not]; omega
    rw [hI.2.1, hlt] at hk
    refine J.r hX tab_ok 400 (fun _ => rfl) fun b11 => ?_
    refine J.cond rfl (fun h2 => ?_) (fun h2 => ?_)
    · rw [h2] at hbl
      refine J.r hX tab_ok 400 (fun _ => rfl) fun b12 => ?_
      refine J.rt hX tab_ok [1, 2] rfl rfl rfl ?_
      refine ⟨?_, rfl⟩
      have : V.last N f = false := by
        unfold V.last
        rw [Bool.and_eq_false_iff]
        left
        rw [List.all_eq_false]
        exact ⟨k, List.mem_range.2 h1, by rw [hlt, hbl]; simp⟩
      rw [this]
    · rw [h2] at hbl
      rw [hbl] at hk
      refine J.r hX tab_ok 400 (fun _ => rfl) fun b13 => ?_
      refine J.nS (k + 1) (⟨by omega, hk, by omega⟩) (by omega) [0, 1, 2, 3] rfl rfl
  · simp only [decide_eq_false_iff_not, Int.ofNat_lt] at h1
    have hup : V.upto N f N.pages = true := by
      rcases hI.2.2 with h | h
      · exact V.upto_le N f _ r0 hr (by omega)
      · rw [show N.pages = k by omega]; exact hI.2.1
    refine J.r hX tab_ok 400 (fun _ => rfl) fun b14 => ?_
    refine J.r hX tab_ok 400 (fun _ => rfl) fun b15 => ?_
    refine J.ca hX (by kernel_rfl) (g_Parity f.mask f.block f.row) [] 0 rfl rfl rfl rfl rfl rfl (fun _ => rfl) ?_
    rintro v As ⟨rfl, rfl⟩
    refine ⟨_, rfl, trivial, ?_⟩
    have hv : V.last N f = ((M.look N (G.parity f.mask f.block f.row) f.block f.row).2 != 4) := by
      unfold V.last
      have : ((List.range N.pages).all fun r : Nat => decide ((r : Int) ≤ f.row) || V.blankRow N f.block r) = true := hup
      rw [this, Bool.true_and]
    refine J.r hX tab_ok 400 (fun _ => rfl) fun b16 => ?_
    refine J.plan (.take true 0 (.take true 1 (.take true 2 (.take false 3 (.take true 4 (.take true 5 (.take true 6 (.take false 7 (.take true 8 (.take true 9 (.take false 10 (.take true 11 (.alt false 12 ((.of [52,56,60,66,70,72])) (.alt false 16 ((.of [50,52,56,60,70,72])) .non)))))))))))))) [18] [1, 2, 3] (by rw [hX.hP]; kernel_rfl) (by kernel_rfl) ?_
    refine J.r hX tab_ok 400 (fun _ => rfl) fun b17 => ?_
    refine J.alts ?_ ?_
    · skip
      refine J.r hX tab_ok 400 (fun _ => rfl) fun b18 => ?_
      refine J.ca hX (by kernel_rfl) (m_Look p N hN hR (G.parity f.mask f.block f.row) f.block f.row) [1] 0 rfl rfl rfl rfl rfl rfl (fun _ => rfl) ?_
      rintro v As ⟨rfl, rfl⟩
      refine ⟨_, rfl, (by first | exact trivial | (repeat' (first | exact trivial | refine ⟨rfl, ?_⟩))), ?_⟩
      refine J.r hX tab_ok 400 (fun _ => rfl) fun b19 => ?_
      refine J.rt hX tab_ok [1, 2] rfl rfl rfl ?_
      exact ⟨by rw [hv], rfl⟩
    · skip
      refine J.r hX tab_ok 1 (fun _ => rfl) fun b20 => ?_
      refine J.r hX tab_ok 400 (fun _ => rfl) fun b21 => ?_
      refine J.ca hX (by kernel_rfl) (m_Look p N hN hR (G.parity f.mask f.block f.row) f.block f.row) [1] 0 rfl rfl rfl rfl rfl rfl (fun _ => rfl) ?_
      rintro v As ⟨rfl, rfl⟩
      refine ⟨_, rfl, (by first | exact trivial | (repeat' (first | exact trivial | refine ⟨rfl, ?_⟩))), ?_⟩
      refine J.r hX tab_ok 400 (fun _ => rfl) fun b22 => ?_
      refine J.rt hX tab_ok [1, 2] rfl rfl rfl ?_
      exact ⟨by rw [hv], rfl⟩
end Go.Proofs.YtoideahgjgaddaaGreat
namespace Go.Proofs.YtoideahgjgaddaaGreat
open Go Go.RowKit
theorem cellsF_at (l : List Fnd) (r : List Value) (k : Nat) (x : Fnd) (h : l[k]? = some x) : ((cellsF l ++ r).drop (k * 25)).take 25 = fnL x := by
  have hk : k < l.length := (List.getElem?_eq_some_iff.1 h).1
  rw [List.drop_append_of_le_length (by rw [cellsF_len]; omega), List.take_append_of_le_length (by rw [List.length_drop, cellsF_len]; omega)]
  exact cellsF_get h
theorem cellsF_set : ∀ (l : List Fnd) (r : List Value) (k : Nat) (x : Fnd), k < l.length → (cellsF l ++ r).take (k * 25) ++ fnL x ++ (cellsF l ++ r).drop (k * 25 + 25) = cellsF (l.set k x) ++ r
  | [], _, _, _, h => by simp at h
  | y :: l, r, 0, x, h => by simp [cellsF, fnL]
  | y :: l, r, k + 1, x, h => by
    have := cellsF_set l r k x (by simpa using h)
    have hy : (fnL y).length = 25 := rfl
    have e1 : cellsF (y :: l) ++ r = fnL y ++ (cellsF l ++ r) := by simp [cellsF]
    have e2 : cellsF ((y :: l).set (k + 1) x) ++ r = fnL y ++ (cellsF (l.set k x) ++ r) := by simp [cellsF]
    rw [e1, e2, ← this, show (k + 1) * 25 = (fnL y).length + k * 25 from by omega, List.take_length_add_append, show (fnL y).length + k * 25 + 25 = (fnL y).length + (k * 25 + 25) from by omega, ← List.drop_drop, List.drop_left' rfl]
    simp only [List.append_assoc]
def idxF (p : Fnd → Bool) (l : List Fnd) : Int := match l.findIdx? p with
  | some k => k
  | none => -1
theorem idxF_step {p : Fnd → Bool} {l : List Fnd} {k : Nat} {x : Fnd} (h : l[k]? = some x) (h0 : ∀ i < k, p (l.getD i Fnd.zero) = false) (hp : p x = true) : l.findIdx? p = some k := by
  rw [List.findIdx?_eq_some_iff_getElem]
  obtain ⟨h1, h2⟩ := List.getElem?_eq_some_iff.1 h
  refine ⟨h1, by rw [h2]; exact hp, fun j hj => ?_⟩
  have := h0 j hj
  rw [List.getD_eq_getElem?_getD, List.getElem?_eq_getElem (by omega), Option.getD_some] at this
  simp [this]
theorem idxF_none {p : Fnd → Bool} {l : List Fnd} (h0 : ∀ i < l.length, p (l.getD i Fnd.zero) = false) : l.findIdx? p = none := by
  rw [List.findIdx?_eq_none_iff]
  intro x hx
  obtain ⟨i, hi, rfl⟩ := List.mem_iff_getElem.1 hx
  have := h0 i hi
  rwa [List.getD_eq_getElem?_getD, List.getElem?_eq_getElem hi, Option.getD_some] at this
theorem idxF_any (p : Fnd → Bool) (l : List Fnd) : decide (idxF p l ≥ 0) = l.any p := by
  unfold idxF
  cases h : l.findIdx? p with
  | none =>
    rw [List.findIdx?_eq_none_iff] at h
    have : l.any p = false := by rw [List.any_eq_false]; exact fun x hx => by simp [h x hx]
    rw [this]; rfl
  | some k =>
    rw [List.findIdx?_eq_some_iff_getElem] at h
    obtain ⟨h1, h2, _⟩ := h
    have : l.any p = true := List.any_eq_true.2 ⟨l[k], List.getElem_mem _, h2⟩
    rw [this]; simp
theorem x_IndexF (c : Nat) (cs : List Value) (p : Fnd → Bool) (A : Atom) (hcal : callable Tryz.prog c = true) (l : List Fnd) (hf : ∀ x ∈ l, Fn Tryz.prog c (fdV x :: cs) [A] (fun v As => v = .bool (p x) ∧ As = [A]))
    (a : Option Nat) (n cap : Nat) (hl : l.length = n) (hn : n ≤ 4611686018427387904) : Fn Tryz.prog 140 [slv a n cap, fnC c cs] [ownA 103 25 a n cap (cellsF l), A]
    (fun v As => v = .int .i64 (idxF p l) ∧ As = [ownA 103 25 a n cap (cellsF l), A]) := by
  refine Fn.enter [0, 0] Tryz.func140 rfl rfl rfl fun X F hX => ?_
  refine J.r hX tab_ok 400 (fun _ => rfl) fun b1 => ?_
  refine J.r hX tab_ok 400 (fun _ => rfl) fun b2 => ?_
  refine J.lo (α := Nat) (fun k => k ≤ n ∧ ∀ i < k, p (l.getD i Fnd.zero) = false) (fun k => [⟨8, .int .i64 k, 0, .tt⟩, ⟨7, .int .i64 n, 0, .tt⟩, ⟨0, slv a n cap, 0, .tt⟩, ⟨1, fnC c cs, 0, .tt⟩]) [] (fun k => []) (fun k => n - k) (0) (⟨by omega, by omega⟩) rfl ?_ (fun _ => rfl) fun k hI => ?_
  · rfl
  refine J.r hX tab_ok 400 (fun _ => rfl) fun b3 => ?_
  refine J.cond rfl (fun h1 => ?_) (fun h1 => ?_)
  · simp only [decide_eq_true_eq, Int.ofNat_lt] at h1
    cases a with
    | none =>
      refine J.know (fun h' s => (s.get (i := 1) rfl).2.1) fun hn0 => ?_
      omega
    | some g =>
      have hk : l[k]? = some (l.getD k Fnd.zero) := by rw [List.getD_eq_getElem?_getD, List.getElem?_eq_getElem (by omega), Option.getD_some]
      refine J.r hX tab_ok 400 (fun _ => rfl) fun b4 => ?_
      refine J.val hX (fdV (l.getD k Fnd.zero)) 0 rfl rfl (fun hg a w he hs => ?_) rfl trivial ?_
      · exact ownN_run tab_ok rfl rfl he rfl rfl rfl (hs.get (i := 1) rfl) (by rw [show 0 + (k : Int).toNat * 25 = k * 25 from by omega]; have := cellsF_at l [] k _ hk; rwa [List.append_nil] at this) rfl
      refine J.r hX tab_ok 400 (fun _ => rfl) fun b5 => ?_
      refine J.call hX hcal (hf (l.getD k Fnd.zero) (List.mem_of_getElem? hk)) [2] 0 rfl rfl rfl rfl (by (repeat' (first | exact Conj.nil | refine Conj.cons ?_ ?_ | omega | exact hq0 | (simpa using hq0) | (exact fun h => h) | exact rfl | (intro hq; have hq0 := hq; try simp only [Bool.and_eq_true, Bool.or_eq_true, decide_eq_true_eq, Bool.not_eq_true', decide_eq_false_iff_not] at hq) | (simp; done) | (simp; omega) | decide))) rfl rfl (fun _ => rfl) ?_
      rintro v As ⟨rfl, rfl⟩
      refine ⟨_, rfl, trivial, ?_⟩
      refine J.r hX tab_ok 400 (fun _ => rfl) fun b6 => ?_
      refine J.cond rfl (fun h2 => ?_) (fun h2 => ?_)
      · refine J.r hX tab_ok 400 (fun _ => rfl) fun b7 => ?_
        refine J.rt hX tab_ok [1, 2] rfl rfl rfl ?_
        exact ⟨by rw [idxF, idxF_step hk hI.2 h2], rfl⟩
      · refine J.r hX tab_ok 400 (fun _ => rfl) fun b8 => ?_
        refine J.nx (k + 1) (⟨by omega, fun i hi => by
          rcases Nat.lt_succ_iff_lt_or_eq.1 hi with h3 | h3
          · exact hI.2 i h3
          · rw [h3]; exact h2⟩) (by omega) (fun _ s => s)
  · simp only [decide_eq_false_iff_not, Int.ofNat_lt] at h1
    refine J.r hX tab_ok 400 (fun _ => rfl) fun b9 => ?_
    refine J.rt hX tab_ok [1, 2] rfl rfl rfl ?_
    exact ⟨by rw [idxF, idxF_none (fun i hi => hI.2 i (by omega))], rfl⟩
theorem cellsF_one (l : List Fnd) : ∀ u ∈ cellsF l, u.oneCell' = true := by
  intro u hu
  simp only [cellsF, List.mem_flatMap] at hu
  obtain ⟨s, _, hu⟩ := hu
  simp only [fnL, List.mem_cons, List.not_mem_nil, or_false] at hu
  rcases hu with rfl | rfl | rfl | rfl | rfl | rfl | rfl | rfl | rfl | rfl | rfl | rfl | rfl | rfl | rfl | rfl | rfl | rfl | rfl | rfl | rfl | rfl | rfl | rfl | rfl <;> rfl
theorem x_CloneF (a : Option Nat) (n cap : Nat) (l : List Fnd) (hl : l.length = n) (hn : n ≤ 1000000) : Fn Tryz.prog 94 [slv a n cap] [ownA 103 25 a n cap (cellsF l)]
    (fun v As => ∃ a' c', v = slv a' n c' ∧ As = [ownA 103 25 a n cap (cellsF l), ownA 103 25 a' n c' (cellsF l)]) := by
  refine Fn.enter [0] Tryz.func94 rfl rfl rfl fun X F hX => ?_
  cases a with
  | none =>
    refine J.know (fun h' s => (s.get (i := 1) rfl).2) fun hn0 => ?_
    obtain ⟨rfl, rfl⟩ := hn0
    have : l = [] := List.eq_nil_of_length_eq_zero hl
    subst this
    refine J.r hX tab_ok 400 (fun _ => rfl) fun b10 => ?_
    refine J.cond rfl (fun _ => ?_) (fun h => by simp at h)
    refine J.turn1 [] rfl (As := [ownA 103 25 none 0 0 (cellsF [])]) (fun h s => Sep.one ⟨rfl, rfl, rfl⟩) rfl ?_
    refine J.r hX tab_ok 400 (fun _ => rfl) fun b11 => ?_
    refine J.rt hX tab_ok [1, 2] rfl rfl rfl ?_
    exact ⟨none, 0, rfl, rfl⟩
  | some g =>
    refine J.r hX tab_ok 400 (fun _ => rfl) fun b12 => ?_
    refine J.cond rfl (fun h => by simp at h) (fun _ => ?_)
    refine J.r hX tab_ok 5 (fun _ => rfl) fun bb => ?_
    refine J.closeOwn (e := 103) (size := 25) (n := 0) (cap := 0) (xs := []) 2 rfl rfl rfl (Nat.le_refl _) (Nat.zero_le _) rfl rfl rfl ?_
    refine J.r hX tab_ok 400 (fun _ => rfl) fun b13 => ?_
    refine J.appendR hX tab_ok (a := some (bb 0)) (n := 0) (cap := 0) (xs := []) (oo := 0) (Ay := ownA 103 25 (some g) n cap (cellsF l)) 2 1 0 rfl rfl rfl rfl rfl rfl rfl rfl rfl rfl (own_rd _ _ (some g) _ _ _) rfl rfl rfl rfl (cellsF_one l) ?_ ?_ (fun _ => rfl) fun a' c' => ⟨_, rfl, trivial, ?_⟩
    · simp only [maxLen]; omega
    · omega
    rw [Nat.zero_add n, List.nil_append]
    refine J.r hX tab_ok 400 (fun _ => rfl) fun b14 => ?_
    refine J.rt hX tab_ok [1, 2] rfl rfl rfl ?_
    exact ⟨a', c', rfl, rfl⟩
/-- what is left of a deletion: so much is done -/
def DelF (p : Fnd → Bool) (l m : List Fnd) (i j : Nat) : Prop := m.length = l.length ∧ i < j ∧ j ≤ l.length ∧ m.drop j = l.drop j ∧ m.take i ++ (l.drop j).filter (fun x => !p x) = l.filter (fun x => !p x)
theorem DelF.start {p : Fnd → Bool} {l : List Fnd} {k : Nat} (h : l.findIdx? p = some k) : DelF p l l k (k + 1) := by
  rw [List.findIdx?_eq_some_iff_getElem] at h
  obtain ⟨h1, h2, h3⟩ := h
  refine ⟨rfl, by omega, by omega, rfl, ?_⟩
  have e : l = l.take k ++ l[k] :: l.drop (k + 1) := by rw [← List.drop_eq_getElem_cons h1, List.take_append_drop]
  have e2 : (l.take k).filter (fun x => !p x) = l.take k := by
    rw [List.filter_eq_self]
    intro x hx
    obtain ⟨i, hi, rfl⟩ := List.mem_iff_getElem.1 hx
    rw [List.getElem_take]
    have := h3 i (by simp at hi; omega)
    simpa using this
  conv => rhs; rw [e]
  rw [List.filter_append, e2, List.filter_cons_of_neg (by simp [h2])]
theorem DelF.skip {p : Fnd → Bool} {l m : List Fnd} {i j : Nat} (h : DelF p l m i j) (hj : j < l.length) (hp : p (m.getD j Fnd.zero) = true) : DelF p l m i (j + 1) := by
  obtain ⟨h1, h2, h3, h4, h5⟩ := h
  have e1 : m[j]? = l[j]? := by have := congrArg (fun z => z[0]?) h4; simpa using this
  have hx : l[j] = m.getD j Fnd.zero := by rw [List.getD_eq_getElem?_getD, e1, List.getElem?_eq_getElem hj, Option.getD_some]
  refine ⟨h1, by omega, by omega, ?_, ?_⟩
  · have := congrArg (List.drop 1) h4
    simpa [List.drop_drop] using this
  · rw [← h5, List.drop_eq_getElem_cons hj, List.filter_cons_of_neg (by rw [hx, hp]; simp)]
theorem DelF.keep {p : Fnd → Bool} {l m : List Fnd} {i j : Nat} (h : DelF p l m i j) (hj : j < l.length) (hp : p (m.getD j Fnd.zero) = false) : DelF p l (m.set i (m.getD j Fnd.zero)) (i + 1) (j + 1) := by
  obtain ⟨h1, h2, h3, h4, h5⟩ := h
  have e1 : m[j]? = l[j]? := by have := congrArg (fun z => z[0]?) h4; simpa using this
  have hx : l[j] = m.getD j Fnd.zero := by rw [List.getD_eq_getElem?_getD, e1, List.getElem?_eq_getElem hj, Option.getD_some]
  refine ⟨by simp [h1], by omega, by omega, ?_, ?_⟩
  · rw [List.drop_set_of_lt (by omega)]
    have := congrArg (List.drop 1) h4
    simpa [List.drop_drop] using this
  · rw [← h5, List.drop_eq_getElem_cons hj, List.filter_cons_of_pos (by rw [hx, hp]; simp), hx, List.take_set, List.take_add_one, List.getElem?_eq_getElem (by omega)]
    rw [List.set_append_right _ _ (by simp; omega)]
    simp [List.length_take, Nat.min_eq_left (show i ≤ m.length by omega)]
theorem x_DeleteF (c : Nat) (cs : List Value) (p : Fnd → Bool) (A : Atom) (hcal : callable Tryz.prog c = true) (hf : ∀ x, Fn Tryz.prog c (fdV x :: cs) [A] (fun v As => v = .bool (p x) ∧ As = [A]))
    (a : Option Nat) (n cap : Nat) (l : List Fnd) (hl : l.length = n) (hn : n ≤ 4611686018427387904) : Fn Tryz.prog 93 [slv a n cap, fnC c cs] [ownA 103 25 a n cap (cellsF l), A]
    (fun v As => ∃ l', l' = l.filter (fun x => !p x) ∧ v = slv a l'.length cap ∧ As = [ownA 103 25 a l'.length cap (cellsF l'), A]) := by
  refine Fn.enter [0, 0] Tryz.func93 rfl rfl rfl fun X F hX => ?_
  refine J.r hX tab_ok 400 (fun _ => rfl) fun b15 => ?_
  refine J.r hX tab_ok 400 (fun _ => rfl) fun b16 => ?_
  refine J.ca hX (by kernel_rfl) (x_IndexF c cs p A hcal l (fun x _ => hf x) a n cap hl hn) [1, 2] 0 rfl rfl rfl rfl rfl rfl (fun _ => rfl) ?_
  rintro v As ⟨rfl, rfl⟩
  refine ⟨_, rfl, trivial, ?_⟩
  rw [idxF]
  cases hx : l.findIdx? p with
  | none =>
    dsimp only
    refine J.r hX tab_ok 400 (fun _ => rfl) fun b17 => ?_
    refine J.cond rfl (fun _ => ?_) (fun h => by simp at h)
    refine J.r hX tab_ok 400 (fun _ => rfl) fun b18 => ?_
    refine J.rt hX tab_ok [1, 2] rfl rfl rfl ?_
    have : l.filter (fun x => !p x) = l := by
      rw [List.filter_eq_self]
      intro x hm
      rw [List.findIdx?_eq_none_iff] at hx
      simp [hx x hm]
    exact ⟨l, this.symm, by rw [hl], by rw [hl]; rfl⟩
  | some k =>
    dsimp only
    refine J.r hX tab_ok 400 (fun _ => rfl) fun b19 => ?_
    refine J.cond rfl (fun h0 => ?_) (fun h0 => ?_)
    · simp only [beq_iff_eq] at h0; omega
    have hk : k < n := by rw [List.findIdx?_eq_some_iff_getElem] at hx; obtain ⟨h1, _⟩ := hx; omega
    cases a with
    | none =>
      refine J.know (fun h' s => (s.get (i := 1) rfl).2.1) fun hn0 => ?_
      omega
    | some g =>
      refine J.openOwn 1 rfl rfl (fun _ => rfl) fun r q1 q2 q3 q4 => ?_
      refine J.r hX tab_ok 400 (fun _ => rfl) fun b20 => ?_
      rw [show (k : Int) + 1 = ((k + 1 : Nat) : Int) from by omega]
      refine J.r hX tab_ok 400 (fun _ => rfl) fun b21 => ?_
      refine J.lo (α := (Nat × Nat × List Fnd)) (fun x => DelF p l x.2.2 x.1 x.2.1) (fun x => [⟨6, .int .i64 x.2.1, 0, .tt⟩, ⟨5, .int .i64 x.1, 0, .tt⟩, ⟨0, slv (some g) n cap, 0, .tt⟩, ⟨1, fnC c cs, 0, .tt⟩]) [1] (fun x => [.pt g 103 (cellsF x.2.2 ++ r)]) (fun x => n - x.2.1) ((k, k + 1, l)) (DelF.start hx) rfl ?_ (fun _ => rfl) fun x hI => ?_
      · rfl
      obtain ⟨i, j, m⟩ := x
      dsimp only at hI ⊢
      have hml : m.length = n := hI.1.trans hl
      have hij : i < j := hI.2.1
      have hjn : j ≤ n := by have := hI.2.2.1; omega
      refine J.r hX tab_ok 400 (fun _ => rfl) fun b22 => ?_
      refine J.cond rfl (fun h1 => ?_) (fun h1 => ?_)
      · simp only [decide_eq_true_eq, Int.ofNat_lt] at h1
        have hget : m[j]? = some (m.getD j Fnd.zero) := by rw [List.getD_eq_getElem?_getD, List.getElem?_eq_getElem (by omega), Option.getD_some]
        refine J.r hX tab_ok 400 (fun _ => rfl) fun b23 => ?_
        refine J.val hX (fdV (m.getD j Fnd.zero)) 0 rfl rfl (fun hg a w he hs => ?_) rfl trivial ?_
        · exact loadN_run tab_ok rfl rfl he rfl rfl rfl (hs.get (i := 1) rfl) (by rw [show 0 + (j : Int).toNat * 25 = j * 25 from by omega]; exact cellsF_at m r _ _ hget) rfl
        refine J.r hX tab_ok 400 (fun _ => rfl) fun b24 => ?_
        refine J.call hX hcal (hf (m.getD j Fnd.zero)) [2] 0 rfl rfl rfl rfl (by (repeat' (first | exact Conj.nil | refine Conj.cons ?_ ?_ | omega | exact hq0 | (simpa using hq0) | (exact fun h => h) | exact rfl | (intro hq; have hq0 := hq; try simp only [Bool.and_eq_true, Bool.or_eq_true, decide_eq_true_eq, Bool.not_eq_true', decide_eq_false_iff_not] at hq) | (simp; done) | (simp; omega) | decide))) rfl rfl (fun _ => rfl) ?_
        rintro v As ⟨rfl, rfl⟩
        refine ⟨_, rfl, trivial, ?_⟩
        refine J.r hX tab_ok 400 (fun _ => rfl) fun b25 => ?_
        refine J.cond rfl (fun h2 => ?_) (fun h2 => ?_)
        · simp only [Bool.not_eq_true'] at h2
          refine J.r hX tab_ok 400 (fun _ => rfl) fun b26 => ?_
          refine J.storeN hX tab_ok 1 rfl rfl rfl rfl rfl rfl rfl rfl rfl rfl rfl rfl rfl ?_ (cellsF (m.set i (m.getD j Fnd.zero)) ++ r) ?_ rfl (fun _ => rfl) ⟨trivial, ?_⟩
          · rw [List.length_append, cellsF_len]; show 0 + (i : Int).toNat * 25 + 25 ≤ _; omega
          · rw [show 0 + (i : Int).toNat * 25 = i * 25 from by omega]; exact cellsF_set m r i _ (by omega)
          refine J.r hX tab_ok 400 (fun _ => rfl) fun b27 => ?_
          refine J.nS ((i + 1, j + 1, m.set i (m.getD j Fnd.zero))) (hI.keep (by omega) h2) (by dsimp only; omega) [0, 1, 2] rfl rfl
        · simp only [Bool.not_eq_false'] at h2
          refine J.r hX tab_ok 400 (fun _ => rfl) fun b28 => ?_
          refine J.nS ((i, j + 1, m)) (hI.skip (by omega) h2) (by dsimp only; omega) [0, 1, 2] rfl rfl
      · simp only [decide_eq_false_iff_not, Int.ofNat_lt] at h1
        obtain rfl : j = n := by omega
        have hfil : m.take i = l.filter (fun x => !p x) := by
          have h5 := hI.2.2.2.2
          rw [List.drop_of_length_le (by omega)] at h5
          simpa using h5
        refine J.r hX tab_ok 400 (fun _ => rfl) fun b29 => ?_
        refine J.clear hX tab_ok 1 rfl rfl rfl rfl rfl rfl rfl rfl rfl rfl rfl ?_ (fun _ => rfl) (fun _ => rfl) fun cs' z1 z2 => ⟨trivial, ?_⟩
        · rw [List.length_append, cellsF_len]; rw [cellsF_len] at q4
          show 0 + (i : Int).toNat * 25 + (j - (i : Int).toNat) * 25 ≤ _
          have : (i : Int).toNat = i := by omega
          rw [this]; omega
        have hilen : (l.filter (fun x => !p x)).length = i := by rw [← hfil, List.length_take]; omega
        refine J.closeOwn (e := 103) (size := 25) (n := i) (cap := cap) (xs := cellsF (l.filter (fun x => !p x))) 1 rfl rfl (by rw [cellsF_len, hilen]) (by omega) q3 (by rw [z1, List.length_append, cellsF_len, hml]; rw [cellsF_len, hl] at q4; exact q4) ?_ rfl ?_
        · have z3 : (0 + (i : Int).toNat * 25) = i * 25 := by omega
          rw [z3] at z2
          rw [z2, ← hfil]
          have e : cellsF m = cellsF (m.take i) ++ cellsF (m.drop i) := by
            conv => lhs; rw [← List.take_append_drop i m]
            simp only [cellsF, List.flatMap_append]
          rw [e, List.append_assoc, List.take_left' (by rw [cellsF_len, List.length_take, Nat.min_eq_left (by omega)])]
        refine J.r hX tab_ok 400 (fun _ => rfl) fun b30 => ?_
        refine J.rt hX tab_ok [1, 2] rfl rfl rfl ?_
        exact ⟨_, rfl, by rw [hilen]; rfl, by rw [hilen]; rfl⟩
end Go.Proofs.YtoideahgjgaddaaGreat
namespace Go.Proofs.YtoideahgjgaddaaGreat
open Go Go.RowKit
/-- a page's found ones, as they lie -/
structure FSlot where
  a : Option Nat
  cap : Nat
  l : List Fnd
def FSlot.hdr (z : FSlot) : Value := slv z.a z.l.length z.cap
def FSlot.atom (z : FSlot) : Atom := ownA 103 25 z.a z.l.length z.cap (cellsF z.l)
def hdrs (Z : List FSlot) : List Value := Z.map FSlot.hdr
def fats (Z : List FSlot) : List Atom := Z.map FSlot.atom
theorem hdrs_get {Z : List FSlot} {k : Nat} {z : FSlot} (h : Z[k]? = some z) : (hdrs Z)[0 + (k : Int).toNat * 1]? = some z.hdr := by
  rw [show 0 + (k : Int).toNat * 1 = k from by omega, hdrs, List.getElem?_map, h]; rfl
theorem fats_get {Z : List FSlot} {k : Nat} {z : FSlot} (h : Z[k]? = some z) : (fats Z)[k]? = some z.atom := by
  rw [fats, List.getElem?_map, h]; rfl
theorem fats_same {Z : List FSlot} {k : Nat} {z : FSlot} (h : Z[k]? = some z) : (fats Z).set k z.atom = fats Z := by
  apply List.ext_getElem?
  intro i
  rw [List.getElem?_set]
  split
  · rename_i e; subst e; split
    · exact (fats_get h).symm
    · rename_i e2; rw [List.getElem?_eq_none (by omega)]
  · rfl
theorem fats_set (Z : List FSlot) (k : Nat) (z : FSlot) : (fats Z).set k z.atom = fats (Z.set k z) := by rw [fats, fats, List.map_set]
theorem hdrs_set (Z : List FSlot) (k : Nat) (z : FSlot) : (hdrs Z).set k z.hdr = hdrs (Z.set k z) := by rw [hdrs, hdrs, List.map_set]
/-- what stands of some -/
def V.standOf (l : List Fnd) : Fnd × Bool := match V.tops l with
  | [] => (Fnd.zero, false)
  | f :: _ => (f, true)
/-- a scan on its way -/
def ScP (sp p g : Nat) (Z : List FSlot) : List Atom := [.pt sp 99 [.pointer (some ⟨p, 0, none⟩), .slice (some ⟨g, 0, none⟩) Z.length Z.length], .pt g 100 (hdrs Z), .hp (HP.of (fats Z))]
theorem v_stands (sp p g : Nat) (Z : List FSlot) (k : Nat) (z : FSlot) (hz : Z[k]? = some z) (hn : Z.length ≤ 100000) (hl : z.l.length ≤ 100000) : Fn Tryz.prog 44 [.pointer (some ⟨sp, 0, none⟩), .int .i64 k] (ScP sp p g Z)
    (fun v As => v = .tuple #[fdV (V.standOf z.l).1, .bool (V.standOf z.l).2] ∧ As = ScP sp p g Z) := by
  have hk : k < Z.length := (List.getElem?_eq_some_iff.1 hz).1
  refine Fn.enter [2, 0] Tryz.func44 rfl rfl rfl fun X F hX => ?_
  refine J.r hX tab_ok 400 (fun _ => rfl) fun b1 => ?_
  refine J.val hX z.hdr 0 rfl rfl (fun hg a w he hs => ?_) rfl trivial ?_
  · exact load1_run tab_ok rfl rfl he rfl rfl rfl (hs.get (i := 2) rfl) (hdrs_get hz)
  refine J.openAt 3 k rfl rfl (fats_get hz) rfl ?_
  refine J.r hX tab_ok 400 (fun _ => rfl) fun b2 => ?_
  refine J.r hX tab_ok 400 (fun _ => rfl) fun b3 => ?_
  refine J.ca hX (by kernel_rfl) (v_tops z.a z.l.length z.cap z.l rfl hl) [5] 0 rfl rfl rfl rfl rfl rfl (fun _ => rfl) ?_
  rintro v As ⟨a', c', rfl, rfl⟩
  refine ⟨_, rfl, trivial, ?_⟩
  have hv : V.standOf z.l = match V.tops z.l with
    | [] => (Fnd.zero, false)
    | f :: _ => (f, true) := rfl
  rcases ht : V.tops z.l with _ | ⟨f, o⟩
  · rw [ht] at hv
    refine J.r hX tab_ok 400 (fun _ => rfl) fun b4 => ?_
    refine J.cond rfl (fun _ => ?_) (fun h => absurd h (by decide))
    refine J.r hX tab_ok 400 (fun _ => rfl) fun b5 => ?_
    refine J.closeAt (A := z.atom) 3 5 k rfl rfl rfl ?_
    rw [fats_same hz]
    refine J.r hX tab_ok 400 (fun _ => rfl) fun b6 => ?_
    refine J.rt hX tab_ok [1, 2, 3] rfl rfl rfl ?_
    exact ⟨by rw [hv]; rfl, rfl⟩
  · rw [ht] at hv
    refine J.know (fun h' s => own_some (c := (a', c')) (by simp) (s.get (i := 6) rfl)) fun hg => ?_
    obtain ⟨ga, rfl⟩ := hg
    refine J.r hX tab_ok 400 (fun _ => rfl) fun b7 => ?_
    refine J.cond rfl (fun h1 => ?_) (fun h1 => ?_)
    · simp only [beq_iff_eq, List.length_cons] at h1; omega
    refine J.r hX tab_ok 400 (fun _ => rfl) fun b8 => ?_
    refine J.val hX (fdV f) 0 rfl rfl (fun hg a w he hs => ?_) rfl trivial ?_
    · exact ownN_run tab_ok rfl rfl he rfl rfl rfl (hs.get (i := 6) rfl) rfl rfl
    refine J.r hX tab_ok 400 (fun _ => rfl) fun b9 => ?_
    refine J.closeAt (A := z.atom) 3 5 k rfl rfl rfl ?_
    rw [fats_same hz]
    refine J.r hX tab_ok 400 (fun _ => rfl) fun b10 => ?_
    refine J.rt hX tab_ok [1, 2, 3] rfl rfl rfl ?_
    exact ⟨by rw [hv]; rfl, rfl⟩
/-- a list of found ones, as a part -/
theorem v_holds1 (A : Atom) (x : Fnd) : Fn Tryz.prog 95 [fdV x] [A] (fun v As => v = .bool (!x.whole) ∧ As = [A]) := by
  refine Fn.enter [0] Tryz.func95 rfl rfl rfl fun X F hX => ?_
  refine J.r hX tab_ok 400 (fun _ => rfl) fun b11 => ?_
  refine J.rt hX tab_ok [1] rfl rfl rfl ?_
  exact ⟨rfl, rfl⟩
theorem v_holds (sp p g : Nat) (Z : List FSlot) (k : Nat) (z : FSlot) (hz : Z[k]? = some z) (hn : Z.length ≤ 100000) (hl : z.l.length ≤ 100000) : Fn Tryz.prog 47 [.pointer (some ⟨sp, 0, none⟩), .int .i64 k] (ScP sp p g Z)
    (fun v As => ∃ a c, v = slv a (V.holds z.l).length c ∧ As = ScP sp p g Z ++ [ownA 3 1 a (V.holds z.l).length c (cellsI (V.holds z.l))]) := by
  have hk : k < Z.length := (List.getElem?_eq_some_iff.1 hz).1
  refine Fn.enter [2, 0] Tryz.func47 rfl rfl rfl fun X F hX => ?_
  refine J.r hX tab_ok 400 (fun _ => rfl) fun b12 => ?_
  refine J.val hX z.hdr 0 rfl rfl (fun hg a w he hs => ?_) rfl trivial ?_
  · exact load1_run tab_ok rfl rfl he rfl rfl rfl (hs.get (i := 2) rfl) (hdrs_get hz)
  refine J.openAt 3 k rfl rfl (fats_get hz) rfl ?_
  refine J.r hX tab_ok 400 (fun _ => rfl) fun b13 => ?_
  refine J.r hX tab_ok 400 (fun _ => rfl) fun b14 => ?_
  refine J.ca hX (by kernel_rfl) (x_CloneF z.a z.l.length z.cap z.l rfl (by omega)) [4] 0 rfl rfl rfl rfl rfl rfl (fun _ => rfl) ?_
  rintro v As ⟨a1, c1, rfl, rfl⟩
  refine ⟨_, rfl, trivial, ?_⟩
  refine J.closeAt (A := z.atom) 3 4 k rfl rfl rfl ?_
  rw [fats_same hz]
  refine J.r hX tab_ok 400 (fun _ => rfl) fun b15 => ?_
  refine J.r hX tab_ok 400 (fun _ => rfl) fun b16 => ?_
  refine J.ca hX (by kernel_rfl) (x_DeleteF 95 [] (fun x => !x.whole) (.pt sp 99 [.pointer (some ⟨p, 0, none⟩), .slice (some ⟨g, 0, none⟩) Z.length Z.length]) (by kernel_rfl) (fun x => v_holds1 _ x) a1 z.l.length c1 z.l rfl (by omega)) [5, 1] 0 rfl rfl rfl rfl rfl rfl (fun _ => rfl) ?_
  rintro v As ⟨l', hl', rfl, rfl⟩
  refine ⟨_, rfl, trivial, ?_⟩
  have hl2 : l' = z.l.filter fun f => f.whole := by rw [hl']; congr 1; funext x; simp
  have hll : l'.length ≤ z.l.length := by rw [hl']; exact List.length_filter_le _ _
  have htl := tops_len l'
  have hh : V.holds z.l = (V.tops l').map (·.block) := by rw [hl2]; rfl
  refine J.r hX tab_ok 400 (fun _ => rfl) fun b17 => ?_
  refine J.r hX tab_ok 400 (fun _ => rfl) fun b18 => ?_
  refine J.ca hX (by kernel_rfl) (v_tops a1 l'.length c1 l' rfl (by omega)) [5] 0 rfl rfl rfl rfl rfl rfl (fun _ => rfl) ?_
  rintro v As ⟨a2, c2, rfl, rfl⟩
  refine ⟨_, rfl, trivial, ?_⟩
  refine J.turn1 [] rfl (As := [ownA 3 1 none 0 0 (cellsI [])]) (fun h s => Sep.one ⟨rfl, rfl, rfl⟩) rfl ?_
  refine J.r hX tab_ok 400 (fun _ => rfl) fun b19 => ?_
  refine J.r hX tab_ok 400 (fun _ => rfl) fun b20 => ?_
  refine J.lo (α := (Nat × Option Nat × Nat)) (fun w => w.1 ≤ (V.tops l').length) (fun w => [⟨21, .int .i64 w.1, 0, .tt⟩, ⟨20, .int .i64 (V.tops l').length, 0, .tt⟩, ⟨19, slv a2 (V.tops l').length c2, 0, .tt⟩, ⟨6, slv w.2.1 w.1 w.2.2, 0, .tt⟩]) [7] (fun w => [ownA 3 1 w.2.1 w.1 w.2.2 (cellsI (((V.tops l').take w.1).map (·.block)))]) (fun w => (V.tops l').length - w.1) ((0, none, 0)) (Nat.zero_le _) rfl ?_ (fun _ => rfl) fun w hI => ?_
  · rfl
  obtain ⟨j, a3, c3⟩ := w
  dsimp only at hI ⊢
  refine J.r hX tab_ok 400 (fun _ => rfl) fun b21 => ?_
  refine J.cond rfl (fun h1 => ?_) (fun h1 => ?_)
  · simp only [decide_eq_true_eq, Int.ofNat_lt] at h1
    obtain ⟨x, hx⟩ : ∃ x, (V.tops l')[j]? = some x := ⟨_, List.getElem?_eq_getElem h1⟩
    have htk : ((V.tops l').take (j + 1)).map (·.block) = ((V.tops l').take j).map (·.block) ++ [x.block] := by rw [List.take_add_one, hx]; simp
    refine J.know (fun h' s => own_some (c := (a2, c2)) (by omega) (s.get (i := 6) rfl)) fun hg => ?_
    obtain ⟨ga, rfl⟩ := hg
    refine J.r hX tab_ok 400 (fun _ => rfl) fun b22 => ?_
    refine J.val hX (fdV x) 0 rfl rfl (fun hg a w he hs => ?_) rfl trivial ?_
    · exact ownN_run tab_ok rfl rfl he rfl rfl rfl (hs.get (i := 6) rfl) (by rw [show 0 + (j : Int).toNat * 25 = j * 25 from by omega]; exact cellsF_get hx) rfl
    refine J.r hX tab_ok 400 (fun _ => rfl) fun b23 => ?_
    refine J.append hX tab_ok 7 9 0 rfl rfl rfl rfl rfl rfl rfl rfl rfl rfl rfl rfl rfl rfl rfl rfl ?_ ?_ (fun _ => rfl) fun a4 c4 => ⟨_, (congrArg (fun z => lset _ 7 (ownA _ _ _ _ _ z)) ((cellsI_snoc _ x.block).symm.trans (congrArg cellsI htk.symm))).trans rfl, trivial, ?_⟩
    · simp only [maxLen]; omega
    · omega
    refine J.r hX tab_ok 400 (fun _ => rfl) fun b24 => ?_
    refine J.nS ((j + 1, a4, c4)) (by dsimp only; omega) (by dsimp only; omega) [0, 1, 2, 3, 4, 5, 6, 7] rfl rfl
  · simp only [decide_eq_false_iff_not, Int.ofNat_lt] at h1
    obtain rfl : j = (V.tops l').length := by omega
    rw [List.take_length, ← hh]
    refine J.r hX tab_ok 400 (fun _ => rfl) fun b25 => ?_
    refine J.rt hX tab_ok [1, 2, 3, 7] rfl rfl rfl ?_
    have hlen : (V.tops l').length = (V.holds z.l).length := by rw [hh, List.length_map]
    rw [hlen]
    exact ⟨a3, c3, rfl, rfl⟩
end Go.Proofs.YtoideahgjgaddaaGreat
namespace Go.Proofs.YtoideahgjgaddaaGreat
open Go Go.Shelf
def renn189 : Ren := ⟨fun n => if n = 125 then 97 else if n = 128 then 150 else if n = 129 then 151 else if n = 189 then 48 else if n = 215 then 194 else if n = 216 then 147 else if n = 257 then 96 else if n = 294 then 141 else if n = 295 then 142 else if n = 296 then 143 else if n = 297 then 144 else if n = 298 then 145 else if n = 299 then 146 else if n = 300 then 148 else if n = 301 then 149 else if n = 328 then 189 else if n = 329 then 190 else if n = 330 then 191 else if n = 331 then 192 else if n = 332 then 193 else if n = 343 then 218 else 0, fun n => if n = 0 then 0 else if n = 3 then 3 else if n = 4 then 4 else if n = 5 then 5 else if n = 9 then 9 else if n = 28 then 32 else if n = 46 then 62 else if n = 51 then 195 else if n = 53 then 181 else if n = 131 then 220 else if n = 182 then 215 else if n = 183 then 216 else if n = 218 then 249 else if n = 222 then 247 else if n = 228 then 266 else if n = 229 then 267 else 0, fun n => n⟩
theorem laysn189 : Lays.n189 Tryz.prog renn189 where
  mixed := by kernel_rfl
  f125 := by kernel_rfl
  f128 := by kernel_rfl
  f129 := by kernel_rfl
  f189 := by kernel_rfl
  f215 := by kernel_rfl
  f216 := by kernel_rfl
  f257 := by kernel_rfl
  f294 := by kernel_rfl
  f295 := by kernel_rfl
  f296 := by kernel_rfl
  f297 := by kernel_rfl
  f298 := by kernel_rfl
  f299 := by kernel_rfl
  f300 := by kernel_rfl
  f301 := by kernel_rfl
  f328 := by kernel_rfl
  f329 := by kernel_rfl
  f330 := by kernel_rfl
  f331 := by kernel_rfl
  f332 := by kernel_rfl
  f343 := by kernel_rfl
  t0 := by kernel_rfl
  a0 := fun w => by kernel_rfl
  z0 := fun w => by kernel_rfl
  v0 := fun w => by kernel_rfl
  t3 := by kernel_rfl
  a3 := fun w => by kernel_rfl
  z3 := fun w => by kernel_rfl
  v3 := fun w => by kernel_rfl
  t4 := by kernel_rfl
  a4 := fun w => by kernel_rfl
  z4 := fun w => by kernel_rfl
  v4 := fun w => by kernel_rfl
  t5 := by kernel_rfl
  a5 := fun w => by kernel_rfl
  z5 := fun w => by kernel_rfl
  v5 := fun w => by kernel_rfl
  t9 := by kernel_rfl
  a9 := fun w => by kernel_rfl
  z9 := fun w => by kernel_rfl
  v9 := fun w => by kernel_rfl
  t28 := by kernel_rfl
  a28 := fun w => by kernel_rfl
  z28 := fun w => by kernel_rfl
  v28 := fun w => by kernel_rfl
  t46 := by kernel_rfl
  a46 := fun w => by kernel_rfl
  z46 := fun w => by kernel_rfl
  v46 := fun w => by kernel_rfl
  t51 := by kernel_rfl
  a51 := fun w => by kernel_rfl
  z51 := fun w => by kernel_rfl
  v51 := fun w => by kernel_rfl
  t53 := by kernel_rfl
  a53 := fun w => by kernel_rfl
  z53 := fun w => by kernel_rfl
  v53 := fun w => by kernel_rfl
  t131 := by kernel_rfl
  a131 := fun w => by kernel_rfl
  z131 := fun w => by kernel_rfl
  v131 := fun w => by kernel_rfl
  t182 := by kernel_rfl
  a182 := fun w => by kernel_rfl
  z182 := fun w => by kernel_rfl
  v182 := fun w => by kernel_rfl
  t183 := by kernel_rfl
  a183 := fun w => by kernel_rfl
  z183 := fun w => by kernel_rfl
  v183 := fun w => by kernel_rfl
  t218 := by kernel_rfl
  a218 := fun w => by kernel_rfl
  z218 := fun w => by kernel_rfl
  v218 := fun w => by kernel_rfl
  t222 := by kernel_rfl
  a222 := fun w => by kernel_rfl
  z222 := fun w => by kernel_rfl
  v222 := fun w => by kernel_rfl
  t228 := by kernel_rfl
  a228 := fun w => by kernel_rfl
  z228 := fun w => by kernel_rfl
  v228 := fun w => by kernel_rfl
  t229 := by kernel_rfl
  a229 := fun w => by kernel_rfl
  z229 := fun w => by kernel_rfl
  v229 := fun w => by kernel_rfl
end Go.Proofs.YtoideahgjgaddaaGreat
namespace Go.Proofs.YtoideahgjgaddaaGreat
open Go Go.RowKit
def leI (x y : Int) : Bool := decide (x ≤ y)
def sortI (l : List Int) : List Int := l.mergeSort leI
theorem sortI_len (l : List Int) : (sortI l).length = l.length := by rw [sortI, List.length_mergeSort]
theorem holds_own {g n cap : Nat} {l : List Int} {w : World} (hl' : l.length = n) (h : ownP 3 1 (some g) n cap (cellsI l) (hl w)) : Go.Sort.Holds (Value.int .i64) w g 0 l.toArray := by
  obtain ⟨h0, cur, h1, h2, h3, h4, h5⟩ := h
  have h1' : w.heap[g]? = some (.cells cur 3 (0, 0)) := h1
  intro j hj
  have hj' : j < l.length := by simpa using hj
  have hc : cur.toList[j]? = some (.int .i64 l[j]) := by
    have : (cur.toList.take (n * 1))[j]? = (cellsI l)[j]? := by rw [h5]
    rw [List.getElem?_take_of_lt (by omega)] at this
    rw [this, cellsI, List.getElem?_map, List.getElem?_eq_getElem hj']; rfl
  have hg : l.toArray[j]! = l[j] := by simp [hj']
  rw [hg]
  refine ⟨?_, ?_⟩
  · simp only [World.cell?, Nat.zero_add, h1']
    rw [Array.getElem?_toList] at hc
    simp [hc]
  · simp [World.frozen?, h1']
theorem x_SortN (a : Option Nat) (n cap : Nat) (l : List Int) (hl' : l.length = n) (hn : n ≤ 1000000) : Fn Tryz.prog 48 [slv a n cap] [ownA 3 1 a n cap (cellsI l)]
    (fun v As => v = .tuple #[] ∧ As = [ownA 3 1 a n cap (cellsI (sortI l))]) := by
  cases a with
  | none =>
    intro F w s
    have h0 : n = 0 := (s.get (i := 1) rfl).2.1
    subst h0
    have : l = [] := List.eq_nil_of_length_eq_zero hl'
    subst this
    have e : sortI [] = isortL [] := by rw [sortI, List.mergeSort_nil]; rfl
    rw [e]
    exact s_SortInts none 0 cap [] rfl (by omega) F w s
  | some g =>
    intro F w s
    have ho : ownP 3 1 (some g) n cap (cellsI l) (hl w) := s.get (i := 1) rfl
    have hH := holds_own hl' ho
    obtain ⟨h0, cur, h1, h2, h3, h4, h5⟩ := ho
    have h1' : w.heap[g]? = some (.cells cur 3 (0, 0)) := h1
    have hlt : g < w.heap.size := (Array.getElem?_eq_some_iff.1 h1').1
    have hc := Any.slices_Sort_int laysn189 g 0 cap l w hH hlt (by omega)
    subst hl'
    refine Calls.mono hc fun e w' ⟨e1, m, os, e2⟩ => ?_
    subst e1
    have hsz : w.heap.size ≤ w'.heap.size := by rw [e2]; simp [Go.Sort.grow]
    have hother : ∀ k, k < w.heap.size → some k ≠ some g → w'.heap[k]? = w.heap[k]? := fun k hk hne => by
      rw [e2]
      have : g ≠ k := fun e => hne (by rw [e])
      show (w.heap.modify g (Go.Sort.onCells (Go.Sort.putCells (Value.int .i64) 0 (sortI l).toArray)) ++ os)[k]? = _
      rw [Array.getElem?_append_left (by rw [Array.size_modify]; exact hk), Array.getElem?_modify, if_neg this]
    have hthis : w'.heap[g]? = some (.cells (Go.Sort.putCells (Value.int .i64) 0 (sortI l).toArray cur) 3 (0, 0)) := by
      rw [e2]
      show (w.heap.modify g (Go.Sort.onCells (Go.Sort.putCells (Value.int .i64) 0 (sortI l).toArray)) ++ os)[g]? = _
      rw [Array.getElem?_append_left (by rw [Array.size_modify]; exact hlt), Array.getElem?_modify, if_pos rfl, h1']
      rfl
    have hgr : w.grownBy w' (some g) := ⟨by rw [e2]; rfl, by rw [e2]; rfl, by rw [e2]; rfl, hsz, hother⟩
    refine ⟨.tuple #[], _, rfl, ⟨rfl, rfl⟩, ?_, ⟨hgr.os, hgr.tape, hgr.output, hsz⟩⟩
    refine Sep.step s (i := 1) (A := ownA 3 1 (some g) l.length cap (cellsI l)) rfl (x := some g) (x' := some g) (fun h g' hs e => ?_) hgr (.inl rfl) (fun h hh => ?_)
    · injection e with e
      subst e
      obtain ⟨_, cur', q, _⟩ := hs
      exact ⟨_, q⟩
    · refine ⟨by rw [cellsI, List.length_map, sortI_len, Nat.mul_one], _, (hh g rfl).trans hthis, h2, h3, ?_, ?_⟩
      · rw [Go.Sort.putCells, Array.size_mapIdx]; exact h4
      · apply List.ext_getElem?
        intro i
        rw [Nat.mul_one, List.getElem?_take]
        split
        · rename_i hi
          have hi2 : i < (sortI l).length := by rw [sortI_len]; exact hi
          rw [Array.getElem?_toList, Go.Sort.putCells, Array.getElem?_mapIdx, Array.getElem?_eq_getElem (by omega), Option.map_some, if_pos ⟨Nat.zero_le _, by simpa using hi2⟩, cellsI, List.getElem?_map, List.getElem?_eq_getElem hi2]
          simp [hi2]
        · rw [List.getElem?_eq_none (by rw [cellsI, List.length_map, sortI_len]; omega)]
end Go.Proofs.YtoideahgjgaddaaGreat
