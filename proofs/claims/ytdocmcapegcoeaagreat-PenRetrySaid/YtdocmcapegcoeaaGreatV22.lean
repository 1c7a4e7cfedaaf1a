/- Helpers, proved here. No condition. -/
import Derived.Test.YtdocmcapegcoeaaGreatV05
import Derived.Test.YtdocmcapegcoeaaGreatV06
import Derived.Test.YtdocmcapegcoeaaGreatV12
import Derived.Test.YtdocmcapegcoeaaGreatV13
import Derived.Test.YtdocmcapegcoeaaGreatV14
import Derived.Test.YtdocmcapegcoeaaGreatV15
import Derived.Test.YtdocmcapegcoeaaGreatV16
import Derived.Test.YtdocmcapegcoeaaGreatV21
import Derived.Shelf.Sort.Plain
set_option maxRecDepth 20000
set_option linter.all false
namespace Go.Proofs.YtdocmcapegcoeaaGreat
open Go Go.RowKit
abbrev fdV (x : Fnd) : Value := .agg (fnL x).toArray
def Fnd.zero : Fnd := ⟨En.zero, 0, 0, 0, 0, false, false⟩
theorem v_behind (a b : Fnd) : Fn Tryz.prog 224 [fdV a, fdV b] [] (fun v As => v = .bool (V.behind a b) ∧ As = []) := by
 refine Fn.enter [0, 0] Tryz.func224 rfl rfl rfl fun X F hX => ?_
 refine J.q hX fun b1 => ?_
 refine J.cond rfl (fun h1 => ?_) (fun h1 => ?_)
 ·refine J.q hX fun b2 => ?_
  refine J.ru hX [] ?_
  simp only [bne_iff_ne, ne_eq] at h1
  exact ⟨by rw [V.behind, if_pos h1], rfl⟩
 ·simp only [bne_eq_false_iff_eq] at h1
  refine J.run hX tk 400 (fun b3 => rfl) (fun b3 => ?_) (fun b3 => ?_)
  ·(repeat' (first | exact Conj.nil | refine Conj.cons ?_ ?_ | exact rfl | exact hq | (rw [hq]; rfl) | (rw [(Bool.not_eq_true' _).mp hq]) | intro hq | omega | (simp; done) | (simp_all; done)))
  refine J.q hX fun b4 => ?_
  refine J.ru hX [] ?_
  exact ⟨by rw [V.behind, if_neg (by simp [h1])], rfl⟩
theorem tops_succ {l : List Fnd} {k : Nat} {x : Fnd} (h : l[k]? = some x) : V.tops (l.take (k + 1)) = V.topsStep (V.tops (l.take k)) x := by
 unfold V.tops
 rw [List.take_add_one, h, Option.toList_some, List.foldl_append]; rfl
theorem topsStep_len (o : List Fnd) (x : Fnd) : (V.topsStep o x).length ≤ o.length + 1 := by
 cases o with
 | nil => simp [V.topsStep]
 | cons h t =>
  simp only [V.topsStep]
  split
  ·simp
  ·split <;> simp
theorem tops_len (l : List Fnd) : (V.tops l).length ≤ l.length := by
 have : ∀ k, k ≤ l.length → (V.tops (l.take k)).length ≤ k := by
  intro k
  induction k with
  | zero => intro _; simp [V.tops]
  | succ k ih =>
   intro hk
   rw [tops_succ (List.getElem?_eq_getElem (by omega))]
   have := topsStep_len (V.tops (l.take k)) l[k]
   have := ih (by omega)
   omega
 have := this l.length (Nat.le_refl _)
 rwa [List.take_length] at this
theorem v_tops (a : Option Nat) (n cap : Nat) (l : List Fnd) (hl : l.length = n) (hn : n ≤ 100000) : Fn Tryz.prog 203 [slv a n cap] [ownA 142 25 a n cap (cellsF l)]
  (fun v As => ∃ a' c', v = slv a' (V.tops l).length c' ∧ As = [ownA 142 25 a n cap (cellsF l), ownA 142 25 a' (V.tops l).length c' (cellsF (V.tops l))]) := by
 refine Fn.enter [0] Tryz.func203 rfl rfl rfl fun X F hX => ?_
 refine J.turn1 [] rfl (As := [ownA 142 25 none 0 0 (cellsF [])]) (fun h s => Sep.one ⟨rfl, rfl, rfl⟩) rfl ?_
 refine J.q hX fun b5 => ?_
 refine J.lo (α := (Nat × Option Nat × Nat × List Fnd)) (fun z => z.1 ≤ n ∧ V.tops (l.take z.1) = z.2.2.2) (fun z => [⟨8, .int .i64 z.1, 0, .tt⟩, ⟨7, .int .i64 n, 0, .tt⟩, ⟨6, slv a n cap, 0, .tt⟩, ⟨3, slv z.2.1 z.2.2.2.length z.2.2.1, 0, .tt⟩]) [2] (fun z => [ownA 142 25 z.2.1 z.2.2.2.length z.2.2.1 (cellsF z.2.2.2)]) (fun z => n - z.1) ((0, none, 0, [])) (⟨Nat.zero_le _, rfl⟩) rfl ?_ (fun _ => rfl) fun z hI => ?_
 ·rfl
 obtain ⟨k, a1, c1, out⟩ := z
 dsimp only at hI ⊢
 obtain ⟨hI, hto⟩ := hI
 refine J.q hX fun b7 => ?_
 refine J.cond rfl (fun h1 => ?_) (fun h1 => ?_)
 ·simp only [decide_eq_true_eq, Int.ofNat_lt] at h1
  cases a with
  | none =>
   refine J.know (fun h' s => (s.get (i := 1) rfl).2.1) fun hn0 => ?_
   omega
  | some g =>
  obtain ⟨x, hx⟩ : ∃ x, l[k]? = some x := ⟨_, List.getElem?_eq_getElem (by omega)⟩
  have hts := tops_succ hx
  have hlen := tops_len (l.take k)
  rw [List.length_take, hto] at hlen
  rw [hto] at hts
  refine J.q hX fun b8 => ?_
  refine J.val hX (fdV x) 0 rfl rfl (fun hg a w he hs => ?_) rfl trivial ?_
  ·exact ownN_run tk rfl rfl he rfl rfl rfl (hs.get (i := 1) rfl) (by rw [show 0 + (k : Int).toNat * 25 = k * 25 from by omega]; exact cellsF_get hx) rfl
  rcases out with _ | ⟨y, o⟩
  ·skip
   refine J.q hX fun b9 => ?_
   refine J.plan (.of [0,4,8,12,16,20,25,29,34,36,40]) [] [1,2,3] (by rw [hX.hP]; kernel_rfl) (by kernel_rfl) ?_
   refine J.qn hX 5 fun b10 => ?_
   refine J.valT hX (.pointer (some ⟨g, 0, none⟩)) 0 rfl rfl (fun hg a w he hC => absurd hg (by simp [G.on])) rfl ?_
   refine J.q hX fun b11 => ?_
   refine J.valT hX (fdV x) 0 rfl rfl (fun hg a w he hC => absurd hg (by simp [G.on])) rfl ?_
   refine J.q hX fun b12 => ?_
   refine J.val hX (.bool true) 0 rfl rfl (fun hg a w he hC => absurd hg (by simp [G.on])) rfl (by first | exact trivial | (repeat' (first | exact trivial | refine ⟨rfl, ?_⟩))) ?_
   refine J.q hX fun b13 => ?_
   refine J.cT ?_
   refine J.q hX fun bs => ?_
   refine J.closeOwn (e := 142) (size := 25) (n := 1) (cap := 1) (xs := cellsF [x]) 4 rfl rfl rfl (Nat.le_refl _) (by decide) rfl rfl rfl ?_
   have hs : V.tops (l.take (k + 1)) = [x] := by rw [hts]; rfl
   refine J.slot (k := 3) (s' := ⟨3, slv (some (bs 0)) [x].length 1, 0, .tt⟩) rfl rfl rfl ?_
   refine J.q hX fun b14 => ?_
   refine J.nS ((k + 1, some (bs 0), 1, [x])) (⟨by dsimp only; omega, hs⟩) (by dsimp only; omega) [0, 1, 4] rfl rfl
  ·refine J.know (fun h' s => own_some (c := (a1, c1)) (by simp) (s.get (i := 2) rfl)) fun hg => ?_
   obtain ⟨ga, rfl⟩ := hg
   refine J.q hX fun b15 => ?_
   refine J.plan (.of [0,4,8,12,16,20,25,29,34,36,40]) [] [1,2,3] (by rw [hX.hP]; kernel_rfl) (by kernel_rfl) ?_
   refine J.q hX fun b16 => ?_
   refine J.valT hX (fdV y) 0 rfl rfl (fun hg a w he hC => ?_) rfl ?_
   ·exact ownN_run tk rfl rfl he hg rfl rfl (hC rfl _ (cget_mem (i := 2) rfl)) rfl rfl
   have hnz : (((y :: o).length : Int) == 0) = false := by rw [beq_eq_false_iff_ne, List.length_cons]; omega
   rw [hnz]
   refine J.q hX fun b17 => ?_
   refine J.cb hX (v_behind y x) [] ?_
   refine cpq ⟨_, rfl, (by first | exact trivial | (repeat' (first | exact trivial | refine ⟨rfl, ?_⟩))), ?_⟩
   refine J.q hX fun b19 => ?_
   refine J.cond rfl (fun h2 => ?_) (fun h2 => ?_)
   ·refine J.q hX fun bs => ?_
    refine J.closeOwn (e := 142) (size := 25) (n := 1) (cap := 1) (xs := cellsF [x]) 4 rfl rfl rfl (Nat.le_refl _) (by decide) rfl rfl rfl ?_
    have hs : V.tops (l.take (k + 1)) = [x] := by rw [hts]; rw [V.topsStep, if_pos (by simpa using h2)]
    refine J.slot (k := 3) (s' := ⟨3, slv (some (bs 0)) [x].length 1, 0, .tt⟩) rfl rfl rfl ?_
    refine J.q hX fun b20 => ?_
    refine J.nS ((k + 1, some (bs 0), 1, [x])) (⟨by dsimp only; omega, hs⟩) (by dsimp only; omega) [0, 1, 4] rfl rfl
   ·refine J.q hX fun b21 => ?_
    refine J.plan (.of [1,4,8,13,19,20,24]) [4,5,6] [1,2,3] (by rw [hX.hP]; kernel_rfl) (by kernel_rfl) ?_
    refine J.q hX fun b22 => ?_
    refine J.valT hX (fdV y) 0 rfl rfl (fun hg a w he hC => ?_) rfl ?_
    ·exact ownN_run tk rfl rfl he hg rfl rfl (hC rfl _ (cget_mem (i := 2) rfl)) rfl rfl
    refine J.q hX fun b23 => ?_
    refine J.cb hX (v_behind x y) [] ?_
    refine cpq ⟨_, rfl, (by first | exact trivial | (repeat' (first | exact trivial | refine ⟨rfl, ?_⟩))), ?_⟩
    refine J.q hX fun b25 => ?_
    refine J.cond rfl (fun h3 => ?_) (fun h3 => ?_)
    ·refine J.q hX fun b26 => ?_
     have hs : V.tops (l.take (k + 1)) = y :: o ++ [x] := by rw [hts, V.topsStep, if_neg (by simpa using h2), if_neg (by simpa using h3)]
     refine J.append hX tk 2 4 0 rfl rfl rfl rfl rfl rfl rfl rfl rfl rfl rfl rfl rfl rfl rfl rfl ?_ ?_ (fun _ => rfl) fun a3 c3 => ⟨_, (congrArg (fun z => lset _ 2 (ownA _ _ _ _ _ z)) (cellsF_snoc (y :: o) x).symm).trans rfl, trivial, ?_⟩
     ·simp only [maxLen]; omega
     ·omega
     rw [show (y :: o).length + 1 = (y :: o ++ [x]).length from by simp]
     refine J.q hX fun b27 => ?_
     refine J.nS ((k + 1, a3, c3, y :: o ++ [x])) (⟨by dsimp only; omega, hs⟩) (by dsimp only; omega) [0, 1, 2] rfl rfl
    ·have hs : V.tops (l.take (k + 1)) = y :: o := by rw [hts, V.topsStep, if_neg (by simpa using h2), if_pos (by simpa using h3)]
     refine J.q hX fun b28 => ?_
     refine J.nS ((k + 1, some ga, c1, y :: o)) (⟨by dsimp only; omega, hs⟩) (by dsimp only; omega) [0, 1, 2] rfl rfl
 ·simp only [decide_eq_false_iff_not, Int.ofNat_lt] at h1
  obtain rfl : k = n := by omega
  rw [List.take_of_length_le (by omega)] at hto
  subst hto
  refine J.q hX fun b29 => ?_
  refine J.ru hX [1, 2] ?_
  exact ⟨a1, c1, rfl, rfl⟩
def v_lastP (x : Int) : Bool := x != 2 && x != 4
theorem v_last1 (A : Atom) (x : Int) : Fn Tryz.prog 205 [.int .i64 x] [A] (fun v As => v = .bool (v_lastP x) ∧ As = [A]) := by
 refine Fn.enter [0] Tryz.func205 rfl rfl rfl fun X F hX => ?_
 refine J.q hX fun b1 => ?_
 exact J.ru hX [1] ⟨rfl, rfl⟩
theorem blankRow_any (N : Nand) (b r : Int) : V.blankRow N b r = !(((M.rowN N b r N.dies).map (·.2)).any v_lastP) := by
 unfold V.blankRow
 rw [List.any_map, List.not_any_eq_all_not]
 congr 1
 funext x
 show (x.2 == 2 || x.2 == 4) = !(!(x.2 == 2) && !(x.2 == 4))
 cases (x.2 == 2) <;> cases (x.2 == 4) <;> rfl
def V.upto (N : Nand) (f : Fnd) (k : Nat) : Bool := (List.range k).all fun r : Nat => decide ((r : Int) ≤ f.row) || V.blankRow N f.block r
theorem V.upto_succ (N : Nand) (f : Fnd) (k : Nat) : V.upto N f (k + 1) = (V.upto N f k && (decide ((k : Int) ≤ f.row) || V.blankRow N f.block k)) := by
 unfold V.upto
 rw [List.range_succ, List.all_append]; simp
theorem V.upto_le (N : Nand) (f : Fnd) (k r0 : Nat) (hr : f.row = (r0 : Int)) (h : k ≤ r0 + 1) : V.upto N f k = true := by
 unfold V.upto
 rw [List.all_eq_true]
 intro r hr2
 rw [List.mem_range] at hr2
 rw [decide_eq_true (by omega)]; rfl
theorem v_last (p : Nat) (N : Nand) (hN : N.Ok) (hR : N.Room) (sp : Nat) (H : Value) (f : Fnd) (r0 : Nat) (hr : f.row = (r0 : Int)) (hr2 : r0 ≤ 1000) : Fn Tryz.prog 172 [.pointer (some ⟨sp, 0, none⟩), fdV f] [NandA p N, .pt sp 220 [.pointer (some ⟨p, 0, none⟩), H]]
  (fun v As => v = .bool (V.last N f) ∧ As = [NandA p N, .pt sp 220 [.pointer (some ⟨p, 0, none⟩), H]]) := by
 have hbd := hN.bd
 refine Fn.enter [3, 0] Tryz.func172 rfl rfl rfl fun X F hX => ?_
 refine J.q hX fun bb => ?_
 rw [hr]
 refine J.q hX fun b2 => ?_
 refine J.lo (α := Nat) (fun k => r0 + 1 ≤ k ∧ V.upto N f k = true ∧ (k = r0 + 1 ∨ k ≤ N.pages)) (fun k => [⟨5, .int .i64 k, 0, .tt⟩, ⟨0, .pointer (some ⟨sp, 0, none⟩), 3, .tt⟩, ⟨3, .pointer (some ⟨bb 0, 0, none⟩), 4, .tt⟩]) [] (fun k => []) (fun k => N.pages - k) (r0 + 1) (⟨Nat.le_refl _, V.upto_le N f _ r0 hr (Nat.le_refl _), .inl rfl⟩) rfl ?_ (fun _ => rfl) fun k hI => ?_
 ·rfl
 refine J.q hX fun b3 => ?_
 refine J.cb hX (n_Geo p N) [1] ?_
 refine cpq ⟨_, rfl, trivial, ?_⟩
 refine J.q hX fun b5 => ?_
 refine J.cond rfl (fun h1 => ?_) (fun h1 => ?_)
 ·simp only [decide_eq_true_eq, Int.ofNat_lt] at h1
  refine J.q hX fun b6 => ?_
  refine J.plan (.of [0,4,8,13,16,20,25,28,34,36,40,44,48,52]) [13] [1,2,3] (by rw [hX.hP]; kernel_rfl) (by kernel_rfl) ?_
  refine J.q hX fun b7 => ?_
  refine J.cb hX (m_Row p N hN hR f.block k) [1] ?_
  rintro v As ⟨a1, c1, a2, c2, rfl, rfl⟩
  refine ⟨_, rfl, (by first | exact trivial | (repeat' (first | exact trivial | refine ⟨rfl, ?_⟩))), ?_⟩
  refine J.q hX fun b9 => ?_
  refine J.ca hX (by kernel_rfl) (x_ContainsI 205 [] v_lastP (NandA p N) (by kernel_rfl) ((M.rowN N f.block k N.dies).map (·.2)) (fun x _ => v_last1 (NandA p N) x) a2 N.dies c2 (by simp [M.rowN]) (by omega)) [5, 1] 0 rfl rfl rfl rfl rfl rfl (fun _ => rfl) ?_
  refine cpq ⟨_, rfl, trivial, ?_⟩
  have hbl := blankRow_any N f.block k
  have hk := V.upto_succ N f k
  have hlt : decide ((k : Int) ≤ f.row) = false := by rw [decide_eq_false_iff_not]; omega
  rw [hI.2.1, hlt] at hk
  refine J.q hX fun b11 => ?_
  refine J.cond rfl (fun h2 => ?_) (fun h2 => ?_)
  ·rw [h2] at hbl
   refine J.q hX fun b12 => ?_
   refine J.ru hX [1, 2] ?_
   refine ⟨?_, rfl⟩
   have : V.last N f = false := by
    unfold V.last
    rw [Bool.and_eq_false_iff]
    left
    rw [List.all_eq_false]
    exact ⟨k, List.mem_range.2 h1, by rw [hlt, hbl]; simp⟩
   rw [this]
  ·rw [h2] at hbl
   rw [hbl] at hk
   refine J.q hX fun b13 => ?_
   refine J.nS (k + 1) (⟨by omega, hk, by omega⟩) (by omega) [0, 1, 2, 3] rfl rfl
 ·simp only [decide_eq_false_iff_not, Int.ofNat_lt] at h1
  have hup : V.upto N f N.pages = true := by
   rcases hI.2.2 with h | h
   ·exact V.upto_le N f _ r0 hr (by omega)
   ·rw [show N.pages = k by omega]; exact hI.2.1
  refine J.q hX fun b14 => ?_
  refine J.cb hX (g_Parity f.mask f.block f.row) [] ?_
  refine cpq ⟨_, rfl, trivial, ?_⟩
  have hv : V.last N f = ((M.look N (G.parity f.mask f.block f.row) f.block f.row).2 != 4) := by
   unfold V.last
   have : ((List.range N.pages).all fun r : Nat => decide ((r : Int) ≤ f.row) || V.blankRow N f.block r) = true := hup
   rw [this, Bool.true_and]
  refine J.q hX fun b16 => ?_
  refine J.plan (.take true 0 (.take true 1 (.take true 2 (.take false 3 (.take true 4 (.take true 5 (.take true 6 (.take false 7 (.take true 8 (.take true 9 (.take false 10 (.take true 11 (.alt false 12 ((.of [52,56,60,66,70,72])) (.alt false 16 ((.of [50,52,56,60,70,72])) .non)))))))))))))) [18] [1, 2, 3] (by rw [hX.hP]; kernel_rfl) (by kernel_rfl) ?_
  refine J.q hX fun b17 => ?_
  refine J.alts ?_ ?_
  ·skip
   refine J.q hX fun b18 => ?_
   refine J.cb hX (m_Look p N hN hR (G.parity f.mask f.block f.row) f.block f.row) [1] ?_
   refine cpq ⟨_, rfl, (by first | exact trivial | (repeat' (first | exact trivial | refine ⟨rfl, ?_⟩))), ?_⟩
   refine J.q hX fun b19 => ?_
   refine J.ru hX [1, 2] ?_
   exact ⟨by rw [hv], rfl⟩
  ·skip
   refine J.qn hX 1 fun b20 => ?_
   refine J.q hX fun b21 => ?_
   refine J.cb hX (m_Look p N hN hR (G.parity f.mask f.block f.row) f.block f.row) [1] ?_
   refine cpq ⟨_, rfl, (by first | exact trivial | (repeat' (first | exact trivial | refine ⟨rfl, ?_⟩))), ?_⟩
   refine J.q hX fun b22 => ?_
   refine J.ru hX [1, 2] ?_
   exact ⟨by rw [hv], rfl⟩
theorem cellsF_at (l : List Fnd) (r : List Value) (k : Nat) (x : Fnd) (h : l[k]? = some x) : ((cellsF l ++ r).drop (k * 25)).take 25 = fnL x := by
 have hk : k < l.length := (List.getElem?_eq_some_iff.1 h).1
 rw [List.drop_append_of_le_length (by rw [cellsF_len]; omega), List.take_append_of_le_length (by rw [List.length_drop, cellsF_len]; omega)]
 exact cellsF_get h
theorem cellsF_set : ∀ (l : List Fnd) (r : List Value) (k : Nat) (x : Fnd), k < l.length → (cellsF l ++ r).take (k * 25) ++ fnL x ++ (cellsF l ++ r).drop (k * 25 + 25) = cellsF (l.set k x) ++ r
 | [], _, _, _, h => by simp at h
 | y :: l, r, 0, x, h => by simp [cellsF, fnL]
 | y :: l, r, k + 1, x, h => by
  have := cellsF_set l r k x (by simpa using h)
  have hy : (fnL y).length = 25 := rfl
  have e1 : cellsF (y :: l) ++ r = fnL y ++ (cellsF l ++ r) := by simp [cellsF]
  have e2 : cellsF ((y :: l).set (k + 1) x) ++ r = fnL y ++ (cellsF (l.set k x) ++ r) := by simp [cellsF]
  rw [e1, e2, ← this, show (k + 1) * 25 = (fnL y).length + k * 25 from by omega, List.take_length_add_append, show (fnL y).length + k * 25 + 25 = (fnL y).length + (k * 25 + 25) from by omega, ← List.drop_drop, List.drop_left' rfl]
  simp only [List.append_assoc]
def idxF (p : Fnd → Bool) (l : List Fnd) : Int := match l.findIdx? p with
 | some k => k
 | none => -1
theorem idxF_step {p : Fnd → Bool} {l : List Fnd} {k : Nat} {x : Fnd} (h : l[k]? = some x) (h0 : ∀ i < k, p (l.getD i Fnd.zero) = false) (hp : p x = true) : l.findIdx? p = some k := by
 rw [List.findIdx?_eq_some_iff_getElem]
 obtain ⟨h1, h2⟩ := List.getElem?_eq_some_iff.1 h
 refine ⟨h1, by rw [h2]; exact hp, fun j hj => ?_⟩
 have := h0 j hj
 rw [List.getD_eq_getElem?_getD, List.getElem?_eq_getElem (by omega), Option.getD_some] at this
 simp [this]
theorem idxF_none {p : Fnd → Bool} {l : List Fnd} (h0 : ∀ i < l.length, p (l.getD i Fnd.zero) = false) : l.findIdx? p = none := by
 rw [List.findIdx?_eq_none_iff]
 intro x hx
 obtain ⟨i, hi, rfl⟩ := List.mem_iff_getElem.1 hx
 have := h0 i hi
 rwa [List.getD_eq_getElem?_getD, List.getElem?_eq_getElem hi, Option.getD_some] at this
theorem x_IndexF (c : Nat) (cs : List Value) (p : Fnd → Bool) (A : Atom) (hcal : callable Tryz.prog c = true) (l : List Fnd) (hf : ∀ x ∈ l, Fn Tryz.prog c (fdV x :: cs) [A] (fun v As => v = .bool (p x) ∧ As = [A]))
  (a : Option Nat) (n cap : Nat) (hl : l.length = n) (hn : n ≤ 4611686018427387904) : Fn Tryz.prog 225 [slv a n cap, fnC c cs] [ownA 142 25 a n cap (cellsF l), A]
  (fun v As => v = .int .i64 (idxF p l) ∧ As = [ownA 142 25 a n cap (cellsF l), A]) := by
 refine Fn.enter [0, 0] Tryz.func225 rfl rfl rfl fun X F hX => ?_
 refine J.q hX fun b1 => ?_
 refine J.lo (α := Nat) (fun k => k ≤ n ∧ ∀ i < k, p (l.getD i Fnd.zero) = false) (fun k => [⟨8, .int .i64 k, 0, .tt⟩, ⟨7, .int .i64 n, 0, .tt⟩, ⟨0, slv a n cap, 0, .tt⟩, ⟨1, fnC c cs, 0, .tt⟩]) [] (fun k => []) (fun k => n - k) (0) (⟨by omega, by omega⟩) rfl ?_ (fun _ => rfl) fun k hI => ?_
 ·rfl
 refine J.q hX fun b3 => ?_
 refine J.cond rfl (fun h1 => ?_) (fun h1 => ?_)
 ·simp only [decide_eq_true_eq, Int.ofNat_lt] at h1
  cases a with
  | none =>
   refine J.know (fun h' s => (s.get (i := 1) rfl).2.1) fun hn0 => ?_
   omega
  | some g =>
   have hk : l[k]? = some (l.getD k Fnd.zero) := by rw [List.getD_eq_getElem?_getD, List.getElem?_eq_getElem (by omega), Option.getD_some]
   refine J.q hX fun b4 => ?_
   refine J.val hX (fdV (l.getD k Fnd.zero)) 0 rfl rfl (fun hg a w he hs => ?_) rfl trivial ?_
   ·exact ownN_run tk rfl rfl he rfl rfl rfl (hs.get (i := 1) rfl) (by rw [show 0 + (k : Int).toNat * 25 = k * 25 from by omega]; have := cellsF_at l [] k _ hk; rwa [List.append_nil] at this) rfl
   refine J.q hX fun b5 => ?_
   refine J.call hX hcal (hf (l.getD k Fnd.zero) (List.mem_of_getElem? hk)) [2] 0 rfl rfl rfl rfl (by (repeat' (first | exact Conj.nil | refine Conj.cons ?_ ?_ | omega | exact hq0 | (simpa using hq0) | (exact fun h => h) | exact rfl | (intro hq; have hq0 := hq; try simp only [Bool.and_eq_true, Bool.or_eq_true, decide_eq_true_eq, Bool.not_eq_true', decide_eq_false_iff_not] at hq) | (simp; done) | (simp; omega) | decide))) rfl rfl (fun _ => rfl) ?_
   refine cpq ⟨_, rfl, trivial, ?_⟩
   refine J.q hX fun b6 => ?_
   refine J.cond rfl (fun h2 => ?_) (fun h2 => ?_)
   ·refine J.q hX fun b7 => ?_
    refine J.ru hX [1, 2] ?_
    exact ⟨by rw [idxF, idxF_step hk hI.2 h2], rfl⟩
   ·refine J.q hX fun b8 => ?_
    refine J.nx (k + 1) (⟨by omega, fun i hi => by
     rcases Nat.lt_succ_iff_lt_or_eq.1 hi with h3 | h3
     ·exact hI.2 i h3
     ·rw [h3]; exact h2⟩) (by omega) (fun _ s => s)
 ·simp only [decide_eq_false_iff_not, Int.ofNat_lt] at h1
  refine J.q hX fun b9 => ?_
  refine J.ru hX [1, 2] ?_
  exact ⟨by rw [idxF, idxF_none (fun i hi => hI.2 i (by omega))], rfl⟩
theorem cellsF_one (l : List Fnd) : ∀ u ∈ cellsF l, u.oneCell' = true := by
 intro u hu
 simp only [cellsF, List.mem_flatMap] at hu
 obtain ⟨s, _, hu⟩ := hu
 simp only [fnL, List.mem_cons, List.not_mem_nil, or_false] at hu
 rcases hu with rfl | rfl | rfl | rfl | rfl | rfl | rfl | rfl | rfl | rfl | rfl | rfl | rfl | rfl | rfl | rfl | rfl | rfl | rfl | rfl | rfl | rfl | rfl | rfl | rfl <;> rfl
theorem x_CloneF (a : Option Nat) (n cap : Nat) (l : List Fnd) (hl : l.length = n) (hn : n ≤ 1000000) : Fn Tryz.prog 207 [slv a n cap] [ownA 142 25 a n cap (cellsF l)]
  (fun v As => ∃ a' c', v = slv a' n c' ∧ As = [ownA 142 25 a n cap (cellsF l), ownA 142 25 a' n c' (cellsF l)]) := by
 refine Fn.enter [0] Tryz.func207 rfl rfl rfl fun X F hX => ?_
 cases a with
 | none =>
  refine J.know (fun h' s => (s.get (i := 1) rfl).2) fun hn0 => ?_
  obtain ⟨rfl, rfl⟩ := hn0
  have : l = [] := List.eq_nil_of_length_eq_zero hl
  subst this
  refine J.q hX fun b10 => ?_
  refine J.cT ?_
  refine J.turn1 [] rfl (As := [ownA 142 25 none 0 0 (cellsF [])]) (fun h s => Sep.one ⟨rfl, rfl, rfl⟩) rfl ?_
  refine J.q hX fun b11 => ?_
  refine J.ru hX [1, 2] ?_
  exact ⟨none, 0, rfl, rfl⟩
 | some g =>
  refine J.q hX fun b12 => ?_
  refine J.cF ?_
  refine J.qn hX 5 fun bb => ?_
  refine J.closeOwn (e := 142) (size := 25) (n := 0) (cap := 0) (xs := []) 2 rfl rfl rfl (Nat.le_refl _) (Nat.zero_le _) rfl rfl rfl ?_
  refine J.q hX fun b13 => ?_
  refine J.appendR hX tk (a := some (bb 0)) (n := 0) (cap := 0) (xs := []) (oo := 0) (Ay := ownA 142 25 (some g) n cap (cellsF l)) 2 1 0 rfl rfl rfl rfl rfl rfl rfl rfl rfl rfl (own_rd _ _ (some g) _ _ _) rfl rfl rfl rfl (cellsF_one l) ?_ ?_ (fun _ => rfl) fun a' c' => ⟨_, rfl, trivial, ?_⟩
  ·simp only [maxLen]; omega
  ·omega
  rw [Nat.zero_add n, List.nil_append]
  refine J.q hX fun b14 => ?_
  refine J.ru hX [1, 2] ?_
  exact ⟨a', c', rfl, rfl⟩
def DelF (p : Fnd → Bool) (l m : List Fnd) (i j : Nat) : Prop := m.length = l.length ∧ i < j ∧ j ≤ l.length ∧ m.drop j = l.drop j ∧ m.take i ++ (l.drop j).filter (fun x => !p x) = l.filter (fun x => !p x)
theorem DelF.start {p : Fnd → Bool} {l : List Fnd} {k : Nat} (h : l.findIdx? p = some k) : DelF p l l k (k + 1) := by
 rw [List.findIdx?_eq_some_iff_getElem] at h
 obtain ⟨h1, h2, h3⟩ := h
 refine ⟨rfl, by omega, by omega, rfl, ?_⟩
 have e : l = l.take k ++ l[k] :: l.drop (k + 1) := by rw [← List.drop_eq_getElem_cons h1, List.take_append_drop]
 have e2 : (l.take k).filter (fun x => !p x) = l.take k := by
  rw [List.filter_eq_self]
  intro x hx
  obtain ⟨i, hi, rfl⟩ := List.mem_iff_getElem.1 hx
  rw [List.getElem_take]
  have := h3 i (by simp at hi; omega)
  simpa using this
 conv => rhs; rw [e]
 rw [List.filter_append, e2, List.filter_cons_of_neg (by simp [h2])]
theorem DelF.skip {p : Fnd → Bool} {l m : List Fnd} {i j : Nat} (h : DelF p l m i j) (hj : j < l.length) (hp : p (m.getD j Fnd.zero) = true) : DelF p l m i (j + 1) := by
 obtain ⟨h1, h2, h3, h4, h5⟩ := h
 have e1 : m[j]? = l[j]? := by have := congrArg (fun z => z[0]?) h4; simpa using this
 have hx : l[j] = m.getD j Fnd.zero := by rw [List.getD_eq_getElem?_getD, e1, List.getElem?_eq_getElem hj, Option.getD_some]
 refine ⟨h1, by omega, by omega, ?_, ?_⟩
 ·have := congrArg (List.drop 1) h4
  simpa [List.drop_drop] using this
 ·rw [← h5, List.drop_eq_getElem_cons hj, List.filter_cons_of_neg (by rw [hx, hp]; simp)]
theorem DelF.keep {p : Fnd → Bool} {l m : List Fnd} {i j : Nat} (h : DelF p l m i j) (hj : j < l.length) (hp : p (m.getD j Fnd.zero) = false) : DelF p l (m.set i (m.getD j Fnd.zero)) (i + 1) (j + 1) := by
 obtain ⟨h1, h2, h3, h4, h5⟩ := h
 have e1 : m[j]? = l[j]? := by have := congrArg (fun z => z[0]?) h4; simpa using this
 have hx : l[j] = m.getD j Fnd.zero := by rw [List.getD_eq_getElem?_getD, e1, List.getElem?_eq_getElem hj, Option.getD_some]
 refine ⟨by simp [h1], by omega, by omega, ?_, ?_⟩
 ·rw [List.drop_set_of_lt (by omega)]
  have := congrArg (List.drop 1) h4
  simpa [List.drop_drop] using this
 ·rw [← h5, List.drop_eq_getElem_cons hj, List.filter_cons_of_pos (by rw [hx, hp]; simp), hx, List.take_set, List.take_add_one, List.getElem?_eq_getElem (by omega)]
  rw [List.set_append_right _ _ (by simp; omega)]
  simp [List.length_take, Nat.min_eq_left (show i ≤ m.length by omega)]
theorem x_DeleteF (c : Nat) (cs : List Value) (p : Fnd → Bool) (A : Atom) (hcal : callable Tryz.prog c = true) (hf : ∀ x, Fn Tryz.prog c (fdV x :: cs) [A] (fun v As => v = .bool (p x) ∧ As = [A]))
  (a : Option Nat) (n cap : Nat) (l : List Fnd) (hl : l.length = n) (hn : n ≤ 4611686018427387904) : Fn Tryz.prog 206 [slv a n cap, fnC c cs] [ownA 142 25 a n cap (cellsF l), A]
  (fun v As => ∃ l', l' = l.filter (fun x => !p x) ∧ v = slv a l'.length cap ∧ As = [ownA 142 25 a l'.length cap (cellsF l'), A]) := by
 refine Fn.enter [0, 0] Tryz.func206 rfl rfl rfl fun X F hX => ?_
 refine J.q hX fun b15 => ?_
 refine J.cb hX (x_IndexF c cs p A hcal l (fun x _ => hf x) a n cap hl hn) [1, 2] ?_
 refine cpq ⟨_, rfl, trivial, ?_⟩
 rw [idxF]
 cases hx : l.findIdx? p with
 | none =>
  dsimp only
  refine J.q hX fun b17 => ?_
  refine J.cT ?_
  refine J.q hX fun b18 => ?_
  refine J.ru hX [1, 2] ?_
  have : l.filter (fun x => !p x) = l := by
   rw [List.filter_eq_self]
   intro x hm
   rw [List.findIdx?_eq_none_iff] at hx
   simp [hx x hm]
  exact ⟨l, this.symm, by rw [hl], by rw [hl]; rfl⟩
 | some k =>
  dsimp only
  refine J.q hX fun b19 => ?_
  refine J.cond rfl (fun h0 => ?_) (fun h0 => ?_)
  ·simp only [beq_iff_eq] at h0; omega
  have hk : k < n := by rw [List.findIdx?_eq_some_iff_getElem] at hx; obtain ⟨h1, _⟩ := hx; omega
  cases a with
  | none =>
   refine J.know (fun h' s => (s.get (i := 1) rfl).2.1) fun hn0 => ?_
   omega
  | some g =>
   refine J.openOwn 1 rfl rfl (fun _ => rfl) fun r q1 q2 q3 q4 => ?_
   refine J.q hX fun b20 => ?_
   rw [show (k : Int) + 1 = ((k + 1 : Nat) : Int) from by omega]
   refine J.q hX fun b21 => ?_
   refine J.lo (α := (Nat × Nat × List Fnd)) (fun x => DelF p l x.2.2 x.1 x.2.1) (fun x => [⟨6, .int .i64 x.2.1, 0, .tt⟩, ⟨5, .int .i64 x.1, 0, .tt⟩, ⟨0, slv (some g) n cap, 0, .tt⟩, ⟨1, fnC c cs, 0, .tt⟩]) [1] (fun x => [.pt g 142 (cellsF x.2.2 ++ r)]) (fun x => n - x.2.1) ((k, k + 1, l)) (DelF.start hx) rfl ?_ (fun _ => rfl) fun x hI => ?_
   ·rfl
   obtain ⟨i, j, m⟩ := x
   dsimp only at hI ⊢
   have hml : m.length = n := hI.1.trans hl
   have hij : i < j := hI.2.1
   have hjn : j ≤ n := by have := hI.2.2.1; omega
   refine J.q hX fun b22 => ?_
   refine J.cond rfl (fun h1 => ?_) (fun h1 => ?_)
   ·simp only [decide_eq_true_eq, Int.ofNat_lt] at h1
    have hget : m[j]? = some (m.getD j Fnd.zero) := by rw [List.getD_eq_getElem?_getD, List.getElem?_eq_getElem (by omega), Option.getD_some]
    refine J.q hX fun b23 => ?_
    refine J.val hX (fdV (m.getD j Fnd.zero)) 0 rfl rfl (fun hg a w he hs => ?_) rfl trivial ?_
    ·exact loadN_run tk rfl rfl he rfl rfl rfl (hs.get (i := 1) rfl) (by rw [show 0 + (j : Int).toNat * 25 = j * 25 from by omega]; exact cellsF_at m r _ _ hget) rfl
    refine J.q hX fun b24 => ?_
    refine J.call hX hcal (hf (m.getD j Fnd.zero)) [2] 0 rfl rfl rfl rfl (by (repeat' (first | exact Conj.nil | refine Conj.cons ?_ ?_ | omega | exact hq0 | (simpa using hq0) | (exact fun h => h) | exact rfl | (intro hq; have hq0 := hq; try simp only [Bool.and_eq_true, Bool.or_eq_true, decide_eq_true_eq, Bool.not_eq_true', decide_eq_false_iff_not] at hq) | (simp; done) | (simp; omega) | decide))) rfl rfl (fun _ => rfl) ?_
    refine cpq ⟨_, rfl, trivial, ?_⟩
    refine J.q hX fun b25 => ?_
    refine J.cond rfl (fun h2 => ?_) (fun h2 => ?_)
    ·simp only [Bool.not_eq_true'] at h2
     refine J.q hX fun b26 => ?_
     refine J.storeN hX tk 1 rfl rfl rfl rfl rfl rfl rfl rfl rfl rfl rfl rfl rfl ?_ (cellsF (m.set i (m.getD j Fnd.zero)) ++ r) ?_ rfl (fun _ => rfl) ⟨trivial, ?_⟩
     ·rw [List.length_append, cellsF_len]; show 0 + (i : Int).toNat * 25 + 25 ≤ _; omega
     ·rw [show 0 + (i : Int).toNat * 25 = i * 25 from by omega]; exact cellsF_set m r i _ (by omega)
     refine J.q hX fun b27 => ?_
     refine J.nS ((i + 1, j + 1, m.set i (m.getD j Fnd.zero))) (hI.keep (by omega) h2) (by dsimp only; omega) [0, 1, 2] rfl rfl
    ·simp only [Bool.not_eq_false'] at h2
     refine J.q hX fun b28 => ?_
     refine J.nS ((i, j + 1, m)) (hI.skip (by omega) h2) (by dsimp only; omega) [0, 1, 2] rfl rfl
   ·simp only [decide_eq_false_iff_not, Int.ofNat_lt] at h1
    obtain rfl : j = n := by omega
    have hfil : m.take i = l.filter (fun x => !p x) := by
     have h5 := hI.2.2.2.2
     rw [List.drop_of_length_le (by omega)] at h5
     simpa using h5
    refine J.q hX fun b29 => ?_
    refine J.clear hX tk 1 rfl rfl rfl rfl rfl rfl rfl rfl rfl rfl rfl ?_ (fun _ => rfl) (fun _ => rfl) fun cs' z1 z2 => ⟨trivial, ?_⟩
    ·rw [List.length_append, cellsF_len]; rw [cellsF_len] at q4
     show 0 + (i : Int).toNat * 25 + (j - (i : Int).toNat) * 25 ≤ _
     have : (i : Int).toNat = i := by omega
     rw [this]; omega
    have hilen : (l.filter (fun x => !p x)).length = i := by rw [← hfil, List.length_take]; omega
    refine J.closeOwn (e := 142) (size := 25) (n := i) (cap := cap) (xs := cellsF (l.filter (fun x => !p x))) 1 rfl rfl (by rw [cellsF_len, hilen]) (by omega) q3 (by rw [z1, List.length_append, cellsF_len, hml]; rw [cellsF_len, hl] at q4; exact q4) ?_ rfl ?_
    ·have z3 : (0 + (i : Int).toNat * 25) = i * 25 := by omega
     rw [z3] at z2
     rw [z2, ← hfil]
     have e : cellsF m = cellsF (m.take i) ++ cellsF (m.drop i) := by
      conv => lhs; rw [← List.take_append_drop i m]
      simp only [cellsF, List.flatMap_append]
     rw [e, List.append_assoc, List.take_left' (by rw [cellsF_len, List.length_take, Nat.min_eq_left (by omega)])]
    refine J.q hX fun b30 => ?_
    refine J.ru hX [1, 2] ?_
    exact ⟨_, rfl, by rw [hilen]; rfl, by rw [hilen]; rfl⟩
structure FSlot where
 a : Option Nat
 cap : Nat
 l : List Fnd
def FSlot.hdr (z : FSlot) : Value := slv z.a z.l.length z.cap
def FSlot.atom (z : FSlot) : Atom := ownA 142 25 z.a z.l.length z.cap (cellsF z.l)
def hdrs (Z : List FSlot) : List Value := Z.map FSlot.hdr
def fats (Z : List FSlot) : List Atom := Z.map FSlot.atom
theorem hdrs_get {Z : List FSlot} {k : Nat} {z : FSlot} (h : Z[k]? = some z) : (hdrs Z)[0 + (k : Int).toNat * 1]? = some z.hdr := by
 rw [show 0 + (k : Int).toNat * 1 = k from by omega, hdrs, List.getElem?_map, h]; rfl
theorem fats_get {Z : List FSlot} {k : Nat} {z : FSlot} (h : Z[k]? = some z) : (fats Z)[k]? = some z.atom := by
 rw [fats, List.getElem?_map, h]; rfl
theorem fats_same {Z : List FSlot} {k : Nat} {z : FSlot} (h : Z[k]? = some z) : (fats Z).set k z.atom = fats Z := by
 apply List.ext_getElem?
 intro i
 rw [List.getElem?_set]
 split
 ·rename_i e; subst e; split
  ·exact (fats_get h).symm
  ·rename_i e2; rw [List.getElem?_eq_none (by omega)]
 ·rfl
theorem fats_set (Z : List FSlot) (k : Nat) (z : FSlot) : (fats Z).set k z.atom = fats (Z.set k z) := by rw [fats, fats, List.map_set]
theorem hdrs_set (Z : List FSlot) (k : Nat) (z : FSlot) : (hdrs Z).set k z.hdr = hdrs (Z.set k z) := by rw [hdrs, hdrs, List.map_set]
def V.standOf (l : List Fnd) : Fnd × Bool := match V.tops l with
 | [] => (Fnd.zero, false)
 | f :: _ => (f, true)
def ScP (sp p g : Nat) (Z : List FSlot) : List Atom := [.pt sp 220 [.pointer (some ⟨p, 0, none⟩), .slice (some ⟨g, 0, none⟩) Z.length Z.length], .pt g 139 (hdrs Z), .hp (HP.of (fats Z))]
theorem v_stands (sp p g : Nat) (Z : List FSlot) (k : Nat) (z : FSlot) (hz : Z[k]? = some z) (hn : Z.length ≤ 100000) (hl : z.l.length ≤ 100000) : Fn Tryz.prog 171 [.pointer (some ⟨sp, 0, none⟩), .int .i64 k] (ScP sp p g Z)
  (fun v As => v = .tuple #[fdV (V.standOf z.l).1, .bool (V.standOf z.l).2] ∧ As = ScP sp p g Z) := by
 have hk : k < Z.length := (List.getElem?_eq_some_iff.1 hz).1
 refine Fn.enter [2, 0] Tryz.func171 rfl rfl rfl fun X F hX => ?_
 refine J.q hX fun b1 => ?_
 refine J.val hX z.hdr 0 rfl rfl (fun hg a w he hs => ?_) rfl trivial ?_
 ·exact load1_run tk rfl rfl he rfl rfl rfl (hs.get (i := 2) rfl) (hdrs_get hz)
 refine J.openAt 3 k rfl rfl (fats_get hz) rfl ?_
 refine J.q hX fun b2 => ?_
 refine J.cb hX (v_tops z.a z.l.length z.cap z.l rfl hl) [5] ?_
 rintro v As ⟨a', c', rfl, rfl⟩
 refine ⟨_, rfl, trivial, ?_⟩
 have hv : V.standOf z.l = match V.tops z.l with
  | [] => (Fnd.zero, false)
  | f :: _ => (f, true) := rfl
 rcases ht : V.tops z.l with _ | ⟨f, o⟩
 ·rw [ht] at hv
  refine J.q hX fun b4 => ?_
  refine J.cT ?_
  refine J.q hX fun b5 => ?_
  refine J.closeAt (A := z.atom) 3 5 k rfl rfl rfl ?_
  rw [fats_same hz]
  refine J.q hX fun b6 => ?_
  refine J.ru hX [1, 2, 3] ?_
  exact ⟨by rw [hv]; rfl, rfl⟩
 ·rw [ht] at hv
  refine J.know (fun h' s => own_some (c := (a', c')) (by simp) (s.get (i := 6) rfl)) fun hg => ?_
  obtain ⟨ga, rfl⟩ := hg
  refine J.q hX fun b7 => ?_
  refine J.cond rfl (fun h1 => ?_) (fun h1 => ?_)
  ·simp only [beq_iff_eq, List.length_cons] at h1; omega
  refine J.q hX fun b8 => ?_
  refine J.val hX (fdV f) 0 rfl rfl (fun hg a w he hs => ?_) rfl trivial ?_
  ·exact ownN_run tk rfl rfl he rfl rfl rfl (hs.get (i := 6) rfl) rfl rfl
  refine J.q hX fun b9 => ?_
  refine J.closeAt (A := z.atom) 3 5 k rfl rfl rfl ?_
  rw [fats_same hz]
  refine J.q hX fun b10 => ?_
  refine J.ru hX [1, 2, 3] ?_
  exact ⟨by rw [hv]; rfl, rfl⟩
theorem v_holds1 (A : Atom) (x : Fnd) : Fn Tryz.prog 208 [fdV x] [A] (fun v As => v = .bool (!x.whole) ∧ As = [A]) := by
 refine Fn.enter [0] Tryz.func208 rfl rfl rfl fun X F hX => ?_
 refine J.q hX fun b11 => ?_
 exact J.ru hX [1] ⟨rfl, rfl⟩
theorem v_holds (sp p g : Nat) (Z : List FSlot) (k : Nat) (z : FSlot) (hz : Z[k]? = some z) (hn : Z.length ≤ 100000) (hl : z.l.length ≤ 100000) : Fn Tryz.prog 173 [.pointer (some ⟨sp, 0, none⟩), .int .i64 k] (ScP sp p g Z)
  (fun v As => ∃ a c, v = slv a (V.holds z.l).length c ∧ As = ScP sp p g Z ++ [ownA 3 1 a (V.holds z.l).length c (cellsI (V.holds z.l))]) := by
 have hk : k < Z.length := (List.getElem?_eq_some_iff.1 hz).1
 refine Fn.enter [2, 0] Tryz.func173 rfl rfl rfl fun X F hX => ?_
 refine J.q hX fun b12 => ?_
 refine J.val hX z.hdr 0 rfl rfl (fun hg a w he hs => ?_) rfl trivial ?_
 ·exact load1_run tk rfl rfl he rfl rfl rfl (hs.get (i := 2) rfl) (hdrs_get hz)
 refine J.openAt 3 k rfl rfl (fats_get hz) rfl ?_
 refine J.q hX fun b13 => ?_
 refine J.cb hX (x_CloneF z.a z.l.length z.cap z.l rfl (by omega)) [4] ?_
 rintro v As ⟨a1, c1, rfl, rfl⟩
 refine ⟨_, rfl, trivial, ?_⟩
 refine J.closeAt (A := z.atom) 3 4 k rfl rfl rfl ?_
 rw [fats_same hz]
 refine J.q hX fun b15 => ?_
 refine J.ca hX (by kernel_rfl) (x_DeleteF 208 [] (fun x => !x.whole) (.pt sp 220 [.pointer (some ⟨p, 0, none⟩), .slice (some ⟨g, 0, none⟩) Z.length Z.length]) (by kernel_rfl) (fun x => v_holds1 _ x) a1 z.l.length c1 z.l rfl (by omega)) [5, 1] 0 rfl rfl rfl rfl rfl rfl (fun _ => rfl) ?_
 rintro v As ⟨l', hl', rfl, rfl⟩
 refine ⟨_, rfl, trivial, ?_⟩
 have hl2 : l' = z.l.filter fun f => f.whole := by rw [hl']; congr 1; funext x; simp
 have hll : l'.length ≤ z.l.length := by rw [hl']; exact List.length_filter_le _ _
 have htl := tops_len l'
 have hh : V.holds z.l = (V.tops l').map (·.block) := by rw [hl2]; rfl
 refine J.q hX fun b17 => ?_
 refine J.cb hX (v_tops a1 l'.length c1 l' rfl (by omega)) [5] ?_
 rintro v As ⟨a2, c2, rfl, rfl⟩
 refine ⟨_, rfl, trivial, ?_⟩
 refine J.turn1 [] rfl (As := [ownA 3 1 none 0 0 (cellsI [])]) (fun h s => Sep.one ⟨rfl, rfl, rfl⟩) rfl ?_
 refine J.q hX fun b19 => ?_
 refine J.lo (α := (Nat × Option Nat × Nat)) (fun w => w.1 ≤ (V.tops l').length) (fun w => [⟨21, .int .i64 w.1, 0, .tt⟩, ⟨20, .int .i64 (V.tops l').length, 0, .tt⟩, ⟨19, slv a2 (V.tops l').length c2, 0, .tt⟩, ⟨6, slv w.2.1 w.1 w.2.2, 0, .tt⟩]) [7] (fun w => [ownA 3 1 w.2.1 w.1 w.2.2 (cellsI (((V.tops l').take w.1).map (·.block)))]) (fun w => (V.tops l').length - w.1) ((0, none, 0)) (Nat.zero_le _) rfl ?_ (fun _ => rfl) fun w hI => ?_
 ·rfl
 obtain ⟨j, a3, c3⟩ := w
 dsimp only at hI ⊢
 refine J.q hX fun b21 => ?_
 refine J.cond rfl (fun h1 => ?_) (fun h1 => ?_)
 ·simp only [decide_eq_true_eq, Int.ofNat_lt] at h1
  obtain ⟨x, hx⟩ : ∃ x, (V.tops l')[j]? = some x := ⟨_, List.getElem?_eq_getElem h1⟩
  have htk : ((V.tops l').take (j + 1)).map (·.block) = ((V.tops l').take j).map (·.block) ++ [x.block] := by rw [List.take_add_one, hx]; simp
  refine J.know (fun h' s => own_some (c := (a2, c2)) (by omega) (s.get (i := 6) rfl)) fun hg => ?_
  obtain ⟨ga, rfl⟩ := hg
  refine J.q hX fun b22 => ?_
  refine J.val hX (fdV x) 0 rfl rfl (fun hg a w he hs => ?_) rfl trivial ?_
  ·exact ownN_run tk rfl rfl he rfl rfl rfl (hs.get (i := 6) rfl) (by rw [show 0 + (j : Int).toNat * 25 = j * 25 from by omega]; exact cellsF_get hx) rfl
  refine J.q hX fun b23 => ?_
  refine J.append hX tk 7 9 0 rfl rfl rfl rfl rfl rfl rfl rfl rfl rfl rfl rfl rfl rfl rfl rfl ?_ ?_ (fun _ => rfl) fun a4 c4 => ⟨_, (congrArg (fun z => lset _ 7 (ownA _ _ _ _ _ z)) ((cellsI_snoc _ x.block).symm.trans (congrArg cellsI htk.symm))).trans rfl, trivial, ?_⟩
  ·simp only [maxLen]; omega
  ·omega
  refine J.q hX fun b24 => ?_
  refine J.nS ((j + 1, a4, c4)) (by dsimp only; omega) (by dsimp only; omega) [0, 1, 2, 3, 4, 5, 6, 7] rfl rfl
 ·simp only [decide_eq_false_iff_not, Int.ofNat_lt] at h1
  obtain rfl : j = (V.tops l').length := by omega
  rw [List.take_length, ← hh]
  refine J.q hX fun b25 => ?_
  refine J.ru hX [1, 2, 3, 7] ?_
  have hlen : (V.tops l').length = (V.holds z.l).length := by rw [hh, List.length_map]
  rw [hlen]
  exact ⟨a3, c3, rfl, rfl⟩
end Go.Proofs.YtdocmcapegcoeaaGreat
namespace Go.Proofs.YtdocmcapegcoeaaGreat
open Go Go.Shelf
def renn189 : Ren := ⟨fun n => if n = 125 then 210 else if n = 128 then 235 else if n = 129 then 236 else if n = 189 then 174 else if n = 215 then 145 else if n = 216 then 232 else if n = 257 then 209 else if n = 294 then 226 else if n = 295 then 227 else if n = 296 then 228 else if n = 297 then 229 else if n = 298 then 230 else if n = 299 then 231 else if n = 300 then 233 else if n = 301 then 234 else if n = 328 then 244 else if n = 329 then 245 else if n = 330 then 246 else if n = 331 then 247 else if n = 332 then 248 else if n = 343 then 266 else 0, fun n => if n = 0 then 0 else if n = 3 then 3 else if n = 4 then 4 else if n = 5 then 5 else if n = 9 then 9 else if n = 28 then 24 else if n = 46 then 49 else if n = 51 then 201 else if n = 53 then 187 else if n = 131 then 265 else if n = 182 then 260 else if n = 183 then 261 else if n = 218 then 276 else if n = 222 then 271 else if n = 228 then 293 else if n = 229 then 294 else 0, fun n => n⟩
theorem laysn189 : Lays.n189 Tryz.prog renn189 where
 mixed := by kernel_rfl
 f125 := by kernel_rfl
 f128 := by kernel_rfl
 f129 := by kernel_rfl
 f189 := by kernel_rfl
 f215 := by kernel_rfl
 f216 := by kernel_rfl
 f257 := by kernel_rfl
 f294 := by kernel_rfl
 f295 := by kernel_rfl
 f296 := by kernel_rfl
 f297 := by kernel_rfl
 f298 := by kernel_rfl
 f299 := by kernel_rfl
 f300 := by kernel_rfl
 f301 := by kernel_rfl
 f328 := by kernel_rfl
 f329 := by kernel_rfl
 f330 := by kernel_rfl
 f331 := by kernel_rfl
 f332 := by kernel_rfl
 f343 := by kernel_rfl
 t0 := by kernel_rfl
 a0 := fun w => by kernel_rfl
 z0 := fun w => by kernel_rfl
 v0 := fun w => by kernel_rfl
 t3 := by kernel_rfl
 a3 := fun w => by kernel_rfl
 z3 := fun w => by kernel_rfl
 v3 := fun w => by kernel_rfl
 t4 := by kernel_rfl
 a4 := fun w => by kernel_rfl
 z4 := fun w => by kernel_rfl
 v4 := fun w => by kernel_rfl
 t5 := by kernel_rfl
 a5 := fun w => by kernel_rfl
 z5 := fun w => by kernel_rfl
 v5 := fun w => by kernel_rfl
 t9 := by kernel_rfl
 a9 := fun w => by kernel_rfl
 z9 := fun w => by kernel_rfl
 v9 := fun w => by kernel_rfl
 t28 := by kernel_rfl
 a28 := fun w => by kernel_rfl
 z28 := fun w => by kernel_rfl
 v28 := fun w => by kernel_rfl
 t46 := by kernel_rfl
 a46 := fun w => by kernel_rfl
 z46 := fun w => by kernel_rfl
 v46 := fun w => by kernel_rfl
 t51 := by kernel_rfl
 a51 := fun w => by kernel_rfl
 z51 := fun w => by kernel_rfl
 v51 := fun w => by kernel_rfl
 t53 := by kernel_rfl
 a53 := fun w => by kernel_rfl
 z53 := fun w => by kernel_rfl
 v53 := fun w => by kernel_rfl
 t131 := by kernel_rfl
 a131 := fun w => by kernel_rfl
 z131 := fun w => by kernel_rfl
 v131 := fun w => by kernel_rfl
 t182 := by kernel_rfl
 a182 := fun w => by kernel_rfl
 z182 := fun w => by kernel_rfl
 v182 := fun w => by kernel_rfl
 t183 := by kernel_rfl
 a183 := fun w => by kernel_rfl
 z183 := fun w => by kernel_rfl
 v183 := fun w => by kernel_rfl
 t218 := by kernel_rfl
 a218 := fun w => by kernel_rfl
 z218 := fun w => by kernel_rfl
 v218 := fun w => by kernel_rfl
 t222 := by kernel_rfl
 a222 := fun w => by kernel_rfl
 z222 := fun w => by kernel_rfl
 v222 := fun w => by kernel_rfl
 t228 := by kernel_rfl
 a228 := fun w => by kernel_rfl
 z228 := fun w => by kernel_rfl
 v228 := fun w => by kernel_rfl
 t229 := by kernel_rfl
 a229 := fun w => by kernel_rfl
 z229 := fun w => by kernel_rfl
 v229 := fun w => by kernel_rfl
end Go.Proofs.YtdocmcapegcoeaaGreat
namespace Go.Proofs.YtdocmcapegcoeaaGreat
open Go Go.RowKit
def leI (x y : Int) : Bool := decide (x ≤ y)
def sortI (l : List Int) : List Int := l.mergeSort leI
theorem sortI_len (l : List Int) : (sortI l).length = l.length := by rw [sortI, List.length_mergeSort]
theorem holds_own {g n cap : Nat} {l : List Int} {w : World} (hl' : l.length = n) (h : ownP 3 1 (some g) n cap (cellsI l) (hl w)) : Go.Sort.Holds (Value.int .i64) w g 0 l.toArray := by
 obtain ⟨h0, cur, h1, h2, h3, h4, h5⟩ := h
 have h1' : w.heap[g]? = some (.cells cur 3 (0, 0)) := h1
 intro j hj
 have hj' : j < l.length := by simpa using hj
 have hc : cur.toList[j]? = some (.int .i64 l[j]) := by
  have : (cur.toList.take (n * 1))[j]? = (cellsI l)[j]? := by rw [h5]
  rw [List.getElem?_take_of_lt (by omega)] at this
  rw [this, cellsI, List.getElem?_map, List.getElem?_eq_getElem hj']; rfl
 have hg : l.toArray[j]! = l[j] := by simp [hj']
 rw [hg]
 refine ⟨?_, ?_⟩
 ·simp only [World.cell?, Nat.zero_add, h1']
  rw [Array.getElem?_toList] at hc
  simp [hc]
 ·simp [World.frozen?, h1']
theorem x_SortN (a : Option Nat) (n cap : Nat) (l : List Int) (hl' : l.length = n) (hn : n ≤ 1000000) : Fn Tryz.prog 174 [slv a n cap] [ownA 3 1 a n cap (cellsI l)]
  (fun v As => v = .tuple #[] ∧ As = [ownA 3 1 a n cap (cellsI (sortI l))]) := by
 cases a with
 | none =>
  intro F w s
  have h0 : n = 0 := (s.get (i := 1) rfl).2.1
  subst h0
  have : l = [] := List.eq_nil_of_length_eq_zero hl'
  subst this
  have e : sortI [] = isortL [] := by rw [sortI, List.mergeSort_nil]; rfl
  rw [e]
  exact s_SortInts none 0 cap [] rfl (by omega) F w s
 | some g =>
  intro F w s
  have ho : ownP 3 1 (some g) n cap (cellsI l) (hl w) := s.get (i := 1) rfl
  have hH := holds_own hl' ho
  obtain ⟨h0, cur, h1, h2, h3, h4, h5⟩ := ho
  have h1' : w.heap[g]? = some (.cells cur 3 (0, 0)) := h1
  have hlt : g < w.heap.size := (Array.getElem?_eq_some_iff.1 h1').1
  have hc := Any.slices_Sort_int laysn189 g 0 cap l w hH hlt (by omega)
  subst hl'
  refine Calls.mono hc fun e w' ⟨e1, m, os, e2⟩ => ?_
  subst e1
  have hsz : w.heap.size ≤ w'.heap.size := by rw [e2]; simp [Go.Sort.grow]
  have hother : ∀ k, k < w.heap.size → some k ≠ some g → w'.heap[k]? = w.heap[k]? := fun k hk hne => by
   rw [e2]
   have : g ≠ k := fun e => hne (by rw [e])
   show (w.heap.modify g (Go.Sort.onCells (Go.Sort.putCells (Value.int .i64) 0 (sortI l).toArray)) ++ os)[k]? = _
   rw [Array.getElem?_append_left (by rw [Array.size_modify]; exact hk), Array.getElem?_modify, if_neg this]
  have hthis : w'.heap[g]? = some (.cells (Go.Sort.putCells (Value.int .i64) 0 (sortI l).toArray cur) 3 (0, 0)) := by
   rw [e2]
   show (w.heap.modify g (Go.Sort.onCells (Go.Sort.putCells (Value.int .i64) 0 (sortI l).toArray)) ++ os)[g]? = _
   rw [Array.getElem?_append_left (by rw [Array.size_modify]; exact hlt), Array.getElem?_modify, if_pos rfl, h1']
   rfl
  have hgr : w.grownBy w' (some g) := ⟨by rw [e2]; rfl, by rw [e2]; rfl, by rw [e2]; rfl, hsz, hother⟩
  refine ⟨.tuple #[], _, rfl, ⟨rfl, rfl⟩, ?_, ⟨hgr.os, hgr.tape, hgr.output, hsz⟩⟩
  refine Sep.step s (i := 1) (A := ownA 3 1 (some g) l.length cap (cellsI l)) rfl (x := some g) (x' := some g) (fun h g' hs e => ?_) hgr (.inl rfl) (fun h hh => ?_)
  ·injection e with e
   subst e
   obtain ⟨_, cur', q, _⟩ := hs
   exact ⟨_, q⟩
  ·refine ⟨by rw [cellsI, List.length_map, sortI_len, Nat.mul_one], _, (hh g rfl).trans hthis, h2, h3, ?_, ?_⟩
   ·rw [Go.Sort.putCells, Array.size_mapIdx]; exact h4
   ·apply List.ext_getElem?
    intro i
    rw [Nat.mul_one, List.getElem?_take]
    split
    ·rename_i hi
     have hi2 : i < (sortI l).length := by rw [sortI_len]; exact hi
     rw [Array.getElem?_toList, Go.Sort.putCells, Array.getElem?_mapIdx, Array.getElem?_eq_getElem (by omega), Option.map_some, if_pos ⟨Nat.zero_le _, by simpa using hi2⟩, cellsI, List.getElem?_map, List.getElem?_eq_getElem hi2]
     simp [hi2]
    ·rw [List.getElem?_eq_none (by rw [cellsI, List.length_map, sortI_len]; omega)]
end Go.Proofs.YtdocmcapegcoeaaGreat
namespace Go.Proofs.YtdocmcapegcoeaaGreat
structure Scd where
 tb : Tb
 torn : List En
 first : Nat
 held : List Int
 next : Int
 pages : Nat
structure Sst where
 tb : Tb
 torn : List En
 held : List Int
 others : List En
namespace V
def nextOf (l : List Fnd) : Int := l.foldl (fun m f => max m (f.en.seq + 1)) 1
def step (N : Nand) (L : List Fnd) (s : Sst) (k : Nat) : Sst :=
 if (standOf (of L k)).2 = true then
  if (standOf (of L k)).1.whole = true then { s with tb := s.tb.put (standOf (of L k)).1.en (standOf (of L k)).1.block (standOf (of L k)).1.row (standOf (of L k)).1.slot (standOf (of L k)).1.mask }
  else if last N (standOf (of L k)).1 = true then ⟨s.tb.put (standOf (of L k)).1.en (standOf (of L k)).1.block (standOf (of L k)).1.row (standOf (of L k)).1.slot (standOf (of L k)).1.mask, s.torn ++ [(standOf (of L k)).1.en], s.held ++ holds (of L k), s.others⟩
  else ⟨s.tb.put (standOf (of L k)).1.en (standOf (of L k)).1.block (standOf (of L k)).1.row (standOf (of L k)).1.slot (standOf (of L k)).1.mask, s.torn, s.held, s.others ++ [(standOf (of L k)).1.en]⟩
 else s
def goS (N : Nand) (L : List Fnd) (n : Int) (k : Nat) : Sst := (List.range k).foldl (step N L) ⟨Tb.new n, [], [], []⟩
def size (n : Int) : Nat := (min (max n 0) 65536).toNat
def scanOf (N : Nand) (L : List Fnd) (n : Int) : Scd := ⟨(goS N L n (size n)).tb, (goS N L n (size n)).torn ++ (goS N L n (size n)).others, (goS N L n (size n)).torn.length, compactI (sortI (goS N L n (size n)).held), nextOf L, L.length⟩
def scan (N : Nand) (n : Int) : Scd := scanOf N (all N) n
theorem goS_succ (N : Nand) (L : List Fnd) (n : Int) (k : Nat) : goS N L n (k + 1) = step N L (goS N L n k) k := by unfold goS; rw [List.range_succ, List.foldl_append]; rfl
theorem step_tb (N : Nand) (L : List Fnd) (s : Sst) (k : Nat) : (step N L s k).tb = s.tb ∨ (standOf (of L k)).2 = true ∧ (step N L s k).tb = s.tb.put (standOf (of L k)).1.en (standOf (of L k)).1.block (standOf (of L k)).1.row (standOf (of L k)).1.slot (standOf (of L k)).1.mask := by
 unfold step
 split
 ·right
  rename_i h
  refine ⟨h, ?_⟩
  split
  ·rfl
  ·split <;> rfl
 ·left; rfl
theorem goS_ok (N : Nand) (L : List Fnd) (n : Int) : ∀ k, (goS N L n k).tb.Ok
 | 0 => Tb.Ok.new n
 | k + 1 => by
  rw [goS_succ]
  rcases step_tb N L (goS N L n k) k with h | ⟨_, h⟩
  ·rw [h]; exact goS_ok N L n k
  ·rw [h]; exact (goS_ok N L n k).put _ _ _ _ _
theorem tops_mem {l : List Fnd} {f : Fnd} : f ∈ tops l → f ∈ l := by
 have : ∀ k, k ≤ l.length → ∀ f ∈ tops (l.take k), f ∈ l := by
  intro k
  induction k with
  | zero => intro _ f hf; simp [tops] at hf
  | succ k ih =>
   intro hk f hf
   rw [tops_succ (List.getElem?_eq_getElem (by omega))] at hf
   have ih := ih (by omega)
   have hx : l[k] ∈ l := List.getElem_mem _
   revert hf ih
   generalize tops (l.take k) = o
   intro hf ih
   cases o with
   | nil => simp [topsStep] at hf; rw [hf]; exact hx
   | cons h t =>
    simp only [topsStep] at hf
    split at hf
    ·simp at hf; rw [hf]; exact hx
    ·split at hf
     ·exact ih f hf
     ·rw [List.mem_append] at hf
      rcases hf with hf | hf
      ·exact ih f hf
      ·simp at hf; rw [hf]; exact hx
 intro h
 refine this l.length (Nat.le_refl _) f ?_
 rwa [List.take_length]
theorem standOf_mem {l : List Fnd} (h : (standOf l).2 = true) : (standOf l).1 ∈ l := by
 have hm : ∀ f, f ∈ tops l → f ∈ l := fun f => tops_mem
 revert h
 unfold standOf
 cases ht : tops l with
 | nil => intro h; cases h
 | cons f o => intro _; exact hm f (by rw [ht]; exact List.mem_cons_self ..)
theorem of_len (L : List Fnd) (k : Int) : (of L k).length ≤ L.length := List.length_filter_le _ _
theorem holds_len (l : List Fnd) : (holds l).length ≤ l.length := by
 unfold holds
 rw [List.length_map]
 exact Nat.le_trans (tops_len _) (List.length_filter_le _ _)
theorem of_sum (L : List Fnd) : ∀ k, ((List.range k).map fun i : Nat => (of L (i : Int)).length).sum ≤ L.length := by
 intro k
 induction L with
 | nil =>
  have : ∀ k : Nat, ((List.range k).map fun i : Nat => (of [] (i : Int)).length).sum = 0 := fun k => by
   induction k with
   | zero => rfl
   | succ k ih => rw [List.range_succ, List.map_append, List.sum_append, ih]; rfl
  rw [this]; exact Nat.zero_le _
 | cons x L ih =>
  have h1 : ∀ i : Nat, (of (x :: L) (i : Int)).length = (of L (i : Int)).length + (if x.en.lpn = (i : Int) then 1 else 0) := by
   intro i
   unfold of
   rw [List.filter_cons]
   split
   ·rename_i h; simp only [beq_iff_eq] at h; rw [if_pos h, List.length_cons]
   ·rename_i h; simp only [beq_iff_eq] at h; rw [if_neg h]; rfl
  have h2 : ∀ k, ((List.range k).map fun i : Nat => (of (x :: L) (i : Int)).length).sum ≤ ((List.range k).map fun i : Nat => (of L (i : Int)).length).sum + (if 0 ≤ x.en.lpn ∧ x.en.lpn < (k : Int) then 1 else 0) := by
   intro k
   induction k with
   | zero => simp
   | succ k ih =>
    rw [List.range_succ, List.map_append, List.sum_append, List.map_append, List.sum_append]
    simp only [List.map_cons, List.map_nil, List.sum_cons, List.sum_nil, Nat.add_zero]
    rw [h1]
    split at ih <;> split <;> split <;> omega
  have := h2 k
  rw [List.length_cons]
  split at this <;> omega
theorem goS_len (N : Nand) (L : List Fnd) (n : Int) : ∀ k, (goS N L n k).torn.length ≤ k ∧ (goS N L n k).others.length ≤ k ∧ (goS N L n k).held.length ≤ ((List.range k).map fun i : Nat => (of L (i : Int)).length).sum
 | 0 => by simp [goS]
 | k + 1 => by
  have ih := goS_len N L n k
  have hh := holds_len (of L k)
  rw [goS_succ, List.range_succ, List.map_append, List.sum_append]
  simp only [List.map_cons, List.map_nil, List.sum_cons, List.sum_nil, Nat.add_zero]
  unfold step
  split
  ·split
   ·dsimp only; omega
   ·split
    ·simp only [List.length_append, List.length_cons, List.length_nil]; omega
    ·simp only [List.length_append, List.length_cons, List.length_nil]; omega
  ·omega
theorem goS_held (N : Nand) (L : List Fnd) (n : Int) (k : Nat) : (goS N L n k).held.length ≤ L.length := Nat.le_trans (goS_len N L n k).2.2 (of_sum L k)
theorem nextOf_snoc (l : List Fnd) (f : Fnd) : nextOf (l ++ [f]) = max (nextOf l) (f.en.seq + 1) := by unfold nextOf; rw [List.foldl_append]; rfl
theorem of_snoc (l : List Fnd) (f : Fnd) (k : Int) : of (l ++ [f]) k = if f.en.lpn = k then of l k ++ [f] else of l k := by
 unfold of
 rw [List.filter_append, List.filter_cons]
 by_cases h : f.en.lpn = k
 ·rw [if_pos h, if_pos (by simpa using h)]; rfl
 ·rw [if_neg h, if_neg (by simpa using h)]; simp
def upB (N : Nand) (b : Nat) : List Fnd := (List.range b).flatMap fun b => (List.range N.pages).flatMap fun r => R.all N (b : Nat) (r : Nat)
def upR (N : Nand) (b r : Nat) : List Fnd := upB N b ++ (List.range r).flatMap fun r => R.all N (b : Nat) (r : Nat)
def upI (N : Nand) (b r i : Nat) : List Fnd := upR N b r ++ (R.all N (b : Nat) (r : Nat)).take i
theorem upR_zero (N : Nand) (b : Nat) : upR N b 0 = upB N b := by simp [upR]
theorem upI_zero (N : Nand) (b r : Nat) : upI N b r 0 = upR N b r := by simp [upI]
theorem upR_succ (N : Nand) (b r : Nat) : upR N b (r + 1) = upI N b r (R.all N (b : Nat) (r : Nat)).length := by
 unfold upI upR
 rw [List.take_length, List.range_succ, List.flatMap_append, List.append_assoc]; simp
theorem upB_succ (N : Nand) (b : Nat) : upB N (b + 1) = upR N b N.pages := by
 unfold upR upB
 rw [List.range_succ, List.flatMap_append]; simp
theorem upB_all (N : Nand) : upB N N.blocks = all N := rfl
theorem upI_succ {N : Nand} {b r i : Nat} {x : Fnd} (h : (R.all N (b : Nat) (r : Nat))[i]? = some x) : upI N b r (i + 1) = upI N b r i ++ [x] := by
 unfold upI
 rw [List.take_add_one, h, Option.toList_some, List.append_assoc]
theorem nextOf_bd {l : List Fnd} (h : ∀ f ∈ l, EnBd f.en) : 1 ≤ nextOf l ∧ nextOf l ≤ 1099511627776 := by
 have : ∀ (l : List Fnd) (m : Int), (∀ f ∈ l, EnBd f.en) → 1 ≤ m → m ≤ 1099511627776 → 1 ≤ l.foldl (fun m f => max m (f.en.seq + 1)) m ∧ l.foldl (fun m f => max m (f.en.seq + 1)) m ≤ 1099511627776 := by
  intro l
  induction l with
  | nil => intro m _ h1 h2; exact ⟨h1, h2⟩
  | cons x l ih =>
   intro m hl h1 h2
   have := hl x (List.mem_cons_self ..)
   unfold EnBd at this
   exact ih (max m (x.en.seq + 1)) (fun f hf => hl f (List.mem_cons_of_mem _ hf)) (by omega) (by omega)
 exact this l 1 h (by omega) (by omega)
end V
end Go.Proofs.YtdocmcapegcoeaaGreat
namespace Go.Proofs.YtdocmcapegcoeaaGreat
open Go Go.RowKit
section
variable {X : Cx} {P : Program} {K : List KI} {E : Env} {L : List Atom} {N : Nat} {F : HP} {Post : Value → List Atom → Prop} {rs : List ResultVar} {T : Tab}
theorem append_none_run (hT : TabOK P T) {o : Oper} {x y : Operand} {st e size by_ ks tgs ky tgy : Nat} {gs gy : G} {a : Option Nat} {n cap : Nat} {xs : List Value} {s1 b1 : Nat} {z1 : List Value} {ac : Act} {w : World} {NN : Nat}
  (hop : o.op = .call ⟨.builtin .append, #[x, y], #[st, st]⟩) (hx : ev E x = some ⟨ks, slv a n cap, tgs, gs⟩) (hvx : gs.on = true) (hy : ev E y = some ⟨ky, .slice none 0 0, tgy, gy⟩) (hvy : gy.on = true) (hen : EnvOK NN E ac)
  (hst : T.get st = some ⟨.slice e size, s1, z1, b1⟩) {td : TD} {z : List Value} (he : T.get e = some ⟨td, size, z, by_⟩) (hown : ownP e size a n cap xs (hl w)) :
  (execOp ac.eval o).run P w = .ok (.value (slv a n cap)) w := by
 obtain ⟨d, f, zv, ok⟩ := tiOf_spec (hT.get hst)
 obtain ⟨fe, rfl, g1, g2⟩ := ok.slice rfl
 obtain ⟨d', f', zv', ok'⟩ := tiOf_spec (hT.get he)
 have hf : fe = f' := by have := g1.symm.trans ok'.hf; injection this
 subst hf
 have ex := ev_spec hen hx
 have ey := ev_spec hen hy
 simp only [Slot.val, hvx, hvy] at ex ey
 have hr := run_append_owned_none (P := P) w 0 st o.type e fe size ok.hd ok'.hf _ n xs (ownP_row hown)
 simp only [execOp, hop, resolve, Sem.run_bind, Sem.run_pure, Result.andThen_ok, invoke, builtin, List.map_toArray, List.map_cons, List.map_nil, ex, ey, hr]
theorem J.appendO (hX : IsCx X P rs N F Post) (hT : TabOK P T) {ops : Array Oper} {C : Cl} {lt : Bool} {i : Nat} {t : PT} {o : Oper} {x y : Operand} {st e size by_ : Nat} {ks tgs : Nat} {gs : G} {a : Option Nat} {n cap : Nat} {xs : List Value} {ky tgy : Nat} {gy : G} {ay : Option Nat} {m cy : Nat} {cs : List Value} {s1 b1 : Nat} {z1 : List Value} {E' : Value → Env} (is iy : Nat)
  (ho : lget ops.toList i = some o) (hg : gd ops.toList E o = some .tt) (hop : o.op = .call ⟨.builtin .append, #[x, y], #[st, st]⟩)
  (hx : ev E x = some ⟨ks, slv a n cap, tgs, gs⟩) (hvx : gs.on = true) (hy : ev E y = some ⟨ky, slv ay m cy, tgy, gy⟩) (hvy : gy.on = true)
  (hLs : lget L is = some (ownA e size a n cap xs)) (hLy : lget L iy = some (ownA e size ay m cy cs)) (hst : T.get st = some ⟨.slice e size, s1, z1, b1⟩) {td : TD} {z : List Value} (he : T.get e = some ⟨td, size, z, by_⟩) (hz : Nat.beq z.length size = true)
  (hsz : Nat.blt 0 size = true) (h1 : ∀ u ∈ cs, u.oneCell' = true) (h63 : n + m ≤ maxLen) (hbytes : (n + m) * by_ ≤ 140737488355328)
  (hd : ∀ v, putE N o.dst v 0 .tt E = some (E' v))
  (hJ : ∀ a' cap', ∃ L', lset L is (ownA e size a' (n + m) cap' (xs ++ cs)) = some L' ∧ Conj (staysL lt C L') ∧ J X (.reg ops C t :: K) (E' (slv a' (n + m) cap')) L') : J X (.reg ops C (.alt lt i t .non) :: K) E L := by
 cases ay with
 | some b => exact J.appendR hX hT (oo := 0) is iy 0 ho hg rfl hop hx hvx hy hvy hLs hLy (own_rd _ _ (some b) _ _ _) hst he hz hsz h1 h63 hbytes hd hJ
 | none =>
  rw [lget_eq] at hLs hLy
  refine J.know (p := cs.length = m * size ∧ m = 0 ∧ cy = 0) (fun h s => (show ownP e size none m cy cs h from s.get hLy)) fun hk => ?_
  obtain ⟨q1, rfl, rfl⟩ := hk
  have hcs : cs = [] := List.eq_nil_of_length_eq_zero (by rw [q1, Nat.zero_mul])
  subst hcs
  obtain ⟨L', e1, e2, e3⟩ := hJ a cap
  rw [Nat.add_zero, List.append_nil] at e1
  rw [Nat.add_zero] at e3
  have hL : L' = L := by
   rw [lset_eq e1]
   apply List.ext_getElem?
   intro j
   rw [List.getElem?_set]
   split
   ·rename_i e; subst e; split
    ·exact hLs.symm
    ·rename_i e4; rw [List.getElem?_eq_none (by omega)]
   ·rfl
  subst hL
  exact J.val hX (slv a n cap) 0 ho hg (fun _ ac w hen hs => append_none_run hT hop hx hvx hy hvy hen hst he (show ownP e size a n cap xs (hl w) from hs.get hLs)) (hd _) e2 e3
end
end Go.Proofs.YtdocmcapegcoeaaGreat
