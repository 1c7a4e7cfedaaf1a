/- Helpers of the proofs about ostrakonlaw11, proved here: Pck, InF, PckB, BgJ. No condition. -/
import Derived.Test.YtoideahgjgaddaaGreatP09
import Derived.Test.YtoideahgjgaddaaGreatP10
import Derived.Test.YtoideahgjgaddaaGreatP14
import Derived.Test.YtoideahgjgaddaaGreatP19
import Derived.Test.YtoideahgjgaddaaGreatP20
set_option linter.unusedVariables false
set_option linter.unusedSimpArgs false
set_option linter.unusedSectionVars false
set_option linter.unnecessarySimpa false
/- Walks: package pick. -/
namespace Go.Proofs.YtoideahgjgaddaaGreat
open Go Go.RowKit
/-- what of the first ones is of a kind -/
def pkSome (kind : Int → Bool) (open_ : Int) (k : Nat) : List Int := ((List.range k).filter fun i : Nat => ((i : Int) != open_) && kind i).map fun i : Nat => (i : Int)
theorem pkSome_succ (kind : Int → Bool) (o : Int) (k : Nat) : pkSome kind o (k + 1) = if (((k : Int) != o) && kind k) = true then pkSome kind o k ++ [(k : Int)] else pkSome kind o k := by
  unfold pkSome
  rw [List.range_succ, List.filter_append, List.map_append]
  cases h : (((k : Int) != o) && kind k) <;> simp [List.filter_cons, h]
theorem pkSome_len (kind : Int → Bool) (o : Int) (k : Nat) : (pkSome kind o k).length ≤ k := by
  unfold pkSome
  rw [List.length_map]
  exact Nat.le_trans (List.length_filter_le _ _) (by rw [List.length_range]; exact Nat.le_refl _)
theorem p_some (q : Nat) (t : Tl) (hb : t.b ≤ 1000) (o : Int) (c : Nat) (cs : List Value) (kind : Int → Bool) (A : Atom) (hcal : callable Tryz.prog c = true) (hf : ∀ x, Fn Tryz.prog c (.int .i64 x :: cs) [TlA q t, A] (fun v As => v = .bool (kind x) ∧ As = [TlA q t, A])) : Fn Tryz.prog 175 [.pointer (some ⟨q, 0, none⟩), .int .i64 o, fnC c cs] [TlA q t, A]
    (fun v As => ∃ a cc, v = slv a (pkSome kind o t.b).length cc ∧ As = [TlA q t, A, ownA 3 1 a (pkSome kind o t.b).length cc (cellsI (pkSome kind o t.b))]) := by
  refine Fn.enter [2, 0, 0] Tryz.func175 rfl rfl rfl fun X F hX => ?_
  refine J.r hX tab_ok 400 (fun _ => rfl) fun b1 => ?_
  refine J.r hX tab_ok 400 (fun _ => rfl) fun b2 => ?_
  refine J.ca hX (by kernel_rfl) (tl_Geo q t) [1] 0 rfl rfl rfl rfl rfl rfl (fun _ => rfl) ?_
  rintro v As ⟨rfl, rfl⟩
  refine ⟨_, rfl, trivial, ?_⟩
  refine J.turn1 [] rfl (As := [ownA 3 1 none 0 0 (cellsI [])]) (fun h s => Sep.one ⟨rfl, rfl, rfl⟩) rfl ?_
  refine J.r hX tab_ok 400 (fun _ => rfl) fun b3 => ?_
  refine J.r hX tab_ok 400 (fun _ => rfl) fun b4 => ?_
  refine J.lo (α := (Nat × Option Nat × Nat)) (fun z => z.1 ≤ t.b) (fun z => [⟨12, .int .i64 z.1, 0, .tt⟩, ⟨11, .int .i64 t.b, 0, .tt⟩, ⟨7, slv z.2.1 (pkSome kind o z.1).length z.2.2, 0, .tt⟩, ⟨1, .int .i64 o, 0, .tt⟩, ⟨2, fnC c cs, 0, .tt⟩]) [3] (fun z => [ownA 3 1 z.2.1 (pkSome kind o z.1).length z.2.2 (cellsI (pkSome kind o z.1))]) (fun z => t.b - z.1) ((0, none, 0)) (Nat.zero_le _) rfl ?_ (fun _ => rfl) fun z hI => ?_
  · rfl
  obtain ⟨k, a1, c1⟩ := z
  dsimp only at hI ⊢
  refine J.r hX tab_ok 400 (fun _ => rfl) fun b5 => ?_
  refine J.cond rfl (fun h2 => ?_) (fun h2 => ?_)
  · simp only [decide_eq_true_eq, Int.ofNat_lt] at h2
    have hkl := pkSome_len kind o k
    refine J.r hX tab_ok 400 (fun _ => rfl) fun b6 => ?_
    cases ho : ((k : Int) != o) with
    | false =>
      refine J.val hX (.bool false) 0 rfl rfl (fun hg a w he hs => absurd hg (by simp [G.on])) rfl trivial ?_
      refine J.r hX tab_ok 400 (fun _ => rfl) fun b7 => ?_
      refine J.cond rfl (fun h => by simp at h) (fun _ => ?_)
      have hs : pkSome kind o (k + 1) = pkSome kind o k := by rw [pkSome_succ, if_neg (by rw [ho]; simp)]
      rw [← hs]
      refine J.r hX tab_ok 400 (fun _ => rfl) fun b8 => ?_
      refine J.nS ((k + 1, a1, c1)) (by dsimp only; omega) (by dsimp only; omega) [0, 1, 2, 3] rfl rfl
    | true =>
      refine J.call hX hcal (hf (k : Int)) [1, 2] 0 rfl rfl rfl rfl (by (repeat' (first | exact Conj.nil | refine Conj.cons ?_ ?_ | omega | exact hq0 | (simpa using hq0) | (exact fun h => h) | exact rfl | (intro hq; have hq0 := hq; try simp only [Bool.and_eq_true, Bool.or_eq_true, decide_eq_true_eq, Bool.not_eq_true', decide_eq_false_iff_not] at hq) | (simp; done) | (simp; omega) | decide))) rfl rfl (fun _ => rfl) ?_
      rintro v As ⟨rfl, rfl⟩
      refine ⟨_, rfl, trivial, ?_⟩
      refine J.r hX tab_ok 400 (fun _ => rfl) fun b9 => ?_
      refine J.cond rfl (fun h3 => ?_) (fun h3 => ?_)
      · have hs : pkSome kind o (k + 1) = pkSome kind o k ++ [(k : Int)] := by rw [pkSome_succ, if_pos (by rw [ho]; exact h3)]
        refine J.r hX tab_ok 400 (fun _ => rfl) fun b10 => ?_
        refine J.append hX tab_ok 3 4 0 rfl rfl rfl rfl rfl rfl rfl rfl rfl rfl rfl rfl rfl rfl rfl rfl ?_ ?_ (fun _ => rfl) fun a3 c3 => ⟨_, (congrArg (fun z => lset _ 3 (ownA _ _ _ _ _ z)) (cellsI_snoc _ (k : Int)).symm).trans rfl, trivial, ?_⟩
        · simp only [maxLen]; omega
        · omega
        rw [← hs, show (pkSome kind o k).length + 1 = (pkSome kind o (k + 1)).length from by rw [hs]; simp]
        refine J.r hX tab_ok 400 (fun _ => rfl) fun b11 => ?_
        refine J.nS ((k + 1, a3, c3)) (by dsimp only; omega) (by dsimp only; omega) [0, 1, 2, 3] rfl rfl
      · have hs : pkSome kind o (k + 1) = pkSome kind o k := by rw [pkSome_succ, if_neg (by rw [ho, h3]; simp)]
        rw [← hs]
        refine J.r hX tab_ok 400 (fun _ => rfl) fun b12 => ?_
        refine J.nS ((k + 1, a1, c1)) (by dsimp only; omega) (by dsimp only; omega) [0, 1, 2, 3] rfl rfl
  · simp only [decide_eq_false_iff_not, Int.ofNat_lt] at h2
    obtain rfl : k = t.b := by omega
    refine J.r hX tab_ok 400 (fun _ => rfl) fun b13 => ?_
    refine J.rt hX tab_ok [1, 2, 3] rfl rfl rfl ?_
    exact ⟨a1, c1, rfl, rfl⟩
/-- the least one, the first of those alike -/
def pkMin (f : Int → Int → Int) : List Int → Int → Int
  | [], m => m
  | x :: l, m => pkMin f l (if f x m < 0 then x else m)
theorem x_Min (c : Nat) (cs : List Value) (f : Int → Int → Int) (A : Atom) (hcal : callable Tryz.prog c = true) (hf : ∀ x y, Fn Tryz.prog c (.int .i64 x :: .int .i64 y :: cs) [A] (fun v As => v = .int .i64 (f x y) ∧ As = [A]))
    (a : Option Nat) (cap : Nat) (x : Int) (l : List Int) (hn : l.length < 1000000) : Fn Tryz.prog 214 [slv a (x :: l).length cap, fnC c cs] [ownA 3 1 a (x :: l).length cap (cellsI (x :: l)), A]
    (fun v As => v = .int .i64 (pkMin f l x) ∧ As = [ownA 3 1 a (x :: l).length cap (cellsI (x :: l)), A]) := by
  refine Fn.enter [0, 0] Tryz.func214 rfl rfl rfl fun X F hX => ?_
  cases a with
  | none =>
    refine J.know (fun h' s => (s.get (i := 1) rfl).2.1) fun hn0 => ?_
    simp at hn0
  | some g =>
    refine J.r hX tab_ok 400 (fun _ => rfl) fun b14 => ?_
    refine J.cond rfl (fun h0 => ?_) (fun h0 => ?_)
    · simp only [decide_eq_true_eq, List.length_cons] at h0; omega
    refine J.r hX tab_ok 400 (fun _ => rfl) fun b15 => ?_
    refine J.val hX (.int .i64 x) 0 rfl rfl (fun hg a w he hs => ?_) rfl trivial ?_
    · exact own1_run tab_ok rfl rfl he rfl rfl rfl (hs.get (i := 1) rfl) rfl
    refine J.r hX tab_ok 400 (fun _ => rfl) fun b16 => ?_
    refine J.r hX tab_ok 400 (fun _ => rfl) fun b17 => ?_
    refine J.lo (α := (Nat × Int)) (fun z => z.1 ≤ l.length ∧ pkMin f (l.drop z.1) z.2 = pkMin f l x) (fun z => [⟨6, .int .i64 ((z.1 + 1 : Nat) : Int), 0, .tt⟩, ⟨5, .int .i64 z.2, 0, .tt⟩, ⟨0, slv (some g) (x :: l).length cap, 0, .tt⟩, ⟨1, fnC c cs, 0, .tt⟩]) [] (fun z => []) (fun z => l.length - z.1) ((0, x)) (⟨Nat.zero_le _, rfl⟩) rfl ?_ (fun _ => rfl) fun z hI => ?_
    · rfl
    obtain ⟨j, m⟩ := z
    dsimp only at hI ⊢
    refine J.r hX tab_ok 400 (fun _ => rfl) fun b18 => ?_
    refine J.cond rfl (fun h1 => ?_) (fun h1 => ?_)
    · simp only [decide_eq_true_eq, Int.ofNat_lt, List.length_cons] at h1
      have hj : j < l.length := by omega
      have hk : (x :: l)[j + 1]? = some (l.getD j 0) := by rw [List.getElem?_cons_succ, List.getD_eq_getElem?_getD, List.getElem?_eq_getElem hj, Option.getD_some]
      have hget : (cellsI (x :: l))[0 + ((j + 1 : Nat) : Int).toNat * 1]? = some (.int .i64 (l.getD j 0)) := by
        rw [show 0 + ((j + 1 : Nat) : Int).toNat * 1 = j + 1 from by omega, cellsI, List.getElem?_map, hk]; rfl
      have hstep : pkMin f (l.drop (j + 1)) (if f (l.getD j 0) m < 0 then l.getD j 0 else m) = pkMin f l x := by
        rw [← hI.2, List.drop_eq_getElem_cons hj, pkMin]
        have : l.getD j 0 = l[j] := by rw [List.getD_eq_getElem?_getD, List.getElem?_eq_getElem hj, Option.getD_some]
        rw [this]
      refine J.r hX tab_ok 400 (fun _ => rfl) fun b19 => ?_
      refine J.val hX (.int .i64 (l.getD j 0)) 0 rfl rfl (fun hg a w he hs => ?_) rfl trivial ?_
      · exact own1_run tab_ok rfl rfl he rfl rfl rfl (hs.get (i := 1) rfl) hget
      refine J.r hX tab_ok 400 (fun _ => rfl) fun b20 => ?_
      refine J.call hX hcal (hf (l.getD j 0) m) [2] 0 rfl rfl rfl rfl (by (repeat' (first | exact Conj.nil | refine Conj.cons ?_ ?_ | omega | exact hq0 | (simpa using hq0) | (exact fun h => h) | exact rfl | (intro hq; have hq0 := hq; try simp only [Bool.and_eq_true, Bool.or_eq_true, decide_eq_true_eq, Bool.not_eq_true', decide_eq_false_iff_not] at hq) | (simp; done) | (simp; omega) | decide))) rfl rfl (fun _ => rfl) ?_
      rintro v As ⟨rfl, rfl⟩
      refine ⟨_, rfl, trivial, ?_⟩
      refine J.r hX tab_ok 400 (fun _ => rfl) fun b21 => ?_
      refine J.cond rfl (fun h2 => ?_) (fun h2 => ?_)
      · simp only [decide_eq_true_eq] at h2
        refine J.r hX tab_ok 400 (fun _ => rfl) fun b22 => ?_
        refine J.val hX (.int .i64 (l.getD j 0)) 0 rfl rfl (fun hg a w he hs => ?_) rfl trivial ?_
        · exact own1_run tab_ok rfl rfl he rfl rfl rfl (hs.get (i := 1) rfl) hget
        rw [if_pos h2] at hstep
        refine J.r hX tab_ok 400 (fun _ => rfl) fun b23 => ?_
        refine J.nS ((j + 1, l.getD j 0)) (⟨by dsimp only; omega, hstep⟩) (by dsimp only; omega) [0, 1, 2] rfl rfl
      · simp only [decide_eq_false_iff_not] at h2
        rw [if_neg h2] at hstep
        refine J.r hX tab_ok 400 (fun _ => rfl) fun b24 => ?_
        refine J.nS ((j + 1, m)) (⟨by dsimp only; omega, hstep⟩) (by dsimp only; omega) [0, 1, 2] rfl rfl
    · simp only [decide_eq_false_iff_not, Int.ofNat_lt, List.length_cons] at h1
      obtain rfl : j = l.length := by omega
      have := hI.2
      rw [List.drop_length, pkMin] at this
      refine J.r hX tab_ok 400 (fun _ => rfl) fun b25 => ?_
      refine J.rt hX tab_ok [1, 2] rfl rfl rfl ?_
      exact ⟨by rw [this], rfl⟩
/-- what is least of some -/
def pkLeast (f : Int → Int → Int) (l : List Int) : Int := match l with
  | [] => -1
  | x :: l => pkMin f l x
theorem p_least (c : Nat) (cs : List Value) (f : Int → Int → Int) (A : Atom) (hcal : callable Tryz.prog c = true) (hf : ∀ x y, Fn Tryz.prog c (.int .i64 x :: .int .i64 y :: cs) [A] (fun v As => v = .int .i64 (f x y) ∧ As = [A]))
    (a : Option Nat) (cap : Nat) (l : List Int) (hn : l.length < 1000000) : Fn Tryz.prog 171 [slv a l.length cap, fnC c cs] [ownA 3 1 a l.length cap (cellsI l), A]
    (fun v As => v = .int .i64 (pkLeast f l) ∧ As = [ownA 3 1 a l.length cap (cellsI l), A]) := by
  refine Fn.enter [0, 0] Tryz.func171 rfl rfl rfl fun X F hX => ?_
  cases l with
  | nil =>
    refine J.r hX tab_ok 400 (fun _ => rfl) fun b26 => ?_
    refine J.cond rfl (fun _ => ?_) (fun h => absurd h (by decide))
    refine J.r hX tab_ok 400 (fun _ => rfl) fun b27 => ?_
    refine J.rt hX tab_ok [1, 2] rfl rfl rfl ?_
    exact ⟨rfl, rfl⟩
  | cons x l =>
    refine J.r hX tab_ok 400 (fun _ => rfl) fun b28 => ?_
    refine J.cond rfl (fun h0 => ?_) (fun h0 => ?_)
    · simp only [beq_iff_eq, List.length_cons] at h0; omega
    refine J.r hX tab_ok 400 (fun _ => rfl) fun b29 => ?_
    refine J.r hX tab_ok 400 (fun _ => rfl) fun b30 => ?_
    refine J.ca hX (by kernel_rfl) (x_Min c cs f A hcal hf a cap x l (by simp at hn; omega)) [1, 2] 0 rfl rfl rfl rfl rfl rfl (fun _ => rfl) ?_
    rintro v As ⟨rfl, rfl⟩
    refine ⟨_, rfl, trivial, ?_⟩
    refine J.r hX tab_ok 400 (fun _ => rfl) fun b31 => ?_
    refine J.rt hX tab_ok [1, 2] rfl rfl rfl ?_
    exact ⟨rfl, rfl⟩
/-- the cells of a closure of a tally and a table -/
def PkE (bt q bl r : Nat) (T : Tb) : Atom := .hp (HP.of [.pt bt 199 [.pointer (some ⟨q, 0, none⟩)], .pt bl 30 [.pointer (some ⟨r, 0, none⟩)], TbA r T])
theorem PkE_un {bt q bl r : Nat} {T : Tb} {h : Hl} : Sep [PkE bt q bl r T] h ↔ Sep [.pt bt 199 [.pointer (some ⟨q, 0, none⟩)], .pt bl 30 [.pointer (some ⟨r, 0, none⟩)], TbA r T] h := Sep.hpOf
def pkFree (t : Tl) (T : Tb) (k : Int) : Bool := t.usable k && t.blank k && (T.count k == 0)
def pkUsed (t : Tl) (T : Tb) (k : Int) : Bool := decide (T.count k > 0) && !t.held k
def pkSpent (t : Tl) (T : Tb) (k : Int) : Bool := t.usable k && !t.blank k && !t.held k && (T.count k == 0)
theorem p_free1 (q : Nat) (t : Tl) (hb : t.b ≤ 1000) (hl : t.l.length = t.b) (bt bl r : Nat) (T : Tb) (k : Int) : Fn Tryz.prog 215 [.int .i64 k, .pointer (some ⟨bt, 0, none⟩), .pointer (some ⟨bl, 0, none⟩)] [TlA q t, PkE bt q bl r T]
    (fun v As => v = .bool (pkFree t T k) ∧ As = [TlA q t, PkE bt q bl r T]) := by
  refine Fn.enter [0, 3, 4] Tryz.func215 rfl rfl rfl fun X F hX => ?_
  refine J.turn1 [2] rfl (fun h s => PkE_un.1 s) rfl ?_
  refine J.r hX tab_ok 400 (fun _ => rfl) fun b32 => ?_
  refine J.r hX tab_ok 400 (fun _ => rfl) fun b33 => ?_
  refine J.ca hX (by kernel_rfl) (tl_Usable q t hb hl k) [1] 0 rfl rfl rfl rfl rfl rfl (fun _ => rfl) ?_
  rintro v As ⟨rfl, rfl⟩
  refine ⟨_, rfl, trivial, ?_⟩
  cases h3 : t.usable k with
  | false =>
    refine J.r hX tab_ok 400 (fun _ => rfl) fun b34 => ?_
    refine J.val hX (.bool false) 0 rfl rfl (fun hg a w he hs => absurd hg (by simp [G.on])) rfl trivial ?_
    refine J.r hX tab_ok 400 (fun _ => rfl) fun b35 => ?_
    refine J.val hX (.int .i64 0) 0 rfl rfl (fun hg a w he hs => absurd hg (by simp [G.on])) rfl trivial ?_
    refine J.r hX tab_ok 400 (fun _ => rfl) fun b36 => ?_
    refine J.turn1 [2, 3, 4] rfl (fun h s => PkE_un.2 s) rfl ?_
    refine J.r hX tab_ok 400 (fun _ => rfl) fun b37 => ?_
    refine J.rt hX tab_ok [1, 2] rfl rfl rfl ?_
    exact ⟨by simp [pkFree, h3], rfl⟩
  | true =>
    refine J.r hX tab_ok 400 (fun _ => rfl) fun b38 => ?_
    refine J.r hX tab_ok 400 (fun _ => rfl) fun b39 => ?_
    refine J.ca hX (by kernel_rfl) (tl_Blank q t hb hl k) [1] 0 rfl rfl rfl rfl rfl rfl (fun _ => rfl) ?_
    rintro v As ⟨rfl, rfl⟩
    refine ⟨_, rfl, trivial, ?_⟩
    cases h2 : t.blank k with
    | false =>
      refine J.r hX tab_ok 400 (fun _ => rfl) fun b40 => ?_
      refine J.val hX (.int .i64 0) 0 rfl rfl (fun hg a w he hs => absurd hg (by simp [G.on])) rfl trivial ?_
      refine J.r hX tab_ok 400 (fun _ => rfl) fun b41 => ?_
      refine J.turn1 [2, 3, 4] rfl (fun h s => PkE_un.2 s) rfl ?_
      refine J.r hX tab_ok 400 (fun _ => rfl) fun b42 => ?_
      refine J.rt hX tab_ok [1, 2] rfl rfl rfl ?_
      exact ⟨by simp [pkFree, h3, h2], rfl⟩
    | true =>
      refine J.r hX tab_ok 400 (fun _ => rfl) fun b43 => ?_
      refine J.r hX tab_ok 400 (fun _ => rfl) fun b44 => ?_
      refine J.ca hX (by kernel_rfl) (tb_Count r T k) [4] 0 rfl rfl rfl rfl rfl rfl (fun _ => rfl) ?_
      rintro v As ⟨rfl, rfl⟩
      refine ⟨_, rfl, trivial, ?_⟩
      refine J.r hX tab_ok 400 (fun _ => rfl) fun b45 => ?_
      refine J.turn1 [2, 3, 4] rfl (fun h s => PkE_un.2 s) rfl ?_
      refine J.r hX tab_ok 400 (fun _ => rfl) fun b46 => ?_
      refine J.rt hX tab_ok [1, 2] rfl rfl rfl ?_
      exact ⟨by simp [pkFree, h3, h2], rfl⟩
theorem p_spent1 (q : Nat) (t : Tl) (hb : t.b ≤ 1000) (hl : t.l.length = t.b) (bt bl r : Nat) (T : Tb) (k : Int) : Fn Tryz.prog 180 [.int .i64 k, .pointer (some ⟨bt, 0, none⟩), .pointer (some ⟨bl, 0, none⟩)] [TlA q t, PkE bt q bl r T]
    (fun v As => v = .bool (pkSpent t T k) ∧ As = [TlA q t, PkE bt q bl r T]) := by
  refine Fn.enter [0, 3, 4] Tryz.func180 rfl rfl rfl fun X F hX => ?_
  refine J.turn1 [2] rfl (fun h s => PkE_un.1 s) rfl ?_
  refine J.r hX tab_ok 400 (fun _ => rfl) fun b47 => ?_
  refine J.r hX tab_ok 400 (fun _ => rfl) fun b48 => ?_
  refine J.ca hX (by kernel_rfl) (tl_Usable q t hb hl k) [1] 0 rfl rfl rfl rfl rfl rfl (fun _ => rfl) ?_
  rintro v As ⟨rfl, rfl⟩
  refine ⟨_, rfl, trivial, ?_⟩
  cases h4 : t.usable k with
  | false =>
    refine J.r hX tab_ok 400 (fun _ => rfl) fun b49 => ?_
    refine J.val hX (.bool false) 0 rfl rfl (fun hg a w he hs => absurd hg (by simp [G.on])) rfl trivial ?_
    refine J.r hX tab_ok 400 (fun _ => rfl) fun b50 => ?_
    refine J.val hX (.bool false) 0 rfl rfl (fun hg a w he hs => absurd hg (by simp [G.on])) rfl trivial ?_
    refine J.r hX tab_ok 400 (fun _ => rfl) fun b51 => ?_
    refine J.val hX (.int .i64 0) 0 rfl rfl (fun hg a w he hs => absurd hg (by simp [G.on])) rfl trivial ?_
    refine J.r hX tab_ok 400 (fun _ => rfl) fun b52 => ?_
    refine J.turn1 [2, 3, 4] rfl (fun h s => PkE_un.2 s) rfl ?_
    refine J.r hX tab_ok 400 (fun _ => rfl) fun b53 => ?_
    refine J.rt hX tab_ok [1, 2] rfl rfl rfl ?_
    exact ⟨by simp [pkSpent, h4], rfl⟩
  | true =>
    refine J.r hX tab_ok 400 (fun _ => rfl) fun b54 => ?_
    refine J.r hX tab_ok 400 (fun _ => rfl) fun b55 => ?_
    refine J.ca hX (by kernel_rfl) (tl_Blank q t hb hl k) [1] 0 rfl rfl rfl rfl rfl rfl (fun _ => rfl) ?_
    rintro v As ⟨rfl, rfl⟩
    refine ⟨_, rfl, trivial, ?_⟩
    cases h3 : t.blank k with
    | true =>
      refine J.r hX tab_ok 400 (fun _ => rfl) fun b56 => ?_
      refine J.val hX (.bool false) 0 rfl rfl (fun hg a w he hs => absurd hg (by simp [G.on])) rfl trivial ?_
      refine J.r hX tab_ok 400 (fun _ => rfl) fun b57 => ?_
      refine J.val hX (.int .i64 0) 0 rfl rfl (fun hg a w he hs => absurd hg (by simp [G.on])) rfl trivial ?_
      refine J.r hX tab_ok 400 (fun _ => rfl) fun b58 => ?_
      refine J.turn1 [2, 3, 4] rfl (fun h s => PkE_un.2 s) rfl ?_
      refine J.r hX tab_ok 400 (fun _ => rfl) fun b59 => ?_
      refine J.rt hX tab_ok [1, 2] rfl rfl rfl ?_
      exact ⟨by simp [pkSpent, h4, h3], rfl⟩
    | false =>
      refine J.r hX tab_ok 400 (fun _ => rfl) fun b60 => ?_
      refine J.r hX tab_ok 400 (fun _ => rfl) fun b61 => ?_
      refine J.ca hX (by kernel_rfl) (tl_Held q t hb hl k) [1] 0 rfl rfl rfl rfl rfl rfl (fun _ => rfl) ?_
      rintro v As ⟨rfl, rfl⟩
      refine ⟨_, rfl, trivial, ?_⟩
      cases h2 : t.held k with
      | true =>
        refine J.r hX tab_ok 400 (fun _ => rfl) fun b62 => ?_
        refine J.val hX (.int .i64 0) 0 rfl rfl (fun hg a w he hs => absurd hg (by simp [G.on])) rfl trivial ?_
        refine J.r hX tab_ok 400 (fun _ => rfl) fun b63 => ?_
        refine J.turn1 [2, 3, 4] rfl (fun h s => PkE_un.2 s) rfl ?_
        refine J.r hX tab_ok 400 (fun _ => rfl) fun b64 => ?_
        refine J.rt hX tab_ok [1, 2] rfl rfl rfl ?_
        exact ⟨by simp [pkSpent, h4, h3, h2], rfl⟩
      | false =>
        refine J.r hX tab_ok 400 (fun _ => rfl) fun b65 => ?_
        refine J.r hX tab_ok 400 (fun _ => rfl) fun b66 => ?_
        refine J.ca hX (by kernel_rfl) (tb_Count r T k) [4] 0 rfl rfl rfl rfl rfl rfl (fun _ => rfl) ?_
        rintro v As ⟨rfl, rfl⟩
        refine ⟨_, rfl, trivial, ?_⟩
        refine J.r hX tab_ok 400 (fun _ => rfl) fun b67 => ?_
        refine J.turn1 [2, 3, 4] rfl (fun h s => PkE_un.2 s) rfl ?_
        refine J.r hX tab_ok 400 (fun _ => rfl) fun b68 => ?_
        refine J.rt hX tab_ok [1, 2] rfl rfl rfl ?_
        exact ⟨by simp [pkSpent, h4, h3, h2], rfl⟩
theorem p_used1 (q : Nat) (t : Tl) (hb : t.b ≤ 1000) (hl : t.l.length = t.b) (bt bl r : Nat) (T : Tb) (k : Int) : Fn Tryz.prog 176 [.int .i64 k, .pointer (some ⟨bl, 0, none⟩), .pointer (some ⟨bt, 0, none⟩)] [TlA q t, PkE bt q bl r T]
    (fun v As => v = .bool (pkUsed t T k) ∧ As = [TlA q t, PkE bt q bl r T]) := by
  refine Fn.enter [0, 4, 3] Tryz.func176 rfl rfl rfl fun X F hX => ?_
  refine J.turn1 [2] rfl (fun h s => PkE_un.1 s) rfl ?_
  refine J.r hX tab_ok 400 (fun _ => rfl) fun b69 => ?_
  refine J.r hX tab_ok 400 (fun _ => rfl) fun b70 => ?_
  refine J.ca hX (by kernel_rfl) (tb_Count r T k) [4] 0 rfl rfl rfl rfl rfl rfl (fun _ => rfl) ?_
  rintro v As ⟨rfl, rfl⟩
  refine ⟨_, rfl, trivial, ?_⟩
  refine J.r hX tab_ok 400 (fun _ => rfl) fun b71 => ?_
  cases hc : decide (T.count k > 0) with
  | false =>
    refine J.val hX (.bool false) 0 rfl rfl (fun hg a w he hs => absurd hg (by simp [G.on])) rfl trivial ?_
    refine J.r hX tab_ok 400 (fun _ => rfl) fun b72 => ?_
    refine J.turn1 [2, 3, 4] rfl (fun h s => PkE_un.2 s) rfl ?_
    refine J.r hX tab_ok 400 (fun _ => rfl) fun b73 => ?_
    refine J.rt hX tab_ok [1, 2] rfl rfl rfl ?_
    exact ⟨by simp only [pkUsed, hc]; rfl, rfl⟩
  | true =>
    refine J.r hX tab_ok 400 (fun _ => rfl) fun b74 => ?_
    refine J.ca hX (by kernel_rfl) (tl_Held q t hb hl k) [1] 0 rfl rfl rfl rfl rfl rfl (fun _ => rfl) ?_
    rintro v As ⟨rfl, rfl⟩
    refine ⟨_, rfl, trivial, ?_⟩
    refine J.r hX tab_ok 400 (fun _ => rfl) fun b75 => ?_
    refine J.turn1 [2, 3, 4] rfl (fun h s => PkE_un.2 s) rfl ?_
    refine J.r hX tab_ok 400 (fun _ => rfl) fun b76 => ?_
    refine J.rt hX tab_ok [1, 2] rfl rfl rfl ?_
    exact ⟨by simp only [pkUsed, hc], rfl⟩
end Go.Proofs.YtoideahgjgaddaaGreat
/- Walks: the library's functions over ints: IndexFunc, ContainsFunc. -/
namespace Go.Proofs.YtoideahgjgaddaaGreat
open Go Go.RowKit
def idxN (p : Int → Bool) (l : List Int) : Int := match l.findIdx? p with
  | some k => k
  | none => -1
theorem idxN_step {p : Int → Bool} {l : List Int} {k : Nat} {x : Int} (h : l[k]? = some x) (h0 : ∀ i < k, p (l.getD i 0) = false) (hp : p x = true) : l.findIdx? p = some k := by
  rw [List.findIdx?_eq_some_iff_getElem]
  obtain ⟨h1, h2⟩ := List.getElem?_eq_some_iff.1 h
  refine ⟨h1, by rw [h2]; exact hp, fun j hj => ?_⟩
  have := h0 j hj
  rw [List.getD_eq_getElem?_getD, List.getElem?_eq_getElem (by omega), Option.getD_some] at this
  simp [this]
theorem idxN_none {p : Int → Bool} {l : List Int} (h0 : ∀ i < l.length, p (l.getD i 0) = false) : l.findIdx? p = none := by
  rw [List.findIdx?_eq_none_iff]
  intro x hx
  obtain ⟨i, hi, rfl⟩ := List.mem_iff_getElem.1 hx
  have := h0 i hi
  rwa [List.getD_eq_getElem?_getD, List.getElem?_eq_getElem hi, Option.getD_some] at this
theorem idxN_any (p : Int → Bool) (l : List Int) : decide (idxN p l ≥ 0) = l.any p := by
  unfold idxN
  cases h : l.findIdx? p with
  | none =>
    rw [List.findIdx?_eq_none_iff] at h
    have : l.any p = false := by rw [List.any_eq_false]; exact fun x hx => by simp [h x hx]
    rw [this]; rfl
  | some k =>
    rw [List.findIdx?_eq_some_iff_getElem] at h
    obtain ⟨h1, h2, _⟩ := h
    have : l.any p = true := List.any_eq_true.2 ⟨l[k], List.getElem_mem _, h2⟩
    rw [this]; simp
theorem x_IndexI (c : Nat) (cs : List Value) (p : Int → Bool) (A : Atom) (hcal : callable Tryz.prog c = true) (l : List Int) (hf : ∀ x ∈ l, Fn Tryz.prog c (.int .i64 x :: cs) [A] (fun v As => v = .bool (p x) ∧ As = [A]))
    (a : Option Nat) (n cap : Nat) (hl : l.length = n) (hn : n ≤ 4611686018427387904) : Fn Tryz.prog 136 [slv a n cap, fnC c cs] [ownA 3 1 a n cap (cellsI l), A]
    (fun v As => v = .int .i64 (idxN p l) ∧ As = [ownA 3 1 a n cap (cellsI l), A]) := by
  refine Fn.enter [0, 0] Tryz.func136 rfl rfl rfl fun X F hX => ?_
  refine J.r hX tab_ok 400 (fun _ => rfl) fun b1 => ?_
  refine J.r hX tab_ok 400 (fun _ => rfl) fun b2 => ?_
  refine J.lo (α := Nat) (fun k => k ≤ n ∧ ∀ i < k, p (l.getD i 0) = false) (fun k => [⟨8, .int .i64 k, 0, .tt⟩, ⟨7, .int .i64 n, 0, .tt⟩, ⟨0, slv a n cap, 0, .tt⟩, ⟨1, fnC c cs, 0, .tt⟩]) [] (fun k => []) (fun k => n - k) (0) (⟨by omega, by omega⟩) rfl ?_ (fun _ => rfl) fun k hI => ?_
  · rfl
  refine J.r hX tab_ok 400 (fun _ => rfl) fun b3 => ?_
  refine J.cond rfl (fun h1 => ?_) (fun h1 => ?_)
  · simp only [decide_eq_true_eq, Int.ofNat_lt] at h1
    cases a with
    | none =>
      refine J.know (fun h' s => (s.get (i := 1) rfl).2.1) fun hn0 => ?_
      omega
    | some g =>
      have hk : l[k]? = some (l.getD k 0) := by rw [List.getD_eq_getElem?_getD, List.getElem?_eq_getElem (by omega), Option.getD_some]
      refine J.r hX tab_ok 400 (fun _ => rfl) fun b4 => ?_
      refine J.val hX (.int .i64 (l.getD k 0)) 0 rfl rfl (fun hg a w he hs => ?_) rfl trivial ?_
      · exact own1_run tab_ok rfl rfl he rfl rfl rfl (hs.get (i := 1) rfl) (by rw [show 0 + (k : Int).toNat * 1 = k from by omega, cellsI, List.getElem?_map, hk]; rfl)
      refine J.r hX tab_ok 400 (fun _ => rfl) fun b5 => ?_
      refine J.call hX hcal (hf (l.getD k 0) (List.mem_of_getElem? hk)) [2] 0 rfl rfl rfl rfl (by (repeat' (first | exact Conj.nil | refine Conj.cons ?_ ?_ | omega | exact hq0 | (simpa using hq0) | (exact fun h => h) | exact rfl | (intro hq; have hq0 := hq; try simp only [Bool.and_eq_true, Bool.or_eq_true, decide_eq_true_eq, Bool.not_eq_true', decide_eq_false_iff_not] at hq) | (simp; done) | (simp; omega) | decide))) rfl rfl (fun _ => rfl) ?_
      rintro v As ⟨rfl, rfl⟩
      refine ⟨_, rfl, trivial, ?_⟩
      refine J.r hX tab_ok 400 (fun _ => rfl) fun b6 => ?_
      refine J.cond rfl (fun h2 => ?_) (fun h2 => ?_)
      · refine J.r hX tab_ok 400 (fun _ => rfl) fun b7 => ?_
        refine J.rt hX tab_ok [1, 2] rfl rfl rfl ?_
        exact ⟨by rw [idxN, idxN_step hk hI.2 h2], rfl⟩
      · refine J.r hX tab_ok 400 (fun _ => rfl) fun b8 => ?_
        refine J.nx (k + 1) (⟨by omega, fun i hi => by
          rcases Nat.lt_succ_iff_lt_or_eq.1 hi with h3 | h3
          · exact hI.2 i h3
          · rw [h3]; exact h2⟩) (by omega) (fun _ s => s)
  · simp only [decide_eq_false_iff_not, Int.ofNat_lt] at h1
    refine J.r hX tab_ok 400 (fun _ => rfl) fun b9 => ?_
    refine J.rt hX tab_ok [1, 2] rfl rfl rfl ?_
    exact ⟨by rw [idxN, idxN_none (fun i hi => hI.2 i (by omega))], rfl⟩
theorem x_ContainsI (c : Nat) (cs : List Value) (p : Int → Bool) (A : Atom) (hcal : callable Tryz.prog c = true) (l : List Int) (hf : ∀ x ∈ l, Fn Tryz.prog c (.int .i64 x :: cs) [A] (fun v As => v = .bool (p x) ∧ As = [A]))
    (a : Option Nat) (n cap : Nat) (hl : l.length = n) (hn : n ≤ 4611686018427387904) : Fn Tryz.prog 90 [slv a n cap, fnC c cs] [ownA 3 1 a n cap (cellsI l), A]
    (fun v As => v = .bool (l.any p) ∧ As = [ownA 3 1 a n cap (cellsI l), A]) := by
  refine Fn.enter [0, 0] Tryz.func90 rfl rfl rfl fun X F hX => ?_
  refine J.r hX tab_ok 400 (fun _ => rfl) fun b10 => ?_
  refine J.r hX tab_ok 400 (fun _ => rfl) fun b11 => ?_
  refine J.ca hX (by kernel_rfl) (x_IndexI c cs p A hcal l hf a n cap hl hn) [1, 2] 0 rfl rfl rfl rfl rfl rfl (fun _ => rfl) ?_
  rintro v As ⟨rfl, rfl⟩
  refine ⟨_, rfl, trivial, ?_⟩
  refine J.r hX tab_ok 400 (fun _ => rfl) fun b12 => ?_
  refine J.rt hX tab_ok [1, 2] rfl rfl rfl ?_
  exact ⟨by rw [← idxN_any], rfl⟩
end Go.Proofs.YtoideahgjgaddaaGreat
/- Walks: package pick, what it offers. -/
namespace Go.Proofs.YtoideahgjgaddaaGreat
open Go Go.RowKit
theorem p_free (q : Nat) (t : Tl) (hb : t.b ≤ 1000) (hl : t.l.length = t.b) (r : Nat) (T : Tb) (o : Int) : Fn Tryz.prog 172 [.pointer (some ⟨q, 0, none⟩), .pointer (some ⟨r, 0, none⟩), .int .i64 o] [TlA q t, TbA r T]
    (fun v As => ∃ a c, v = slv a (pkSome (pkFree t T) o t.b).length c ∧ As = [TlA q t, TbA r T, ownA 3 1 a (pkSome (pkFree t T) o t.b).length c (cellsI (pkSome (pkFree t T) o t.b))]) := by
  refine Fn.enter [2, 3, 0] Tryz.func172 rfl rfl rfl fun X F hX => ?_
  refine J.r hX tab_ok 400 (fun _ => rfl) fun bb => ?_
  refine J.turn1 [3, 4, 2] rfl (As := [PkE (bb 0) q (bb (0 + 1)) r T]) (fun h s => PkE_un.2 s) rfl ?_
  refine J.r hX tab_ok 400 (fun _ => rfl) fun b1 => ?_
  refine J.ca hX (by kernel_rfl) (p_some q t hb o 215 [.pointer (some ⟨bb 0, 0, none⟩), .pointer (some ⟨bb (0 + 1), 0, none⟩)] (pkFree t T) (PkE (bb 0) q (bb (0 + 1)) r T) (by kernel_rfl) (fun x => p_free1 q t hb hl (bb 0) (bb (0 + 1)) r T x)) [1, 3] 0 rfl rfl rfl rfl rfl rfl (fun _ => rfl) ?_
  rintro v As ⟨a, c, rfl, rfl⟩
  refine ⟨_, rfl, trivial, ?_⟩
  refine J.turn1 [3] rfl (fun h s => PkE_un.1 s) rfl ?_
  refine J.r hX tab_ok 400 (fun _ => rfl) fun b2 => ?_
  refine J.rt hX tab_ok [1, 7, 5] rfl rfl rfl ?_
  exact ⟨a, c, rfl, rfl⟩
theorem p_Free (q : Nat) (t : Tl) (hb : t.b ≤ 1000) (hl : t.l.length = t.b) (r : Nat) (T : Tb) (o : Int) : Fn Tryz.prog 129 [.pointer (some ⟨q, 0, none⟩), .pointer (some ⟨r, 0, none⟩), .int .i64 o] [TlA q t, TbA r T]
    (fun v As => v = .int .i64 (pkSome (pkFree t T) o t.b).length ∧ As = [TlA q t, TbA r T]) := by
  refine Fn.enter [2, 3, 0] Tryz.func129 rfl rfl rfl fun X F hX => ?_
  refine J.r hX tab_ok 400 (fun _ => rfl) fun b3 => ?_
  refine J.r hX tab_ok 400 (fun _ => rfl) fun b4 => ?_
  refine J.ca hX (by kernel_rfl) (p_free q t hb hl r T o) [1, 2] 0 rfl rfl rfl rfl rfl rfl (fun _ => rfl) ?_
  rintro v As ⟨a, c, rfl, rfl⟩
  refine ⟨_, rfl, trivial, ?_⟩
  refine J.r hX tab_ok 400 (fun _ => rfl) fun b5 => ?_
  refine J.rt hX tab_ok [1, 2] rfl rfl rfl ?_
  exact ⟨rfl, rfl⟩
theorem p_Open1 (q : Nat) (t : Tl) (hb : t.b ≤ 1000) (hl : t.l.length = t.b) (bt : Nat) (x y : Int) : Fn Tryz.prog 173 [.int .i64 x, .int .i64 y, .pointer (some ⟨bt, 0, none⟩)] [.pt bt 199 [.pointer (some ⟨q, 0, none⟩)], TlA q t]
    (fun v As => v = .int .i64 (cmpI (t.wear x) (t.wear y)) ∧ As = [.pt bt 199 [.pointer (some ⟨q, 0, none⟩)], TlA q t]) := by
  refine Fn.enter [0, 0, 2] Tryz.func173 rfl rfl rfl fun X F hX => ?_
  refine J.r hX tab_ok 400 (fun _ => rfl) fun b6 => ?_
  refine J.plan (.of [1,4,13,16,10,23,27,28]) [5,6,7] [1,2] (by rw [hX.hP]; kernel_rfl) (by kernel_rfl) ?_
  refine J.r hX tab_ok 400 (fun _ => rfl) fun b7 => ?_
  refine J.r hX tab_ok 400 (fun _ => rfl) fun b8 => ?_
  refine J.ca hX (by kernel_rfl) (tl_Wear q t hb hl x) [2] 0 rfl rfl rfl rfl rfl rfl (fun _ => rfl) ?_
  rintro v As ⟨rfl, rfl⟩
  refine ⟨_, rfl, (by first | exact trivial | (repeat' (first | exact trivial | refine ⟨rfl, ?_⟩))), ?_⟩
  refine J.r hX tab_ok 400 (fun _ => rfl) fun b9 => ?_
  refine J.r hX tab_ok 400 (fun _ => rfl) fun b10 => ?_
  refine J.ca hX (by kernel_rfl) (tl_Wear q t hb hl y) [2] 0 rfl rfl rfl rfl rfl rfl (fun _ => rfl) ?_
  rintro v As ⟨rfl, rfl⟩
  refine ⟨_, rfl, (by first | exact trivial | (repeat' (first | exact trivial | refine ⟨rfl, ?_⟩))), ?_⟩
  refine J.r hX tab_ok 400 (fun _ => rfl) fun b11 => ?_
  refine J.r hX tab_ok 400 (fun _ => rfl) fun b12 => ?_
  refine J.ca hX (by kernel_rfl) (c_Compare (t.wear x) (t.wear y)) [] 0 rfl rfl rfl rfl rfl rfl (fun _ => rfl) ?_
  rintro v As ⟨rfl, rfl⟩
  refine ⟨_, rfl, (by first | exact trivial | (repeat' (first | exact trivial | refine ⟨rfl, ?_⟩))), ?_⟩
  refine J.r hX tab_ok 400 (fun _ => rfl) fun b13 => ?_
  refine J.rt hX tab_ok [1, 2] rfl rfl rfl ?_
  exact ⟨rfl, rfl⟩
theorem p_Open (q : Nat) (t : Tl) (hb : t.b ≤ 1000) (hl : t.l.length = t.b) (r : Nat) (T : Tb) (o : Int) : Fn Tryz.prog 127 [.pointer (some ⟨q, 0, none⟩), .pointer (some ⟨r, 0, none⟩), .int .i64 o] [TlA q t, TbA r T]
    (fun v As => v = .int .i64 (pkLeast (fun x y => cmpI (t.wear x) (t.wear y)) (pkSome (pkFree t T) o t.b)) ∧ As = [TlA q t, TbA r T]) := by
  have hlen := pkSome_len (pkFree t T) o t.b
  refine Fn.enter [2, 3, 0] Tryz.func127 rfl rfl rfl fun X F hX => ?_
  refine J.r hX tab_ok 400 (fun _ => rfl) fun bb => ?_
  refine J.r hX tab_ok 400 (fun _ => rfl) fun b14 => ?_
  refine J.ca hX (by kernel_rfl) (p_free q t hb hl r T o) [1, 2] 0 rfl rfl rfl rfl rfl rfl (fun _ => rfl) ?_
  rintro v As ⟨a, c, rfl, rfl⟩
  refine ⟨_, rfl, trivial, ?_⟩
  refine J.r hX tab_ok 400 (fun _ => rfl) fun b15 => ?_
  refine J.turn1 [3, 1] rfl (As := [.hp (HP.of [.pt (bb 0) 199 [.pointer (some ⟨q, 0, none⟩)], TlA q t])]) (fun h s => Sep.hpOf.2 s) rfl ?_
  refine J.r hX tab_ok 400 (fun _ => rfl) fun b16 => ?_
  refine J.ca hX (by kernel_rfl) (p_least 173 [.pointer (some ⟨bb 0, 0, none⟩)] (fun x y => cmpI (t.wear x) (t.wear y)) _ (by kernel_rfl) (fun x y => Fn.pack (p_Open1 q t hb hl (bb 0) x y)) a c (pkSome (pkFree t T) o t.b) (by omega)) [4, 3] 0 rfl rfl rfl rfl rfl rfl (fun _ => rfl) ?_
  rintro v As ⟨rfl, rfl⟩
  refine ⟨_, rfl, trivial, ?_⟩
  refine J.turn1 [3] rfl (As := [.pt (bb 0) 199 [.pointer (some ⟨q, 0, none⟩)], TlA q t]) (fun h s => Sep.hpOf.1 s) rfl ?_
  refine J.r hX tab_ok 400 (fun _ => rfl) fun b17 => ?_
  refine J.rt hX tab_ok [5, 2] rfl rfl rfl ?_
  exact ⟨rfl, rfl⟩
theorem c_Or2 (b : Nat) (x y : Int) : Fn Tryz.prog 179 [.slice (some ⟨b, 0, none⟩) 2 2] [.pt b 3 [.int .i64 x, .int .i64 y]] (fun v As => v = .int .i64 (orI [x, y]) ∧ As = [.pt b 3 [.int .i64 x, .int .i64 y]]) := by
  refine Fn.enter [2] Tryz.func179 rfl rfl rfl fun X F hX => ?_
  refine J.r hX tab_ok 400 (fun _ => rfl) fun b18 => ?_
  refine J.r hX tab_ok 400 (fun _ => rfl) fun b19 => ?_
  refine J.lo (α := Nat) (fun k => k ≤ 2 ∧ orI ([x, y].drop k) = orI [x, y]) (fun k => [⟨8, .int .i64 k, 0, .tt⟩, ⟨7, .int .i64 2, 0, .tt⟩, ⟨6, .slice (some ⟨b, 0, none⟩) 2 2, 2, .tt⟩, ⟨3, .int .i64 0, 0, .tt⟩]) [] (fun k => []) (fun k => 2 - k) (0) (⟨by omega, rfl⟩) rfl ?_ (fun _ => rfl) fun k hI => ?_
  · rfl
  refine J.r hX tab_ok 400 (fun _ => rfl) fun b20 => ?_
  refine J.cond rfl (fun h1 => ?_) (fun h1 => ?_)
  · simp only [decide_eq_true_eq] at h1
    obtain ⟨v, hv⟩ : ∃ v, ([x, y] : List Int)[k]? = some v := ⟨_, List.getElem?_eq_getElem (by simp; omega)⟩
    have hd : ([x, y] : List Int).drop k = v :: ([x, y] : List Int).drop (k + 1) := by
      obtain ⟨h2, h3⟩ := List.getElem?_eq_some_iff.1 hv
      rw [List.drop_eq_getElem_cons h2, h3]
    refine J.r hX tab_ok 400 (fun _ => rfl) fun b21 => ?_
    refine J.val hX (.int .i64 v) 0 rfl rfl (fun hg a w he hs => ?_) rfl trivial ?_
    · exact load1_run tab_ok rfl rfl he rfl rfl rfl (hs.get (i := 1) rfl) (by
        rw [show 0 + (k : Int).toNat * 1 = k from by omega, show ([.int .i64 x, .int .i64 y] : List Value) = ([x, y] : List Int).map (.int .i64) from rfl, List.getElem?_map, hv]; rfl)
    refine J.r hX tab_ok 400 (fun _ => rfl) fun b22 => ?_
    refine J.cond rfl (fun h2 => ?_) (fun h2 => ?_)
    · simp only [bne_iff_ne, ne_eq] at h2
      refine J.r hX tab_ok 400 (fun _ => rfl) fun b23 => ?_
      refine J.rt hX tab_ok [1] rfl rfl rfl ?_
      refine ⟨?_, rfl⟩
      rw [← hI.2, hd]
      simp [orI, h2]
    · simp only [bne_eq_false_iff_eq] at h2
      refine J.r hX tab_ok 400 (fun _ => rfl) fun b24 => ?_
      refine J.nx (k + 1) (⟨by omega, by rw [← hI.2, hd, orI, if_neg (by simp [h2])]⟩) (by omega) (fun _ s => s)
  · simp only [decide_eq_false_iff_not] at h1
    refine J.r hX tab_ok 400 (fun _ => rfl) fun b25 => ?_
    refine J.rt hX tab_ok [1] rfl rfl rfl ?_
    refine ⟨?_, rfl⟩
    rw [← hI.2, List.drop_of_length_le (by simp; omega)]
    rfl
theorem p_Victim2 (q : Nat) (t : Tl) (hb : t.b ≤ 1000) (hl : t.l.length = t.b) (bt bl r : Nat) (T : Tb) (x y : Int) : Fn Tryz.prog 178 [.int .i64 x, .int .i64 y, .pointer (some ⟨bl, 0, none⟩), .pointer (some ⟨bt, 0, none⟩)] [TlA q t, PkE bt q bl r T]
    (fun v As => v = .int .i64 (orI [cmpI (T.count x) (T.count y), cmpI (t.wear x) (t.wear y)]) ∧ As = [TlA q t, PkE bt q bl r T]) := by
  refine Fn.enter [0, 0, 4, 3] Tryz.func178 rfl rfl rfl fun X F hX => ?_
  refine J.turn1 [2] rfl (fun h s => PkE_un.1 s) rfl ?_
  refine J.r hX tab_ok 400 (fun _ => rfl) fun b26 => ?_
  refine J.plan (.of [1,4,13,16,29,32,41,44,10,22,26,38,51,55,59,63,64]) [12,13,14,15,16] [1,2,3,4] (by rw [hX.hP]; kernel_rfl) (by kernel_rfl) ?_
  refine J.r hX tab_ok 400 (fun _ => rfl) fun b27 => ?_
  refine J.r hX tab_ok 400 (fun _ => rfl) fun b28 => ?_
  refine J.ca hX (by kernel_rfl) (tb_Count r T x) [4] 0 rfl rfl rfl rfl rfl rfl (fun _ => rfl) ?_
  rintro v As ⟨rfl, rfl⟩
  refine ⟨_, rfl, (by first | exact trivial | (repeat' (first | exact trivial | refine ⟨rfl, ?_⟩))), ?_⟩
  refine J.r hX tab_ok 400 (fun _ => rfl) fun b29 => ?_
  refine J.r hX tab_ok 400 (fun _ => rfl) fun b30 => ?_
  refine J.ca hX (by kernel_rfl) (tb_Count r T y) [4] 0 rfl rfl rfl rfl rfl rfl (fun _ => rfl) ?_
  rintro v As ⟨rfl, rfl⟩
  refine ⟨_, rfl, (by first | exact trivial | (repeat' (first | exact trivial | refine ⟨rfl, ?_⟩))), ?_⟩
  refine J.r hX tab_ok 400 (fun _ => rfl) fun b31 => ?_
  refine J.r hX tab_ok 400 (fun _ => rfl) fun b32 => ?_
  refine J.ca hX (by kernel_rfl) (c_Compare (T.count x) (T.count y)) [] 0 rfl rfl rfl rfl rfl rfl (fun _ => rfl) ?_
  rintro v As ⟨rfl, rfl⟩
  refine ⟨_, rfl, (by first | exact trivial | (repeat' (first | exact trivial | refine ⟨rfl, ?_⟩))), ?_⟩
  refine J.r hX tab_ok 400 (fun _ => rfl) fun b33 => ?_
  refine J.r hX tab_ok 400 (fun _ => rfl) fun b34 => ?_
  refine J.ca hX (by kernel_rfl) (tl_Wear q t hb hl x) [1] 0 rfl rfl rfl rfl rfl rfl (fun _ => rfl) ?_
  rintro v As ⟨rfl, rfl⟩
  refine ⟨_, rfl, (by first | exact trivial | (repeat' (first | exact trivial | refine ⟨rfl, ?_⟩))), ?_⟩
  refine J.r hX tab_ok 400 (fun _ => rfl) fun b35 => ?_
  refine J.r hX tab_ok 400 (fun _ => rfl) fun b36 => ?_
  refine J.ca hX (by kernel_rfl) (tl_Wear q t hb hl y) [1] 0 rfl rfl rfl rfl rfl rfl (fun _ => rfl) ?_
  rintro v As ⟨rfl, rfl⟩
  refine ⟨_, rfl, (by first | exact trivial | (repeat' (first | exact trivial | refine ⟨rfl, ?_⟩))), ?_⟩
  refine J.r hX tab_ok 400 (fun _ => rfl) fun b37 => ?_
  refine J.r hX tab_ok 400 (fun _ => rfl) fun b38 => ?_
  refine J.ca hX (by kernel_rfl) (c_Compare (t.wear x) (t.wear y)) [] 0 rfl rfl rfl rfl rfl rfl (fun _ => rfl) ?_
  rintro v As ⟨rfl, rfl⟩
  refine ⟨_, rfl, (by first | exact trivial | (repeat' (first | exact trivial | refine ⟨rfl, ?_⟩))), ?_⟩
  refine J.r hX tab_ok 400 (fun _ => rfl) fun bs => ?_
  refine J.r hX tab_ok 400 (fun _ => rfl) fun b39 => ?_
  refine J.ca hX (by kernel_rfl) (c_Or2 (bs 0) (cmpI (T.count x) (T.count y)) (cmpI (t.wear x) (t.wear y))) [5] 0 rfl rfl rfl rfl rfl rfl (fun _ => rfl) ?_
  rintro v As ⟨rfl, rfl⟩
  refine ⟨_, rfl, (by first | exact trivial | (repeat' (first | exact trivial | refine ⟨rfl, ?_⟩))), ?_⟩
  refine J.r hX tab_ok 400 (fun _ => rfl) fun b40 => ?_
  refine J.turn1 [2, 3, 4] rfl (fun h s => PkE_un.2 s) rfl ?_
  refine J.r hX tab_ok 400 (fun _ => rfl) fun b41 => ?_
  refine J.rt hX tab_ok [1, 2] rfl rfl rfl ?_
  exact ⟨rfl, rfl⟩
theorem p_Victim (q : Nat) (t : Tl) (hb : t.b ≤ 1000) (hl : t.l.length = t.b) (r : Nat) (T : Tb) (o : Int) : Fn Tryz.prog 128 [.pointer (some ⟨q, 0, none⟩), .pointer (some ⟨r, 0, none⟩), .int .i64 o] [TlA q t, TbA r T]
    (fun v As => v = .int .i64 (pkLeast (fun x y => orI [cmpI (T.count x) (T.count y), cmpI (t.wear x) (t.wear y)]) (pkSome (pkUsed t T) o t.b)) ∧ As = [TlA q t, TbA r T]) := by
  have hlen := pkSome_len (pkUsed t T) o t.b
  refine Fn.enter [2, 3, 0] Tryz.func128 rfl rfl rfl fun X F hX => ?_
  refine J.r hX tab_ok 400 (fun _ => rfl) fun bb => ?_
  refine J.turn1 [3, 4, 2] rfl (As := [PkE (bb 0) q (bb (0 + 1)) r T]) (fun h s => PkE_un.2 s) rfl ?_
  refine J.r hX tab_ok 400 (fun _ => rfl) fun b42 => ?_
  refine J.ca hX (by kernel_rfl) (p_some q t hb o 176 [.pointer (some ⟨bb (0 + 1), 0, none⟩), .pointer (some ⟨bb 0, 0, none⟩)] (pkUsed t T) (PkE (bb 0) q (bb (0 + 1)) r T) (by kernel_rfl) (fun x => p_used1 q t hb hl (bb 0) (bb (0 + 1)) r T x)) [1, 3] 0 rfl rfl rfl rfl rfl rfl (fun _ => rfl) ?_
  rintro v As ⟨a, c, rfl, rfl⟩
  refine ⟨_, rfl, trivial, ?_⟩
  refine J.r hX tab_ok 400 (fun _ => rfl) fun b43 => ?_
  refine J.turn1 [1, 3] rfl (As := [.hp (HP.of [TlA q t, PkE (bb 0) q (bb (0 + 1)) r T])]) (fun h s => Sep.hpOf.2 s) rfl ?_
  refine J.r hX tab_ok 400 (fun _ => rfl) fun b44 => ?_
  refine J.ca hX (by kernel_rfl) (p_least 178 [.pointer (some ⟨bb (0 + 1), 0, none⟩), .pointer (some ⟨bb 0, 0, none⟩)] (fun x y => orI [cmpI (T.count x) (T.count y), cmpI (t.wear x) (t.wear y)]) _ (by kernel_rfl) (fun x y => Fn.pack (p_Victim2 q t hb hl (bb 0) (bb (0 + 1)) r T x y)) a c (pkSome (pkUsed t T) o t.b) (by omega)) [5, 1] 0 rfl rfl rfl rfl rfl rfl (fun _ => rfl) ?_
  rintro v As ⟨rfl, rfl⟩
  refine ⟨_, rfl, trivial, ?_⟩
  refine J.turn1 [1] rfl (As := [TlA q t, PkE (bb 0) q (bb (0 + 1)) r T]) (fun h s => Sep.hpOf.1 s) rfl ?_
  refine J.turn1 [6] rfl (fun h s => PkE_un.1 s) rfl ?_
  refine J.r hX tab_ok 400 (fun _ => rfl) fun b45 => ?_
  refine J.rt hX tab_ok [1, 8] rfl rfl rfl ?_
  exact ⟨rfl, rfl⟩
theorem p_Spent (q : Nat) (t : Tl) (hb : t.b ≤ 1000) (hl : t.l.length = t.b) (r : Nat) (T : Tb) (o : Int) : Fn Tryz.prog 130 [.pointer (some ⟨q, 0, none⟩), .pointer (some ⟨r, 0, none⟩), .int .i64 o] [TlA q t, TbA r T]
    (fun v As => ∃ a c, v = slv a (pkSome (pkSpent t T) o t.b).length c ∧ As = [TlA q t, TbA r T, ownA 3 1 a (pkSome (pkSpent t T) o t.b).length c (cellsI (pkSome (pkSpent t T) o t.b))]) := by
  refine Fn.enter [2, 3, 0] Tryz.func130 rfl rfl rfl fun X F hX => ?_
  refine J.r hX tab_ok 400 (fun _ => rfl) fun bb => ?_
  refine J.turn1 [3, 4, 2] rfl (As := [PkE (bb 0) q (bb (0 + 1)) r T]) (fun h s => PkE_un.2 s) rfl ?_
  refine J.r hX tab_ok 400 (fun _ => rfl) fun b46 => ?_
  refine J.ca hX (by kernel_rfl) (p_some q t hb o 180 [.pointer (some ⟨bb 0, 0, none⟩), .pointer (some ⟨bb (0 + 1), 0, none⟩)] (pkSpent t T) (PkE (bb 0) q (bb (0 + 1)) r T) (by kernel_rfl) (fun x => p_spent1 q t hb hl (bb 0) (bb (0 + 1)) r T x)) [1, 3] 0 rfl rfl rfl rfl rfl rfl (fun _ => rfl) ?_
  rintro v As ⟨a, c, rfl, rfl⟩
  refine ⟨_, rfl, trivial, ?_⟩
  refine J.turn1 [3] rfl (fun h s => PkE_un.1 s) rfl ?_
  refine J.r hX tab_ok 400 (fun _ => rfl) fun b47 => ?_
  refine J.rt hX tab_ok [1, 7, 5] rfl rfl rfl ?_
  exact ⟨a, c, rfl, rfl⟩
/-- is a page over what is lost */ -/
def pkLost (t : Tl) (T : Tb) (b i : Int) : Bool := IntKind.i64.wrap ((BitVec.ofInt IntKind.i64.bits ((Tb.look T.at_ i).getD AtV.zero).mask &&& BitVec.ofInt IntKind.i64.bits (Tl.andN (L.all t.d) (t.mask b))).toNat : Int) != 0
theorem p_Hurt2 (q : Nat) (t : Tl) (hb : t.b ≤ 1000) (hl : t.l.length = t.b) (bt bl bb r : Nat) (T : Tb) (b i : Int) : Fn Tryz.prog 182 [.int .i64 i, .pointer (some ⟨bl, 0, none⟩), .pointer (some ⟨bt, 0, none⟩), .pointer (some ⟨bb, 0, none⟩)] [TlA q t, .pt bt 199 [.pointer (some ⟨q, 0, none⟩)], .pt bl 30 [.pointer (some ⟨r, 0, none⟩)], TbA r T, .pt bb 3 [.int .i64 b]]
    (fun v As => v = .bool (pkLost t T b i) ∧ As = [TlA q t, .pt bt 199 [.pointer (some ⟨q, 0, none⟩)], .pt bl 30 [.pointer (some ⟨r, 0, none⟩)], TbA r T, .pt bb 3 [.int .i64 b]]) := by
  refine Fn.enter [0, 4, 3, 6] Tryz.func182 rfl rfl rfl fun X F hX => ?_
  refine J.r hX tab_ok 400 (fun _ => rfl) fun b48 => ?_
  refine J.r hX tab_ok 400 (fun _ => rfl) fun b49 => ?_
  refine J.ca hX (by kernel_rfl) (tb_Get r T i) [4] 0 rfl rfl rfl rfl rfl rfl (fun _ => rfl) ?_
  rintro v As ⟨rfl, rfl⟩
  refine ⟨_, rfl, trivial, ?_⟩
  refine J.r hX tab_ok 400 (fun _ => rfl) fun b50 => ?_
  refine J.plan (.of [1,17,21,6,8,14,27,28,32]) [6,7,8] [1,2,3,4,5] (by rw [hX.hP]; kernel_rfl) (by kernel_rfl) ?_
  refine J.r hX tab_ok 400 (fun _ => rfl) fun b51 => ?_
  refine J.r hX tab_ok 400 (fun _ => rfl) fun b52 => ?_
  refine J.ca hX (by kernel_rfl) (tl_Geo q t) [1] 0 rfl rfl rfl rfl rfl rfl (fun _ => rfl) ?_
  rintro v As ⟨rfl, rfl⟩
  refine ⟨_, rfl, (by first | exact trivial | (repeat' (first | exact trivial | refine ⟨rfl, ?_⟩))), ?_⟩
  refine J.r hX tab_ok 400 (fun _ => rfl) fun b53 => ?_
  refine J.r hX tab_ok 400 (fun _ => rfl) fun b54 => ?_
  refine J.ca hX (by kernel_rfl) (l_All t.d) [] 0 rfl rfl rfl rfl rfl rfl (fun _ => rfl) ?_
  rintro v As ⟨rfl, rfl⟩
  refine ⟨_, rfl, (by first | exact trivial | (repeat' (first | exact trivial | refine ⟨rfl, ?_⟩))), ?_⟩
  refine J.r hX tab_ok 400 (fun _ => rfl) fun b55 => ?_
  refine J.r hX tab_ok 400 (fun _ => rfl) fun b56 => ?_
  refine J.ca hX (by kernel_rfl) (tl_Mask q t hb hl b) [1] 0 rfl rfl rfl rfl rfl rfl (fun _ => rfl) ?_
  rintro v As ⟨rfl, rfl⟩
  refine ⟨_, rfl, (by first | exact trivial | (repeat' (first | exact trivial | refine ⟨rfl, ?_⟩))), ?_⟩
  refine J.r hX tab_ok 400 (fun _ => rfl) fun b57 => ?_
  refine J.rt hX tab_ok [1, 2, 3, 4, 5] rfl rfl rfl ?_
  exact ⟨rfl, rfl⟩
def pkHurt (t : Tl) (T : Tb) (b : Int) : Bool := (T.ins b).any (pkLost t T b)
theorem p_Hurt1 (q : Nat) (t : Tl) (hb : t.b ≤ 1000) (hl : t.l.length = t.b) (bt bl r : Nat) (T : Tb) (n : Nat) (hlog : T.logical = (n : Int)) (hn : n ≤ 65536) (b : Int) : Fn Tryz.prog 181 [.int .i64 b, .pointer (some ⟨bl, 0, none⟩), .pointer (some ⟨bt, 0, none⟩)] [TlA q t, PkE bt q bl r T]
    (fun v As => v = .bool (pkHurt t T b) ∧ As = [TlA q t, PkE bt q bl r T]) := by
  have hlen : (T.ins b).length ≤ 65536 := by
    unfold Tb.ins
    split
    · simp
    · refine Nat.le_trans (T.inK_len b _) ?_; rw [hlog]; omega
  refine Fn.enter [0, 4, 3] Tryz.func181 rfl rfl rfl fun X F hX => ?_
  refine J.turn1 [2] rfl (fun h s => PkE_un.1 s) rfl ?_
  refine J.r hX tab_ok 400 (fun _ => rfl) fun bb => ?_
  refine J.r hX tab_ok 400 (fun _ => rfl) fun b58 => ?_
  refine J.ca hX (by kernel_rfl) (tb_In r T n hlog hn b) [4] 0 rfl rfl rfl rfl rfl rfl (fun _ => rfl) ?_
  rintro v As ⟨a, c, rfl, rfl⟩
  refine ⟨_, rfl, trivial, ?_⟩
  refine J.r hX tab_ok 400 (fun _ => rfl) fun b59 => ?_
  refine J.turn1 [1, 2, 3, 4, 5] rfl (As := [.hp (HP.of [TlA q t, .pt bt 199 [.pointer (some ⟨q, 0, none⟩)], .pt bl 30 [.pointer (some ⟨r, 0, none⟩)], TbA r T, .pt (bb 0) 3 [.int .i64 b]])]) (fun h s => Sep.hpOf.2 s) rfl ?_
  refine J.r hX tab_ok 400 (fun _ => rfl) fun b60 => ?_
  refine J.ca hX (by kernel_rfl) (x_ContainsI 182 [.pointer (some ⟨bl, 0, none⟩), .pointer (some ⟨bt, 0, none⟩), .pointer (some ⟨bb 0, 0, none⟩)] (pkLost t T b) _ (by kernel_rfl) (T.ins b) (fun i _ => Fn.pack (p_Hurt2 q t hb hl bt bl (bb 0) r T b i)) a (T.ins b).length c rfl (by omega)) [6, 1] 0 rfl rfl rfl rfl rfl rfl (fun _ => rfl) ?_
  rintro v As ⟨rfl, rfl⟩
  refine ⟨_, rfl, trivial, ?_⟩
  refine J.turn1 [1] rfl (As := [TlA q t, .pt bt 199 [.pointer (some ⟨q, 0, none⟩)], .pt bl 30 [.pointer (some ⟨r, 0, none⟩)], TbA r T, .pt (bb 0) 3 [.int .i64 b]]) (fun h s => Sep.hpOf.1 s) rfl ?_
  refine J.turn1 [7, 8, 9] rfl (fun h s => PkE_un.2 s) rfl ?_
  refine J.r hX tab_ok 400 (fun _ => rfl) fun b61 => ?_
  refine J.rt hX tab_ok [1, 7] rfl rfl rfl ?_
  exact ⟨rfl, rfl⟩
theorem p_Hurt (q : Nat) (t : Tl) (hb : t.b ≤ 1000) (hl : t.l.length = t.b) (r : Nat) (T : Tb) (n : Nat) (hlog : T.logical = (n : Int)) (hn : n ≤ 65536) : Fn Tryz.prog 131 [.pointer (some ⟨q, 0, none⟩), .pointer (some ⟨r, 0, none⟩)] [TlA q t, TbA r T]
    (fun v As => ∃ a c, v = slv a (pkSome (pkHurt t T) (-1) t.b).length c ∧ As = [TlA q t, TbA r T, ownA 3 1 a (pkSome (pkHurt t T) (-1) t.b).length c (cellsI (pkSome (pkHurt t T) (-1) t.b))]) := by
  refine Fn.enter [2, 3] Tryz.func131 rfl rfl rfl fun X F hX => ?_
  refine J.r hX tab_ok 400 (fun _ => rfl) fun bb => ?_
  refine J.turn1 [3, 4, 2] rfl (As := [PkE (bb 0) q (bb (0 + 1)) r T]) (fun h s => PkE_un.2 s) rfl ?_
  refine J.r hX tab_ok 400 (fun _ => rfl) fun b62 => ?_
  refine J.ca hX (by kernel_rfl) (p_some q t hb (-1) 181 [.pointer (some ⟨bb (0 + 1), 0, none⟩), .pointer (some ⟨bb 0, 0, none⟩)] (pkHurt t T) (PkE (bb 0) q (bb (0 + 1)) r T) (by kernel_rfl) (fun x => p_Hurt1 q t hb hl (bb 0) (bb (0 + 1)) r T n hlog hn x)) [1, 3] 0 rfl rfl rfl rfl rfl rfl (fun _ => rfl) ?_
  rintro v As ⟨a, c, rfl, rfl⟩
  refine ⟨_, rfl, trivial, ?_⟩
  refine J.turn1 [3] rfl (fun h s => PkE_un.1 s) rfl ?_
  refine J.r hX tab_ok 400 (fun _ => rfl) fun b63 => ?_
  refine J.rt hX tab_ok [1, 7, 5] rfl rfl rfl ?_
  exact ⟨a, c, rfl, rfl⟩
end Go.Proofs.YtoideahgjgaddaaGreat
/- A closed sentence: begun of ostrakonlaw13. -/
namespace Go.Proofs.YtoideahgjgaddaaGreat
open Go Go.RowKit
namespace B13
def e1 : En := { En.zero with lpn := 4, seq := 7, role := 1 }
def e2 : En := { En.zero with lpn := 4, seq := 6, role := 1 }
def e3 : En := { En.zero with lpn := 10, seq := 9, role := 1 }
def T0 : Tb := ⟨10, [], [], 1⟩
def T1 : Tb := ⟨10, [(4, ⟨2, 1, 0, 7, 7, 1⟩)], [(2, 1)], 8⟩
def t0 : Tl := Tl.new 3 8 2
def t1 : Tl := ⟨3, 8, 2, ⟨3, 0, false, false⟩ :: List.replicate 7 Sb.zero, 0⟩
def t2 : Tl := ⟨3, 8, 2, [⟨3, 0, false, false⟩, Sb.zero, ⟨0, 2, false, false⟩, Sb.zero, Sb.zero, Sb.zero, Sb.zero, Sb.zero], 0⟩
theorem h0 : Tb.new 10 = T0 := by kernel_rfl
theorem h1 : Tb.put T0 e1 2 1 0 7 = T1 := by kernel_rfl
theorem h2 : Tb.put T1 e2 0 0 0 7 = T1 := by kernel_rfl
theorem h3 : Tb.put T1 e3 0 0 0 7 = T1 := by kernel_rfl
theorem p1 : Tb.putB T0 e1 = true := by kernel_rfl
theorem p2 : Tb.putB T1 e2 = false := by kernel_rfl
theorem p3 : Tb.putB T1 e3 = false := by kernel_rfl
theorem w1 : t0.wore 0 3 = t1 := by kernel_rfl
theorem w2 : t1.bad 1 2 = t2 := by kernel_rfl
theorem c0 (k : Int) : 0 ≤ T0.count k ∧ T0.count k ≤ 1000000 := by
  have : T0.count k = 0 := rfl
  rw [this]; omega
theorem c1 (k : Int) : 0 ≤ T1.count k ∧ T1.count k ≤ 1000000 := by
  have : T1.count k = (if k = 2 then some (1 : Int) else none).getD 0 := rfl
  rw [this]
  split <;> simp
theorem o1 : pkLeast (fun x y => cmpI (t2.wear x) (t2.wear y)) (pkSome (pkFree t2 T1) (-1) t2.b) = 1 := by kernel_rfl
theorem o2 : pkLeast (fun x y => orI [cmpI (T1.count x) (T1.count y), cmpI (t2.wear x) (t2.wear y)]) (pkSome (pkUsed t2 T1) (-1) t2.b) = 2 := by kernel_rfl
theorem o3 : (pkSome (pkFree t2 T1) (-1) t2.b).length = 7 := by kernel_rfl
theorem o4 : pkSome (pkSpent t2 T1) (-1) t2.b = [] := by kernel_rfl
theorem o5 : pkSome (pkHurt t2 T1) (-1) t2.b = [2] := by kernel_rfl
theorem o6 : T1.ins 2 = [4] := by kernel_rfl
theorem o7 : t2.mask 2 = 5 := by kernel_rfl
theorem o8 : t2.usable 2 = true := by kernel_rfl
theorem o9 : t2.alive = 7 := by kernel_rfl
theorem o10 : t2.wear 0 = 3 := by kernel_rfl
theorem o11 : t2.blank 3 = true := by kernel_rfl
theorem o12 : T1.count 2 = 1 := by kernel_rfl
end B13
theorem l13_begun : Fn Tryz.prog 79 [] [] (fun v As => v = .bool true ∧ As = []) := by
  refine Fn.enter [] Tryz.func79 rfl rfl rfl fun X F hX => ?_
  refine J.r hX tab_ok 400 (fun _ => rfl) fun b1 => ?_
  refine J.r hX tab_ok 400 (fun _ => rfl) fun b2 => ?_
  refine J.ca hX (by kernel_rfl) (tb_New 10) [] 0 rfl rfl rfl rfl rfl rfl (fun _ => rfl) ?_
  rintro v As ⟨r, rfl, rfl⟩
  refine ⟨_, rfl, trivial, ?_⟩
  rw [B13.h0]
  refine J.r hX tab_ok 400 (fun _ => rfl) fun b3 => ?_
  refine J.r hX tab_ok 400 (fun _ => rfl) fun b4 => ?_
  refine J.ca hX (by kernel_rfl) (tl_New 3 8 2 rfl) [] 0 rfl rfl rfl rfl rfl rfl (fun _ => rfl) ?_
  rintro v As ⟨q, rfl, rfl⟩
  refine ⟨_, rfl, trivial, ?_⟩
  rw [show Tl.new 3 8 2 = B13.t0 from rfl]
  refine J.r hX tab_ok 400 (fun _ => rfl) fun b5 => ?_
  refine J.r hX tab_ok 400 (fun _ => rfl) fun b6 => ?_
  refine J.ca hX (by kernel_rfl) (tl_NewZ) [] 0 rfl rfl rfl rfl rfl rfl (fun _ => rfl) ?_
  rintro v As ⟨rfl, rfl⟩
  refine ⟨_, rfl, trivial, ?_⟩
  refine J.r hX tab_ok 400 (fun _ => rfl) fun b7 => ?_
  refine J.cond rfl (fun h => absurd h (by decide)) (fun _ => ?_)
  refine J.r hX tab_ok 400 (fun _ => rfl) fun b8 => ?_
  refine J.r hX tab_ok 400 (fun _ => rfl) fun b9 => ?_
  refine J.ca hX (by kernel_rfl) (tb_Put r B13.T0 B13.e1 2 1 0 7 (by decide) B13.c0) [1] 0 rfl rfl rfl rfl rfl rfl (fun _ => rfl) ?_
  rintro v As ⟨rfl, rfl⟩
  refine ⟨_, rfl, trivial, ?_⟩
  rw [B13.h1, B13.p1]
  refine J.r hX tab_ok 400 (fun _ => rfl) fun b10 => ?_
  refine J.r hX tab_ok 400 (fun _ => rfl) fun b11 => ?_
  refine J.ca hX (by kernel_rfl) (tb_Put r B13.T1 B13.e2 0 0 0 7 (by decide) B13.c1) [1] 0 rfl rfl rfl rfl rfl rfl (fun _ => rfl) ?_
  rintro v As ⟨rfl, rfl⟩
  refine ⟨_, rfl, trivial, ?_⟩
  rw [B13.h2, B13.p2]
  refine J.r hX tab_ok 400 (fun _ => rfl) fun b12 => ?_
  refine J.r hX tab_ok 400 (fun _ => rfl) fun b13 => ?_
  refine J.ca hX (by kernel_rfl) (tb_Put r B13.T1 B13.e3 0 0 0 7 (by decide) B13.c1) [1] 0 rfl rfl rfl rfl rfl rfl (fun _ => rfl) ?_
  rintro v As ⟨rfl, rfl⟩
  refine ⟨_, rfl, trivial, ?_⟩
  rw [B13.h3, B13.p3]
  refine J.r hX tab_ok 400 (fun _ => rfl) fun b14 => ?_
  refine J.r hX tab_ok 400 (fun _ => rfl) fun b15 => ?_
  refine J.ca hX (by kernel_rfl) (tb_Get r B13.T1 4) [1] 0 rfl rfl rfl rfl rfl rfl (fun _ => rfl) ?_
  rintro v As ⟨rfl, rfl⟩
  refine ⟨_, rfl, trivial, ?_⟩
  rw [show Tb.look B13.T1.at_ 4 = some ⟨2, 1, 0, 7, 7, 1⟩ from rfl, Option.getD_some, Option.isSome_some]
  refine J.r hX tab_ok 400 (fun _ => rfl) fun b16 => ?_
  refine J.r hX tab_ok 400 (fun _ => rfl) fun b17 => ?_
  refine J.ca hX (by kernel_rfl) (tl_Wore q B13.t0 (by decide) rfl 0 3) [2] 0 rfl rfl rfl rfl rfl rfl (fun _ => rfl) ?_
  rintro v As ⟨rfl, rfl⟩
  refine ⟨_, rfl, trivial, ?_⟩
  rw [B13.w1]
  refine J.r hX tab_ok 400 (fun _ => rfl) fun b18 => ?_
  refine J.r hX tab_ok 400 (fun _ => rfl) fun b19 => ?_
  refine J.ca hX (by kernel_rfl) (tl_Bad q B13.t1 (by decide) rfl 1 2) [2] 0 rfl rfl rfl rfl rfl rfl (fun _ => rfl) ?_
  rintro v As ⟨rfl, rfl⟩
  refine ⟨_, rfl, trivial, ?_⟩
  rw [B13.w2]
  refine J.r hX tab_ok 400 (fun _ => rfl) fun b20 => ?_
  refine J.r hX tab_ok 400 (fun _ => rfl) fun b21 => ?_
  refine J.ca hX (by kernel_rfl) (l7_Begun) [] 0 rfl rfl rfl rfl rfl rfl (fun _ => rfl) ?_
  rintro v As ⟨rfl, rfl⟩
  refine ⟨_, rfl, trivial, ?_⟩
  refine J.r hX tab_ok 400 (fun _ => rfl) fun b22 => ?_
  refine J.r hX tab_ok 400 (fun _ => rfl) fun b23 => ?_
  refine J.ca hX (by kernel_rfl) (l9_Begun) [] 0 rfl rfl rfl rfl rfl rfl (fun _ => rfl) ?_
  rintro v As ⟨rfl, rfl⟩
  refine ⟨_, rfl, trivial, ?_⟩
  refine J.r hX tab_ok 400 (fun _ => rfl) fun b24 => ?_
  refine J.r hX tab_ok 400 (fun _ => rfl) fun b25 => ?_
  refine J.ca hX (by kernel_rfl) (tb_Len r B13.T1) [1] 0 rfl rfl rfl rfl rfl rfl (fun _ => rfl) ?_
  rintro v As ⟨rfl, rfl⟩
  refine ⟨_, rfl, trivial, ?_⟩
  refine J.r hX tab_ok 400 (fun _ => rfl) fun b26 => ?_
  refine J.r hX tab_ok 400 (fun _ => rfl) fun b27 => ?_
  refine J.ca hX (by kernel_rfl) (tb_Count r B13.T1 2) [1] 0 rfl rfl rfl rfl rfl rfl (fun _ => rfl) ?_
  rintro v As ⟨rfl, rfl⟩
  refine ⟨_, rfl, trivial, ?_⟩
  rw [B13.o12]
  refine J.r hX tab_ok 400 (fun _ => rfl) fun b28 => ?_
  refine J.r hX tab_ok 400 (fun _ => rfl) fun b29 => ?_
  refine J.ca hX (by kernel_rfl) (tb_In r B13.T1 10 rfl (by decide) 2) [1] 0 rfl rfl rfl rfl rfl rfl (fun _ => rfl) ?_
  rintro v As ⟨a1, c1, rfl, rfl⟩
  refine ⟨_, rfl, trivial, ?_⟩
  rw [B13.o6]
  refine J.r hX tab_ok 400 (fun _ => rfl) fun b30 => ?_
  refine J.r hX tab_ok 400 (fun _ => rfl) fun b31 => ?_
  refine J.ca hX (by kernel_rfl) (tb_Next r B13.T1) [1] 0 rfl rfl rfl rfl rfl rfl (fun _ => rfl) ?_
  rintro v As ⟨rfl, rfl⟩
  refine ⟨_, rfl, trivial, ?_⟩
  refine J.r hX tab_ok 400 (fun _ => rfl) fun b32 => ?_
  refine J.r hX tab_ok 400 (fun _ => rfl) fun b33 => ?_
  refine J.ca hX (by kernel_rfl) (tl_Wear q B13.t2 (by decide) rfl 0) [2] 0 rfl rfl rfl rfl rfl rfl (fun _ => rfl) ?_
  rintro v As ⟨rfl, rfl⟩
  refine ⟨_, rfl, trivial, ?_⟩
  rw [B13.o10]
  refine J.r hX tab_ok 400 (fun _ => rfl) fun b34 => ?_
  refine J.r hX tab_ok 400 (fun _ => rfl) fun b35 => ?_
  refine J.ca hX (by kernel_rfl) (tl_Mask q B13.t2 (by decide) rfl 2) [2] 0 rfl rfl rfl rfl rfl rfl (fun _ => rfl) ?_
  rintro v As ⟨rfl, rfl⟩
  refine ⟨_, rfl, trivial, ?_⟩
  rw [B13.o7]
  refine J.r hX tab_ok 400 (fun _ => rfl) fun b36 => ?_
  refine J.r hX tab_ok 400 (fun _ => rfl) fun b37 => ?_
  refine J.ca hX (by kernel_rfl) (tl_Usable q B13.t2 (by decide) rfl 2) [2] 0 rfl rfl rfl rfl rfl rfl (fun _ => rfl) ?_
  rintro v As ⟨rfl, rfl⟩
  refine ⟨_, rfl, trivial, ?_⟩
  rw [B13.o8]
  refine J.r hX tab_ok 400 (fun _ => rfl) fun b38 => ?_
  refine J.r hX tab_ok 400 (fun _ => rfl) fun b39 => ?_
  refine J.ca hX (by kernel_rfl) (tl_Alive q B13.t2) [2] 0 rfl rfl rfl rfl rfl rfl (fun _ => rfl) ?_
  rintro v As ⟨rfl, rfl⟩
  refine ⟨_, rfl, trivial, ?_⟩
  rw [B13.o9]
  refine J.r hX tab_ok 400 (fun _ => rfl) fun b40 => ?_
  refine J.r hX tab_ok 400 (fun _ => rfl) fun b41 => ?_
  refine J.ca hX (by kernel_rfl) (p_Open q B13.t2 (by decide) rfl r B13.T1 (-1)) [2, 1] 0 rfl rfl rfl rfl rfl rfl (fun _ => rfl) ?_
  rintro v As ⟨rfl, rfl⟩
  refine ⟨_, rfl, trivial, ?_⟩
  rw [B13.o1]
  refine J.r hX tab_ok 400 (fun _ => rfl) fun b42 => ?_
  refine J.r hX tab_ok 400 (fun _ => rfl) fun b43 => ?_
  refine J.ca hX (by kernel_rfl) (p_Victim q B13.t2 (by decide) rfl r B13.T1 (-1)) [2, 1] 0 rfl rfl rfl rfl rfl rfl (fun _ => rfl) ?_
  rintro v As ⟨rfl, rfl⟩
  refine ⟨_, rfl, trivial, ?_⟩
  rw [B13.o2]
  refine J.r hX tab_ok 400 (fun _ => rfl) fun b44 => ?_
  refine J.r hX tab_ok 400 (fun _ => rfl) fun b45 => ?_
  refine J.ca hX (by kernel_rfl) (p_Free q B13.t2 (by decide) rfl r B13.T1 (-1)) [2, 1] 0 rfl rfl rfl rfl rfl rfl (fun _ => rfl) ?_
  rintro v As ⟨rfl, rfl⟩
  refine ⟨_, rfl, trivial, ?_⟩
  rw [B13.o3]
  refine J.r hX tab_ok 400 (fun _ => rfl) fun b46 => ?_
  refine J.r hX tab_ok 400 (fun _ => rfl) fun b47 => ?_
  refine J.ca hX (by kernel_rfl) (p_Spent q B13.t2 (by decide) rfl r B13.T1 (-1)) [2, 1] 0 rfl rfl rfl rfl rfl rfl (fun _ => rfl) ?_
  rintro v As ⟨a2, c2, rfl, rfl⟩
  refine ⟨_, rfl, trivial, ?_⟩
  rw [B13.o4]
  refine J.r hX tab_ok 400 (fun _ => rfl) fun b48 => ?_
  refine J.r hX tab_ok 400 (fun _ => rfl) fun b49 => ?_
  refine J.ca hX (by kernel_rfl) (p_Hurt q B13.t2 (by decide) rfl r B13.T1 10 rfl (by decide)) [2, 1] 0 rfl rfl rfl rfl rfl rfl (fun _ => rfl) ?_
  rintro v As ⟨a3, c3, rfl, rfl⟩
  refine ⟨_, rfl, trivial, ?_⟩
  rw [B13.o5]
  refine J.r hX tab_ok 400 (fun _ => rfl) fun b50 => ?_
  refine J.r hX tab_ok 400 (fun _ => rfl) fun b51 => ?_
  refine J.ca hX (by kernel_rfl) (tl_Blank q B13.t2 (by decide) rfl 3) [2] 0 rfl rfl rfl rfl rfl rfl (fun _ => rfl) ?_
  rintro v As ⟨rfl, rfl⟩
  refine ⟨_, rfl, trivial, ?_⟩
  rw [B13.o11]
  refine J.r hX tab_ok 400 (fun _ => rfl) fun b52 => ?_
  refine J.rt hX tab_ok [] rfl rfl rfl ?_
  exact ⟨rfl, rfl⟩
theorem l13_Begun : Fn Tryz.prog 38 [] [] (fun v As => v = .bool true ∧ As = []) := by
  refine Fn.enter [] Tryz.func38 rfl rfl rfl fun X F hX => ?_
  refine J.r hX tab_ok 400 (fun _ => rfl) fun b53 => ?_
  refine J.r hX tab_ok 400 (fun _ => rfl) fun b54 => ?_
  refine J.ca hX (by kernel_rfl) (l13_begun) [] 0 rfl rfl rfl rfl rfl rfl (fun _ => rfl) ?_
  rintro v As ⟨rfl, rfl⟩
  refine ⟨_, rfl, trivial, ?_⟩
  refine J.r hX tab_ok 400 (fun _ => rfl) fun b55 => ?_
  refine J.rt hX tab_ok [] rfl rfl rfl ?_
  exact ⟨rfl, rfl⟩
end Go.Proofs.YtoideahgjgaddaaGreat
