/- Helpers of the proofs about ostrakonlaw11, proved here: PlTo. No condition. -/
import Derived.Test.YtoideahgjgaddaaGreatP26
set_option linter.unusedVariables false
set_option linter.unusedSimpArgs false
set_option linter.unusedSectionVars false
set_option linter.unnecessarySimpa false
/- Plain laws: rows that are cut, copies: what stands. No program in sight. -/
namespace Go.Proofs.YtoideahgjgaddaaGreat
open Go
theorem flat_46 {α : Type} (F G : List α) (B : Nat) (hB : 8 ≤ B) : ((List.range B).flatMap fun b => if b = 4 then F else if b = 6 then G else []) = F ++ G := by
  obtain ⟨k, rfl⟩ : ∃ k, B = 8 + k := ⟨B - 8, by omega⟩
  rw [List.range_add, List.flatMap_append]
  have : ((List.map (fun x => 8 + x) (List.range k)).flatMap fun b => if b = 4 then F else if b = 6 then G else []) = [] := by
    rw [List.flatMap_eq_nil_iff]
    intro x hx
    obtain ⟨y, _, rfl⟩ := List.mem_map.1 hx
    rw [if_neg (by omega), if_neg (by omega)]
  rw [this, List.append_nil]
  show F ++ (G ++ []) = _
  rw [List.append_nil]
theorem flat_23 {α : Type} (F G : List α) (B : Nat) (hB : 8 ≤ B) : ((List.range B).flatMap fun b => if b = 2 then F else if b = 3 then G else []) = F ++ G := by
  obtain ⟨k, rfl⟩ : ∃ k, B = 8 + k := ⟨B - 8, by omega⟩
  rw [List.range_add, List.flatMap_append]
  have : ((List.map (fun x => 8 + x) (List.range k)).flatMap fun b => if b = 2 then F else if b = 3 then G else []) = [] := by
    rw [List.flatMap_eq_nil_iff]
    intro x hx
    obtain ⟨y, _, rfl⟩ := List.mem_map.1 hx
    rw [if_neg (by omega), if_neg (by omega)]
  rw [this, List.append_nil]
  show F ++ (G ++ []) = _
  rw [List.append_nil]
theorem rowOk_like {N0 M : Nand} {b : Nat} {l : List En} (hl : N0.Like M) (hD : 3 ≤ N0.dies ∧ N0.dies ≤ 6) (hB : N0.blocks ≤ 16) (hb : b < N0.blocks) (hp : 0 < N0.pages) (hf : ∀ e ∈ l, FitE e) (hlen : l.length ≤ N0.dies - 1) : RowOk M b (mAll N0.dies) (padL (N0.dies - 1) l) := by
  have := rowOk_all (N := M) (b := b) (l := l) (by rw [hl.dies]; exact hD) (by rw [hl.blocks]; exact hB) (by rw [hl.blocks]; exact hb) (by rw [hl.pages]; exact hp) hf (by rw [hl.dies]; exact hlen)
  rwa [hl.dies] at this
/-- a row that is written whole, or within which power goes, and then there is power -/
def cutB (t : Option (Nat × Int)) (N : Nand) : Nand := match t with
  | some x => N.setCut x.1 x.2
  | none => N
def goodB (t : Option (Nat × Int)) (k : Nat) : Bool := match t with
  | some x => decide (k < x.1)
  | none => true
def errB (t : Option (Nat × Int)) (n : Nat) : Int := match t with
  | some x => if x.1 ≤ n then 9 else 0
  | none => 0
structure Stage (N N' : Nand) (b : Nat) (F : List Fnd) : Prop where
  calm : N'.Calm
  like : N.Like N'
  rest : ∀ i j, j ≠ b → N'.blk i j = N.blk i j
  row : OneRow N' b F
theorem stage {N : Nand} {b : Nat} {m : Int} {l : List En} (hc : N.Calm) (hf : Fresh N b) (t : Option (Nat × Int)) (ht : ∀ x, t = some x → 0 ≤ x.2 ∧ x.2 < 28) (hr : ∀ M, N.Like M → RowOk M b m l) :
    (R.write (cutB t N) b 0 m l).2.2 = errB t l.length ∧ Stage N (R.write (cutB t N) b 0 m l).1.onN b (rowF b m l (goodB t)) := by
  cases t with
  | none =>
    obtain ⟨N', e, c, lk, br, rs, o⟩ := (hr N (Nand.Like.refl N)).write hc hf
    show (R.write N b 0 m l).2.2 = 0 ∧ Stage N (R.write N b 0 m l).1.onN b (rowF b m l fun _ => true)
    rw [e]
    obtain ⟨c2, l2, r2⟩ := c.on
    refine ⟨rfl, c2, lk.trans l2, fun i j hj => (r2 i j).trans (rs i j hj), o.same (c.same c2 l2 fun i => r2 i b)⟩
  | some x =>
    obtain ⟨hx1, hx2⟩ := ht x rfl
    obtain ⟨d1, d2, d3, d4⟩ := hc.doom x.1 x.2
    obtain ⟨N', e, lk, c, rs, o⟩ := (hr (N.setCut x.1 x.2) d3).cut (n := x.1) (K := x.2.toNat) d1 (fun i => by rw [d4]; exact hf i) (by rw [d2]; omega) (by omega)
    show (R.write (N.setCut x.1 x.2) b 0 m l).2.2 = (if x.1 ≤ l.length then 9 else 0) ∧ Stage N (R.write (N.setCut x.1 x.2) b 0 m l).1.onN b (rowF b m l fun k => decide (k < x.1))
    rw [e]
    exact ⟨rfl, c, d3.trans (lk.trans ⟨rfl, rfl, rfl⟩), fun i j hj => (rs i j hj).trans (d4 i j), o⟩
set_option maxRecDepth 20000 in
/-- two rows, one behind the other -/
theorem two_rows {D B P : Nat} (hD : 3 ≤ D ∧ D ≤ 6) (hB : 8 ≤ B ∧ B ≤ 16) (hP : 2 ≤ P ∧ P ≤ 8) (i j : Nat) (hij : i ≠ j) (hi : i < 8) (hj : j < 8) (t1 t2 : Option (Nat × Int)) (h1 : ∀ x, t1 = some x → 0 ≤ x.2 ∧ x.2 < 28) (h2 : ∀ x, t2 = some x → 0 ≤ x.2 ∧ x.2 < 28)
    (l1 l2 : List En) (f1 : ∀ e ∈ l1, FitE e) (f2 : ∀ e ∈ l2, FitE e) (n1 : l1.length ≤ D - 1) (n2 : l2.length ≤ D - 1) (N2 N4 : Nand) (e2 : N2 = (R.write (cutB t1 (Nand.new D B P)) i 0 (mAll D) (padL (D - 1) l1)).1.onN) (e4 : N4 = (R.write (cutB t2 N2) j 0 (mAll D) (padL (D - 1) l2)).1.onN) :
    (R.write (cutB t1 (Nand.new D B P)) i 0 (mAll D) (padL (D - 1) l1)).2.2 = errB t1 (D - 1) ∧
    (R.write (cutB t2 N2) j 0 (mAll D) (padL (D - 1) l2)).2.2 = errB t2 (D - 1) ∧
    N4.Calm ∧ (Nand.new D B P).Like N4 ∧ (∀ b, b < B → OneRow N4 b (if b = i then rowF i (mAll D) (padL (D - 1) l1) (goodB t1) else if b = j then rowF j (mAll D) (padL (D - 1) l2) (goodB t2) else [])) ∧ (∀ f ∈ V.all N4, f.whole = false → V.last N4 f = true) := by
  have c0 : (Nand.new D B P).Calm := new_calm D B P
  have fr : ∀ b, Fresh (Nand.new D B P) b := fun b i => ⟨rfl, rfl⟩
  have q1 := stage (b := i) (m := mAll D) (l := padL (D - 1) l1) c0 (fr i) t1 h1 (fun M hM => rowOk_like (N0 := Nand.new D B P) hM hD hB.2 (show i < B by omega) (show 0 < P by omega) f1 n1)
  rw [← e2, padL_len n1] at q1
  obtain ⟨q1, s1⟩ := q1
  have q2 := stage (b := j) (m := mAll D) (l := padL (D - 1) l2) s1.calm (fun k => by rw [s1.rest k j (fun e => hij e.symm)]; exact fr j k) t2 h2 (fun M hM => rowOk_like (N0 := Nand.new D B P) (s1.like.trans hM) hD hB.2 (show j < B by omega) (show 0 < P by omega) f2 n2)
  rw [← e4, padL_len n2] at q2
  obtain ⟨q2, s2⟩ := q2
  have hrows : ∀ b, b < B → OneRow N4 b (if b = i then rowF i (mAll D) (padL (D - 1) l1) (goodB t1) else if b = j then rowF j (mAll D) (padL (D - 1) l2) (goodB t2) else []) := fun b hb => by
    by_cases e1 : b = i
    · subst e1
      rw [if_pos rfl]
      exact s1.row.same (s1.calm.same s2.calm s2.like fun k => s2.rest k b hij)
    · rw [if_neg e1]
      by_cases e3 : b = j
      · subst e3
        rw [if_pos rfl]
        exact s2.row
      · rw [if_neg e3]
        exact one_empty fun k => by rw [s2.rest k b e3, s1.rest k b e1]; rfl
  have hlk := s1.like.trans s2.like
  have hd4 : N4.dies = D := hlk.dies
  have hb4 : N4.blocks = B := hlk.blocks
  have hp4 : N4.pages = P := hlk.pages
  refine ⟨q1, q2, s2.calm, hlk, hrows, fun f hf hw => ?_⟩
  rw [all_rows _ (by rw [hp4]; omega) (by rw [hb4]; exact hrows), List.mem_flatMap] at hf
  obtain ⟨b, hb, hf⟩ := hf
  have hb : b < B := by have := List.mem_range.1 hb; omega
  have key : ∀ (k : Nat) l g, f ∈ rowF k (mAll D) l g → f.block = k ∧ f.row = 0 ∧ f.mask = mAll D := fun k l g h => by
    unfold rowF at h
    obtain ⟨x, _, h⟩ := List.mem_filterMap.1 h
    split at h
    · injection h with h
      subst h
      exact ⟨rfl, rfl, rfl⟩
    · cases h
  have hfk : f.block = b ∧ f.row = 0 ∧ f.mask = mAll D := by
    split at hf
    · rename_i e; subst e; exact key _ _ _ hf
    · split at hf
      · rename_i e; subst e; exact key _ _ _ hf
      · cases hf
  have hpar := all_facts hD (show b < 16 by omega)
  exact V.last_one s2.calm (hrows b hb) (by omega) (by rw [hp4]; omega) hfk.1 hfk.2.1 (by rw [hfk.2.2, hd4]; exact ⟨hpar.2.2.1, hpar.2.2.2⟩)
theorem normI_fold (l : List Int) : normI l = l.foldl insI [] := by
  have : ∀ k, k ≤ l.length → normI (l.take k) = (l.take k).foldl insI [] := by
    intro k
    induction k with
    | zero => intro _; rw [List.take_zero, normI_nil]; rfl
    | succ k ih =>
      intro hk
      rw [List.take_add_one, List.getElem?_eq_getElem (by omega), Option.toList_some, normI_snoc, List.foldl_append, ih (by omega)]
      rfl
  have h := this l.length (Nat.le_refl _)
  rwa [List.take_length] at h
namespace V
/-- a scan where each torn one is its block's last -/
def scanT (L : List Fnd) (n : Int) : Scd := ⟨(goT L n (size n)).tb, (goT L n (size n)).torn ++ (goT L n (size n)).others, (goT L n (size n)).torn.length, (goT L n (size n)).held.foldl insI [], nextOf L, L.length⟩
theorem scanT_same {N : Nand} {L : List Fnd} (hL : all N = L) (h : ∀ f ∈ L, f.whole = false → last N f = true) (n : Int) : scan N n = scanT L n := by
  unfold scan scanOf scanT
  rw [hL, goT_same h, show compactI (sortI (goT L n (size n)).held) = (goT L n (size n)).held.foldl insI [] from normI_fold _]
end V
/-- a row that was cut -/
def tornL (D ops : Nat) : List Fnd := rowF 4 (mAll D) (padL (D - 1) [enE 0 1, enE 1 2]) (fun _ => true) ++ rowF 6 (mAll D) (padL (D - 1) [enE 1 3, enE 0 4]) (fun k => decide (k < ops))
def tornChk (D ops : Nat) : Bool := !(decide (3 ≤ D) && decide (ops < D)) ||
  (let S := V.scanT (tornL D ops) 2
   (match Tb.look S.tb.at_ 1 with | some x => (x.seq == 3) == decide (1 ≤ ops) | none => false) && (match Tb.look S.tb.at_ 0 with | some x => (x.seq == 4) == decide (2 ≤ ops) | none => false) &&
   S.torn.length == min ops 2 && S.first == min ops 2 && S.held == (if ops = 0 then [] else [4]))
theorem tornChk_all : ∀ D, D < 7 → ∀ ops, ops < 6 → tornChk D ops = true := by decide +kernel
set_option maxRecDepth 20000 in
theorem torn_law {D B P ops : Nat} {keep : Int} (hD : 3 ≤ D ∧ D ≤ 6) (hB : 8 ≤ B ∧ B ≤ 16) (hP : 2 ≤ P ∧ P ≤ 8) (ho : ops < D) (hk : 0 ≤ keep ∧ keep < 20) (N1 N2 N3 : Nand)
    (e1 : N1 = (R.write (Nand.new D B P) 4 0 (mAll D) (padL (D - 1) [enE 0 1, enE 1 2])).1) (e2 : N2 = (R.write (N1.setCut ops keep) 6 0 (mAll D) (padL (D - 1) [enE 1 3, enE 0 4])).1) (e3 : N3 = N2.onN) :
    (R.write (Nand.new D B P) 4 0 (mAll D) (padL (D - 1) [enE 0 1, enE 1 2])).2.2 = 0 ∧ (R.write (N1.setCut ops keep) 6 0 (mAll D) (padL (D - 1) [enE 1 3, enE 0 4])).2.2 = 9 ∧
    ∃ x y, Tb.look (V.scan N3 2).tb.at_ 1 = some x ∧ Tb.look (V.scan N3 2).tb.at_ 0 = some y ∧ (x.seq == 3) = decide (1 ≤ ops) ∧ (y.seq == 4) = decide (2 ≤ ops) ∧ (V.scan N3 2).torn.length = min ops 2 ∧ (V.scan N3 2).first = min ops 2 ∧ (V.scan N3 2).held = (if ops = 0 then [] else [4]) := by
  have c0 : (Nand.new D B P).Calm := new_calm D B P
  have fr : ∀ b, Fresh (Nand.new D B P) b := fun b i => ⟨rfl, rfl⟩
  have hA : FitE (enE 0 1) := FitE.mk' (by decide) (by decide)
  have hA2 : FitE (enE 1 2) := FitE.mk' (by decide) (by decide)
  have hA3 : FitE (enE 1 3) := FitE.mk' (by decide) (by decide)
  have hA4 : FitE (enE 0 4) := FitE.mk' (by decide) (by decide)
  -- the first row, without a power cycle behind it
  have q1 := stage (b := 4) (m := mAll D) (l := padL (D - 1) [enE 0 1, enE 1 2]) c0 (fr 4) none (fun x h => by cases h) (fun M hM => rowOk_like (N0 := Nand.new D B P) hM hD hB.2 (show 4 < B by omega) (show 0 < P by omega) (two_fit hA hA2) (show 2 ≤ D - 1 by omega))
  obtain ⟨w1, _⟩ := q1
  have hrow1 := (rowOk_like (N0 := Nand.new D B P) (Nand.Like.refl _) hD hB.2 (show 4 < B by omega) (show 0 < P by omega) (two_fit hA hA2) (show 2 ≤ D - 1 by omega)).write c0 (fr 4)
  obtain ⟨N1', g1, c1, l1, _, r1, o1⟩ := hrow1
  have hN1 : N1 = N1' := by rw [e1]; show (R.write (Nand.new D B P) (4 : Nat) 0 (mAll (Nand.new D B P).dies) (padL ((Nand.new D B P).dies - 1) [enE 0 1, enE 1 2])).1 = N1'; rw [g1]
  subst hN1
  have q2 := stage (b := 6) (m := mAll D) (l := padL (D - 1) [enE 1 3, enE 0 4]) c1 (fun k => by rw [r1 k 6 (by decide)]; exact fr 6 k) (some (ops, keep)) (fun x h => by injection h with h; subst h; dsimp only; omega) (fun M hM => rowOk_like (N0 := Nand.new D B P) (l1.trans hM) hD hB.2 (show 6 < B by omega) (show 0 < P by omega) (two_fit hA3 hA4) (show 2 ≤ D - 1 by omega))
  obtain ⟨w2, s2⟩ := q2
  have s2 : Stage N1 N3 6 (rowF 6 (mAll D) (padL (D - 1) [enE 1 3, enE 0 4]) fun k => decide (k < ops)) := by rw [e3, e2]; exact s2
  have w2 : (R.write (N1.setCut ops keep) 6 0 (mAll D) (padL (D - 1) [enE 1 3, enE 0 4])).2.2 = if ops ≤ (padL (D - 1) [enE 1 3, enE 0 4]).length then 9 else 0 := w2
  rw [padL_len (show 2 ≤ D - 1 by omega), if_pos (by omega)] at w2
  have hlk := l1.trans s2.like
  have hd3 : N3.dies = D := hlk.dies
  have hb3 : N3.blocks = B := hlk.blocks
  have hp3 : N3.pages = P := hlk.pages
  have hrows : ∀ b, b < N3.blocks → OneRow N3 b (if b = 4 then rowF 4 (mAll D) (padL (D - 1) [enE 0 1, enE 1 2]) (fun _ => true) else if b = 6 then rowF 6 (mAll D) (padL (D - 1) [enE 1 3, enE 0 4]) (fun k => decide (k < ops)) else []) := fun b hb => by
    by_cases b4 : b = 4
    · subst b4
      rw [if_pos rfl]
      exact o1.same (c1.same s2.calm s2.like fun k => s2.rest k 4 (by decide))
    · rw [if_neg b4]
      by_cases b6 : b = 6
      · subst b6
        rw [if_pos rfl]
        exact s2.row
      · rw [if_neg b6]
        exact one_empty fun k => by rw [s2.rest k b b6, r1 k b b4]; rfl
  have hall : V.all N3 = tornL D ops := by
    rw [all_rows _ (by rw [hp3]; omega) hrows, hb3, flat_46 _ _ B hB.1]
    rfl
  have hlast : ∀ f ∈ tornL D ops, f.whole = false → V.last N3 f = true := fun f hf hw => by
    have key : ∀ (k : Int) l g, f ∈ rowF k (mAll D) l g → f.block = k ∧ f.row = 0 ∧ f.mask = mAll D := fun k l g h => by
      unfold rowF at h
      obtain ⟨x, _, h⟩ := List.mem_filterMap.1 h
      split at h
      · injection h with h
        subst h
        exact ⟨rfl, rfl, rfl⟩
      · cases h
    have hfb : ∃ b : Nat, b < B ∧ f.block = b ∧ f.row = 0 ∧ f.mask = mAll D := by
      rcases List.mem_append.1 hf with hf | hf
      · exact ⟨4, by omega, key _ _ _ hf⟩
      · exact ⟨6, by omega, key _ _ _ hf⟩
    obtain ⟨b, hb, k1, k2, k3⟩ := hfb
    have hpar := all_facts hD (show b < 16 by omega)
    exact V.last_one s2.calm (hrows b (by omega)) (by omega) (by rw [hp3]; omega) k1 k2 (by rw [k3, hd3]; exact ⟨hpar.2.2.1, hpar.2.2.2⟩)
  rw [V.scanT_same hall hlast]
  have hchk := tornChk_all D (by omega) ops (by omega)
  unfold tornChk at hchk
  rw [decide_eq_true hD.1, decide_eq_true ho] at hchk
  simp only [Bool.and_self, Bool.not_true, Bool.false_or, Bool.and_eq_true] at hchk
  obtain ⟨⟨⟨⟨a1, a2⟩, a3⟩, a4⟩, a5⟩ := hchk
  refine ⟨w1, w2, ?_⟩
  cases h1 : Tb.look (V.scanT (tornL D ops) 2).tb.at_ 1 with
  | none => rw [h1] at a1; cases a1
  | some x =>
    cases h0 : Tb.look (V.scanT (tornL D ops) 2).tb.at_ 0 with
    | none => rw [h0] at a2; cases a2
    | some y =>
      rw [h1] at a1
      rw [h0] at a2
      exact ⟨x, y, rfl, rfl, eq_of_beq a1, eq_of_beq a2, eq_of_beq a3, eq_of_beq a4, eq_of_beq a5⟩
/-- two copies of one sequence -/
def likeT (D : Nat) (t : Bool) : Option (Nat × Int) := if t then some (D - 1, 0) else none
def likeL (D : Nat) (t1 t2 : Bool) : List Fnd := rowF 2 (mAll D) (padL (D - 1) [enE 1 9]) (goodB (likeT D t1)) ++ rowF 3 (mAll D) (padL (D - 1) [enE 1 9]) (goodB (likeT D t2))
def likeChk (D : Nat) (t1 t2 : Bool) : Bool := !(decide (3 ≤ D)) ||
  (let S := V.scanT (likeL D t1 t2) 2
   (match Tb.look S.tb.at_ 1 with | some x => x.block == (if t1 && !t2 then 3 else 2) | none => false) && S.pages == 2 && S.torn.length == (if t1 && t2 then 1 else 0) && S.held == [])
theorem likeChk_all : ∀ D, D < 7 → ∀ t1 t2, likeChk D t1 t2 = true := by decide +kernel
theorem like_law {D B P : Nat} (t1 t2 : Bool) (hD : 3 ≤ D ∧ D ≤ 6) (hB : 8 ≤ B ∧ B ≤ 16) (hP : 2 ≤ P ∧ P ≤ 8) (N2 N4 : Nand)
    (e2 : N2 = (R.write (cutB (likeT D t1) (Nand.new D B P)) 2 0 (mAll D) (padL (D - 1) [enE 1 9])).1.onN) (e4 : N4 = (R.write (cutB (likeT D t2) N2) 3 0 (mAll D) (padL (D - 1) [enE 1 9])).1.onN) :
    ∃ x, Tb.look (V.scan N4 2).tb.at_ 1 = some x ∧ x.block = (if t1 && !t2 then 3 else 2) ∧ (V.scan N4 2).pages = 2 ∧ (V.scan N4 2).torn.length = (if t1 && t2 then 1 else 0) ∧ (V.scan N4 2).held = [] := by
  have hA : FitE (enE 1 9) := FitE.mk' (by decide) (by decide)
  have ht : ∀ t x, likeT D t = some x → 0 ≤ x.2 ∧ x.2 < 28 := fun t x h => by
    unfold likeT at h
    split at h
    · injection h with h; subst h; exact ⟨Int.le_refl 0, (by decide : (0 : Int) < 28)⟩
    · cases h
  obtain ⟨w1, w2, c4, l4, hrows, hlast⟩ := two_rows hD hB hP 2 3 (by decide) (by decide) (by decide) (likeT D t1) (likeT D t2) (ht t1) (ht t2) [enE 1 9] [enE 1 9] (one_fit hA) (one_fit hA) (show 1 ≤ D - 1 by omega) (show 1 ≤ D - 1 by omega) N2 N4 e2 e4
  have hall : V.all N4 = likeL D t1 t2 := by
    rw [all_rows _ (by rw [l4.pages]; show 0 < P; omega) (by rw [l4.blocks]; exact hrows), l4.blocks]
    exact flat_23 _ _ B hB.1
  rw [V.scanT_same hall (by rw [← hall]; exact hlast)]
  have hchk := likeChk_all D (by omega) t1 t2
  unfold likeChk at hchk
  rw [decide_eq_true hD.1] at hchk
  simp only [Bool.not_true, Bool.false_or, Bool.and_eq_true] at hchk
  obtain ⟨⟨⟨a1, a2⟩, a3⟩, a4⟩ := hchk
  cases h1 : Tb.look (V.scanT (likeL D t1 t2) 2).tb.at_ 1 with
  | none => rw [h1] at a1; cases a1
  | some x =>
    rw [h1] at a1
    exact ⟨x, rfl, by simpa using a1, eq_of_beq a2, by simpa using a3, eq_of_beq a4⟩
/-- a copy that was torn -/
def copyE (same : Bool) : En := ⟨1, 7, 1, [u8 1, u8 4, 0, 0, 0, if same then 0 else 1, 0, 0, 0, 0, 0, 0, 0, 0, 0, 0]⟩
def copyL (D : Nat) (same : Bool) (n : Nat) : List Fnd := rowF 2 (mAll D) (padL (D - 1) [enE 1 4]) (fun _ => true) ++ rowF 3 (mAll D) (padL (D - 1) [copyE same]) (fun k => decide (k < n))
def copyChk (D : Nat) (same : Bool) (n : Nat) : Bool := !(decide (3 ≤ D) && decide (1 ≤ n) && decide (n < D)) ||
  (let S := V.scanT (copyL D same n) 2
   (match Tb.look S.tb.at_ 1 with | some x => x.block == 3 && x.seq == 7 | none => false) && S.next == 8 && S.torn.length == 1 && S.first == 1 && S.held == [2])
theorem copyChk_all : ∀ D, D < 7 → ∀ same, ∀ n, n < 6 → copyChk D same n = true := by decide +kernel
theorem copyE_fit (same : Bool) : FitE (copyE same) := ⟨by show (0 : Int) ≤ 1 ∧ (1 : Int) ≤ 65535; decide, by show (0 : Int) ≤ 7 ∧ (7 : Int) ≤ 1099511627775; decide, .inl rfl, rfl⟩
set_option maxRecDepth 20000 in
theorem copy_law {D B P n : Nat} (same : Bool) (hD : 3 ≤ D ∧ D ≤ 6) (hB : 8 ≤ B ∧ B ≤ 16) (hP : 2 ≤ P ∧ P ≤ 8) (hn : 1 ≤ n ∧ n < D) (N1 N2 N3 : Nand)
    (e1 : N1 = (R.write (Nand.new D B P) 2 0 (mAll D) (padL (D - 1) [enE 1 4])).1) (e2 : N2 = (R.write (N1.setCut n 0) 3 0 (mAll D) (padL (D - 1) [copyE same])).1) (e3 : N3 = N2.onN) :
    (R.write (Nand.new D B P) 2 0 (mAll D) (padL (D - 1) [enE 1 4])).2.2 = 0 ∧ (R.write (N1.setCut n 0) 3 0 (mAll D) (padL (D - 1) [copyE same])).2.2 = 9 ∧
    ∃ x, Tb.look (V.scan N3 2).tb.at_ 1 = some x ∧ x.block = 3 ∧ x.seq = 7 ∧ (V.scan N3 2).next = 8 ∧ (V.scan N3 2).torn.length = 1 ∧ (V.scan N3 2).first = 1 ∧ (V.scan N3 2).held = [2] := by
  have c0 : (Nand.new D B P).Calm := new_calm D B P
  have fr : ∀ b, Fresh (Nand.new D B P) b := fun b i => ⟨rfl, rfl⟩
  have hA : FitE (enE 1 4) := FitE.mk' (by decide) (by decide)
  have q1 := stage (b := 2) (m := mAll D) (l := padL (D - 1) [enE 1 4]) c0 (fr 2) none (fun x h => by cases h) (fun M hM => rowOk_like (N0 := Nand.new D B P) hM hD hB.2 (show 2 < B by omega) (show 0 < P by omega) (one_fit hA) (show 1 ≤ D - 1 by omega))
  obtain ⟨w1, _⟩ := q1
  obtain ⟨N1', g1, c1, l1, _, r1, o1⟩ := (rowOk_like (N0 := Nand.new D B P) (Nand.Like.refl _) hD hB.2 (show 2 < B by omega) (show 0 < P by omega) (one_fit hA) (show 1 ≤ D - 1 by omega)).write c0 (fr 2)
  have hN1 : N1 = N1' := by rw [e1]; show (R.write (Nand.new D B P) (2 : Nat) 0 (mAll (Nand.new D B P).dies) (padL ((Nand.new D B P).dies - 1) [enE 1 4])).1 = N1'; rw [g1]
  subst hN1
  have q2 := stage (b := 3) (m := mAll D) (l := padL (D - 1) [copyE same]) c1 (fun k => by rw [r1 k 3 (by decide)]; exact fr 3 k) (some (n, 0)) (fun x h => by injection h with h; subst h; exact ⟨Int.le_refl 0, (by decide : (0 : Int) < 28)⟩) (fun M hM => rowOk_like (N0 := Nand.new D B P) (l1.trans hM) hD hB.2 (show 3 < B by omega) (show 0 < P by omega) (one_fit (copyE_fit same)) (show 1 ≤ D - 1 by omega))
  obtain ⟨w2, s2⟩ := q2
  have s2 : Stage N1 N3 3 (rowF 3 (mAll D) (padL (D - 1) [copyE same]) fun k => decide (k < n)) := by rw [e3, e2]; exact s2
  have w2 : (R.write (N1.setCut n 0) 3 0 (mAll D) (padL (D - 1) [copyE same])).2.2 = if n ≤ (padL (D - 1) [copyE same]).length then 9 else 0 := w2
  rw [padL_len (show 1 ≤ D - 1 by omega), if_pos (by omega)] at w2
  have hlk := l1.trans s2.like
  have hd3 : N3.dies = D := hlk.dies
  have hb3 : N3.blocks = B := hlk.blocks
  have hp3 : N3.pages = P := hlk.pages
  have hrows : ∀ b, b < N3.blocks → OneRow N3 b (if b = 2 then rowF 2 (mAll D) (padL (D - 1) [enE 1 4]) (fun _ => true) else if b = 3 then rowF 3 (mAll D) (padL (D - 1) [copyE same]) (fun k => decide (k < n)) else []) := fun b hb => by
    by_cases b4 : b = 2
    · subst b4
      rw [if_pos rfl]
      exact o1.same (c1.same s2.calm s2.like fun k => s2.rest k 2 (by decide))
    · rw [if_neg b4]
      by_cases b6 : b = 3
      · subst b6
        rw [if_pos rfl]
        exact s2.row
      · rw [if_neg b6]
        exact one_empty fun k => by rw [s2.rest k b b6, r1 k b b4]; rfl
  have hall : V.all N3 = copyL D same n := by
    rw [all_rows _ (by rw [hp3]; omega) hrows, hb3, flat_23 _ _ B hB.1]
    rfl
  have hlast : ∀ f ∈ copyL D same n, f.whole = false → V.last N3 f = true := fun f hf hw => by
    have key : ∀ (k : Int) l g, f ∈ rowF k (mAll D) l g → f.block = k ∧ f.row = 0 ∧ f.mask = mAll D := fun k l g h => by
      unfold rowF at h
      obtain ⟨x, _, h⟩ := List.mem_filterMap.1 h
      split at h
      · injection h with h
        subst h
        exact ⟨rfl, rfl, rfl⟩
      · cases h
    have hfb : ∃ b : Nat, b < B ∧ f.block = b ∧ f.row = 0 ∧ f.mask = mAll D := by
      rcases List.mem_append.1 hf with hf | hf
      · exact ⟨2, by omega, key _ _ _ hf⟩
      · exact ⟨3, by omega, key _ _ _ hf⟩
    obtain ⟨b, hb, k1, k2, k3⟩ := hfb
    have hpar := all_facts hD (show b < 16 by omega)
    exact V.last_one s2.calm (hrows b (by omega)) (by omega) (by rw [hp3]; omega) k1 k2 (by rw [k3, hd3]; exact ⟨hpar.2.2.1, hpar.2.2.2⟩)
  rw [V.scanT_same hall hlast]
  have hchk := copyChk_all D (by omega) same n (by omega)
  unfold copyChk at hchk
  rw [decide_eq_true hD.1, decide_eq_true hn.1, decide_eq_true hn.2] at hchk
  simp only [Bool.and_self, Bool.not_true, Bool.false_or, Bool.and_eq_true] at hchk
  obtain ⟨⟨⟨⟨a1, a3⟩, a4⟩, a5⟩, a6⟩ := hchk
  refine ⟨w1, w2, ?_⟩
  cases h1 : Tb.look (V.scanT (copyL D same n) 2).tb.at_ 1 with
  | none => rw [h1] at a1; cases a1
  | some x =>
    rw [h1] at a1
    simp only [Bool.and_eq_true] at a1
    exact ⟨x, rfl, eq_of_beq a1.1, eq_of_beq a1.2, eq_of_beq a3, eq_of_beq a4, eq_of_beq a5, eq_of_beq a6⟩
end Go.Proofs.YtoideahgjgaddaaGreat
