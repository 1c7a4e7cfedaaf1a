/- Helpers of the proofs about ostrakonlaw11, proved here: Srt189, SrtN, PureX, ApO, EnF, Dsk. No condition. -/
import Derived.Test.YtoideahgjgaddaaGreatP05
import Derived.Test.YtoideahgjgaddaaGreatP13
import Derived.Test.YtoideahgjgaddaaGreatP14
import Derived.Test.YtoideahgjgaddaaGreatP15
import Derived.Test.YtoideahgjgaddaaGreatP20
import Derived.Test.YtoideahgjgaddaaGreatP22
import Derived.Shelf.Sort.Plain
set_option linter.unusedVariables false
set_option linter.unusedSimpArgs false
set_option linter.unusedSectionVars false
set_option linter.unnecessarySimpa false
/- The library's slices.Sort[[]int,int] in this program. -/
namespace Go.Proofs.YtoideahgjgaddaaGreat
open Go Go.Shelf
def renn189 : Ren := ⟨fun n => if n = 125 then 97 else if n = 128 then 150 else if n = 129 then 151 else if n = 189 then 48 else if n = 215 then 194 else if n = 216 then 147 else if n = 257 then 96 else if n = 294 then 141 else if n = 295 then 142 else if n = 296 then 143 else if n = 297 then 144 else if n = 298 then 145 else if n = 299 then 146 else if n = 300 then 148 else if n = 301 then 149 else if n = 328 then 189 else if n = 329 then 190 else if n = 330 then 191 else if n = 331 then 192 else if n = 332 then 193 else if n = 343 then 218 else 0, fun n => if n = 0 then 0 else if n = 3 then 3 else if n = 4 then 4 else if n = 5 then 5 else if n = 9 then 9 else if n = 28 then 32 else if n = 46 then 62 else if n = 51 then 195 else if n = 53 then 181 else if n = 131 then 220 else if n = 182 then 215 else if n = 183 then 216 else if n = 218 then 249 else if n = 222 then 247 else if n = 228 then 266 else if n = 229 then 267 else 0, fun n => n⟩
theorem laysn189 : Lays.n189 Tryz.prog renn189 where
  mixed := by kernel_rfl
  f125 := by kernel_rfl
  f128 := by kernel_rfl
  f129 := by kernel_rfl
  f189 := by kernel_rfl
  f215 := by kernel_rfl
  f216 := by kernel_rfl
  f257 := by kernel_rfl
  f294 := by kernel_rfl
  f295 := by kernel_rfl
  f296 := by kernel_rfl
  f297 := by kernel_rfl
  f298 := by kernel_rfl
  f299 := by kernel_rfl
  f300 := by kernel_rfl
  f301 := by kernel_rfl
  f328 := by kernel_rfl
  f329 := by kernel_rfl
  f330 := by kernel_rfl
  f331 := by kernel_rfl
  f332 := by kernel_rfl
  f343 := by kernel_rfl
  t0 := by kernel_rfl
  a0 := fun w => by kernel_rfl
  z0 := fun w => by kernel_rfl
  v0 := fun w => by kernel_rfl
  t3 := by kernel_rfl
  a3 := fun w => by kernel_rfl
  z3 := fun w => by kernel_rfl
  v3 := fun w => by kernel_rfl
  t4 := by kernel_rfl
  a4 := fun w => by kernel_rfl
  z4 := fun w => by kernel_rfl
  v4 := fun w => by kernel_rfl
  t5 := by kernel_rfl
  a5 := fun w => by kernel_rfl
  z5 := fun w => by kernel_rfl
  v5 := fun w => by kernel_rfl
  t9 := by kernel_rfl
  a9 := fun w => by kernel_rfl
  z9 := fun w => by kernel_rfl
  v9 := fun w => by kernel_rfl
  t28 := by kernel_rfl
  a28 := fun w => by kernel_rfl
  z28 := fun w => by kernel_rfl
  v28 := fun w => by kernel_rfl
  t46 := by kernel_rfl
  a46 := fun w => by kernel_rfl
  z46 := fun w => by kernel_rfl
  v46 := fun w => by kernel_rfl
  t51 := by kernel_rfl
  a51 := fun w => by kernel_rfl
  z51 := fun w => by kernel_rfl
  v51 := fun w => by kernel_rfl
  t53 := by kernel_rfl
  a53 := fun w => by kernel_rfl
  z53 := fun w => by kernel_rfl
  v53 := fun w => by kernel_rfl
  t131 := by kernel_rfl
  a131 := fun w => by kernel_rfl
  z131 := fun w => by kernel_rfl
  v131 := fun w => by kernel_rfl
  t182 := by kernel_rfl
  a182 := fun w => by kernel_rfl
  z182 := fun w => by kernel_rfl
  v182 := fun w => by kernel_rfl
  t183 := by kernel_rfl
  a183 := fun w => by kernel_rfl
  z183 := fun w => by kernel_rfl
  v183 := fun w => by kernel_rfl
  t218 := by kernel_rfl
  a218 := fun w => by kernel_rfl
  z218 := fun w => by kernel_rfl
  v218 := fun w => by kernel_rfl
  t222 := by kernel_rfl
  a222 := fun w => by kernel_rfl
  z222 := fun w => by kernel_rfl
  v222 := fun w => by kernel_rfl
  t228 := by kernel_rfl
  a228 := fun w => by kernel_rfl
  z228 := fun w => by kernel_rfl
  v228 := fun w => by kernel_rfl
  t229 := by kernel_rfl
  a229 := fun w => by kernel_rfl
  z229 := fun w => by kernel_rfl
  v229 := fun w => by kernel_rfl
end Go.Proofs.YtoideahgjgaddaaGreat
/- The library's sort of ints, of any length, as a contract. -/
namespace Go.Proofs.YtoideahgjgaddaaGreat
open Go Go.RowKit
def leI (x y : Int) : Bool := decide (x ≤ y)
def sortI (l : List Int) : List Int := l.mergeSort leI
theorem sortI_len (l : List Int) : (sortI l).length = l.length := by rw [sortI, List.length_mergeSort]
theorem holds_own {g n cap : Nat} {l : List Int} {w : World} (hl' : l.length = n) (h : ownP 3 1 (some g) n cap (cellsI l) (hl w)) : Go.Sort.Holds (Value.int .i64) w g 0 l.toArray := by
  obtain ⟨h0, cur, h1, h2, h3, h4, h5⟩ := h
  have h1' : w.heap[g]? = some (.cells cur 3 (0, 0)) := h1
  intro j hj
  have hj' : j < l.length := by simpa using hj
  have hc : cur.toList[j]? = some (.int .i64 l[j]) := by
    have : (cur.toList.take (n * 1))[j]? = (cellsI l)[j]? := by rw [h5]
    rw [List.getElem?_take_of_lt (by omega)] at this
    rw [this, cellsI, List.getElem?_map, List.getElem?_eq_getElem hj']; rfl
  have hg : l.toArray[j]! = l[j] := by simp [hj']
  rw [hg]
  refine ⟨?_, ?_⟩
  · simp only [World.cell?, Nat.zero_add, h1']
    rw [Array.getElem?_toList] at hc
    simp [hc]
  · simp [World.frozen?, h1']
theorem x_SortN (a : Option Nat) (n cap : Nat) (l : List Int) (hl' : l.length = n) (hn : n ≤ 1000000) : Fn Tryz.prog 48 [slv a n cap] [ownA 3 1 a n cap (cellsI l)]
    (fun v As => v = .tuple #[] ∧ As = [ownA 3 1 a n cap (cellsI (sortI l))]) := by
  cases a with
  | none =>
    intro F w s
    have h0 : n = 0 := (s.get (i := 1) rfl).2.1
    subst h0
    have : l = [] := List.eq_nil_of_length_eq_zero hl'
    subst this
    have e : sortI [] = isortL [] := by rw [sortI, List.mergeSort_nil]; rfl
    rw [e]
    exact s_SortInts none 0 cap [] rfl (by omega) F w s
  | some g =>
    intro F w s
    have ho : ownP 3 1 (some g) n cap (cellsI l) (hl w) := s.get (i := 1) rfl
    have hH := holds_own hl' ho
    obtain ⟨h0, cur, h1, h2, h3, h4, h5⟩ := ho
    have h1' : w.heap[g]? = some (.cells cur 3 (0, 0)) := h1
    have hlt : g < w.heap.size := (Array.getElem?_eq_some_iff.1 h1').1
    have hc := Any.slices_Sort_int laysn189 g 0 cap l w hH hlt (by omega)
    subst hl'
    refine Calls.mono hc fun e w' ⟨e1, m, os, e2⟩ => ?_
    subst e1
    have hsz : w.heap.size ≤ w'.heap.size := by rw [e2]; simp [Go.Sort.grow]
    have hother : ∀ k, k < w.heap.size → some k ≠ some g → w'.heap[k]? = w.heap[k]? := fun k hk hne => by
      rw [e2]
      have : g ≠ k := fun e => hne (by rw [e])
      show (w.heap.modify g (Go.Sort.onCells (Go.Sort.putCells (Value.int .i64) 0 (sortI l).toArray)) ++ os)[k]? = _
      rw [Array.getElem?_append_left (by rw [Array.size_modify]; exact hk), Array.getElem?_modify, if_neg this]
    have hthis : w'.heap[g]? = some (.cells (Go.Sort.putCells (Value.int .i64) 0 (sortI l).toArray cur) 3 (0, 0)) := by
      rw [e2]
      show (w.heap.modify g (Go.Sort.onCells (Go.Sort.putCells (Value.int .i64) 0 (sortI l).toArray)) ++ os)[g]? = _
      rw [Array.getElem?_append_left (by rw [Array.size_modify]; exact hlt), Array.getElem?_modify, if_pos rfl, h1']
      rfl
    have hgr : w.grownBy w' (some g) := ⟨by rw [e2]; rfl, by rw [e2]; rfl, by rw [e2]; rfl, hsz, hother⟩
    refine ⟨.tuple #[], _, rfl, ⟨rfl, rfl⟩, ?_, ⟨hgr.os, hgr.tape, hgr.output, hsz⟩⟩
    refine Sep.step s (i := 1) (A := ownA 3 1 (some g) l.length cap (cellsI l)) rfl (x := some g) (x' := some g) (fun h g' hs e => ?_) hgr (.inl rfl) (fun h hh => ?_)
    · injection e with e
      subst e
      obtain ⟨_, cur', q, _⟩ := hs
      exact ⟨_, q⟩
    · refine ⟨by rw [cellsI, List.length_map, sortI_len, Nat.mul_one], _, (hh g rfl).trans hthis, h2, h3, ?_, ?_⟩
      · rw [Go.Sort.putCells, Array.size_mapIdx]; exact h4
      · apply List.ext_getElem?
        intro i
        rw [Nat.mul_one, List.getElem?_take]
        split
        · rename_i hi
          have hi2 : i < (sortI l).length := by rw [sortI_len]; exact hi
          rw [Array.getElem?_toList, Go.Sort.putCells, Array.getElem?_mapIdx, Array.getElem?_eq_getElem (by omega), Option.map_some, if_pos ⟨Nat.zero_le _, by simpa using hi2⟩, cellsI, List.getElem?_map, List.getElem?_eq_getElem hi2]
          simp [hi2]
        · rw [List.getElem?_eq_none (by rw [cellsI, List.length_map, sortI_len]; omega)]
end Go.Proofs.YtoideahgjgaddaaGreat
/- Plain definitions: a whole scan. No program in sight. -/
namespace Go.Proofs.YtoideahgjgaddaaGreat
/-- what a scan tells -/
structure Scd where
  tb : Tb
  torn : List En
  first : Nat
  held : List Int
  next : Int
  pages : Nat
/-- a scan's second half on its way -/
structure Sst where
  tb : Tb
  torn : List En
  held : List Int
  others : List En
namespace V
def nextOf (l : List Fnd) : Int := l.foldl (fun m f => max m (f.en.seq + 1)) 1
/-- one page more -/
def step (N : Nand) (L : List Fnd) (s : Sst) (k : Nat) : Sst :=
  if (standOf (of L k)).2 = true then
    if (standOf (of L k)).1.whole = true then { s with tb := s.tb.put (standOf (of L k)).1.en (standOf (of L k)).1.block (standOf (of L k)).1.row (standOf (of L k)).1.slot (standOf (of L k)).1.mask }
    else if last N (standOf (of L k)).1 = true then ⟨s.tb.put (standOf (of L k)).1.en (standOf (of L k)).1.block (standOf (of L k)).1.row (standOf (of L k)).1.slot (standOf (of L k)).1.mask, s.torn ++ [(standOf (of L k)).1.en], s.held ++ holds (of L k), s.others⟩
    else ⟨s.tb.put (standOf (of L k)).1.en (standOf (of L k)).1.block (standOf (of L k)).1.row (standOf (of L k)).1.slot (standOf (of L k)).1.mask, s.torn, s.held, s.others ++ [(standOf (of L k)).1.en]⟩
  else s
def goS (N : Nand) (L : List Fnd) (n : Int) (k : Nat) : Sst := (List.range k).foldl (step N L) ⟨Tb.new n, [], [], []⟩
def size (n : Int) : Nat := (min (max n 0) 65536).toNat
def scanOf (N : Nand) (L : List Fnd) (n : Int) : Scd := ⟨(goS N L n (size n)).tb, (goS N L n (size n)).torn ++ (goS N L n (size n)).others, (goS N L n (size n)).torn.length, compactI (sortI (goS N L n (size n)).held), nextOf L, L.length⟩
def scan (N : Nand) (n : Int) : Scd := scanOf N (all N) n
theorem goS_succ (N : Nand) (L : List Fnd) (n : Int) (k : Nat) : goS N L n (k + 1) = step N L (goS N L n k) k := by unfold goS; rw [List.range_succ, List.foldl_append]; rfl
theorem step_tb (N : Nand) (L : List Fnd) (s : Sst) (k : Nat) : (step N L s k).tb = s.tb ∨ (standOf (of L k)).2 = true ∧ (step N L s k).tb = s.tb.put (standOf (of L k)).1.en (standOf (of L k)).1.block (standOf (of L k)).1.row (standOf (of L k)).1.slot (standOf (of L k)).1.mask := by
  unfold step
  split
  · right
    rename_i h
    refine ⟨h, ?_⟩
    split
    · rfl
    · split <;> rfl
  · left; rfl
theorem goS_ok (N : Nand) (L : List Fnd) (n : Int) : ∀ k, (goS N L n k).tb.Ok
  | 0 => Tb.Ok.new n
  | k + 1 => by
    rw [goS_succ]
    rcases step_tb N L (goS N L n k) k with h | ⟨_, h⟩
    · rw [h]; exact goS_ok N L n k
    · rw [h]; exact (goS_ok N L n k).put _ _ _ _ _
theorem goS_log (N : Nand) (L : List Fnd) (n : Int) : ∀ k, (goS N L n k).tb.logical = min (max n 0) 65536
  | 0 => rfl
  | k + 1 => by
    rw [goS_succ]
    rcases step_tb N L (goS N L n k) k with h | ⟨_, h⟩
    · rw [h]; exact goS_log N L n k
    · rw [h, Tb.put_logical]; exact goS_log N L n k
/-- lengths stay small -/
theorem tops_mem {l : List Fnd} {f : Fnd} : f ∈ tops l → f ∈ l := by
  have : ∀ k, k ≤ l.length → ∀ f ∈ tops (l.take k), f ∈ l := by
    intro k
    induction k with
    | zero => intro _ f hf; simp [tops] at hf
    | succ k ih =>
      intro hk f hf
      rw [tops_succ (List.getElem?_eq_getElem (by omega))] at hf
      have ih := ih (by omega)
      have hx : l[k] ∈ l := List.getElem_mem _
      revert hf ih
      generalize tops (l.take k) = o
      intro hf ih
      cases o with
      | nil => simp [topsStep] at hf; rw [hf]; exact hx
      | cons h t =>
        simp only [topsStep] at hf
        split at hf
        · simp at hf; rw [hf]; exact hx
        · split at hf
          · exact ih f hf
          · rw [List.mem_append] at hf
            rcases hf with hf | hf
            · exact ih f hf
            · simp at hf; rw [hf]; exact hx
  intro h
  refine this l.length (Nat.le_refl _) f ?_
  rwa [List.take_length]
theorem standOf_mem {l : List Fnd} (h : (standOf l).2 = true) : (standOf l).1 ∈ l := by
  have hm : ∀ f, f ∈ tops l → f ∈ l := fun f => tops_mem
  revert h
  unfold standOf
  cases ht : tops l with
  | nil => intro h; cases h
  | cons f o => intro _; exact hm f (by rw [ht]; exact List.mem_cons_self ..)
theorem of_len (L : List Fnd) (k : Int) : (of L k).length ≤ L.length := List.length_filter_le _ _
theorem holds_len (l : List Fnd) : (holds l).length ≤ l.length := by
  unfold holds
  rw [List.length_map]
  exact Nat.le_trans (tops_len _) (List.length_filter_le _ _)
/-- each found one is of one page alone -/
theorem of_sum (L : List Fnd) : ∀ k, ((List.range k).map fun i : Nat => (of L (i : Int)).length).sum ≤ L.length := by
  intro k
  induction L with
  | nil =>
    have : ∀ k : Nat, ((List.range k).map fun i : Nat => (of [] (i : Int)).length).sum = 0 := fun k => by
      induction k with
      | zero => rfl
      | succ k ih => rw [List.range_succ, List.map_append, List.sum_append, ih]; rfl
    rw [this]; exact Nat.zero_le _
  | cons x L ih =>
    have h1 : ∀ i : Nat, (of (x :: L) (i : Int)).length = (of L (i : Int)).length + (if x.en.lpn = (i : Int) then 1 else 0) := by
      intro i
      unfold of
      rw [List.filter_cons]
      split
      · rename_i h; simp only [beq_iff_eq] at h; rw [if_pos h, List.length_cons]
      · rename_i h; simp only [beq_iff_eq] at h; rw [if_neg h]; rfl
    have h2 : ∀ k, ((List.range k).map fun i : Nat => (of (x :: L) (i : Int)).length).sum ≤ ((List.range k).map fun i : Nat => (of L (i : Int)).length).sum + (if 0 ≤ x.en.lpn ∧ x.en.lpn < (k : Int) then 1 else 0) := by
      intro k
      induction k with
      | zero => simp
      | succ k ih =>
        rw [List.range_succ, List.map_append, List.sum_append, List.map_append, List.sum_append]
        simp only [List.map_cons, List.map_nil, List.sum_cons, List.sum_nil, Nat.add_zero]
        rw [h1]
        split at ih <;> split <;> split <;> omega
    have := h2 k
    rw [List.length_cons]
    split at this <;> omega
theorem goS_len (N : Nand) (L : List Fnd) (n : Int) : ∀ k, (goS N L n k).torn.length ≤ k ∧ (goS N L n k).others.length ≤ k ∧ (goS N L n k).held.length ≤ ((List.range k).map fun i : Nat => (of L (i : Int)).length).sum
  | 0 => by simp [goS]
  | k + 1 => by
    have ih := goS_len N L n k
    have hh := holds_len (of L k)
    rw [goS_succ, List.range_succ, List.map_append, List.sum_append]
    simp only [List.map_cons, List.map_nil, List.sum_cons, List.sum_nil, Nat.add_zero]
    unfold step
    split
    · split
      · dsimp only; omega
      · split
        · simp only [List.length_append, List.length_cons, List.length_nil]; omega
        · simp only [List.length_append, List.length_cons, List.length_nil]; omega
    · omega
theorem goS_held (N : Nand) (L : List Fnd) (n : Int) (k : Nat) : (goS N L n k).held.length ≤ L.length := Nat.le_trans (goS_len N L n k).2.2 (of_sum L k)
theorem nextOf_snoc (l : List Fnd) (f : Fnd) : nextOf (l ++ [f]) = max (nextOf l) (f.en.seq + 1) := by unfold nextOf; rw [List.foldl_append]; rfl
theorem of_snoc (l : List Fnd) (f : Fnd) (k : Int) : of (l ++ [f]) k = if f.en.lpn = k then of l k ++ [f] else of l k := by
  unfold of
  rw [List.filter_append, List.filter_cons]
  by_cases h : f.en.lpn = k
  · rw [if_pos h, if_pos (by simpa using h)]; rfl
  · rw [if_neg h, if_neg (by simpa using h)]; simp
/-- what was found ahead of a block, of a row, of one in a row -/
def upB (N : Nand) (b : Nat) : List Fnd := (List.range b).flatMap fun b => (List.range N.pages).flatMap fun r => R.all N (b : Nat) (r : Nat)
def upR (N : Nand) (b r : Nat) : List Fnd := upB N b ++ (List.range r).flatMap fun r => R.all N (b : Nat) (r : Nat)
def upI (N : Nand) (b r i : Nat) : List Fnd := upR N b r ++ (R.all N (b : Nat) (r : Nat)).take i
theorem upR_zero (N : Nand) (b : Nat) : upR N b 0 = upB N b := by simp [upR]
theorem upI_zero (N : Nand) (b r : Nat) : upI N b r 0 = upR N b r := by simp [upI]
theorem upR_succ (N : Nand) (b r : Nat) : upR N b (r + 1) = upI N b r (R.all N (b : Nat) (r : Nat)).length := by
  unfold upI upR
  rw [List.take_length, List.range_succ, List.flatMap_append, List.append_assoc]; simp
theorem upB_succ (N : Nand) (b : Nat) : upB N (b + 1) = upR N b N.pages := by
  unfold upR upB
  rw [List.range_succ, List.flatMap_append]; simp
theorem upB_all (N : Nand) : upB N N.blocks = all N := rfl
theorem upI_succ {N : Nand} {b r i : Nat} {x : Fnd} (h : (R.all N (b : Nat) (r : Nat))[i]? = some x) : upI N b r (i + 1) = upI N b r i ++ [x] := by
  unfold upI
  rw [List.take_add_one, h, Option.toList_some, List.append_assoc]
theorem nextOf_bd {l : List Fnd} (h : ∀ f ∈ l, EnBd f.en) : 1 ≤ nextOf l ∧ nextOf l ≤ 1099511627776 := by
  have : ∀ (l : List Fnd) (m : Int), (∀ f ∈ l, EnBd f.en) → 1 ≤ m → m ≤ 1099511627776 → 1 ≤ l.foldl (fun m f => max m (f.en.seq + 1)) m ∧ l.foldl (fun m f => max m (f.en.seq + 1)) m ≤ 1099511627776 := by
    intro l
    induction l with
    | nil => intro m _ h1 h2; exact ⟨h1, h2⟩
    | cons x l ih =>
      intro m hl h1 h2
      have := hl x (List.mem_cons_self ..)
      unfold EnBd at this
      exact ih (max m (x.en.seq + 1)) (fun f hf => hl f (List.mem_cons_of_mem _ hf)) (by omega) (by omega)
  exact this l 1 h (by omega) (by omega)
end V
end Go.Proofs.YtoideahgjgaddaaGreat
/- append of an owned slice, which may be nil. -/
namespace Go.Proofs.YtoideahgjgaddaaGreat
open Go Go.RowKit
section
variable {X : Cx} {P : Program} {K : List KI} {E : Env} {L : List Atom} {N : Nat} {F : HP} {Post : Value → List Atom → Prop} {rs : List ResultVar} {T : Tab}
theorem append_none_run (hT : TabOK P T) {o : Oper} {x y : Operand} {st e size by_ ks tgs ky tgy : Nat} {gs gy : G} {a : Option Nat} {n cap : Nat} {xs : List Value} {s1 b1 : Nat} {z1 : List Value} {ac : Act} {w : World} {NN : Nat}
    (hop : o.op = .call ⟨.builtin .append, #[x, y], #[st, st]⟩) (hx : ev E x = some ⟨ks, slv a n cap, tgs, gs⟩) (hvx : gs.on = true) (hy : ev E y = some ⟨ky, .slice none 0 0, tgy, gy⟩) (hvy : gy.on = true) (hen : EnvOK NN E ac)
    (hst : T.get st = some ⟨.slice e size, s1, z1, b1⟩) {td : TD} {z : List Value} (he : T.get e = some ⟨td, size, z, by_⟩) (hown : ownP e size a n cap xs (hl w)) :
    (execOp ac.eval o).run P w = .ok (.value (slv a n cap)) w := by
  obtain ⟨d, f, zv, ok⟩ := tiOf_spec (hT.get hst)
  obtain ⟨fe, rfl, g1, g2⟩ := ok.slice rfl
  obtain ⟨d', f', zv', ok'⟩ := tiOf_spec (hT.get he)
  have hf : fe = f' := by have := g1.symm.trans ok'.hf; injection this
  subst hf
  have ex := ev_spec hen hx
  have ey := ev_spec hen hy
  simp only [Slot.val, hvx, hvy] at ex ey
  have hr := run_append_owned_none (P := P) w 0 st o.type e fe size ok.hd ok'.hf _ n xs (ownP_row hown)
  simp only [execOp, hop, resolve, Sem.run_bind, Sem.run_pure, Result.andThen_ok, invoke, builtin, List.map_toArray, List.map_cons, List.map_nil, ex, ey, hr]
theorem J.appendO (hX : IsCx X P rs N F Post) (hT : TabOK P T) {ops : Array Oper} {C : Cl} {lt : Bool} {i : Nat} {t : PT} {o : Oper} {x y : Operand} {st e size by_ : Nat} {ks tgs : Nat} {gs : G} {a : Option Nat} {n cap : Nat} {xs : List Value} {ky tgy : Nat} {gy : G} {ay : Option Nat} {m cy : Nat} {cs : List Value} {s1 b1 : Nat} {z1 : List Value} {E' : Value → Env} (is iy : Nat)
    (ho : lget ops.toList i = some o) (hg : gd ops.toList E o = some .tt) (hop : o.op = .call ⟨.builtin .append, #[x, y], #[st, st]⟩)
    (hx : ev E x = some ⟨ks, slv a n cap, tgs, gs⟩) (hvx : gs.on = true) (hy : ev E y = some ⟨ky, slv ay m cy, tgy, gy⟩) (hvy : gy.on = true)
    (hLs : lget L is = some (ownA e size a n cap xs)) (hLy : lget L iy = some (ownA e size ay m cy cs)) (hst : T.get st = some ⟨.slice e size, s1, z1, b1⟩) {td : TD} {z : List Value} (he : T.get e = some ⟨td, size, z, by_⟩) (hz : Nat.beq z.length size = true)
    (hsz : Nat.blt 0 size = true) (h1 : ∀ u ∈ cs, u.oneCell' = true) (h63 : n + m ≤ maxLen) (hbytes : (n + m) * by_ ≤ 140737488355328)
    (hd : ∀ v, putE N o.dst v 0 .tt E = some (E' v))
    (hJ : ∀ a' cap', ∃ L', lset L is (ownA e size a' (n + m) cap' (xs ++ cs)) = some L' ∧ Conj (staysL lt C L') ∧ J X (.reg ops C t :: K) (E' (slv a' (n + m) cap')) L') : J X (.reg ops C (.alt lt i t .non) :: K) E L := by
  cases ay with
  | some b => exact J.appendR hX hT (oo := 0) is iy 0 ho hg rfl hop hx hvx hy hvy hLs hLy (own_rd _ _ (some b) _ _ _) hst he hz hsz h1 h63 hbytes hd hJ
  | none =>
    rw [lget_eq] at hLs hLy
    refine J.know (p := cs.length = m * size ∧ m = 0 ∧ cy = 0) (fun h s => (show ownP e size none m cy cs h from s.get hLy)) fun hk => ?_
    obtain ⟨q1, rfl, rfl⟩ := hk
    have hcs : cs = [] := List.eq_nil_of_length_eq_zero (by rw [q1, Nat.zero_mul])
    subst hcs
    obtain ⟨L', e1, e2, e3⟩ := hJ a cap
    rw [Nat.add_zero, List.append_nil] at e1
    rw [Nat.add_zero] at e3
    have hL : L' = L := by
      rw [lset_eq e1]
      apply List.ext_getElem?
      intro j
      rw [List.getElem?_set]
      split
      · rename_i e; subst e; split
        · exact hLs.symm
        · rename_i e4; rw [List.getElem?_eq_none (by omega)]
      · rfl
    subst hL
    exact J.val hX (slv a n cap) 0 ho hg (fun _ ac w hen hs => append_none_run hT hop hx hvx hy hvy hen hst he (show ownP e size a n cap xs (hl w) from hs.get hLs)) (hd _) e2 e3
end
end Go.Proofs.YtoideahgjgaddaaGreat
/- Walks: the library's functions over entries: IndexFunc, ContainsFunc, Clone, DeleteFunc. -/
namespace Go.Proofs.YtoideahgjgaddaaGreat
open Go Go.RowKit
theorem cellsE_set : ∀ (l : List En) (r : List Value) (k : Nat) (x : En), k < l.length → (cellsE l ++ r).take (k * 19) ++ enL x ++ (cellsE l ++ r).drop (k * 19 + 19) = cellsE (l.set k x) ++ r
  | [], _, _, _, h => by simp at h
  | y :: l, r, 0, x, h => by simp [cellsE, enL]
  | y :: l, r, k + 1, x, h => by
    have := cellsE_set l r k x (by simpa using h)
    have hy : (enL y).length = 19 := rfl
    have e1 : cellsE (y :: l) ++ r = enL y ++ (cellsE l ++ r) := by simp [cellsE]
    have e2 : cellsE ((y :: l).set (k + 1) x) ++ r = enL y ++ (cellsE (l.set k x) ++ r) := by simp [cellsE]
    rw [e1, e2, ← this, show (k + 1) * 19 = (enL y).length + k * 19 from by omega, List.take_length_add_append, show (enL y).length + k * 19 + 19 = (enL y).length + (k * 19 + 19) from by omega, ← List.drop_drop, List.drop_left' rfl]
    simp only [List.append_assoc]
theorem cellsE_len : ∀ l : List En, (cellsE l).length = l.length * 19
  | [] => rfl
  | x :: l => by
    have := cellsE_len l
    have e1 : cellsE (x :: l) = enL x ++ cellsE l := by simp [cellsE]
    have hy : (enL x).length = 19 := rfl
    rw [e1, List.length_append, this, hy, List.length_cons]; omega
def idxE (p : En → Bool) (l : List En) : Int := match l.findIdx? p with
  | some k => k
  | none => -1
theorem idxE_step {p : En → Bool} {l : List En} {k : Nat} {x : En} (h : l[k]? = some x) (h0 : ∀ i < k, p (l.getD i En.zero) = false) (hp : p x = true) : l.findIdx? p = some k := by
  rw [List.findIdx?_eq_some_iff_getElem]
  obtain ⟨h1, h2⟩ := List.getElem?_eq_some_iff.1 h
  refine ⟨h1, by rw [h2]; exact hp, fun j hj => ?_⟩
  have := h0 j hj
  rw [List.getD_eq_getElem?_getD, List.getElem?_eq_getElem (by omega), Option.getD_some] at this
  simp [this]
theorem idxE_none {p : En → Bool} {l : List En} (h0 : ∀ i < l.length, p (l.getD i En.zero) = false) : l.findIdx? p = none := by
  rw [List.findIdx?_eq_none_iff]
  intro x hx
  obtain ⟨i, hi, rfl⟩ := List.mem_iff_getElem.1 hx
  have := h0 i hi
  rwa [List.getD_eq_getElem?_getD, List.getElem?_eq_getElem hi, Option.getD_some] at this
theorem idxE_any (p : En → Bool) (l : List En) : decide (idxE p l ≥ 0) = l.any p := by
  unfold idxE
  cases h : l.findIdx? p with
  | none =>
    rw [List.findIdx?_eq_none_iff] at h
    have : l.any p = false := by rw [List.any_eq_false]; exact fun x hx => by simp [h x hx]
    rw [this]; rfl
  | some k =>
    rw [List.findIdx?_eq_some_iff_getElem] at h
    obtain ⟨h1, h2, _⟩ := h
    have : l.any p = true := List.any_eq_true.2 ⟨l[k], List.getElem_mem _, h2⟩
    rw [this]; simp
theorem x_IndexE (c : Nat) (cs : List Value) (p : En → Bool) (A : Atom) (hcal : callable Tryz.prog c = true) (l : List En) (hf : ∀ x ∈ l, Fn Tryz.prog c (enV x :: cs) [A] (fun v As => v = .bool (p x) ∧ As = [A]))
    (a : Option Nat) (n cap : Nat) (hl : l.length = n) (hn : n ≤ 4611686018427387904) : Fn Tryz.prog 75 [slv a n cap, fnC c cs] [ownA 45 19 a n cap (cellsE l), A]
    (fun v As => v = .int .i64 (idxE p l) ∧ As = [ownA 45 19 a n cap (cellsE l), A]) := by
  refine Fn.enter [0, 0] Tryz.func75 rfl rfl rfl fun X F hX => ?_
  refine J.r hX tab_ok 400 (fun _ => rfl) fun b1 => ?_
  refine J.r hX tab_ok 400 (fun _ => rfl) fun b2 => ?_
  refine J.lo (α := Nat) (fun k => k ≤ n ∧ ∀ i < k, p (l.getD i En.zero) = false) (fun k => [⟨8, .int .i64 k, 0, .tt⟩, ⟨7, .int .i64 n, 0, .tt⟩, ⟨0, slv a n cap, 0, .tt⟩, ⟨1, fnC c cs, 0, .tt⟩]) [] (fun k => []) (fun k => n - k) (0) (⟨by omega, by omega⟩) rfl ?_ (fun _ => rfl) fun k hI => ?_
  · rfl
  refine J.r hX tab_ok 400 (fun _ => rfl) fun b3 => ?_
  refine J.cond rfl (fun h1 => ?_) (fun h1 => ?_)
  · simp only [decide_eq_true_eq, Int.ofNat_lt] at h1
    cases a with
    | none =>
      refine J.know (fun h' s => (s.get (i := 1) rfl).2.1) fun hn0 => ?_
      omega
    | some g =>
      have hk : l[k]? = some (l.getD k En.zero) := by rw [List.getD_eq_getElem?_getD, List.getElem?_eq_getElem (by omega), Option.getD_some]
      refine J.r hX tab_ok 400 (fun _ => rfl) fun b4 => ?_
      refine J.val hX (enV (l.getD k En.zero)) 0 rfl rfl (fun hg a w he hs => ?_) rfl trivial ?_
      · exact ownN_run tab_ok rfl rfl he rfl rfl rfl (hs.get (i := 1) rfl) (by rw [show 0 + (k : Int).toNat * 19 = k * 19 from by omega]; have := cellsE_at l [] k _ hk; rwa [List.append_nil] at this) rfl
      refine J.r hX tab_ok 400 (fun _ => rfl) fun b5 => ?_
      refine J.call hX hcal (hf (l.getD k En.zero) (List.mem_of_getElem? hk)) [2] 0 rfl rfl rfl rfl (by (repeat' (first | exact Conj.nil | refine Conj.cons ?_ ?_ | omega | exact hq0 | (simpa using hq0) | (exact fun h => h) | exact rfl | (intro hq; have hq0 := hq; try simp only [Bool.and_eq_true, Bool.or_eq_true, decide_eq_true_eq, Bool.not_eq_true', decide_eq_false_iff_not] at hq) | (simp; done) | (simp; omega) | decide))) rfl rfl (fun _ => rfl) ?_
      rintro v As ⟨rfl, rfl⟩
      refine ⟨_, rfl, trivial, ?_⟩
      refine J.r hX tab_ok 400 (fun _ => rfl) fun b6 => ?_
      refine J.cond rfl (fun h2 => ?_) (fun h2 => ?_)
      · refine J.r hX tab_ok 400 (fun _ => rfl) fun b7 => ?_
        refine J.rt hX tab_ok [1, 2] rfl rfl rfl ?_
        exact ⟨by rw [idxE, idxE_step hk hI.2 h2], rfl⟩
      · refine J.r hX tab_ok 400 (fun _ => rfl) fun b8 => ?_
        refine J.nx (k + 1) (⟨by omega, fun i hi => by
          rcases Nat.lt_succ_iff_lt_or_eq.1 hi with h3 | h3
          · exact hI.2 i h3
          · rw [h3]; exact h2⟩) (by omega) (fun _ s => s)
  · simp only [decide_eq_false_iff_not, Int.ofNat_lt] at h1
    refine J.r hX tab_ok 400 (fun _ => rfl) fun b9 => ?_
    refine J.rt hX tab_ok [1, 2] rfl rfl rfl ?_
    exact ⟨by rw [idxE, idxE_none (fun i hi => hI.2 i (by omega))], rfl⟩
theorem cellsE_one (l : List En) : ∀ u ∈ cellsE l, u.oneCell' = true := by
  intro u hu
  simp only [cellsE, List.mem_flatMap] at hu
  obtain ⟨s, _, hu⟩ := hu
  simp only [enL, List.mem_cons, List.not_mem_nil, or_false] at hu
  rcases hu with rfl | rfl | rfl | rfl | rfl | rfl | rfl | rfl | rfl | rfl | rfl | rfl | rfl | rfl | rfl | rfl | rfl | rfl | rfl <;> rfl
/-- what is left of a deletion: so much is done -/
def DelE (p : En → Bool) (l m : List En) (i j : Nat) : Prop := m.length = l.length ∧ i < j ∧ j ≤ l.length ∧ m.drop j = l.drop j ∧ m.take i ++ (l.drop j).filter (fun x => !p x) = l.filter (fun x => !p x)
theorem DelE.start {p : En → Bool} {l : List En} {k : Nat} (h : l.findIdx? p = some k) : DelE p l l k (k + 1) := by
  rw [List.findIdx?_eq_some_iff_getElem] at h
  obtain ⟨h1, h2, h3⟩ := h
  refine ⟨rfl, by omega, by omega, rfl, ?_⟩
  have e : l = l.take k ++ l[k] :: l.drop (k + 1) := by rw [← List.drop_eq_getElem_cons h1, List.take_append_drop]
  have e2 : (l.take k).filter (fun x => !p x) = l.take k := by
    rw [List.filter_eq_self]
    intro x hx
    obtain ⟨i, hi, rfl⟩ := List.mem_iff_getElem.1 hx
    rw [List.getElem_take]
    have := h3 i (by simp at hi; omega)
    simpa using this
  conv => rhs; rw [e]
  rw [List.filter_append, e2, List.filter_cons_of_neg (by simp [h2])]
theorem DelE.skip {p : En → Bool} {l m : List En} {i j : Nat} (h : DelE p l m i j) (hj : j < l.length) (hp : p (m.getD j En.zero) = true) : DelE p l m i (j + 1) := by
  obtain ⟨h1, h2, h3, h4, h5⟩ := h
  have e1 : m[j]? = l[j]? := by have := congrArg (fun z => z[0]?) h4; simpa using this
  have hx : l[j] = m.getD j En.zero := by rw [List.getD_eq_getElem?_getD, e1, List.getElem?_eq_getElem hj, Option.getD_some]
  refine ⟨h1, by omega, by omega, ?_, ?_⟩
  · have := congrArg (List.drop 1) h4
    simpa [List.drop_drop] using this
  · rw [← h5, List.drop_eq_getElem_cons hj, List.filter_cons_of_neg (by rw [hx, hp]; simp)]
theorem DelE.keep {p : En → Bool} {l m : List En} {i j : Nat} (h : DelE p l m i j) (hj : j < l.length) (hp : p (m.getD j En.zero) = false) : DelE p l (m.set i (m.getD j En.zero)) (i + 1) (j + 1) := by
  obtain ⟨h1, h2, h3, h4, h5⟩ := h
  have e1 : m[j]? = l[j]? := by have := congrArg (fun z => z[0]?) h4; simpa using this
  have hx : l[j] = m.getD j En.zero := by rw [List.getD_eq_getElem?_getD, e1, List.getElem?_eq_getElem hj, Option.getD_some]
  refine ⟨by simp [h1], by omega, by omega, ?_, ?_⟩
  · rw [List.drop_set_of_lt (by omega)]
    have := congrArg (List.drop 1) h4
    simpa [List.drop_drop] using this
  · rw [← h5, List.drop_eq_getElem_cons hj, List.filter_cons_of_pos (by rw [hx, hp]; simp), hx, List.take_set, List.take_add_one, List.getElem?_eq_getElem (by omega)]
    rw [List.set_append_right _ _ (by simp; omega)]
    simp [List.length_take, Nat.min_eq_left (show i ≤ m.length by omega)]
theorem x_DeleteE (c : Nat) (cs : List Value) (p : En → Bool) (A : Atom) (hcal : callable Tryz.prog c = true) (hf : ∀ x, Fn Tryz.prog c (enV x :: cs) [A] (fun v As => v = .bool (p x) ∧ As = [A]))
    (a : Option Nat) (n cap : Nat) (l : List En) (hl : l.length = n) (hn : n ≤ 4611686018427387904) : Fn Tryz.prog 71 [slv a n cap, fnC c cs] [ownA 45 19 a n cap (cellsE l), A]
    (fun v As => ∃ l', l' = l.filter (fun x => !p x) ∧ v = slv a l'.length cap ∧ As = [ownA 45 19 a l'.length cap (cellsE l'), A]) := by
  refine Fn.enter [0, 0] Tryz.func71 rfl rfl rfl fun X F hX => ?_
  refine J.r hX tab_ok 400 (fun _ => rfl) fun b18 => ?_
  refine J.r hX tab_ok 400 (fun _ => rfl) fun b19 => ?_
  refine J.ca hX (by kernel_rfl) (x_IndexE c cs p A hcal l (fun x _ => hf x) a n cap hl hn) [1, 2] 0 rfl rfl rfl rfl rfl rfl (fun _ => rfl) ?_
  rintro v As ⟨rfl, rfl⟩
  refine ⟨_, rfl, trivial, ?_⟩
  rw [idxE]
  cases hx : l.findIdx? p with
  | none =>
    dsimp only
    refine J.r hX tab_ok 400 (fun _ => rfl) fun b20 => ?_
    refine J.cond rfl (fun _ => ?_) (fun h => by simp at h)
    refine J.r hX tab_ok 400 (fun _ => rfl) fun b21 => ?_
    refine J.rt hX tab_ok [1, 2] rfl rfl rfl ?_
    have : l.filter (fun x => !p x) = l := by
      rw [List.filter_eq_self]
      intro x hm
      rw [List.findIdx?_eq_none_iff] at hx
      simp [hx x hm]
    exact ⟨l, this.symm, by rw [hl], by rw [hl]; rfl⟩
  | some k =>
    dsimp only
    refine J.r hX tab_ok 400 (fun _ => rfl) fun b22 => ?_
    refine J.cond rfl (fun h0 => ?_) (fun h0 => ?_)
    · simp only [beq_iff_eq] at h0; omega
    have hk : k < n := by rw [List.findIdx?_eq_some_iff_getElem] at hx; obtain ⟨h1, _⟩ := hx; omega
    cases a with
    | none =>
      refine J.know (fun h' s => (s.get (i := 1) rfl).2.1) fun hn0 => ?_
      omega
    | some g =>
      refine J.openOwn 1 rfl rfl (fun _ => rfl) fun r q1 q2 q3 q4 => ?_
      refine J.r hX tab_ok 400 (fun _ => rfl) fun b23 => ?_
      rw [show (k : Int) + 1 = ((k + 1 : Nat) : Int) from by omega]
      refine J.r hX tab_ok 400 (fun _ => rfl) fun b24 => ?_
      refine J.lo (α := (Nat × Nat × List En)) (fun x => DelE p l x.2.2 x.1 x.2.1) (fun x => [⟨6, .int .i64 x.2.1, 0, .tt⟩, ⟨5, .int .i64 x.1, 0, .tt⟩, ⟨0, slv (some g) n cap, 0, .tt⟩, ⟨1, fnC c cs, 0, .tt⟩]) [1] (fun x => [.pt g 45 (cellsE x.2.2 ++ r)]) (fun x => n - x.2.1) ((k, k + 1, l)) (DelE.start hx) rfl ?_ (fun _ => rfl) fun x hI => ?_
      · rfl
      obtain ⟨i, j, m⟩ := x
      dsimp only at hI ⊢
      have hml : m.length = n := hI.1.trans hl
      have hij : i < j := hI.2.1
      have hjn : j ≤ n := by have := hI.2.2.1; omega
      refine J.r hX tab_ok 400 (fun _ => rfl) fun b25 => ?_
      refine J.cond rfl (fun h1 => ?_) (fun h1 => ?_)
      · simp only [decide_eq_true_eq, Int.ofNat_lt] at h1
        have hget : m[j]? = some (m.getD j En.zero) := by rw [List.getD_eq_getElem?_getD, List.getElem?_eq_getElem (by omega), Option.getD_some]
        refine J.r hX tab_ok 400 (fun _ => rfl) fun b26 => ?_
        refine J.val hX (enV (m.getD j En.zero)) 0 rfl rfl (fun hg a w he hs => ?_) rfl trivial ?_
        · exact loadN_run tab_ok rfl rfl he rfl rfl rfl (hs.get (i := 1) rfl) (by rw [show 0 + (j : Int).toNat * 19 = j * 19 from by omega]; exact cellsE_at m r _ _ hget) rfl
        refine J.r hX tab_ok 400 (fun _ => rfl) fun b27 => ?_
        refine J.call hX hcal (hf (m.getD j En.zero)) [2] 0 rfl rfl rfl rfl (by (repeat' (first | exact Conj.nil | refine Conj.cons ?_ ?_ | omega | exact hq0 | (simpa using hq0) | (exact fun h => h) | exact rfl | (intro hq; have hq0 := hq; try simp only [Bool.and_eq_true, Bool.or_eq_true, decide_eq_true_eq, Bool.not_eq_true', decide_eq_false_iff_not] at hq) | (simp; done) | (simp; omega) | decide))) rfl rfl (fun _ => rfl) ?_
        rintro v As ⟨rfl, rfl⟩
        refine ⟨_, rfl, trivial, ?_⟩
        refine J.r hX tab_ok 400 (fun _ => rfl) fun b28 => ?_
        refine J.cond rfl (fun h2 => ?_) (fun h2 => ?_)
        · simp only [Bool.not_eq_true'] at h2
          refine J.r hX tab_ok 400 (fun _ => rfl) fun b29 => ?_
          refine J.storeN hX tab_ok 1 rfl rfl rfl rfl rfl rfl rfl rfl rfl rfl rfl rfl rfl ?_ (cellsE (m.set i (m.getD j En.zero)) ++ r) ?_ rfl (fun _ => rfl) ⟨trivial, ?_⟩
          · rw [List.length_append, cellsE_len]; show 0 + (i : Int).toNat * 19 + 19 ≤ _; omega
          · rw [show 0 + (i : Int).toNat * 19 = i * 19 from by omega]; exact cellsE_set m r i _ (by omega)
          refine J.r hX tab_ok 400 (fun _ => rfl) fun b30 => ?_
          refine J.nS ((i + 1, j + 1, m.set i (m.getD j En.zero))) (hI.keep (by omega) h2) (by dsimp only; omega) [0, 1, 2] rfl rfl
        · simp only [Bool.not_eq_false'] at h2
          refine J.r hX tab_ok 400 (fun _ => rfl) fun b31 => ?_
          refine J.nS ((i, j + 1, m)) (hI.skip (by omega) h2) (by dsimp only; omega) [0, 1, 2] rfl rfl
      · simp only [decide_eq_false_iff_not, Int.ofNat_lt] at h1
        obtain rfl : j = n := by omega
        have hfil : m.take i = l.filter (fun x => !p x) := by
          have h5 := hI.2.2.2.2
          rw [List.drop_of_length_le (by omega)] at h5
          simpa using h5
        refine J.r hX tab_ok 400 (fun _ => rfl) fun b32 => ?_
        refine J.clear hX tab_ok 1 rfl rfl rfl rfl rfl rfl rfl rfl rfl rfl rfl ?_ (fun _ => rfl) (fun _ => rfl) fun cs' z1 z2 => ⟨trivial, ?_⟩
        · rw [List.length_append, cellsE_len]; rw [cellsE_len] at q4
          show 0 + (i : Int).toNat * 19 + (j - (i : Int).toNat) * 19 ≤ _
          have : (i : Int).toNat = i := by omega
          rw [this]; omega
        have hilen : (l.filter (fun x => !p x)).length = i := by rw [← hfil, List.length_take]; omega
        refine J.closeOwn (e := 45) (size := 19) (n := i) (cap := cap) (xs := cellsE (l.filter (fun x => !p x))) 1 rfl rfl (by rw [cellsE_len, hilen]) (by omega) q3 (by rw [z1, List.length_append, cellsE_len, hml]; rw [cellsE_len, hl] at q4; exact q4) ?_ rfl ?_
        · have z3 : (0 + (i : Int).toNat * 19) = i * 19 := by omega
          rw [z3] at z2
          rw [z2, ← hfil]
          have e : cellsE m = cellsE (m.take i) ++ cellsE (m.drop i) := by
            conv => lhs; rw [← List.take_append_drop i m]
            simp only [cellsE, List.flatMap_append]
          rw [e, List.append_assoc, List.take_left' (by rw [cellsE_len, List.length_take, Nat.min_eq_left (by omega)])]
        refine J.r hX tab_ok 400 (fun _ => rfl) fun b33 => ?_
        refine J.rt hX tab_ok [1, 2] rfl rfl rfl ?_
        exact ⟨_, rfl, by rw [hilen]; rfl, by rw [hilen]; rfl⟩
end Go.Proofs.YtoideahgjgaddaaGreat
/- Walks: package desk. -/
namespace Go.Proofs.YtoideahgjgaddaaGreat
open Go Go.RowKit
/-- a slice of entries, cut -/
theorem cutE_run {E : Env} {n : Nat} {ac : Act} {w : World} {o : Oper} {x y : Operand} {k1 k2 t1 t2 : Nat} {g1 g2 : G} {a : Option Addr} {m c h : Nat} {kk : IntKind} {hI : Int} (hop : o.op = .slice 31 x none (some y) none) (hx : ev E x = some ⟨k1, .slice a m c, t1, g1⟩) (hy : ev E y = some ⟨k2, .int kk hI, t2, g2⟩) (he : EnvOK n E ac) (v1 : g1.on = true) (v2 : g2.on = true) (hh : hI = (h : Int)) (hc : h ≤ c) :
    (execOp ac.eval o).run Tryz.prog w = .ok (.value (.slice a h c)) w := by
  subst hh
  have e1 := ev_spec he hx
  have e2 := ev_spec he hy
  simp only [Slot.val, v1, v2] at e1 e2
  obtain ⟨d, f, zv, ok⟩ := tiOf_spec (tab_ok.get (t := 31) rfl)
  obtain ⟨fe, rfl, g1, g2⟩ := ok.slice rfl
  have h0 : ∀ ad : Addr, ad.add 0 = ad := fun ad => by unfold Addr.add; rw [if_pos rfl]
  cases a with
  | none =>
    simp only [execOp, hop, Option.map_some, Option.map_none, e1, e2, Instr.sliceAt, Instr.slice, Instr.sliceBounds, Instr.sliceBound, asIntOf, Sem.run_bind, Sem.run_pure, Result.andThen_ok, underlying_run ok.hd, sizeOf_run g1, g2]
    simp [hc, h0]
  | some ad =>
    simp only [execOp, hop, Option.map_some, Option.map_none, e1, e2, Instr.sliceAt, Instr.slice, Instr.sliceBounds, Instr.sliceBound, asIntOf, Sem.run_bind, Sem.run_pure, Result.andThen_ok, underlying_run ok.hd, sizeOf_run g1, g2]
    simp [hc, h0]
theorem ownP_cap {e size : Nat} {a : Option Nat} {n cap : Nat} {xs : List Value} {h : Hl} (s : ownP e size a n cap xs h) : n ≤ cap := by
  obtain ⟨_, s⟩ := s
  cases a with
  | none => obtain ⟨rfl, rfl⟩ := s; exact Nat.le_refl _
  | some g => obtain ⟨_, _, h, _⟩ := s; exact h
theorem cellsE_take' (l : List En) : ∀ k, (cellsE l).take (k * 19) = cellsE (l.take k) := by
  induction l with
  | nil => intro k; simp [cellsE]
  | cons x l ih =>
    intro k
    cases k with
    | zero => simp [cellsE]
    | succ k =>
      have e1 : cellsE (x :: l) = enL x ++ cellsE l := by simp [cellsE]
      have e2 : cellsE (x :: l.take k) = enL x ++ cellsE (l.take k) := by simp [cellsE]
      rw [e1, List.take_succ_cons, e2, ← ih k, show (k + 1) * 19 = (enL x).length + k * 19 from by show _ = 19 + k * 19; omega, List.take_length_add_append]
theorem cellsE_snoc (l : List En) (e : En) : cellsE l ++ enL e = cellsE (l ++ [e]) := by simp [cellsE]
/-- a clone of a list's head -/
theorem x_CloneP (a : Option Nat) (N cap cap2 k : Nat) (l : List En) (hl : l.length = N) (hk : k ≤ N) (hn : N ≤ 1000000) : Fn Tryz.prog 70 [slv a k cap2] [ownA 45 19 a N cap (cellsE l)]
    (fun v As => ∃ a' c', v = slv a' k c' ∧ As = [ownA 45 19 a N cap (cellsE l), ownA 45 19 a' k c' (cellsE (l.take k))]) := by
  refine Fn.enter [0] Tryz.func70 rfl rfl rfl fun X F hX => ?_
  cases a with
  | none =>
    refine J.know (fun h' s => (s.get (i := 1) rfl).2) fun hn0 => ?_
    obtain ⟨rfl, rfl⟩ := hn0
    obtain rfl : k = 0 := by omega
    have : l = [] := List.eq_nil_of_length_eq_zero hl
    subst this
    refine J.r hX tab_ok 400 (fun _ => rfl) fun b1 => ?_
    refine J.cond rfl (fun _ => ?_) (fun h => by simp at h)
    refine J.turn1 [] rfl (As := [ownA 45 19 none 0 0 (cellsE [])]) (fun h s => Sep.one ⟨rfl, rfl, rfl⟩) rfl ?_
    refine J.r hX tab_ok 400 (fun _ => rfl) fun b2 => ?_
    refine J.rt hX tab_ok [1, 2] rfl rfl rfl ?_
    exact ⟨none, 0, rfl, rfl⟩
  | some g =>
    refine J.r hX tab_ok 400 (fun _ => rfl) fun b3 => ?_
    refine J.cond rfl (fun h => by simp at h) (fun _ => ?_)
    refine J.r hX tab_ok 5 (fun _ => rfl) fun bb => ?_
    refine J.closeOwn (e := 45) (size := 19) (n := 0) (cap := 0) (xs := []) 2 rfl rfl rfl (Nat.le_refl _) (Nat.zero_le _) rfl rfl rfl ?_
    refine J.r hX tab_ok 400 (fun _ => rfl) fun b4 => ?_
    have hRd : Rd (ownA 45 19 (some g) N cap (cellsE l)) (some ⟨g, 0, none⟩) 19 k (cellsE (l.take k)) := by
      have := (own_rd 45 19 (some g) N cap (cellsE l)).take k hk
      rwa [cellsE_take'] at this
    refine J.appendR hX tab_ok (a := some (bb 0)) (n := 0) (cap := 0) (xs := []) (oo := 0) (Ay := ownA 45 19 (some g) N cap (cellsE l)) 2 1 0 rfl rfl rfl rfl rfl rfl rfl rfl rfl rfl hRd rfl rfl rfl rfl (cellsE_one _) ?_ ?_ (fun _ => rfl) fun a' c' => ⟨_, rfl, trivial, ?_⟩
    · simp only [maxLen]; omega
    · omega
    rw [Nat.zero_add k, List.nil_append]
    refine J.r hX tab_ok 400 (fun _ => rfl) fun b5 => ?_
    refine J.rt hX tab_ok [1, 2] rfl rfl rfl ?_
    exact ⟨a', c', rfl, rfl⟩
theorem x_IndexR (c : Nat) (cs : List Value) (p : En → Bool) (A B : Atom) (hcal : callable Tryz.prog c = true) (l : List En) (hf : ∀ x ∈ l, Fn Tryz.prog c (enV x :: cs) [A] (fun v As => v = .bool (p x) ∧ As = [A]))
    (a : Option Addr) (n cap : Nat) (hB : Rd B a 19 n (cellsE l)) (hl : l.length = n) (hn : n ≤ 4611686018427387904) : Fn Tryz.prog 75 [.slice a n cap, fnC c cs] [B, A]
    (fun v As => v = .int .i64 (idxE p l) ∧ As = [B, A]) := by
  refine Fn.enter [0, 0] Tryz.func75 rfl rfl rfl fun X F hX => ?_
  refine J.r hX tab_ok 400 (fun _ => rfl) fun b6 => ?_
  refine J.r hX tab_ok 400 (fun _ => rfl) fun b7 => ?_
  refine J.lo (α := Nat) (fun k => k ≤ n ∧ ∀ i < k, p (l.getD i En.zero) = false) (fun k => [⟨8, .int .i64 k, 0, .tt⟩, ⟨7, .int .i64 n, 0, .tt⟩, ⟨0, .slice a n cap, 0, .tt⟩, ⟨1, fnC c cs, 0, .tt⟩]) [] (fun k => []) (fun k => n - k) (0) (⟨by omega, by omega⟩) rfl ?_ (fun _ => rfl) fun k hI => ?_
  · rfl
  refine J.r hX tab_ok 400 (fun _ => rfl) fun b8 => ?_
  refine J.cond rfl (fun h1 => ?_) (fun h1 => ?_)
  · simp only [decide_eq_true_eq, Int.ofNat_lt] at h1
    refine J.know (p := ∃ g o, a = some ⟨g, o, none⟩) (fun h' s => Rd.addr (hB _ (s.get (i := 1) rfl)) (by omega)) fun hk => ?_
    obtain ⟨g, o, rfl⟩ := hk
    have hk : l[k]? = some (l.getD k En.zero) := by rw [List.getD_eq_getElem?_getD, List.getElem?_eq_getElem (by omega), Option.getD_some]
    refine J.r hX tab_ok 400 (fun _ => rfl) fun b9 => ?_
    refine J.val hX (enV (l.getD k En.zero)) 0 rfl rfl (fun hg a w he hs => ?_) rfl trivial ?_
    · exact rdN_run tab_ok rfl rfl he rfl rfl rfl (hB _ (hs.get (i := 1) rfl)) (by omega) (j := k * 19) (by omega) (by have := cellsE_at l [] k _ hk; rwa [List.append_nil] at this) rfl
    refine J.r hX tab_ok 400 (fun _ => rfl) fun b10 => ?_
    refine J.call hX hcal (hf (l.getD k En.zero) (List.mem_of_getElem? hk)) [2] 0 rfl rfl rfl rfl (by (repeat' (first | exact Conj.nil | refine Conj.cons ?_ ?_ | omega | exact hq0 | (simpa using hq0) | (exact fun h => h) | exact rfl | (intro hq; have hq0 := hq; try simp only [Bool.and_eq_true, Bool.or_eq_true, decide_eq_true_eq, Bool.not_eq_true', decide_eq_false_iff_not] at hq) | (simp; done) | (simp; omega) | decide))) rfl rfl (fun _ => rfl) ?_
    rintro v As ⟨rfl, rfl⟩
    refine ⟨_, rfl, trivial, ?_⟩
    refine J.r hX tab_ok 400 (fun _ => rfl) fun b11 => ?_
    refine J.cond rfl (fun h2 => ?_) (fun h2 => ?_)
    · refine J.r hX tab_ok 400 (fun _ => rfl) fun b12 => ?_
      refine J.rt hX tab_ok [1, 2] rfl rfl rfl ?_
      exact ⟨by rw [idxE, idxE_step hk hI.2 h2], rfl⟩
    · refine J.r hX tab_ok 400 (fun _ => rfl) fun b13 => ?_
      refine J.nx (k + 1) (⟨by omega, fun i hi => by
        rcases Nat.lt_succ_iff_lt_or_eq.1 hi with h3 | h3
        · exact hI.2 i h3
        · rw [h3]; exact h2⟩) (by omega) (fun _ s => s)
  · simp only [decide_eq_false_iff_not, Int.ofNat_lt] at h1
    refine J.r hX tab_ok 400 (fun _ => rfl) fun b14 => ?_
    refine J.rt hX tab_ok [1, 2] rfl rfl rfl ?_
    exact ⟨by rw [idxE, idxE_none (fun i hi => hI.2 i (by omega))], rfl⟩
theorem x_ContainsR (c : Nat) (cs : List Value) (p : En → Bool) (A B : Atom) (hcal : callable Tryz.prog c = true) (l : List En) (hf : ∀ x ∈ l, Fn Tryz.prog c (enV x :: cs) [A] (fun v As => v = .bool (p x) ∧ As = [A]))
    (a : Option Addr) (n cap : Nat) (hB : Rd B a 19 n (cellsE l)) (hl : l.length = n) (hn : n ≤ 4611686018427387904) : Fn Tryz.prog 73 [.slice a n cap, fnC c cs] [B, A]
    (fun v As => v = .bool (l.any p) ∧ As = [B, A]) := by
  refine Fn.enter [0, 0] Tryz.func73 rfl rfl rfl fun X F hX => ?_
  refine J.r hX tab_ok 400 (fun _ => rfl) fun b15 => ?_
  refine J.r hX tab_ok 400 (fun _ => rfl) fun b16 => ?_
  refine J.ca hX (by kernel_rfl) (x_IndexR c cs p A B hcal l hf a n cap hB hl hn) [1, 2] 0 rfl rfl rfl rfl rfl rfl (fun _ => rfl) ?_
  rintro v As ⟨rfl, rfl⟩
  refine ⟨_, rfl, trivial, ?_⟩
  refine J.r hX tab_ok 400 (fun _ => rfl) fun b17 => ?_
  refine J.rt hX tab_ok [1, 2] rfl rfl rfl ?_
  exact ⟨by rw [← idxE_any], rfl⟩
/-- a desk -/
def DeskA (d : Nat) (L : List En) : Atom := exA fun x : Option Nat × Nat => [.pt d 150 [slv x.1 L.length x.2], ownA 45 19 x.1 L.length x.2 (cellsE L)]
theorem d_New : Fn Tryz.prog 26 [] [] (fun v As => ∃ d, v = .pointer (some ⟨d, 0, none⟩) ∧ As = [DeskA d []]) := by
  refine Fn.enter [] Tryz.func26 rfl rfl rfl fun X F hX => ?_
  refine J.r hX tab_ok 400 (fun _ => rfl) fun bs => ?_
  refine J.turn1 [] rfl (As := [ownA 45 19 none 0 0 (cellsE [])]) (fun h s => Sep.one ⟨rfl, rfl, rfl⟩) rfl ?_
  refine J.close (f := fun x : Option Nat × Nat => [.pt (bs 0) 150 [slv x.1 ([] : List En).length x.2], ownA 45 19 x.1 ([] : List En).length x.2 (cellsE [])]) (none, 0) [1, 2] rfl rfl rfl ?_
  refine J.r hX tab_ok 400 (fun _ => rfl) fun b18 => ?_
  refine J.rt hX tab_ok [1] rfl rfl rfl ?_
  exact ⟨bs 0, rfl, rfl⟩
theorem d_Len (d : Nat) (L : List En) : Fn Tryz.prog 31 [.pointer (some ⟨d, 0, none⟩)] [DeskA d L] (fun v As => v = .int .i64 L.length ∧ As = [DeskA d L]) := by
  refine Fn.enter [2] Tryz.func31 rfl rfl rfl fun X F hX => ?_
  refine J.open_ (α := (Option Nat × Nat)) 1 rfl rfl (fun _ => rfl) fun x => ?_
  refine J.r hX tab_ok 400 (fun _ => rfl) fun b19 => ?_
  refine J.cond rfl (fun h => by simp at h) (fun _ => ?_)
  refine J.r hX tab_ok 400 (fun _ => rfl) fun b20 => ?_
  refine J.close (f := fun x : Option Nat × Nat => [.pt d 150 [slv x.1 L.length x.2], ownA 45 19 x.1 L.length x.2 (cellsE L)]) x [1, 2] rfl rfl rfl ?_
  refine J.r hX tab_ok 400 (fun _ => rfl) fun b21 => ?_
  refine J.rt hX tab_ok [1] rfl rfl rfl ?_
  exact ⟨rfl, rfl⟩
theorem d_Put1 (b : Nat) (e x : En) : Fn Tryz.prog 77 [enV x, .pointer (some ⟨b, 0, none⟩)] [.pt b 45 (enL e)] (fun v As => v = .bool (x.lpn == e.lpn) ∧ As = [.pt b 45 (enL e)]) := by
  refine Fn.enter [0, 2] Tryz.func77 rfl rfl rfl fun X F hX => ?_
  refine J.r hX tab_ok 400 (fun _ => rfl) fun b22 => ?_
  refine J.rt hX tab_ok [1] rfl rfl rfl ?_
  exact ⟨rfl, rfl⟩
/-- what waits when one more does -/
def dkPut (L : List En) (e : En) : List En := (L.filter fun x => !(x.lpn == e.lpn)) ++ [e]
theorem d_Put (d : Nat) (L : List En) (hL : L.length ≤ 100000) (e : En) : Fn Tryz.prog 30 [.pointer (some ⟨d, 0, none⟩), enV e] [DeskA d L] (fun v As => v = .tuple #[] ∧ As = [DeskA d (dkPut L e)]) := by
  refine Fn.enter [2, 0] Tryz.func30 rfl rfl rfl fun X F hX => ?_
  refine J.open_ (α := (Option Nat × Nat)) 1 rfl rfl (fun _ => rfl) fun x => ?_
  obtain ⟨a, c⟩ := x
  refine J.r hX tab_ok 400 (fun _ => rfl) fun bb => ?_
  refine J.r hX tab_ok 400 (fun _ => rfl) fun b23 => ?_
  refine J.cond rfl (fun h => by simp at h) (fun _ => ?_)
  refine J.r hX tab_ok 400 (fun _ => rfl) fun b24 => ?_
  refine J.r hX tab_ok 400 (fun _ => rfl) fun b25 => ?_
  refine J.ca hX (by kernel_rfl) (x_DeleteE 77 [.pointer (some ⟨bb 0, 0, none⟩)] (fun x => x.lpn == e.lpn) (.pt (bb 0) 45 (enL e)) (by kernel_rfl) (fun x => d_Put1 (bb 0) e x) a L.length c L rfl (by omega)) [2, 3] 0 rfl rfl rfl rfl rfl rfl (fun _ => rfl) ?_
  rintro v As ⟨l', hl', rfl, rfl⟩
  refine ⟨_, rfl, trivial, ?_⟩
  have hll : l'.length ≤ L.length := by rw [hl']; exact List.length_filter_le _ _
  have hput : dkPut L e = l' ++ [e] := by unfold dkPut; rw [hl']
  refine J.r hX tab_ok 400 (fun _ => rfl) fun b26 => ?_
  refine J.plan (.of [0,4,8,12,17,21,26,30,32,36,43]) [8,9,10] [1,3] (by rw [hX.hP]; kernel_rfl) (by kernel_rfl) ?_
  refine J.r hX tab_ok 400 (fun _ => rfl) fun b27 => ?_
  refine J.append hX tab_ok 2 4 0 rfl rfl rfl rfl rfl rfl rfl rfl rfl rfl rfl rfl rfl rfl rfl rfl ?_ ?_ (fun _ => rfl) fun a2 c2 => ⟨_, (congrArg (fun z => lset _ 2 (ownA _ _ _ _ _ z)) (cellsE_snoc l' e)).trans rfl, ⟨rfl, rfl, trivial⟩, ?_⟩
  · simp only [maxLen]; omega
  · omega
  refine J.r hX tab_ok 400 (fun _ => rfl) fun b28 => ?_
  rw [show l'.length + 1 = (dkPut L e).length from by rw [hput]; simp, ← hput]
  refine J.close (f := fun x : Option Nat × Nat => [.pt d 150 [slv x.1 (dkPut L e).length x.2], ownA 45 19 x.1 (dkPut L e).length x.2 (cellsE (dkPut L e))]) (a2, c2) [1, 2] rfl rfl rfl ?_
  refine J.r hX tab_ok 400 (fun _ => rfl) fun b29 => ?_
  refine J.fi hX tab_ok [1] rfl rfl rfl ?_
  exact ⟨rfl, rfl⟩
theorem d_Get1 (b : Nat) (k : Int) (x : En) : Fn Tryz.prog 76 [enV x, .pointer (some ⟨b, 0, none⟩)] [.pt b 3 [.int .i64 k]] (fun v As => v = .bool (x.lpn == k) ∧ As = [.pt b 3 [.int .i64 k]]) := by
  refine Fn.enter [0, 2] Tryz.func76 rfl rfl rfl fun X F hX => ?_
  refine J.r hX tab_ok 400 (fun _ => rfl) fun b30 => ?_
  refine J.rt hX tab_ok [1] rfl rfl rfl ?_
  exact ⟨rfl, rfl⟩
/-- what waits of a page -/
def dkGet (L : List En) (k : Int) : En × Bool := match L.find? (fun x => x.lpn == k) with
  | some e => (e, true)
  | none => (En.zero, false)
theorem find_idx {p : En → Bool} {l : List En} {k : Nat} (h : l.findIdx? p = some k) : l.find? p = some (l.getD k En.zero) ∧ l[k]? = some (l.getD k En.zero) := by
  rw [List.findIdx?_eq_some_iff_getElem] at h
  obtain ⟨h1, h2, h3⟩ := h
  have e : l[k]? = some (l.getD k En.zero) := by rw [List.getD_eq_getElem?_getD, List.getElem?_eq_getElem h1, Option.getD_some]
  refine ⟨?_, e⟩
  have e2 : l.getD k En.zero = l[k] := by rw [List.getElem?_eq_getElem h1] at e; injection e with e; exact e.symm
  rw [List.find?_eq_some_iff_getElem, e2]
  exact ⟨h2, k, h1, rfl, fun j hj => by simpa using h3 j hj⟩
theorem d_Get (d : Nat) (L : List En) (hL : L.length ≤ 100000) (k : Int) : Fn Tryz.prog 29 [.pointer (some ⟨d, 0, none⟩), .int .i64 k] [DeskA d L] (fun v As => v = .tuple #[enV (dkGet L k).1, .bool (dkGet L k).2] ∧ As = [DeskA d L]) := by
  refine Fn.enter [2, 0] Tryz.func29 rfl rfl rfl fun X F hX => ?_
  refine J.open_ (α := (Option Nat × Nat)) 1 rfl rfl (fun _ => rfl) fun x => ?_
  obtain ⟨a, c⟩ := x
  refine J.r hX tab_ok 400 (fun _ => rfl) fun bb => ?_
  refine J.r hX tab_ok 400 (fun _ => rfl) fun b31 => ?_
  refine J.cond rfl (fun h => by simp at h) (fun _ => ?_)
  refine J.r hX tab_ok 400 (fun _ => rfl) fun b32 => ?_
  refine J.r hX tab_ok 400 (fun _ => rfl) fun b33 => ?_
  refine J.ca hX (by kernel_rfl) (x_IndexE 76 [.pointer (some ⟨bb 0, 0, none⟩)] (fun x => x.lpn == k) (.pt (bb 0) 3 [.int .i64 k]) (by kernel_rfl) L (fun x _ => d_Get1 (bb 0) k x) a L.length c rfl (by omega)) [2, 3] 0 rfl rfl rfl rfl rfl rfl (fun _ => rfl) ?_
  rintro v As ⟨rfl, rfl⟩
  refine ⟨_, rfl, trivial, ?_⟩
  rw [idxE]
  cases hx : L.findIdx? (fun x => x.lpn == k) with
  | none =>
    dsimp only
    refine J.r hX tab_ok 400 (fun _ => rfl) fun b34 => ?_
    refine J.cond rfl (fun _ => ?_) (fun h => by simp at h)
    refine J.close (f := fun x : Option Nat × Nat => [.pt d 150 [slv x.1 L.length x.2], ownA 45 19 x.1 L.length x.2 (cellsE L)]) (a, c) [1, 2] rfl rfl rfl ?_
    refine J.r hX tab_ok 400 (fun _ => rfl) fun b35 => ?_
    refine J.rt hX tab_ok [1] rfl rfl rfl ?_
    have : dkGet L k = (En.zero, false) := by
      unfold dkGet
      rw [List.find?_eq_none.2 (fun x hm => by rw [List.findIdx?_eq_none_iff] at hx; simp [hx x hm])]
    rw [this]
    exact ⟨rfl, rfl⟩
  | some i =>
    dsimp only
    obtain ⟨f1, f2⟩ := find_idx hx
    have hi : i < L.length := (List.getElem?_eq_some_iff.1 f2).1
    refine J.r hX tab_ok 400 (fun _ => rfl) fun b36 => ?_
    refine J.cond rfl (fun h0 => ?_) (fun h0 => ?_)
    · simp only [decide_eq_true_eq] at h0; omega
    cases a with
    | none =>
      refine J.know (fun h' s => (s.get (i := 2) rfl).2.1) fun hn0 => ?_
      omega
    | some g =>
      refine J.r hX tab_ok 400 (fun _ => rfl) fun b37 => ?_
      refine J.val hX (enV (L.getD i En.zero)) 0 rfl rfl (fun hg a w he hs => ?_) rfl trivial ?_
      · exact ownN_run tab_ok rfl rfl he rfl rfl rfl (hs.get (i := 2) rfl) (by rw [show 0 + (i : Int).toNat * 19 = i * 19 from by omega]; have := cellsE_at L [] i _ f2; rwa [List.append_nil] at this) rfl
      refine J.close (f := fun x : Option Nat × Nat => [.pt d 150 [slv x.1 L.length x.2], ownA 45 19 x.1 L.length x.2 (cellsE L)]) (some g, c) [1, 2] rfl rfl rfl ?_
      refine J.r hX tab_ok 400 (fun _ => rfl) fun b38 => ?_
      refine J.rt hX tab_ok [1] rfl rfl rfl ?_
      have : dkGet L k = (L.getD i En.zero, true) := by
        unfold dkGet
        rw [f1]
      rw [this]
      exact ⟨rfl, rfl⟩
/-- so many of them -/
def dkN (L : List En) (n : Int) : Nat := min n.toNat L.length
theorem d_First (d : Nat) (L : List En) (hL : L.length ≤ 100000) (n : Int) : Fn Tryz.prog 27 [.pointer (some ⟨d, 0, none⟩), .int .i64 n] [DeskA d L] (fun v As => ∃ a' c', v = slv a' (dkN L n) c' ∧ As = [DeskA d L, ownA 45 19 a' (dkN L n) c' (cellsE (L.take (dkN L n)))]) := by
  refine Fn.enter [2, 0] Tryz.func27 rfl rfl rfl fun X F hX => ?_
  refine J.open_ (α := (Option Nat × Nat)) 1 rfl rfl (fun _ => rfl) fun x => ?_
  obtain ⟨a, c⟩ := x
  refine J.r hX tab_ok 400 (fun _ => rfl) fun b39 => ?_
  refine J.cond rfl (fun h => by simp at h) (fun _ => ?_)
  refine J.know (fun h' s => ownP_cap (s.get (i := 2) rfl)) fun hcap => ?_
  dsimp only at hcap
  have hmin : (if (L.length : Int) < (if (0 : Int) > n then 0 else n) then (L.length : Int) else (if (0 : Int) > n then 0 else n)) = (dkN L n : Int) := by
    unfold dkN
    by_cases h : (0 : Int) > n
    · simp only [if_pos h]; rw [if_neg (by omega)]; omega
    · simp only [if_neg h]; split <;> omega
  have hk : dkN L n ≤ L.length := Nat.min_le_right _ _
  refine J.r hX tab_ok 400 (fun _ => rfl) fun b40 => ?_
  refine J.plan (.of [0,4,8,13,16,20,24,28,32,37,40,44,48,54,56]) [14] [1,2] (by rw [hX.hP]; kernel_rfl) (by kernel_rfl) ?_
  refine J.r hX tab_ok 12 (fun _ => rfl) fun b41 => ?_
  refine J.valT hX (slv a (dkN L n) c) 0 rfl rfl (fun hg aa w he hC => ?_) rfl ?_
  · exact cutE_run rfl rfl rfl he rfl rfl hmin (by omega)
  refine J.r hX tab_ok 400 (fun _ => rfl) fun b42 => ?_
  refine J.r hX tab_ok 400 (fun _ => rfl) fun b43 => ?_
  refine J.ca hX (by kernel_rfl) (x_CloneP a L.length c c (dkN L n) L rfl hk (by omega)) [2] 0 rfl rfl rfl rfl rfl rfl (fun _ => rfl) ?_
  rintro v As ⟨a', c', rfl, rfl⟩
  refine ⟨_, rfl, ⟨rfl, rfl, trivial⟩, ?_⟩
  refine J.r hX tab_ok 400 (fun _ => rfl) fun b44 => ?_
  refine J.close (f := fun x : Option Nat × Nat => [.pt d 150 [slv x.1 L.length x.2], ownA 45 19 x.1 L.length x.2 (cellsE L)]) (a, c) [1, 2] rfl rfl rfl ?_
  refine J.r hX tab_ok 400 (fun _ => rfl) fun b45 => ?_
  refine J.rt hX tab_ok [1, 3] rfl rfl rfl ?_
  exact ⟨a', c', rfl, rfl⟩
theorem d_Done2 (b be : Nat) (x e : En) : Fn Tryz.prog 74 [enV e, .pointer (some ⟨b, 0, none⟩)] [.pt b 45 (enL x)] (fun v As => v = .bool (e.lpn == x.lpn && e.seq == x.seq) ∧ As = [.pt b 45 (enL x)]) := by
  refine Fn.enter [0, 2] Tryz.func74 rfl rfl rfl fun X F hX => ?_
  refine J.r hX tab_ok 400 (fun _ => rfl) fun b46 => ?_
  refine J.rt hX tab_ok [1] rfl rfl rfl ?_
  exact ⟨rfl, rfl⟩
theorem d_Done1 (b : Nat) (B : Atom) (al : Option Addr) (nl cl : Nat) (l : List En) (hB : Rd B al 19 nl (cellsE l)) (hl : l.length = nl) (hn : nl ≤ 4611686018427387904) (x : En) : Fn Tryz.prog 72 [enV x, .pointer (some ⟨b, 0, none⟩)] [.pt b 31 [.slice al nl cl], B] (fun v As => v = .bool (l.any fun e => e.lpn == x.lpn && e.seq == x.seq) ∧ As = [.pt b 31 [.slice al nl cl], B]) := by
  refine Fn.enter [0, 2] Tryz.func72 rfl rfl rfl fun X F hX => ?_
  refine J.r hX tab_ok 400 (fun _ => rfl) fun bb => ?_
  refine J.r hX tab_ok 400 (fun _ => rfl) fun b47 => ?_
  refine J.ca hX (by kernel_rfl) (x_ContainsR 74 [.pointer (some ⟨bb 0, 0, none⟩)] (fun e => e.lpn == x.lpn && e.seq == x.seq) (.pt (bb 0) 45 (enL x)) B (by kernel_rfl) l (fun e _ => d_Done2 (bb 0) 0 x e) al nl cl hB hl hn) [2, 3] 0 rfl rfl rfl rfl rfl rfl (fun _ => rfl) ?_
  rintro v As ⟨rfl, rfl⟩
  refine ⟨_, rfl, trivial, ?_⟩
  refine J.r hX tab_ok 400 (fun _ => rfl) fun b48 => ?_
  refine J.rt hX tab_ok [1, 2] rfl rfl rfl ?_
  exact ⟨rfl, rfl⟩
/-- what waits when some do no more -/
def dkDone (L l : List En) : List En := L.filter fun x => !(l.any fun e => e.lpn == x.lpn && e.seq == x.seq)
theorem d_Done (d : Nat) (L : List En) (hL : L.length ≤ 100000) (B : Atom) (al : Option Addr) (nl cl : Nat) (l : List En) (hB : Rd B al 19 nl (cellsE l)) (hl : l.length = nl) (hn : nl ≤ 4611686018427387904) : Fn Tryz.prog 28 [.pointer (some ⟨d, 0, none⟩), .slice al nl cl] [DeskA d L, B] (fun v As => v = .int .i64 ((L.length : Int) - (dkDone L l).length) ∧ As = [DeskA d (dkDone L l), B]) := by
  refine Fn.enter [2, 0] Tryz.func28 rfl rfl rfl fun X F hX => ?_
  refine J.open_ (α := (Option Nat × Nat)) 1 rfl rfl (fun _ => rfl) fun x => ?_
  obtain ⟨a, c⟩ := x
  refine J.r hX tab_ok 400 (fun _ => rfl) fun bb => ?_
  refine J.r hX tab_ok 400 (fun _ => rfl) fun b49 => ?_
  refine J.cond rfl (fun h => by simp at h) (fun _ => ?_)
  refine J.r hX tab_ok 400 (fun _ => rfl) fun b50 => ?_
  refine J.turn1 [4, 2] rfl (As := [.hp (HP.of [.pt (bb 0) 31 [.slice al nl cl], B])]) (fun h s => Sep.hpOf.2 s) rfl ?_
  refine J.r hX tab_ok 400 (fun _ => rfl) fun b51 => ?_
  refine J.ca hX (by kernel_rfl) (x_DeleteE 72 [.pointer (some ⟨bb 0, 0, none⟩)] (fun x => l.any fun e => e.lpn == x.lpn && e.seq == x.seq) _ (by kernel_rfl) (fun x => Fn.pack (d_Done1 (bb 0) B al nl cl l hB hl hn x)) a L.length c L rfl (by omega)) [3, 4] 0 rfl rfl rfl rfl rfl rfl (fun _ => rfl) ?_
  rintro v As ⟨l', hl', rfl, rfl⟩
  refine ⟨_, rfl, trivial, ?_⟩
  have hll : l'.length ≤ L.length := by rw [hl']; exact List.length_filter_le _ _
  have hdn : dkDone L l = l' := hl'.symm
  refine J.r hX tab_ok 400 (fun _ => rfl) fun b52 => ?_
  refine J.turn1 [4] rfl (As := [.pt (bb 0) 31 [.slice al nl cl], B]) (fun h s => Sep.hpOf.1 s) rfl ?_
  refine J.close (f := fun x : Option Nat × Nat => [.pt d 150 [slv x.1 l'.length x.2], ownA 45 19 x.1 l'.length x.2 (cellsE l')]) (a, c) [1, 3] rfl rfl rfl ?_
  refine J.r hX tab_ok 400 (fun _ => rfl) fun b53 => ?_
  refine J.rt hX tab_ok [1, 5] rfl rfl rfl ?_
  rw [hdn]
  exact ⟨rfl, rfl⟩
end Go.Proofs.YtoideahgjgaddaaGreat
