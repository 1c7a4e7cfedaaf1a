/- Helpers of the proofs about ostrakonlaw11, proved here: Rw, Rx, Ry, Rz, Rk, Rt. No condition. -/
import Derived.Test.YtoideahgjgaddaaGreatP07
import Derived.Test.YtoideahgjgaddaaGreatP15
set_option linter.unusedVariables false
set_option linter.unusedSimpArgs false
set_option linter.unusedSectionVars false
set_option linter.unnecessarySimpa false
/- Walks: row.look, row.entry. -/
namespace Go.Proofs.YtoideahgjgaddaaGreat
open Go Go.RowKit
def cellsB (l : List Bool) : List Value := l.map .bool
theorem cellsB_snoc (l : List Bool) (x : Bool) : cellsB (l ++ [x]) = cellsB l ++ [.bool x] := by simp [cellsB]
theorem cellsB_get {l : List Bool} {k : Nat} {x : Bool} (h : l[k]? = some x) : (cellsB l)[k]? = some (.bool x) := by simp [cellsB, h]
/-- a found row's cells -/
def fdL (a1 : Option Nat) (c1 : Nat) (a2 : Option Nat) (c2 n : Nat) (s : Sh) (w : Bool) : List Value := [slv a1 n c1, slv a2 n c2, byC s.data 0, byC s.data 1, byC s.data 2, byC s.data 3, byC s.data 4, byC s.data 5, byC s.data 6, byC s.data 7, byC s.data 8, byC s.data 9, byC s.data 10, byC s.data 11, byC s.data 12, byC s.data 13, byC s.data 14, byC s.data 15,
  .int .i64 s.role, .int .i64 s.lpn, .int .i64 s.seq, .int .i64 s.kind, .int .i64 s.block, .int .i64 s.row, .int .i64 s.mask, .bool w]
theorem r_entry (s : Sh) : Fn Tryz.prog 86 [shV s] [] (fun v As => v = enV s.en ∧ As = []) := by
  refine Fn.enter [0] Tryz.func86 rfl rfl rfl fun X F hX => ?_
  refine J.r hX tab_ok 400 (fun _ => rfl) fun b1 => ?_
  refine J.rt hX tab_ok [] rfl rfl rfl ?_
  exact ⟨rfl, rfl⟩
theorem r_look1 (p : Nat) (N : Nand) (hN : N.Ok) (hR : N.Room) (b r m d : Int) (b1 b2 b3 b4 : Nat) : Fn Tryz.prog 133 [.int .i64 d, .pointer (some ⟨b1, 0, none⟩), .pointer (some ⟨b2, 0, none⟩), .pointer (some ⟨b3, 0, none⟩), .pointer (some ⟨b4, 0, none⟩)] [NandA p N, .pt b1 28 [.pointer (some ⟨p, 0, none⟩)], .pt b2 3 [.int .i64 b], .pt b3 3 [.int .i64 r], .pt b4 3 [.int .i64 m]]
    (fun v As => v = .tuple #[shV (R.one N b r m d).1, .bool (R.one N b r m d).2] ∧ As = [NandA p N, .pt b1 28 [.pointer (some ⟨p, 0, none⟩)], .pt b2 3 [.int .i64 b], .pt b3 3 [.int .i64 r], .pt b4 3 [.int .i64 m]]) := by
  refine Fn.enter [0, 3, 4, 5, 6] Tryz.func133 rfl rfl rfl fun X F hX => ?_
  refine J.r hX tab_ok 400 (fun _ => rfl) fun b2 => ?_
  refine J.r hX tab_ok 400 (fun _ => rfl) fun b3 => ?_
  refine J.ca hX (by kernel_rfl) (m_Look p N hN hR d b r) [1] 0 rfl rfl rfl rfl rfl rfl (fun _ => rfl) ?_
  rintro v As ⟨rfl, rfl⟩
  refine ⟨_, rfl, trivial, ?_⟩
  refine J.r hX tab_ok 400 (fun _ => rfl) fun b4 => ?_
  refine J.plan (.of [1,4,8,12,16,21,25,28,32,38,40]) [10] [5,7] (by rw [hX.hP]; kernel_rfl) (by kernel_rfl) ?_
  refine J.r hX tab_ok 400 (fun _ => rfl) fun b5 => ?_
  refine J.r hX tab_ok 400 (fun _ => rfl) fun b6 => ?_
  refine J.rt hX tab_ok [1, 2, 3, 4, 5] rfl rfl rfl ?_
  exact ⟨rfl, rfl⟩
theorem ones_succ (N : Nand) (b r m : Int) (k : Nat) : R.ones N b r m (k + 1) = R.ones N b r m k ++ [R.one N b r m (G.die m b r (k : Nat))] := by simp [R.ones, List.range_succ]
theorem r_look (p : Nat) (N : Nand) (hN : N.Ok) (hR : N.Room) (b r m : Int) : Fn Tryz.prog 85 [.pointer (some ⟨p, 0, none⟩), .int .i64 b, .int .i64 r, .int .i64 m] [NandA p N]
    (fun v As => ∃ a1 c1 a2 c2, v = .agg (fdL a1 c1 a2 c2 (G.slots m).toNat (R.look N b r m).parity (R.look N b r m).whole).toArray ∧ As = [NandA p N, ownA 137 23 a1 (G.slots m).toNat c1 (cellsS (R.look N b r m).slots), ownA 4 1 a2 (G.slots m).toNat c2 (cellsB (R.look N b r m).good)]) := by
  have hsb := gslots_bd m
  obtain ⟨P, hP⟩ : ∃ P, R.one N b r m (G.parity m b r) = P := ⟨_, rfl⟩
  refine Fn.enter [2, 0, 0, 0] Tryz.func85 rfl rfl rfl fun X F hX => ?_
  refine J.r hX tab_ok 400 (fun _ => rfl) fun bb => ?_
  refine J.r hX tab_ok 400 (fun _ => rfl) fun b7 => ?_
  refine J.ca hX (by kernel_rfl) (g_Parity m b r) [] 0 rfl rfl rfl rfl rfl rfl (fun _ => rfl) ?_
  rintro v As ⟨rfl, rfl⟩
  refine ⟨_, rfl, trivial, ?_⟩
  refine J.r hX tab_ok 400 (fun _ => rfl) fun b8 => ?_
  refine J.r hX tab_ok 400 (fun _ => rfl) fun b9 => ?_
  refine J.ca hX (by kernel_rfl) (r_look1 p N hN hR b r m (G.parity m b r) (bb 0) (bb 1) (bb 2) (bb 3)) [1, 2, 3, 4, 5] 0 rfl rfl rfl rfl rfl rfl (fun _ => rfl) ?_
  rintro v As ⟨rfl, rfl⟩
  refine ⟨_, rfl, trivial, ?_⟩
  rw [hP]
  refine J.r hX tab_ok 400 (fun _ => rfl) fun b10 => ?_
  refine J.r hX tab_ok 400 (fun _ => rfl) fun b11 => ?_
  refine J.ca hX (by kernel_rfl) (g_Slots m) [] 0 rfl rfl rfl rfl rfl rfl (fun _ => rfl) ?_
  rintro v As ⟨rfl, rfl⟩
  refine ⟨_, rfl, trivial, ?_⟩
  refine J.turn1 [] rfl (As := [ownA 137 23 none 0 0 (cellsS []), ownA 4 1 none 0 0 (cellsB [])]) (fun h s => ⟨fun _ => 0, fun i A hA => by
    match i, hA with
    | 0, hA => simp at hA; subst hA; exact ⟨rfl, rfl, rfl⟩
    | 1, hA => simp at hA; subst hA; exact ⟨rfl, rfl, rfl⟩
    | k + 2, hA => simp at hA⟩) rfl ?_
  refine J.r hX tab_ok 400 (fun _ => rfl) fun b12 => ?_
  refine J.r hX tab_ok 400 (fun _ => rfl) fun b13 => ?_
  refine J.lo (α := (Nat × Option Nat × Nat × Option Nat × Nat)) (fun z => z.1 ≤ (G.slots m).toNat) (fun z => [⟨28, .int .i64 z.1, 0, .tt⟩, ⟨27, .int .i64 (G.slots m), 0, .tt⟩, ⟨9, fnC 133 [.pointer (some ⟨bb 0, 0, none⟩), .pointer (some ⟨bb 1, 0, none⟩), .pointer (some ⟨bb 2, 0, none⟩), .pointer (some ⟨bb 3, 0, none⟩)], 0, .tt⟩, ⟨4, .pointer (some ⟨bb 0, 0, none⟩), 3, .tt⟩, ⟨5, .pointer (some ⟨bb 1, 0, none⟩), 4, .tt⟩, ⟨6, .pointer (some ⟨bb 2, 0, none⟩), 5, .tt⟩, ⟨7, .pointer (some ⟨bb 3, 0, none⟩), 6, .tt⟩, ⟨8, .pointer (some ⟨bb 4, 0, none⟩), 7, .tt⟩, ⟨10, .pointer (some ⟨bb 5, 0, none⟩), 8, .tt⟩]) [7, 8, 9] (fun z => [.pt (bb 5) 163 (fdL z.2.1 z.2.2.1 z.2.2.2.1 z.2.2.2.2 z.1 P.1 P.2), ownA 137 23 z.2.1 z.1 z.2.2.1 (cellsS ((R.ones N b r m z.1).map (·.1))), ownA 4 1 z.2.2.2.1 z.1 z.2.2.2.2 (cellsB ((R.ones N b r m z.1).map (·.2)))]) (fun z => (G.slots m).toNat - z.1) ((0, none, 0, none, 0)) (Nat.zero_le _) rfl ?_ (fun _ => rfl) fun z hI => ?_
  · rfl
  obtain ⟨k, a1, c1, a2, c2⟩ := z
  dsimp only at hI ⊢
  refine J.r hX tab_ok 400 (fun _ => rfl) fun b14 => ?_
  refine J.cond rfl (fun h1 => ?_) (fun h1 => ?_)
  · simp only [decide_eq_true_eq] at h1
    have hS1 : cellsS ((R.ones N b r m k).map (·.1)) ++ shL (R.one N b r m (G.die m b r k)).1 = cellsS ((R.ones N b r m (k + 1)).map (·.1)) := by rw [ones_succ, List.map_append, ← cellsS_snoc]; rfl
    have hS2 : cellsB ((R.ones N b r m k).map (·.2)) ++ [.bool (R.one N b r m (G.die m b r k)).2] = cellsB ((R.ones N b r m (k + 1)).map (·.2)) := by rw [ones_succ, List.map_append, ← cellsB_snoc]; rfl
    refine J.r hX tab_ok 400 (fun _ => rfl) fun b15 => ?_
    refine J.r hX tab_ok 400 (fun _ => rfl) fun b16 => ?_
    refine J.ca hX (by kernel_rfl) (g_Die m b r k (by omega) (by omega)) [] 0 rfl rfl rfl rfl rfl rfl (fun _ => rfl) ?_
    rintro v As ⟨rfl, rfl⟩
    refine ⟨_, rfl, trivial, ?_⟩
    refine J.r hX tab_ok 400 (fun _ => rfl) fun b17 => ?_
    refine J.r hX tab_ok 400 (fun _ => rfl) fun b18 => ?_
    refine J.ca hX (by kernel_rfl) (r_look1 p N hN hR b r m (G.die m b r k) (bb 0) (bb 1) (bb 2) (bb 3)) [1, 2, 3, 4, 5] 0 rfl rfl rfl rfl rfl rfl (fun _ => rfl) ?_
    rintro v As ⟨rfl, rfl⟩
    refine ⟨_, rfl, trivial, ?_⟩
    refine J.r hX tab_ok 400 (fun _ => rfl) fun b19 => ?_
    refine J.plan (.take true 0 (.take false 1 (.take false 2 (.take true 5 (.take false 6 (.take true 7 (.alt false 3 ((.alt false 4 ((.of [40,34,38,47,48,55])) (.alt false 8 ((.of [18,40,38,47,48,55])) .non))) (.alt false 8 ((.of [14,18,40,38,47,48,55])) .non)))))))) [11,12,13] [7, 10] (by rw [hX.hP]; kernel_rfl) (by kernel_rfl) ?_
    refine J.join (α := Option Nat × Nat × Option Nat × Nat) (fun x => [⟨28, .int .i64 k, 0, .tt⟩, ⟨27, .int .i64 (G.slots m), 0, .tt⟩, ⟨9, fnC 133 [.pointer (some ⟨bb 0, 0, none⟩), .pointer (some ⟨bb 1, 0, none⟩), .pointer (some ⟨bb 2, 0, none⟩), .pointer (some ⟨bb 3, 0, none⟩)], 0, .tt⟩, ⟨4, .pointer (some ⟨bb 0, 0, none⟩), 3, .tt⟩, ⟨5, .pointer (some ⟨bb 1, 0, none⟩), 4, .tt⟩, ⟨6, .pointer (some ⟨bb 2, 0, none⟩), 5, .tt⟩, ⟨7, .pointer (some ⟨bb 3, 0, none⟩), 6, .tt⟩, ⟨8, .pointer (some ⟨bb 4, 0, none⟩), 7, .tt⟩, ⟨10, .pointer (some ⟨bb 5, 0, none⟩), 8, .tt⟩]) (fun x => [.hp F, NandA p N, .pt (bb 0) 28 [.pointer (some ⟨p, 0, none⟩)], .pt (bb 1) 3 [.int .i64 b], .pt (bb 2) 3 [.int .i64 r], .pt (bb 3) 3 [.int .i64 m], .pt (bb 4) 163 (fdL none 0 none 0 0 Sh.zero false), .pt (bb 5) 163 (fdL x.1 x.2.1 x.2.2.1 x.2.2.2 (k + 1) P.1 P.2), ownA 137 23 x.1 (k + 1) x.2.1 (cellsS ((R.ones N b r m (k + 1)).map (·.1))), ownA 4 1 x.2.2.1 (k + 1) x.2.2.2 (cellsB ((R.ones N b r m (k + 1)).map (·.2)))]) (fun hj => ?_) (fun x => ?_)
    · skip
      refine J.r hX tab_ok 6 (fun _ => rfl) fun b20 => ?_
      refine J.alts ?_ ?_
      · skip
        refine J.r hX tab_ok 1 (fun _ => rfl) fun b3 => ?_
        refine J.alts ?_ ?_
        · skip
          refine J.append hX tab_ok 8 11 0 rfl rfl rfl rfl rfl rfl rfl rfl rfl rfl rfl rfl rfl rfl rfl rfl ?_ ?_ (fun _ => rfl) fun a3 c3 => ⟨_, (congrArg (fun z => lset _ 8 (ownA _ _ _ _ _ z)) hS1).trans rfl, ⟨rfl, rfl, trivial⟩, ?_⟩
          · simp only [maxLen]; omega
          · omega
          refine J.r hX tab_ok 1 (fun _ => rfl) fun b21 => ?_
          refine J.r hX tab_ok 1 (fun _ => rfl) fun b8 => ?_
          refine J.append hX tab_ok 9 12 0 rfl rfl rfl rfl rfl rfl rfl rfl rfl rfl rfl rfl rfl rfl rfl rfl ?_ ?_ (fun _ => rfl) fun a4 c4 => ⟨_, (congrArg (fun z => lset _ 9 (ownA _ _ _ _ _ z)) hS2).trans rfl, ⟨rfl, rfl, trivial⟩, ?_⟩
          · simp only [maxLen]; omega
          · omega
          refine J.r hX tab_ok 4 (fun _ => rfl) fun b22 => ?_
          exact J.goto [0, 1, 2, 3, 4, 5, 6, 7, 8, 9] (hj (a3, c3, a4, c4)) ⟨rfl, rfl, rfl, rfl, rfl, rfl, rfl, rfl, rfl, trivial⟩ rfl rfl
        · skip
          refine J.r hX tab_ok 1 (fun _ => rfl) fun b8 => ?_
          refine J.append hX tab_ok 8 11 0 rfl rfl rfl rfl rfl rfl rfl rfl rfl rfl rfl rfl rfl rfl rfl rfl ?_ ?_ (fun _ => rfl) fun a3 c3 => ⟨_, (congrArg (fun z => lset _ 8 (ownA _ _ _ _ _ z)) hS1).trans rfl, ⟨rfl, rfl, trivial⟩, ?_⟩
          · simp only [maxLen]; omega
          · omega
          refine J.r hX tab_ok 1 (fun _ => rfl) fun b23 => ?_
          refine J.append hX tab_ok 9 12 0 rfl rfl rfl rfl rfl rfl rfl rfl rfl rfl rfl rfl rfl rfl rfl rfl ?_ ?_ (fun _ => rfl) fun a4 c4 => ⟨_, (congrArg (fun z => lset _ 9 (ownA _ _ _ _ _ z)) hS2).trans rfl, ⟨rfl, rfl, trivial⟩, ?_⟩
          · simp only [maxLen]; omega
          · omega
          refine J.r hX tab_ok 4 (fun _ => rfl) fun b24 => ?_
          exact J.goto [0, 1, 2, 3, 4, 5, 6, 7, 8, 9] (hj (a3, c3, a4, c4)) ⟨rfl, rfl, rfl, rfl, rfl, rfl, rfl, rfl, rfl, trivial⟩ rfl rfl
      · skip
        refine J.r hX tab_ok 1 (fun _ => rfl) fun b8 => ?_
        refine J.r hX tab_ok 1 (fun _ => rfl) fun b3 => ?_
        refine J.append hX tab_ok 8 12 0 rfl rfl rfl rfl rfl rfl rfl rfl rfl rfl rfl rfl rfl rfl rfl rfl ?_ ?_ (fun _ => rfl) fun a3 c3 => ⟨_, (congrArg (fun z => lset _ 8 (ownA _ _ _ _ _ z)) hS1).trans rfl, ⟨rfl, rfl, trivial⟩, ?_⟩
        · simp only [maxLen]; omega
        · omega
        refine J.r hX tab_ok 1 (fun _ => rfl) fun b25 => ?_
        refine J.append hX tab_ok 9 11 0 rfl rfl rfl rfl rfl rfl rfl rfl rfl rfl rfl rfl rfl rfl rfl rfl ?_ ?_ (fun _ => rfl) fun a4 c4 => ⟨_, (congrArg (fun z => lset _ 9 (ownA _ _ _ _ _ z)) hS2).trans rfl, ⟨rfl, rfl, trivial⟩, ?_⟩
        · simp only [maxLen]; omega
        · omega
        refine J.r hX tab_ok 4 (fun _ => rfl) fun b26 => ?_
        exact J.goto [0, 1, 2, 3, 4, 5, 6, 7, 8, 9] (hj (a3, c3, a4, c4)) ⟨rfl, rfl, rfl, rfl, rfl, rfl, rfl, rfl, rfl, trivial⟩ rfl rfl
    obtain ⟨a3, c3, a4, c4⟩ := x
    dsimp only
    refine J.r hX tab_ok 400 (fun _ => rfl) fun b27 => ?_
    refine J.r hX tab_ok 400 (fun _ => rfl) fun b28 => ?_
    refine J.nS ((k + 1, a3, c3, a4, c4)) (by dsimp only; omega) (by dsimp only; omega) [0, 1, 2, 3, 4, 5, 6, 7, 8, 9] rfl rfl
  · simp only [decide_eq_false_iff_not] at h1
    have hk : k = (G.slots m).toNat := by omega
    subst hk
    refine J.r hX tab_ok 400 (fun _ => rfl) fun b29 => ?_
    refine J.rt hX tab_ok [1, 8, 9] rfl rfl rfl ?_
    refine ⟨a1, c1, a2, c2, ?_, rfl⟩
    rw [show (R.look N b r m).parity = P.1 from congrArg Prod.fst hP, show (R.look N b r m).whole = P.2 from congrArg Prod.snd hP]
    rfl
end Go.Proofs.YtoideahgjgaddaaGreat
/- Walks: row.found.mended. -/
namespace Go.Proofs.YtoideahgjgaddaaGreat
open Go Go.RowKit
/-- the others among the first i -/
def othN (l : List Sh) (k i : Nat) : List Sh := (l.take i).eraseIdx k
theorem othN_eq (l : List Sh) (i : Nat) (h : i < l.length) : othN l i (i + 1) = othN l i i := by
  unfold othN
  have hl : (l.take i).length = i := by rw [List.length_take]; omega
  rw [List.eraseIdx_of_length_le (l := l.take i) (by omega), List.take_add_one, List.getElem?_eq_getElem h, Option.toList_some]
  rw [List.eraseIdx_append_of_length_le (by omega), hl, Nat.sub_self]
  simp
theorem othN_ne (l : List Sh) (k i : Nat) (x : Sh) (h : l[i]? = some x) (hk : i ≠ k) : othN l k (i + 1) = othN l k i ++ [x] := by
  unfold othN
  rw [List.take_add_one, h, Option.toList_some]
  have hi := (List.getElem?_eq_some_iff.1 h).1
  have hl : (l.take i).length = i := by rw [List.length_take]; omega
  by_cases hlt : k < i
  · rw [List.eraseIdx_append_of_lt_length (by omega)]
  · rw [List.eraseIdx_of_length_le (l := l.take i ++ [x]) (by rw [List.length_append, List.length_singleton]; omega), List.eraseIdx_of_length_le (by omega)]
theorem othN_len (l : List Sh) (k i : Nat) : (othN l k i).length ≤ l.length := by
  unfold othN
  refine Nat.le_trans (List.length_eraseIdx_le _ _) ?_
  rw [List.length_take]; omega
theorem othN_mem {l : List Sh} {k i : Nat} {x : Sh} (h : x ∈ othN l k i) : x ∈ l := List.mem_of_mem_take (List.mem_of_mem_eraseIdx h)
theorem r_mended (f : Fd) (n : Nat) (hn : n ≤ 8) (h1l : f.slots.length = n) (h2l : f.good.length = n) (hd : ∀ s ∈ f.slots, s.data.length = 16) (hp : f.parity.data.length = 16) (a1 a2 : Option Nat) (c1 c2 k : Nat) : Fn Tryz.prog 87 [.agg (fdL a1 c1 a2 c2 n f.parity f.whole).toArray, .int .i64 k] [ownA 137 23 a1 n c1 (cellsS f.slots), ownA 4 1 a2 n c2 (cellsB f.good)]
    (fun v As => v = .tuple #[enV (R.mend f k), .bool (R.mendB f k)] ∧ As = [ownA 137 23 a1 n c1 (cellsS f.slots), ownA 4 1 a2 n c2 (cellsB f.good)]) := by
  refine Fn.enter [0, 0] Tryz.func87 rfl rfl rfl fun X F hX => ?_
  refine J.r hX tab_ok 400 (fun _ => rfl) fun bb => ?_
  refine J.turn1 [] rfl (As := [ownA 137 23 none 0 0 (cellsS (othN f.slots k 0))]) (fun h s => Sep.one ⟨rfl, rfl, rfl⟩) rfl ?_
  refine J.r hX tab_ok 400 (fun _ => rfl) fun b1 => ?_
  refine J.r hX tab_ok 400 (fun _ => rfl) fun b2 => ?_
  refine J.lo (α := (Nat × Option Nat × Nat)) (fun z => z.1 ≤ n ∧ ∀ j < z.1, j = k ∨ f.good.getD j false = true) (fun z => [⟨12, .int .i64 z.1, 0, .tt⟩, ⟨11, .int .i64 n, 0, .tt⟩, ⟨10, slv a1 n c1, 0, .tt⟩, ⟨1, .int .i64 k, 0, .tt⟩, ⟨2, .pointer (some ⟨bb 0, 0, none⟩), 4, .tt⟩, ⟨4, .pointer (some ⟨bb 1, 0, none⟩), 5, .tt⟩, ⟨5, .bool false, 0, .tt⟩, ⟨6, slv z.2.1 (othN f.slots k z.1).length z.2.2, 0, .tt⟩]) [5] (fun z => [ownA 137 23 z.2.1 (othN f.slots k z.1).length z.2.2 (cellsS (othN f.slots k z.1))]) (fun z => n - z.1) ((0, none, 0)) (⟨Nat.zero_le _, by omega⟩) rfl ?_ (fun _ => rfl) fun z hI => ?_
  · rfl
  obtain ⟨i, a3, c3⟩ := z
  dsimp only at hI ⊢
  have hol := othN_len f.slots k i
  refine J.r hX tab_ok 400 (fun _ => rfl) fun b3 => ?_
  refine J.cond rfl (fun h1 => ?_) (fun h1 => ?_)
  · simp only [decide_eq_true_eq, Int.ofNat_lt] at h1
    refine J.know (fun h' s => own_some (c := (a1, c1)) (by omega) (s.get (i := 1) rfl)) fun hg => ?_
    obtain ⟨g1, rfl⟩ := hg
    refine J.know (fun h' s => own_some (c := (a2, c2)) (by omega) (s.get (i := 2) rfl)) fun hg => ?_
    obtain ⟨g2, rfl⟩ := hg
    obtain ⟨s, hs⟩ : ∃ s, f.slots[i]? = some s := ⟨_, List.getElem?_eq_getElem (by omega)⟩
    have hgd : f.good[i]? = some (f.good.getD i false) := by rw [List.getD_eq_getElem?_getD, List.getElem?_eq_getElem (by omega), Option.getD_some]
    refine J.r hX tab_ok 400 (fun _ => rfl) fun b4 => ?_
    refine J.val hX (shV s) 0 rfl rfl (fun hg a w he hw => ?_) rfl trivial ?_
    · exact ownN_run tab_ok rfl rfl he rfl rfl rfl (hw.get (i := 1) rfl) (by rw [show 0 + (i : Int).toNat * 23 = i * 23 from by omega]; exact cellsS_get hs) rfl
    refine J.r hX tab_ok 400 (fun _ => rfl) fun b5 => ?_
    refine J.cond rfl (fun h2 => ?_) (fun h2 => ?_)
    · simp only [beq_iff_eq, Int.natCast_inj] at h2
      subst h2
      rw [← othN_eq f.slots i (by omega)]
      refine J.r hX tab_ok 400 (fun _ => rfl) fun b6 => ?_
      refine J.r hX tab_ok 400 (fun _ => rfl) fun b7 => ?_
      refine J.nS ((i + 1, a3, c3)) (⟨by dsimp only; omega, fun j hj => by
        rcases Nat.lt_succ_iff_lt_or_eq.1 hj with h | h
        · exact hI.2 j h
        · exact .inl h⟩) (by dsimp only; omega) [0, 1, 2, 3, 4, 5] rfl rfl
    simp only [beq_eq_false_iff_ne, ne_eq, Int.natCast_inj] at h2
    refine J.r hX tab_ok 400 (fun _ => rfl) fun b8 => ?_
    refine J.val hX (.bool (f.good.getD i false)) 0 rfl rfl (fun hg a w he hw => ?_) rfl trivial ?_
    · exact own1_run tab_ok rfl rfl he rfl rfl rfl (hw.get (i := 2) rfl) (by rw [show 0 + (i : Int).toNat * 1 = i from by omega]; exact cellsB_get hgd)
    refine J.r hX tab_ok 400 (fun _ => rfl) fun b9 => ?_
    refine J.cond rfl (fun h3 => ?_) (fun h3 => ?_)
    · simp only [Bool.not_eq_true'] at h3
      refine J.r hX tab_ok 400 (fun _ => rfl) fun b10 => ?_
      refine J.rt hX tab_ok [1, 2] rfl rfl rfl ?_
      have hr : R.rest f k = false := by
        unfold R.rest
        rw [List.all_eq_false]
        exact ⟨i, by rw [List.mem_range]; omega, by rw [h3]; simpa using h2⟩
      simp only [R.mend, R.mendB, hr, Bool.false_and]
      exact ⟨rfl, rfl⟩
    · simp only [Bool.not_eq_false'] at h3
      have hsn := othN_ne f.slots k i s hs h2
      have hsl : (othN f.slots k i).length + 1 = (othN f.slots k (i + 1)).length := by rw [hsn]; simp
      refine J.r hX tab_ok 400 (fun _ => rfl) fun b11 => ?_
      refine J.append hX tab_ok 5 7 0 rfl rfl rfl rfl rfl rfl rfl rfl rfl rfl rfl rfl rfl rfl rfl rfl ?_ ?_ (fun _ => rfl) fun a4 c4 => ⟨_, (congrArg (fun z => lset _ 5 (ownA _ _ _ _ _ z)) ((cellsS_snoc _ s).symm.trans (congrArg cellsS hsn.symm))).trans rfl, trivial, ?_⟩
      · simp only [maxLen]; omega
      · omega
      rw [hsl]
      refine J.r hX tab_ok 400 (fun _ => rfl) fun b12 => ?_
      refine J.r hX tab_ok 400 (fun _ => rfl) fun b13 => ?_
      refine J.nS ((i + 1, a4, c4)) (⟨by dsimp only; omega, fun j hj => by
        rcases Nat.lt_succ_iff_lt_or_eq.1 hj with h | h
        · exact hI.2 j h
        · exact .inr (h ▸ h3)⟩) (by dsimp only; omega) [0, 1, 2, 3, 4, 5] rfl rfl
  · simp only [decide_eq_false_iff_not, Int.ofNat_lt] at h1
    obtain rfl : i = n := by omega
    have hr : R.rest f k = true := by
      unfold R.rest
      rw [List.all_eq_true]
      intro j hj
      rcases hI.2 j (by simp at hj; omega) with h | h
      · simp [h]
      · rw [h]; simp
    have ho : othN f.slots k i = f.slots.eraseIdx k := by unfold othN; rw [List.take_of_length_le (by omega)]
    refine J.r hX tab_ok 400 (fun _ => rfl) fun b14 => ?_
    refine J.cond rfl (fun h4 => ?_) (fun h4 => ?_)
    · simp only [Bool.not_eq_true'] at h4
      refine J.r hX tab_ok 400 (fun _ => rfl) fun b15 => ?_
      refine J.rt hX tab_ok [1, 2] rfl rfl rfl ?_
      simp only [R.mend, R.mendB, h4, Bool.and_false, Bool.false_and]
      exact ⟨rfl, rfl⟩
    · simp only [Bool.not_eq_false'] at h4
      refine J.r hX tab_ok 400 (fun _ => rfl) fun b16 => ?_
      refine J.r hX tab_ok 400 (fun _ => rfl) fun b17 => ?_
      refine J.ca hX (by kernel_rfl) (w_Back f.parity hp a3 (othN f.slots k i).length c3 (othN f.slots k i) rfl (by omega) (fun s hs => hd s (othN_mem hs))) [5] 0 rfl rfl rfl rfl rfl rfl (fun _ => rfl) ?_
      rintro v As ⟨rfl, rfl⟩
      refine ⟨_, rfl, trivial, ?_⟩
      refine J.r hX tab_ok 400 (fun _ => rfl) fun b18 => ?_
      refine J.rt hX tab_ok [1, 2] rfl rfl rfl ?_
      simp only [R.mend, R.mendB, hr, h4, Bool.and_self, Bool.true_and, if_true, ← ho]
      exact ⟨rfl, rfl⟩
end Go.Proofs.YtoideahgjgaddaaGreat
/- Walks: row.Read. -/
namespace Go.Proofs.YtoideahgjgaddaaGreat
open Go Go.RowKit
theorem without_count : ∀ m, m < 256 → ∀ k, k < 8 → 0 ≤ L.at_ (m : Nat) (k : Nat) → L.count (L.without (m : Nat) (L.at_ (m : Nat) (k : Nat))) = L.count (m : Nat) - 1 := by decide +kernel
/-- a slot that has a die is one -/
theorem die_lt {m b r s : Int} (h : 0 ≤ G.die m b r s) : 0 ≤ s ∧ s < G.slots m := by
  unfold G.die at h
  split at h
  · omega
  · rename_i hp
    have hp0 : 0 ≤ G.parity m b r := by omega
    have hs : 0 ≤ s ∧ s < (L.count (L.without m (G.parity m b r)) : Int) := by
      by_cases hh : s < 0 ∨ (L.count (L.without m (G.parity m b r)) : Int) ≤ s
      · rw [L.at_ge _ _ hh] at h; omega
      · omega
    unfold G.parity at hp0 hs
    split at hp0
    · omega
    · rename_i hc
      rw [if_neg hc] at hs
      have hm : 0 ≤ m ∧ m < 256 := by
        by_cases hh : 0 ≤ m ∧ m < 256
        · exact hh
        · have := L.count_no m hh; omega
      obtain ⟨M, rfl⟩ := Int.eq_ofNat_of_zero_le hm.1
      have hcl := L.count_le (M : Int)
      have hq : 0 ≤ (b + r) % (L.count (M : Int) : Int) ∧ (b + r) % (L.count (M : Int) : Int) < L.count (M : Int) := ⟨Int.emod_nonneg _ (by omega), Int.emod_lt_of_pos _ (by omega)⟩
      obtain ⟨q, hq2⟩ := Int.eq_ofNat_of_zero_le hq.1
      rw [hq2] at hs hp0 hq
      rw [without_count M (by omega) q (by omega) hp0] at hs
      unfold G.slots
      rw [if_neg (by omega)]
      omega
theorem look_data {N : Nand} (hN : N.Ok) (b r m : Int) : (∀ s ∈ (R.look N b r m).slots, s.data.length = 16) ∧ (R.look N b r m).parity.data.length = 16 := by
  refine ⟨fun s hs => ?_, mlook_len hN _ _ _⟩
  simp only [R.look, R.ones, List.map_map, List.mem_map] at hs
  obtain ⟨k, _, rfl⟩ := hs
  exact mlook_len hN _ _ _
theorem r_Read (p : Nat) (N : Nand) (hN : N.Ok) (hR : N.Room) (b r s m : Int) (h0 : -1000000 ≤ s) (h1 : s ≤ 1000000) : Fn Tryz.prog 116 [.pointer (some ⟨p, 0, none⟩), .agg #[.int .i64 b, .int .i64 r, .int .i64 s], .int .i64 m] [NandA p N]
    (fun v As => v = .tuple #[enV (R.read N b r s m).1, .int .i64 (R.read N b r s m).2] ∧ As = [NandA p N]) := by
  have hbd := hN.bd
  refine Fn.enter [2, 0, 0] Tryz.func116 rfl rfl rfl fun X F hX => ?_
  refine J.r hX tab_ok 400 (fun _ => rfl) fun bb => ?_
  refine J.join (α := Unit) (fun _ => [⟨30, .bool (decide (G.die m b r s < 0) || !geoIn N.dies N.blocks N.pages 0 b r), 0, .tt⟩, ⟨0, .pointer (some ⟨p, 0, none⟩), 2, .tt⟩, ⟨2, .int .i64 m, 0, .tt⟩, ⟨4, .pointer (some ⟨bb 0, 0, none⟩), 3, .tt⟩, ⟨6, .pointer (some ⟨bb 1, 0, none⟩), 4, .tt⟩]) (fun _ => [.hp F, NandA p N, .pt (bb 0) 50 [.int .i64 b, .int .i64 r, .int .i64 s], .pt (bb 1) 45 (enL En.zero)]) (fun hj => ?_) (fun _ => ?_)
  · refine J.r hX tab_ok 400 (fun _ => rfl) fun b1 => ?_
    refine J.plan (.of [0,4,9,12,17,20,25,30,32,36,40,48,53,56,61,64,46,70,72,76]) [] [2] (by rw [hX.hP]; kernel_rfl) (by kernel_rfl) ?_
    refine J.r hX tab_ok 400 (fun _ => rfl) fun b2 => ?_
    refine J.r hX tab_ok 400 (fun _ => rfl) fun b3 => ?_
    refine J.ca hX (by kernel_rfl) (g_Die m b r s h0 h1) [] 0 rfl rfl rfl rfl rfl rfl (fun _ => rfl) ?_
    rintro v As ⟨rfl, rfl⟩
    refine ⟨_, rfl, ⟨rfl, trivial⟩, ?_⟩
    refine J.r hX tab_ok 400 (fun _ => rfl) fun b4 => ?_
    refine J.gcase hX rfl rfl rfl ⟨rfl, trivial⟩ (fun hb => ?_) (fun hb => ?_)
    · have hb2 : decide (G.die m b r s < 0) = false := by rwa [Bool.not_eq_true'] at hb
      rw [hb2] at hj ⊢
      refine J.r hX tab_ok 400 (fun _ => rfl) fun b5 => ?_
      refine J.ca hX (by kernel_rfl) (n_Geo p N) [1] 0 rfl rfl rfl rfl rfl rfl (fun _ => rfl) ?_
      rintro v As ⟨rfl, rfl⟩
      refine ⟨_, rfl, ⟨rfl, trivial⟩, ?_⟩
      refine J.r hX tab_ok 400 (fun _ => rfl) fun b6 => ?_
      refine J.r hX tab_ok 400 (fun _ => rfl) fun b7 => ?_
      refine J.ca hX (by kernel_rfl) (f_In N.dies N.blocks N.pages 0 b r (by omega) (by omega) (by omega)) [] 0 rfl rfl rfl rfl rfl rfl (fun _ => rfl) ?_
      rintro v As ⟨rfl, rfl⟩
      refine ⟨_, rfl, ⟨rfl, trivial⟩, ?_⟩
      refine J.r hX tab_ok 400 (fun _ => rfl) fun b8 => ?_
      exact J.goto [0, 1, 2, 3] (hj ()) ⟨rfl, rfl, rfl, rfl, rfl, trivial⟩ rfl rfl
    · have hb2 : decide (G.die m b r s < 0) = true := by rwa [Bool.not_eq_false'] at hb
      rw [hb2] at hj ⊢
      refine J.r hX tab_ok 400 (fun _ => rfl) fun b9 => ?_
      refine J.gcase hX rfl rfl rfl ⟨rfl, trivial⟩ (fun hb => by simp at hb) (fun hb => ?_)
      refine J.r hX tab_ok 400 (fun _ => rfl) fun b10 => ?_
      refine J.valT hX (.bool false) 0 rfl rfl (fun hg a w he hw => by simp [G.on] at hg) rfl ?_
      refine J.r hX tab_ok 400 (fun _ => rfl) fun b11 => ?_
      exact J.goto [0, 1, 2, 3] (hj ()) ⟨rfl, rfl, rfl, rfl, rfl, trivial⟩ rfl rfl
  refine J.r hX tab_ok 400 (fun _ => rfl) fun b12 => ?_
  refine J.cond rfl (fun h2 => ?_) (fun h2 => ?_)
  · refine J.r hX tab_ok 400 (fun _ => rfl) fun b13 => ?_
    refine J.rt hX tab_ok [1] rfl rfl rfl ?_
    have : G.die m b r s < 0 ∨ geoIn N.dies N.blocks N.pages 0 b r = false := by simpa using h2
    rw [R.read, if_pos this]
    exact ⟨rfl, rfl⟩
  have hc : ¬(G.die m b r s < 0 ∨ geoIn N.dies N.blocks N.pages 0 b r = false) := by simpa using h2
  have hd := die_lt (m := m) (b := b) (r := r) (s := s) (by omega)
  have hsb := gslots_bd m
  refine J.r hX tab_ok 400 (fun _ => rfl) fun b14 => ?_
  refine J.r hX tab_ok 400 (fun _ => rfl) fun b15 => ?_
  refine J.ca hX (by kernel_rfl) (n_Power p N) [1] 0 rfl rfl rfl rfl rfl rfl (fun _ => rfl) ?_
  rintro v As ⟨rfl, rfl⟩
  refine ⟨_, rfl, trivial, ?_⟩
  refine J.r hX tab_ok 400 (fun _ => rfl) fun b16 => ?_
  refine J.cond rfl (fun h3 => ?_) (fun h3 => ?_)
  · refine J.r hX tab_ok 400 (fun _ => rfl) fun b17 => ?_
    refine J.rt hX tab_ok [1] rfl rfl rfl ?_
    have : N.off = true := by simpa using h3
    rw [R.read, if_neg hc, if_pos this]
    exact ⟨rfl, rfl⟩
  have hoff : ¬N.off = true := by simpa using h3
  obtain ⟨k, rfl⟩ := Int.eq_ofNat_of_zero_le hd.1
  have hlen := look_len N b r m
  have hdat := look_data hN b r m
  have hkn : k < (G.slots m).toNat := by omega
  refine J.r hX tab_ok 400 (fun _ => rfl) fun b18 => ?_
  refine J.r hX tab_ok 400 (fun _ => rfl) fun b19 => ?_
  refine J.ca hX (by kernel_rfl) (r_look p N hN hR b r m) [1] 0 rfl rfl rfl rfl rfl rfl (fun _ => rfl) ?_
  rintro v As ⟨a1, c1, a2, c2, rfl, rfl⟩
  refine ⟨_, rfl, trivial, ?_⟩
  refine J.know (fun h' s => own_some (c := (a1, c1)) (by omega) (s.get (i := 4) rfl)) fun hg => ?_
  obtain ⟨g1, rfl⟩ := hg
  refine J.know (fun h' s => own_some (c := (a2, c2)) (by omega) (s.get (i := 5) rfl)) fun hg => ?_
  obtain ⟨g2, rfl⟩ := hg
  have hgd : (R.look N b r m).good[k]? = some ((R.look N b r m).good.getD k false) := by rw [List.getD_eq_getElem?_getD, List.getElem?_eq_getElem (by omega), Option.getD_some]
  have hsd : (R.look N b r m).slots[k]? = some ((R.look N b r m).slots.getD k Sh.zero) := by rw [List.getD_eq_getElem?_getD, List.getElem?_eq_getElem (by omega), Option.getD_some]
  have hr : R.read N b r k m = if (R.look N b r m).good.getD k false then (((R.look N b r m).slots.getD k Sh.zero).en, 0) else if R.mendB (R.look N b r m) k then (R.mend (R.look N b r m) k, 0) else (En.zero, 10) := by
    rw [R.read, if_neg hc, if_neg hoff, Int.toNat_natCast]
  refine J.r hX tab_ok 400 (fun _ => rfl) fun b20 => ?_
  refine J.val hX (.bool ((R.look N b r m).good.getD k false)) 0 rfl rfl (fun hg a w he hw => ?_) rfl trivial ?_
  · exact own1_run tab_ok rfl rfl he rfl rfl rfl (hw.get (i := 5) rfl) (by rw [show 0 + (k : Int).toNat * 1 = k from by omega]; exact cellsB_get hgd)
  refine J.r hX tab_ok 400 (fun _ => rfl) fun b21 => ?_
  refine J.cond rfl (fun h4 => ?_) (fun h4 => ?_)
  · refine J.r hX tab_ok 400 (fun _ => rfl) fun b22 => ?_
    refine J.val hX (shV ((R.look N b r m).slots.getD k Sh.zero)) 0 rfl rfl (fun hg a w he hw => ?_) rfl trivial ?_
    · exact ownN_run tab_ok rfl rfl he rfl rfl rfl (hw.get (i := 4) rfl) (by rw [show 0 + (k : Int).toNat * 23 = k * 23 from by omega]; exact cellsS_get hsd) rfl
    refine J.r hX tab_ok 400 (fun _ => rfl) fun b23 => ?_
    refine J.r hX tab_ok 400 (fun _ => rfl) fun b24 => ?_
    refine J.ca hX (by kernel_rfl) (r_entry ((R.look N b r m).slots.getD k Sh.zero)) [] 0 rfl rfl rfl rfl rfl rfl (fun _ => rfl) ?_
    rintro v As ⟨rfl, rfl⟩
    refine ⟨_, rfl, trivial, ?_⟩
    refine J.r hX tab_ok 400 (fun _ => rfl) fun b25 => ?_
    refine J.rt hX tab_ok [1] rfl rfl rfl ?_
    rw [hr, if_pos h4]
    exact ⟨rfl, rfl⟩
  refine J.r hX tab_ok 400 (fun _ => rfl) fun b26 => ?_
  refine J.r hX tab_ok 400 (fun _ => rfl) fun b27 => ?_
  refine J.ca hX (by kernel_rfl) (r_mended (R.look N b r m) (G.slots m).toNat (by omega) hlen.1 hlen.2 hdat.1 hdat.2 (some g1) (some g2) c1 c2 k) [4, 5] 0 rfl rfl rfl rfl rfl rfl (fun _ => rfl) ?_
  rintro v As ⟨rfl, rfl⟩
  refine ⟨_, rfl, trivial, ?_⟩
  refine J.r hX tab_ok 400 (fun _ => rfl) fun b28 => ?_
  refine J.cond rfl (fun h5 => ?_) (fun h5 => ?_)
  · refine J.r hX tab_ok 400 (fun _ => rfl) fun b29 => ?_
    refine J.rt hX tab_ok [1] rfl rfl rfl ?_
    rw [hr, if_neg (by rw [h4]; exact Bool.false_ne_true), if_pos h5]
    exact ⟨rfl, rfl⟩
  · refine J.r hX tab_ok 400 (fun _ => rfl) fun b30 => ?_
    refine J.rt hX tab_ok [1] rfl rfl rfl ?_
    rw [hr, if_neg (by rw [h4]; exact Bool.false_ne_true), if_neg (by rw [h5]; exact Bool.false_ne_true)]
    exact ⟨rfl, rfl⟩
end Go.Proofs.YtoideahgjgaddaaGreat
/- Walks: row.All. -/
namespace Go.Proofs.YtoideahgjgaddaaGreat
open Go Go.RowKit
/-- what was found, as cells -/
def fnL (x : Fnd) : List Value := [.int .i64 x.en.lpn, .int .i64 x.en.seq, .int .i64 x.en.role, byC x.en.data 0, byC x.en.data 1, byC x.en.data 2, byC x.en.data 3, byC x.en.data 4, byC x.en.data 5, byC x.en.data 6, byC x.en.data 7, byC x.en.data 8, byC x.en.data 9, byC x.en.data 10, byC x.en.data 11, byC x.en.data 12, byC x.en.data 13, byC x.en.data 14, byC x.en.data 15,
  .int .i64 x.block, .int .i64 x.row, .int .i64 x.slot, .int .i64 x.mask, .bool x.whole, .bool x.mended]
def cellsF (l : List Fnd) : List Value := l.flatMap fnL
theorem fnL_len (x : Fnd) : (fnL x).length = 25 := rfl
theorem cellsF_len (l : List Fnd) : (cellsF l).length = l.length * 25 := by
  induction l with
  | nil => rfl
  | cons x l ih => simp only [cellsF, List.flatMap_cons, List.length_append, List.length_cons] at ih ⊢; rw [ih, fnL_len]; omega
theorem cellsF_snoc (l : List Fnd) (x : Fnd) : cellsF (l ++ [x]) = cellsF l ++ fnL x := by simp [cellsF]
theorem cellsF_get : ∀ {l : List Fnd} {k : Nat} {x : Fnd}, l[k]? = some x → ((cellsF l).drop (k * 25)).take 25 = fnL x
  | [], _, _, h => by simp at h
  | y :: l, 0, x, h => by
    simp at h; subst h
    rw [Nat.zero_mul, List.drop_zero]
    exact List.take_left' (fnL_len y)
  | y :: l, k + 1, x, h => by
    have := cellsF_get (l := l) (k := k) (x := x) (by simpa using h)
    rw [show (k + 1) * 25 = 25 + k * 25 from by omega, ← List.drop_drop]
    simp only [cellsF, List.flatMap_cons]
    rw [List.drop_left' (fnL_len y)]
    exact this
theorem ded_len (x : Int) : ∀ l : List Int, (dedFrom x l).length ≤ l.length
  | [] => Nat.le_refl _
  | y :: l => by
    unfold dedFrom
    split
    · have h := ded_len y l; exact Nat.le_trans h (by simp)
    · have h := ded_len y l; simpa using h
theorem compact_len : ∀ l : List Int, (compactI l).length ≤ l.length
  | [] => Nat.le_refl _
  | x :: l => by have h := ded_len x l; simpa [compactI] using h
theorem masks_len (N : Nand) (b r : Int) : (M.masks N b r).length ≤ N.dies := by
  unfold M.masks
  refine Nat.le_trans (compact_len _) ?_
  rw [isortL_len]
  refine Nat.le_trans (List.length_filterMap_le _ _) ?_
  simp [M.rowN]
def outI (N : Nand) (b r : Int) (i : Nat) : List Fnd := ((M.masks N b r).take i).flatMap (R.allM N b r)
def outJ (N : Nand) (b r mk : Int) (i j : Nat) : List Fnd := outI N b r i ++ (List.range j).filterMap (R.fnd (R.look N b r mk) b r mk)
theorem allM_len (N : Nand) (b r m : Int) : (R.allM N b r m).length ≤ 7 := by
  unfold R.allM
  refine Nat.le_trans (List.length_filterMap_le _ _) ?_
  rw [List.length_range, (look_len N b r m).1]
  have := gslots_bd m; omega
theorem outI_len (N : Nand) (b r : Int) (i : Nat) (h : N.dies ≤ 6) : (outI N b r i).length ≤ 42 := by
  have h1 : ∀ l : List Int, (l.flatMap (R.allM N b r)).length ≤ 7 * l.length := by
    intro l
    induction l with
    | nil => simp
    | cons x l ih => rw [List.flatMap_cons, List.length_append, List.length_cons]; have := allM_len N b r x; omega
  have h2 := h1 ((M.masks N b r).take i)
  have h3 := masks_len N b r
  have h4 : ((M.masks N b r).take i).length ≤ 6 := by rw [List.length_take]; omega
  unfold outI; omega
theorem outJ_len (N : Nand) (b r mk : Int) (i j : Nat) (h : N.dies ≤ 6) (hj : j ≤ 7) : (outJ N b r mk i j).length ≤ 49 := by
  have h1 := outI_len N b r i h
  have h2 := List.length_filterMap_le (R.fnd (R.look N b r mk) b r mk) (List.range j)
  rw [List.length_range] at h2
  unfold outJ; rw [List.length_append]; omega
theorem outJ_zero (N : Nand) (b r mk : Int) (i : Nat) : outJ N b r mk i 0 = outI N b r i := by simp [outJ]
theorem outJ_succ (N : Nand) (b r mk : Int) (i j : Nat) : outJ N b r mk i (j + 1) = outJ N b r mk i j ++ (R.fnd (R.look N b r mk) b r mk j).toList := by
  unfold outJ
  rw [List.range_succ, List.filterMap_append, List.append_assoc]
  congr 2
theorem outJ_all (N : Nand) (b r mk : Int) (i : Nat) (h : (M.masks N b r)[i]? = some mk) : outJ N b r mk i (G.slots mk).toNat = outI N b r (i + 1) := by
  unfold outJ outI
  rw [List.take_add_one, h, Option.toList_some, List.flatMap_append]
  congr 1
  rw [List.flatMap_cons, List.flatMap_nil, List.append_nil, R.allM, (look_len N b r mk).1]
theorem r_All (p : Nat) (N : Nand) (hN : N.Ok) (hR : N.Room) (b r : Int) : Fn Tryz.prog 43 [.pointer (some ⟨p, 0, none⟩), .int .i64 b, .int .i64 r] [NandA p N]
    (fun v As => ∃ a c, v = slv a (R.all N b r).length c ∧ As = [NandA p N, ownA 103 25 a (R.all N b r).length c (cellsF (R.all N b r))]) := by
  have hbd := hN.bd
  have hml := masks_len N b r
  refine Fn.enter [2, 0, 0] Tryz.func43 rfl rfl rfl fun X F hX => ?_
  refine J.r hX tab_ok 400 (fun _ => rfl) fun b1 => ?_
  refine J.r hX tab_ok 400 (fun _ => rfl) fun b2 => ?_
  refine J.ca hX (by kernel_rfl) (m_Masks p N hN hR b r) [1] 0 rfl rfl rfl rfl rfl rfl (fun _ => rfl) ?_
  rintro v As ⟨am, cm, rfl, rfl⟩
  refine ⟨_, rfl, trivial, ?_⟩
  refine J.turn1 [] rfl (As := [ownA 103 25 none 0 0 (cellsF (outI N b r 0))]) (fun h s => Sep.one ⟨rfl, rfl, rfl⟩) rfl ?_
  refine J.r hX tab_ok 400 (fun _ => rfl) fun b3 => ?_
  refine J.r hX tab_ok 400 (fun _ => rfl) fun b4 => ?_
  refine J.lo (α := (Nat × Option Nat × Nat)) (fun z => z.1 ≤ (M.masks N b r).length) (fun z => [⟨20, .int .i64 z.1, 0, .tt⟩, ⟨19, .int .i64 (M.masks N b r).length, 0, .tt⟩, ⟨18, slv am (M.masks N b r).length cm, 0, .tt⟩, ⟨7, slv z.2.1 (outI N b r z.1).length z.2.2, 0, .tt⟩, ⟨0, .pointer (some ⟨p, 0, none⟩), 2, .tt⟩, ⟨1, .int .i64 b, 0, .tt⟩, ⟨2, .int .i64 r, 0, .tt⟩]) [3] (fun z => [ownA 103 25 z.2.1 (outI N b r z.1).length z.2.2 (cellsF (outI N b r z.1))]) (fun z => (M.masks N b r).length - z.1) ((0, none, 0)) (Nat.zero_le _) rfl ?_ (fun _ => rfl) fun z hI => ?_
  · rfl
  obtain ⟨i, ao, co⟩ := z
  dsimp only at hI ⊢
  refine J.r hX tab_ok 400 (fun _ => rfl) fun b5 => ?_
  refine J.cond rfl (fun h1 => ?_) (fun h1 => ?_)
  · simp only [decide_eq_true_eq, Int.ofNat_lt] at h1
    refine J.know (fun h' s => own_some (c := (am, cm)) (by omega) (s.get (i := 2) rfl)) fun hg => ?_
    obtain ⟨gm, rfl⟩ := hg
    obtain ⟨mk, hmk⟩ : ∃ mk, (M.masks N b r)[i]? = some mk := ⟨_, List.getElem?_eq_getElem h1⟩
    refine J.r hX tab_ok 400 (fun _ => rfl) fun b6 => ?_
    refine J.val hX (.int .i64 mk) 0 rfl rfl (fun hg a w he hw => ?_) rfl trivial ?_
    · exact own1_run tab_ok rfl rfl he rfl rfl rfl (hw.get (i := 2) rfl) (by rw [show 0 + (i : Int).toNat * 1 = i from by omega]; exact cellsI_get hmk)
    have hsb := gslots_bd mk
    have hlen := look_len N b r mk
    have hdat := look_data hN b r mk
    refine J.r hX tab_ok 400 (fun _ => rfl) fun b7 => ?_
    refine J.r hX tab_ok 400 (fun _ => rfl) fun b8 => ?_
    refine J.ca hX (by kernel_rfl) (r_look p N hN hR b r mk) [1] 0 rfl rfl rfl rfl rfl rfl (fun _ => rfl) ?_
    rintro v As ⟨a1, c1, a2, c2, rfl, rfl⟩
    refine ⟨_, rfl, trivial, ?_⟩
    have hfnd : ∀ j, R.fnd (R.look N b r mk) b r mk j = if R.okAt (R.look N b r mk) j && (R.enAt (R.look N b r mk) j).role != 3 then some ⟨R.enAt (R.look N b r mk) j, b, r, j, mk, (R.look N b r mk).whole, !((R.look N b r mk).good.getD j false)⟩ else none := fun j => rfl
    have hout := outJ_succ N b r mk i
    have hz := outJ_zero N b r mk i
    have hall := outJ_all N b r mk i hmk
    have hol : ∀ j, j ≤ 7 → (outJ N b r mk i j).length ≤ 49 := fun j hj => outJ_len N b r mk i j (by omega) hj
    have hnb : (G.slots mk).toNat ≤ 7 := by omega
    rw [← hz]
    generalize hf : R.look N b r mk = f at hlen hdat hfnd hout
    generalize hn : (G.slots mk).toNat = n at hlen hall hnb
    refine J.r hX tab_ok 400 (fun _ => rfl) fun bbf => ?_
    refine J.r hX tab_ok 400 (fun _ => rfl) fun b9 => ?_
    refine J.lo (α := (Nat × Option Nat × Nat)) (fun z => z.1 ≤ n) (fun z => [⟨32, .int .i64 z.1, 0, .tt⟩, ⟨31, .int .i64 n, 0, .tt⟩, ⟨30, slv a1 n c1, 0, .tt⟩, ⟨10, .pointer (some ⟨bbf 0, 0, none⟩), 7, .tt⟩, ⟨9, .int .i64 mk, 0, .tt⟩, ⟨20, .int .i64 i, 0, .tt⟩, ⟨19, .int .i64 (M.masks N b r).length, 0, .tt⟩, ⟨18, slv (some gm) (M.masks N b r).length cm, 0, .tt⟩, ⟨7, slv z.2.1 (outJ N b r mk i z.1).length z.2.2, 0, .tt⟩, ⟨0, .pointer (some ⟨p, 0, none⟩), 2, .tt⟩, ⟨1, .int .i64 b, 0, .tt⟩, ⟨2, .int .i64 r, 0, .tt⟩]) [3] (fun z => [ownA 103 25 z.2.1 (outJ N b r mk i z.1).length z.2.2 (cellsF (outJ N b r mk i z.1))]) (fun z => n - z.1) ((0, ao, co)) (Nat.zero_le _) rfl ?_ (fun _ => rfl) fun z hI => ?_
    · rfl
    obtain ⟨j, ao, co⟩ := z
    dsimp only at hI ⊢
    refine J.r hX tab_ok 400 (fun _ => rfl) fun b10 => ?_
    refine J.cond rfl (fun h2 => ?_) (fun h2 => ?_)
    · simp only [decide_eq_true_eq, Int.ofNat_lt] at h2
      refine J.know (fun h' s => own_some (c := (a1, c1)) (by omega) (s.get (i := 4) rfl)) fun hg => ?_
      obtain ⟨g1, rfl⟩ := hg
      refine J.know (fun h' s => own_some (c := (a2, c2)) (by omega) (s.get (i := 5) rfl)) fun hg => ?_
      obtain ⟨g2, rfl⟩ := hg
      obtain ⟨s, hs⟩ : ∃ s, f.slots[j]? = some s := ⟨_, List.getElem?_eq_getElem (by omega)⟩
      obtain ⟨gk, hgd⟩ : ∃ g, f.good[j]? = some g := ⟨_, List.getElem?_eq_getElem (by omega)⟩
      have hgk : f.good.getD j false = gk := by rw [List.getD_eq_getElem?_getD, hgd, Option.getD_some]
      have hsk : f.slots.getD j Sh.zero = s := by rw [List.getD_eq_getElem?_getD, hs, Option.getD_some]
      refine J.r hX tab_ok 400 (fun _ => rfl) fun b11 => ?_
      refine J.val hX (shV s) 0 rfl rfl (fun hg a w he hw => ?_) rfl trivial ?_
      · exact ownN_run tab_ok rfl rfl he rfl rfl rfl (hw.get (i := 4) rfl) (by rw [show 0 + (j : Int).toNat * 23 = j * 23 from by omega]; exact cellsS_get hs) rfl
      obtain ⟨bb, hbb⟩ : ∃ x, bbf 0 = x := ⟨_, rfl⟩
      rw [hbb]
      refine J.r hX tab_ok 400 (fun _ => rfl) fun b12 => ?_
      refine J.plan (.take false 0 (.take true 2 (.take false 3 (.take true 4 (.take true 5 (.take false 6 (.alt false 1 ((.of [30,34,36])) (.alt false 7 ((.of [6,34,36])) .non)))))))) [9] [5, 6, 7] (by rw [hX.hP]; kernel_rfl) (by kernel_rfl) ?_
      refine J.join (α := Nat) (fun x => [⟨14, .bool gk, 0, .tt⟩, ⟨13, .pointer (some ⟨x, 0, none⟩), 8, .tt⟩, ⟨11, .int .i64 j, 0, .tt⟩, ⟨32, .int .i64 j, 0, .tt⟩, ⟨31, .int .i64 n, 0, .tt⟩, ⟨30, slv (some g1) n c1, 0, .tt⟩, ⟨10, .pointer (some ⟨bb, 0, none⟩), 7, .tt⟩, ⟨9, .int .i64 mk, 0, .tt⟩, ⟨20, .int .i64 i, 0, .tt⟩, ⟨19, .int .i64 (M.masks N b r).length, 0, .tt⟩, ⟨18, slv (some gm) (M.masks N b r).length cm, 0, .tt⟩, ⟨7, slv ao (outJ N b r mk i j).length co, 0, .tt⟩, ⟨0, .pointer (some ⟨p, 0, none⟩), 2, .tt⟩, ⟨1, .int .i64 b, 0, .tt⟩, ⟨2, .int .i64 r, 0, .tt⟩]) (fun x => [.hp F, NandA p N, ownA 3 1 (some gm) (M.masks N b r).length cm (cellsI (M.masks N b r)), ownA 103 25 ao (outJ N b r mk i j).length co (cellsF (outJ N b r mk i j)), ownA 137 23 (some g1) n c1 (cellsS f.slots), ownA 4 1 (some g2) n c2 (cellsB f.good), .pt bb 163 (fdL (some g1) c1 (some g2) c2 n f.parity f.whole), .pt x 45 (enL s.en)]) (fun hj => ?_) (fun x => ?_)
      · skip
        refine J.r hX tab_ok 5 (fun _ => rfl) fun b13 => ?_
        refine J.valT hX (.bool gk) 0 rfl rfl (fun _ a w he hC => own1_run tab_ok rfl rfl he rfl rfl rfl (hC rfl _ (cget_mem (i := 5) rfl)) (by rw [show 0 + (j : Int).toNat * 1 = j from by omega]; exact cellsB_get hgd)) rfl ?_
        refine J.alts ?_ ?_
        · skip
          refine J.r hX tab_ok 400 (fun _ => rfl) fun b14 => ?_
          refine J.ca hX (by kernel_rfl) (r_entry s) [] 0 rfl rfl rfl rfl rfl rfl (fun _ => rfl) ?_
          rintro v As ⟨rfl, rfl⟩
          refine ⟨_, rfl, ⟨rfl, rfl, rfl, trivial⟩, ?_⟩
          refine J.r hX tab_ok 1 (fun _ => rfl) fun b7 => ?_
          refine J.r hX tab_ok 3 (fun _ => rfl) fun b15 => ?_
          exact J.goto [0, 1, 2, 3, 4, 5, 6, 8] (hj (b7 0)) ⟨rfl, rfl, rfl, rfl, rfl, rfl, rfl, rfl, rfl, rfl, rfl, rfl, rfl, rfl, rfl, trivial⟩ rfl rfl
        · skip
          refine J.r hX tab_ok 1 (fun _ => rfl) fun b7 => ?_
          refine J.r hX tab_ok 400 (fun _ => rfl) fun b16 => ?_
          refine J.ca hX (by kernel_rfl) (r_entry s) [] 0 rfl rfl rfl rfl rfl rfl (fun _ => rfl) ?_
          rintro v As ⟨rfl, rfl⟩
          refine ⟨_, rfl, ⟨rfl, rfl, rfl, trivial⟩, ?_⟩
          refine J.r hX tab_ok 3 (fun _ => rfl) fun b17 => ?_
          exact J.goto [0, 1, 2, 3, 4, 5, 6, 8] (hj (b7 0)) ⟨rfl, rfl, rfl, rfl, rfl, rfl, rfl, rfl, rfl, rfl, rfl, rfl, rfl, rfl, rfl, trivial⟩ rfl rfl
      refine J.r hX tab_ok 400 (fun _ => rfl) fun b18 => ?_
      refine J.join (α := Unit) (fun _ => [⟨14, .bool (R.okAt f j), 0, .tt⟩, ⟨13, .pointer (some ⟨x, 0, none⟩), 8, .tt⟩, ⟨11, .int .i64 j, 0, .tt⟩, ⟨32, .int .i64 j, 0, .tt⟩, ⟨31, .int .i64 n, 0, .tt⟩, ⟨30, slv (some g1) n c1, 0, .tt⟩, ⟨10, .pointer (some ⟨bb, 0, none⟩), 7, .tt⟩, ⟨9, .int .i64 mk, 0, .tt⟩, ⟨20, .int .i64 i, 0, .tt⟩, ⟨19, .int .i64 (M.masks N b r).length, 0, .tt⟩, ⟨18, slv (some gm) (M.masks N b r).length cm, 0, .tt⟩, ⟨7, slv ao (outJ N b r mk i j).length co, 0, .tt⟩, ⟨0, .pointer (some ⟨p, 0, none⟩), 2, .tt⟩, ⟨1, .int .i64 b, 0, .tt⟩, ⟨2, .int .i64 r, 0, .tt⟩]) (fun _ => [.hp F, NandA p N, ownA 3 1 (some gm) (M.masks N b r).length cm (cellsI (M.masks N b r)), ownA 103 25 ao (outJ N b r mk i j).length co (cellsF (outJ N b r mk i j)), ownA 137 23 (some g1) n c1 (cellsS f.slots), ownA 4 1 (some g2) n c2 (cellsB f.good), .pt bb 163 (fdL (some g1) c1 (some g2) c2 n f.parity f.whole), .pt x 45 (enL (R.enAt f j))]) (fun hj => ?_) (fun _ => ?_)
      · refine J.r hX tab_ok 400 (fun _ => rfl) fun b19 => ?_
        refine J.cond rfl (fun h3 => ?_) (fun h3 => ?_)
        · simp only [Bool.not_eq_true'] at h3
          subst h3
          refine J.r hX tab_ok 400 (fun _ => rfl) fun b20 => ?_
          refine J.r hX tab_ok 400 (fun _ => rfl) fun b21 => ?_
          refine J.ca hX (by kernel_rfl) (r_mended f n (by omega) hlen.1 hlen.2 hdat.1 hdat.2 (some g1) (some g2) c1 c2 j) [4, 5] 0 rfl rfl rfl rfl rfl rfl (fun _ => rfl) ?_
          rintro v As ⟨rfl, rfl⟩
          refine ⟨_, rfl, trivial, ?_⟩
          rw [show R.okAt f j = R.mendB f j from by rw [R.okAt, hgk]; rfl, show R.enAt f j = R.mend f j from by rw [R.enAt, hgk]; rfl] at hj
          refine J.r hX tab_ok 6 (fun _ => rfl) fun b22 => ?_
          exact J.goto [0, 1, 2, 3, 4, 5, 6, 7] (hj ()) ⟨rfl, rfl, rfl, rfl, rfl, rfl, rfl, rfl, rfl, rfl, rfl, rfl, rfl, rfl, rfl, trivial⟩ rfl rfl
        · simp only [Bool.not_eq_false'] at h3
          subst h3
          rw [show R.okAt f j = true from by rw [R.okAt, hgk]; rfl, show R.enAt f j = s.en from by rw [R.enAt, hgk, if_pos rfl, hsk]] at hj
          refine J.r hX tab_ok 1 (fun _ => rfl) fun b23 => ?_
          exact J.goto [0, 1, 2, 3, 4, 5, 6, 7] (hj ()) ⟨rfl, rfl, rfl, rfl, rfl, rfl, rfl, rfl, rfl, rfl, rfl, rfl, rfl, rfl, rfl, trivial⟩ rfl rfl
      have hf1 := hfnd j
      have ho1 := hout j
      have hol1 := hol j (by omega)
      generalize R.okAt f j = ok at hf1
      generalize R.enAt f j = e at hf1
      refine J.r hX tab_ok 400 (fun _ => rfl) fun b24 => ?_
      refine J.cond rfl (fun h4 => ?_) (fun h4 => ?_)
      · rw [if_pos h4, hgk] at hf1
        rw [hf1, Option.toList_some] at ho1
        have hsl : (outJ N b r mk i j).length + 1 = (outJ N b r mk i (j + 1)).length := by rw [ho1, List.length_append]; rfl
        refine J.r hX tab_ok 400 (fun _ => rfl) fun b25 => ?_
        refine J.plan (.of [0,5,8,12,16,20,24,28,33,36,41,44,48,53,56,60,66,70,72]) [18] [5,6,7] (by rw [hX.hP]; kernel_rfl) (by kernel_rfl) ?_
        refine J.r hX tab_ok 14 (fun _ => rfl) fun b26 => ?_
        refine J.valT hX (.bool gk) 0 rfl rfl (fun _ a w he hC => own1_run tab_ok rfl rfl he rfl rfl rfl (hC rfl _ (cget_mem (i := 5) rfl)) (by rw [show 0 + (j : Int).toNat * 1 = j from by omega]; exact cellsB_get hgd)) rfl ?_
        refine J.r hX tab_ok 400 (fun _ => rfl) fun b27 => ?_
        refine J.append hX tab_ok 3 8 0 rfl rfl rfl rfl rfl rfl rfl rfl rfl rfl rfl rfl rfl rfl rfl rfl ?_ ?_ (fun _ => rfl) fun a4 c4 => ⟨_, (congrArg (fun z => lset _ 3 (ownA _ _ _ _ _ z)) ((cellsF_snoc _ _).symm.trans (congrArg cellsF ho1.symm))).trans rfl, ⟨rfl, rfl, rfl, trivial⟩, ?_⟩
        · simp only [maxLen]; omega
        · omega
        rw [hsl]
        refine J.r hX tab_ok 400 (fun _ => rfl) fun b28 => ?_
        rw [← hbb]
        refine J.r hX tab_ok 400 (fun _ => rfl) fun b29 => ?_
        refine J.nS ((j + 1, a4, c4)) (by dsimp only; omega) (by dsimp only; omega) [0, 1, 2, 3, 4, 5, 6] rfl rfl
      · rw [if_neg (by rw [h4]; exact Bool.false_ne_true)] at hf1
        rw [hf1, Option.toList_none, List.append_nil] at ho1
        rw [← ho1]
        refine J.r hX tab_ok 400 (fun _ => rfl) fun b30 => ?_
        rw [← hbb]
        refine J.r hX tab_ok 400 (fun _ => rfl) fun b31 => ?_
        refine J.nS ((j + 1, ao, co)) (by dsimp only; omega) (by dsimp only; omega) [0, 1, 2, 3, 4, 5, 6] rfl rfl
    · simp only [decide_eq_false_iff_not, Int.ofNat_lt] at h2
      obtain rfl : j = n := by omega
      rw [hall]
      refine J.r hX tab_ok 400 (fun _ => rfl) fun b32 => ?_
      refine J.r hX tab_ok 400 (fun _ => rfl) fun b33 => ?_
      refine J.nS ((i + 1, ao, co)) (by dsimp only; omega) (by dsimp only; omega) [0, 1, 2, 3] rfl rfl
  · simp only [decide_eq_false_iff_not, Int.ofNat_lt] at h1
    obtain rfl : i = (M.masks N b r).length := by omega
    have : outI N b r (M.masks N b r).length = R.all N b r := by unfold outI R.all; rw [List.take_length]
    rw [this]
    refine J.r hX tab_ok 400 (fun _ => rfl) fun b34 => ?_
    refine J.rt hX tab_ok [1, 3] rfl rfl rfl ?_
    exact ⟨ao, co, rfl, rfl⟩
end Go.Proofs.YtoideahgjgaddaaGreat
/- Plain laws: a flash into which a row was written. -/
namespace Go.Proofs.YtoideahgjgaddaaGreat
open Go
theorem go_Gd (b r : Int) {mm : Nat} : ∀ (q : List (Int × Sh)) (N : Nand) (f : Int) (k : Nat), (∀ x ∈ q, x.2.data.length = 16) → N.Gd (q.length + k) mm → (R.go b r q N f).1.Gd k mm
  | [], N, f, k, _, h => by rw [R.go]; exact h.less (by simp) (Nat.le_refl _)
  | (d, s) :: q, N, f, k, hd, h => by
    have h1 : (N.progN d b r (putP s)).Gd (q.length + k) mm := Nand.Gd.prog (h.less (by rw [List.length_cons]; omega) (Nat.le_refl _)) d b r _ (putP_len s (hd (d, s) (by simp)))
    have hd' : ∀ x ∈ q, x.2.data.length = 16 := fun x hx => hd x (by simp [hx])
    rw [R.go]
    split
    · exact go_Gd b r q _ _ k hd' h1
    · split
      · exact h1.less (by omega) (Nat.le_refl _)
      · exact go_Gd b r q _ _ k hd' h1
theorem job_data {b r m : Int} {l : List En} (hd : ∀ s ∈ l, s.data.length = 16) : ∀ x ∈ R.job b r m l, x.2.data.length = 16 := by
  intro x hx
  simp only [R.job, List.mem_append, List.mem_map, List.mem_range, List.mem_singleton] at hx
  rcases hx with ⟨k, hk, rfl⟩ | rfl
  · refine hd _ ?_
    rw [List.getD_eq_getElem?_getD, List.getElem?_eq_getElem hk]; exact List.getElem_mem _
  · exact fold_len (fun t ht => by obtain ⟨e, he, rfl⟩ := List.mem_map.1 ht; exact hd e he) _ rfl
theorem parB_len {b r m : Int} {l : List En} (h : W.parB b r m l = true) : (l.length : Int) = G.slots m ∧ 1 ≤ l.length ∧ l.length ≤ 7 ∧ ∀ e ∈ l, W.ok b r m e = true := by
  simp only [W.parB, Bool.and_eq_true, decide_eq_true_eq, List.all_eq_true] at h
  have := gslots_bd m
  refine ⟨h.1.1, ?_, by omega, h.2⟩
  cases l with
  | nil => simp at h
  | cons x l => simp
theorem write_Gd {N : Nand} {b r m : Int} {l : List En} {k mm : Nat} (hd : ∀ s ∈ l, s.data.length = 16) (h : N.Gd (8 + k) mm) : (R.write N b r m l).1.Gd k mm := by
  unfold R.write
  split
  · rename_i hB
    have := parB_len hB
    exact go_Gd b r _ _ _ k (job_data hd) (h.less (by rw [job_len]; omega) (Nat.le_refl _))
  · exact h.less (by omega) (Nat.le_refl _)
end Go.Proofs.YtoideahgjgaddaaGreat
/- Plain laws: a sherd's page is read back. No program in sight. -/
namespace Go.Proofs.YtoideahgjgaddaaGreat
namespace Bt
theorem byte_bit : ∀ b0 b1 b2 b3 b4 b5 b6 b7 : Bool, ∀ i : Fin 8, (b0.toNat * 128 + b1.toNat * 64 + b2.toNat * 32 + b3.toNat * 16 + b4.toNat * 8 + b5.toNat * 4 + b6.toNat * 2 + b7.toNat).testBit (7 - i.1) = [b0, b1, b2, b3, b4, b5, b6, b7].getD i.1 false := by decide +kernel
theorem byte_bit2 (b0 b1 b2 b3 b4 b5 b6 b7 : Bool) (i : Nat) (hi : i < 8) : (b0.toNat * 128 + b1.toNat * 64 + b2.toNat * 32 + b3.toNat * 16 + b4.toNat * 8 + b5.toNat * 4 + b6.toNat * 2 + b7.toNat).testBit (7 - i) = [b0, b1, b2, b3, b4, b5, b6, b7].getD i false := byte_bit b0 b1 b2 b3 b4 b5 b6 b7 ⟨i, hi⟩
theorem byteAt_bit (l : List Bool) (q i : Nat) (hi : i < 8) : (byteAt l q).testBit (7 - i) = l.getD (q + i) false := by
  unfold byteAt
  rw [byte_bit2 _ _ _ _ _ _ _ _ i hi]
  match i, hi with
  | 0, _ => rfl
  | 1, _ => rfl
  | 2, _ => rfl
  | 3, _ => rfl
  | 4, _ => rfl
  | 5, _ => rfl
  | 6, _ => rfl
  | 7, _ => rfl
theorem bitAt_pack (l : List Bool) (j : Nat) (h : j < l.length) : bitAt (pack l) j = l.getD j false := by
  have h1 : (pack l).getD (j / 8) 0 = UInt8.ofNat (byteAt l (8 * (j / 8))) := by
    rw [List.getD_eq_getElem?_getD, pack_get l (j / 8) (by omega)]; rfl
  have h2 : (UInt8.ofNat (byteAt l (8 * (j / 8)))).toNat = byteAt l (8 * (j / 8)) := by
    rw [UInt8.toNat_ofNat', Nat.mod_eq_of_lt (byteAt_lt l _)]
  unfold bitAt
  rw [h1, h2, byteAt_bit l _ _ (Nat.mod_lt _ (by omega)), Nat.div_add_mod]
theorem numAt_eq (b : List UInt8) (k w u : Nat) (h : ∀ i < w, bitAt b (k + i) = u.testBit (w - 1 - i)) : ∀ v, v ≤ w → numAt b k v = u / 2 ^ (w - v) % 2 ^ v
  | 0, _ => by simp [numAt, Nat.mod_one]
  | v + 1, hv => by
    rw [numAt, numAt_eq b k w u h v (by omega), h v (by omega), Nat.testBit_eq_decide_div_mod_eq]
    have e1 : w - v = (w - 1 - v) + 1 := by omega
    have e2 : w - (v + 1) = w - 1 - v := by omega
    rw [e1, e2, Nat.pow_succ, ← Nat.div_div_eq_div_mul, Nat.pow_succ 2 v, Nat.mul_comm (2 ^ v) 2, Nat.mod_mul]
    generalize u / 2 ^ (w - 1 - v) = x
    rcases Nat.mod_two_eq_zero_or_one x with hx | hx
    · rw [hx]; simp
    · rw [hx]; simp [Nat.add_comm]
theorem numAt_pack (A B : List Bool) (u w k : Nat) (hk : A.length = k) : numAt (pack (A ++ (bits u w ++ B))) k w = u % 2 ^ w := by
  have := numAt_eq (pack (A ++ (bits u w ++ B))) k w u (fun i hi => by
    have hb : (bits u w).length = w := length_bits u w
    rw [bitAt_pack _ _ (by simp [hb]; omega), List.getD_eq_getElem?_getD, List.getElem?_append_right (by omega), hk, Nat.add_sub_cancel_left, List.getElem?_append_left (by omega)]
    simp [bits, hi]) w (Nat.le_refl _)
  rw [this, Nat.sub_self, Nat.pow_zero, Nat.div_one]
end Bt
namespace S
def hdL (M b r m k c : Nat) : List Bool := Bt.bits M 64 ++ (Bt.bits b 8 ++ (Bt.bits r 8 ++ (Bt.bits m 8 ++ (Bt.bits k 8 ++ Bt.bits c 32))))
theorem hdL_eq (s : Sh) (c : Nat) : head s ++ Bt.bits c 32 = hdL (meta_ s.role s.lpn s.seq) s.block.toNat s.row.toNat s.mask.toNat s.kind.toNat c := by
  unfold head hdL
  generalize meta_ s.role s.lpn s.seq = M
  simp only [List.append_assoc]
theorem hd1 (M b r m k c : Nat) : Bt.numAt (Bt.pack (hdL M b r m k c)) 0 64 = M % 2 ^ 64 := Bt.numAt_pack [] _ M 64 0 rfl
theorem hd2 (M b r m k c : Nat) : Bt.numAt (Bt.pack (hdL M b r m k c)) 64 8 = b % 2 ^ 8 := Bt.numAt_pack (Bt.bits M 64) _ b 8 64 (Bt.length_bits _ _)
theorem hd3 (M b r m k c : Nat) : Bt.numAt (Bt.pack (hdL M b r m k c)) 72 8 = r % 2 ^ 8 := by
  have := Bt.numAt_pack (Bt.bits M 64 ++ Bt.bits b 8) (Bt.bits m 8 ++ (Bt.bits k 8 ++ Bt.bits c 32)) r 8 72 (by rw [List.length_append, Bt.length_bits, Bt.length_bits])
  rw [← this, List.append_assoc]; rfl
theorem hd4 (M b r m k c : Nat) : Bt.numAt (Bt.pack (hdL M b r m k c)) 80 8 = m % 2 ^ 8 := by
  have := Bt.numAt_pack (Bt.bits M 64 ++ (Bt.bits b 8 ++ Bt.bits r 8)) (Bt.bits k 8 ++ Bt.bits c 32) m 8 80 (by rw [List.length_append, List.length_append, Bt.length_bits, Bt.length_bits, Bt.length_bits])
  rw [← this, List.append_assoc, List.append_assoc]; rfl
theorem hd5 (M b r m k c : Nat) : Bt.numAt (Bt.pack (hdL M b r m k c)) 88 8 = k % 2 ^ 8 := by
  have := Bt.numAt_pack (Bt.bits M 64 ++ (Bt.bits b 8 ++ (Bt.bits r 8 ++ Bt.bits m 8))) (Bt.bits c 32) k 8 88 (by rw [List.length_append, List.length_append, List.length_append, Bt.length_bits, Bt.length_bits, Bt.length_bits, Bt.length_bits])
  rw [← this, List.append_assoc, List.append_assoc, List.append_assoc]; rfl
theorem meta_back (role lpn seq : Int) (h1 : 0 ≤ role ∧ role ≤ 255) (h2 : 0 ≤ lpn ∧ lpn ≤ 65535) (h3 : 0 ≤ seq ∧ seq ≤ 1099511627775) : ((meta_ role lpn seq / 72057594037927936 : Nat) : Int) = role ∧ ((meta_ role lpn seq / 1099511627776 % 65536 : Nat) : Int) = lpn ∧ ((meta_ role lpn seq % 1099511627776 : Nat) : Int) = seq := by
  unfold meta_
  refine ⟨?_, ?_, ?_⟩ <;> omega
theorem fields_put (s : Sh) (hd : s.data.length = 16) (h : may s = true) : fields (put s) = s := by
  obtain ⟨hb, hr, hm, hk⟩ := may_bounds s h
  have hn : (0 ≤ s.seq ∧ s.seq ≤ 1099511627775) ∧ (0 ≤ s.lpn ∧ s.lpn ≤ 65535) ∧ (0 ≤ s.role ∧ s.role ≤ 255) := by
    simp only [may, numbers, inB, Bool.and_eq_true, decide_eq_true_eq] at h
    omega
  obtain ⟨k1, k2, k3⟩ := meta_back s.role s.lpn s.seq hn.2.2 hn.2.1 hn.1
  have hM := meta_lt s.role s.lpn s.seq
  obtain ⟨M, hMe⟩ : ∃ M, meta_ s.role s.lpn s.seq = M := ⟨_, rfl⟩
  obtain ⟨c, hc⟩ : ∃ c, K.sum (s.data ++ Bt.pack (head s)) = c := ⟨_, rfl⟩
  have hp : put s = s.data ++ Bt.pack (hdL M s.block.toNat s.row.toNat s.mask.toNat s.kind.toNat c) := by rw [put, hc, hdL_eq, hMe]
  rw [hMe] at k1 k2 k3 hM
  have e1 : (put s).take 16 = s.data := by rw [hp, ← hd, List.take_left]
  have e2 : (put s).drop 16 = Bt.pack (hdL M s.block.toNat s.row.toNat s.mask.toNat s.kind.toNat c) := by rw [hp, ← hd, List.drop_left]
  have m1 := hd1 M s.block.toNat s.row.toNat s.mask.toNat s.kind.toNat c
  have m2 := hd2 M s.block.toNat s.row.toNat s.mask.toNat s.kind.toNat c
  have m3 := hd3 M s.block.toNat s.row.toNat s.mask.toNat s.kind.toNat c
  have m4 := hd4 M s.block.toNat s.row.toNat s.mask.toNat s.kind.toNat c
  have m5 := hd5 M s.block.toNat s.row.toNat s.mask.toNat s.kind.toNat c
  have f : ∀ x : Int, 0 ≤ x ∧ x ≤ 255 → ((x.toNat % 2 ^ 8 : Nat) : Int) = x := fun x hx => by
    rw [Nat.mod_eq_of_lt (by omega)]; omega
  rw [Nat.mod_eq_of_lt (show M < 2 ^ 64 from hM)] at m1
  have f1 := f s.block ⟨hb.1, by omega⟩
  have f2 := f s.row ⟨hr.1, by omega⟩
  have f3 := f s.mask hm
  have f4 := f s.kind ⟨by omega, by omega⟩
  unfold fields
  simp only [e1, e2, m1, m2, m3, m4, m5, k1, k2, k3, f1, f2, f3, f4]
theorem get_put (s : Sh) (hd : s.data.length = 16) (h : may s = true) : get (put s) = some s := by
  unfold get
  rw [fields_put s hd h, if_pos ⟨h, rfl⟩]
theorem getV_put (s : Sh) (hd : s.data.length = 16) (h : may s = true) : getV (put s) = s ∧ getE (put s) = 0 := by
  unfold getV getE
  rw [get_put s hd h]
  exact ⟨rfl, rfl⟩
end S
end Go.Proofs.YtoideahgjgaddaaGreat
