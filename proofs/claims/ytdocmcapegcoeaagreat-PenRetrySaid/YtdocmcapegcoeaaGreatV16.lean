/- Helpers, proved here. No condition. -/
import Derived.Test.YtdocmcapegcoeaaGreatV06
import Derived.Test.YtdocmcapegcoeaaGreatV14
import Derived.Test.YtdocmcapegcoeaaGreatV15
set_option maxRecDepth 20000
set_option linter.all false
namespace Go.Proofs.YtdocmcapegcoeaaGreat
open Go Go.RowKit
def cellsB (l : List Bool) : List Value := l.map .bool
theorem cellsB_len (l : List Bool) : (cellsB l).length = l.length := by simp [cellsB]
theorem cellsB_snoc (l : List Bool) (x : Bool) : cellsB (l ++ [x]) = cellsB l ++ [.bool x] := by simp [cellsB]
theorem cellsB_get {l : List Bool} {k : Nat} {x : Bool} (h : l[k]? = some x) : (cellsB l)[k]? = some (.bool x) := by simp [cellsB, h]
def fdL (a1 : Option Nat) (c1 : Nat) (a2 : Option Nat) (c2 n : Nat) (s : Sh) (w : Bool) : List Value := [slv a1 n c1, slv a2 n c2, byC s.data 0, byC s.data 1, byC s.data 2, byC s.data 3, byC s.data 4, byC s.data 5, byC s.data 6, byC s.data 7, byC s.data 8, byC s.data 9, byC s.data 10, byC s.data 11, byC s.data 12, byC s.data 13, byC s.data 14, byC s.data 15,
 .int .i64 s.role, .int .i64 s.lpn, .int .i64 s.seq, .int .i64 s.kind, .int .i64 s.block, .int .i64 s.row, .int .i64 s.mask, .bool w]
theorem r_entry (s : Sh) : Fn Tryz.prog 160 [shV s] [] (fun v As => v = enV s.en ∧ As = []) := by
 refine Fn.enter [0] Tryz.func160 rfl rfl rfl fun X F hX => ?_
 refine J.q hX fun b1 => ?_
 exact J.ru hX [] ⟨rfl, rfl⟩
theorem r_look1 (p : Nat) (N : Nand) (hN : N.Ok) (hR : N.Room) (b r m d : Int) (b1 b2 b3 b4 : Nat) : Fn Tryz.prog 193 [.int .i64 d, .pointer (some ⟨b1, 0, none⟩), .pointer (some ⟨b2, 0, none⟩), .pointer (some ⟨b3, 0, none⟩), .pointer (some ⟨b4, 0, none⟩)] [NandA p N, .pt b1 27 [.pointer (some ⟨p, 0, none⟩)], .pt b2 3 [.int .i64 b], .pt b3 3 [.int .i64 r], .pt b4 3 [.int .i64 m]]
  (fun v As => v = .tuple #[shV (R.one N b r m d).1, .bool (R.one N b r m d).2] ∧ As = [NandA p N, .pt b1 27 [.pointer (some ⟨p, 0, none⟩)], .pt b2 3 [.int .i64 b], .pt b3 3 [.int .i64 r], .pt b4 3 [.int .i64 m]]) := by
 refine Fn.enter [0, 3, 4, 5, 6] Tryz.func193 rfl rfl rfl fun X F hX => ?_
 refine J.q hX fun b2 => ?_
 refine J.q hX fun b3 => ?_
 refine J.cb hX (m_Look p N hN hR d b r) [1] ?_
 refine cpq ⟨_, rfl, trivial, ?_⟩
 refine J.q hX fun b4 => ?_
 refine J.plan (.of [1,4,8,12,16,21,25,28,32,38,40]) [10] [5,7] (by rw [hX.hP]; kernel_rfl) (by kernel_rfl) ?_
 refine J.q hX fun b5 => ?_
 exact J.ru hX [1, 2, 3, 4, 5] ⟨rfl, rfl⟩
theorem ones_succ (N : Nand) (b r m : Int) (k : Nat) : R.ones N b r m (k + 1) = R.ones N b r m k ++ [R.one N b r m (G.die m b r (k : Nat))] := by simp [R.ones, List.range_succ]
theorem r_look (p : Nat) (N : Nand) (hN : N.Ok) (hR : N.Room) (b r m : Int) : Fn Tryz.prog 159 [.pointer (some ⟨p, 0, none⟩), .int .i64 b, .int .i64 r, .int .i64 m] [NandA p N]
  (fun v As => ∃ a1 c1 a2 c2, v = .agg (fdL a1 c1 a2 c2 (G.slots m).toNat (R.look N b r m).parity (R.look N b r m).whole).toArray ∧ As = [NandA p N, ownA 132 23 a1 (G.slots m).toNat c1 (cellsS (R.look N b r m).slots), ownA 4 1 a2 (G.slots m).toNat c2 (cellsB (R.look N b r m).good)]) := by
 have hsb := gslots_bd m
 obtain ⟨P, hP⟩ : ∃ P, R.one N b r m (G.parity m b r) = P := ⟨_, rfl⟩
 refine Fn.enter [2, 0, 0, 0] Tryz.func159 rfl rfl rfl fun X F hX => ?_
 refine J.q hX fun bb => ?_
 refine J.cb hX (g_Parity m b r) [] ?_
 refine cpq ⟨_, rfl, trivial, ?_⟩
 refine J.q hX fun b8 => ?_
 refine J.cb hX (r_look1 p N hN hR b r m (G.parity m b r) (bb 0) (bb 1) (bb 2) (bb 3)) [1, 2, 3, 4, 5] ?_
 refine cpq ⟨_, rfl, trivial, ?_⟩
 rw [hP]
 refine J.q hX fun b10 => ?_
 refine J.cb hX (g_Slots m) [] ?_
 refine cpq ⟨_, rfl, trivial, ?_⟩
 refine J.turn1 [] rfl (As := [ownA 132 23 none 0 0 (cellsS []), ownA 4 1 none 0 0 (cellsB [])]) (fun h s => ⟨fun _ => 0, fun i A hA => by
  match i, hA with
  | 0, hA => simp at hA; subst hA; exact ⟨rfl, rfl, rfl⟩
  | 1, hA => simp at hA; subst hA; exact ⟨rfl, rfl, rfl⟩
  | k + 2, hA => simp at hA⟩) rfl ?_
 refine J.q hX fun b12 => ?_
 refine J.lo (α := (Nat × Option Nat × Nat × Option Nat × Nat)) (fun z => z.1 ≤ (G.slots m).toNat) (fun z => [⟨28, .int .i64 z.1, 0, .tt⟩, ⟨27, .int .i64 (G.slots m), 0, .tt⟩, ⟨9, fnC 193 [.pointer (some ⟨bb 0, 0, none⟩), .pointer (some ⟨bb 1, 0, none⟩), .pointer (some ⟨bb 2, 0, none⟩), .pointer (some ⟨bb 3, 0, none⟩)], 0, .tt⟩, ⟨4, .pointer (some ⟨bb 0, 0, none⟩), 3, .tt⟩, ⟨5, .pointer (some ⟨bb 1, 0, none⟩), 4, .tt⟩, ⟨6, .pointer (some ⟨bb 2, 0, none⟩), 5, .tt⟩, ⟨7, .pointer (some ⟨bb 3, 0, none⟩), 6, .tt⟩, ⟨8, .pointer (some ⟨bb 4, 0, none⟩), 7, .tt⟩, ⟨10, .pointer (some ⟨bb 5, 0, none⟩), 8, .tt⟩]) [7, 8, 9] (fun z => [.pt (bb 5) 208 (fdL z.2.1 z.2.2.1 z.2.2.2.1 z.2.2.2.2 z.1 P.1 P.2), ownA 132 23 z.2.1 z.1 z.2.2.1 (cellsS ((R.ones N b r m z.1).map (·.1))), ownA 4 1 z.2.2.2.1 z.1 z.2.2.2.2 (cellsB ((R.ones N b r m z.1).map (·.2)))]) (fun z => (G.slots m).toNat - z.1) ((0, none, 0, none, 0)) (Nat.zero_le _) rfl ?_ (fun _ => rfl) fun z hI => ?_
 ·rfl
 obtain ⟨k, a1, c1, a2, c2⟩ := z
 dsimp only at hI ⊢
 refine J.q hX fun b14 => ?_
 refine J.cond rfl (fun h1 => ?_) (fun h1 => ?_)
 ·simp only [decide_eq_true_eq] at h1
  have hS1 : cellsS ((R.ones N b r m k).map (·.1)) ++ shL (R.one N b r m (G.die m b r k)).1 = cellsS ((R.ones N b r m (k + 1)).map (·.1)) := by rw [ones_succ, List.map_append, ← cellsS_snoc]; rfl
  have hS2 : cellsB ((R.ones N b r m k).map (·.2)) ++ [.bool (R.one N b r m (G.die m b r k)).2] = cellsB ((R.ones N b r m (k + 1)).map (·.2)) := by rw [ones_succ, List.map_append, ← cellsB_snoc]; rfl
  refine J.q hX fun b15 => ?_
  refine J.cb hX (g_Die m b r k (by omega) (by omega)) [] ?_
  refine cpq ⟨_, rfl, trivial, ?_⟩
  refine J.q hX fun b17 => ?_
  refine J.cb hX (r_look1 p N hN hR b r m (G.die m b r k) (bb 0) (bb 1) (bb 2) (bb 3)) [1, 2, 3, 4, 5] ?_
  refine cpq ⟨_, rfl, trivial, ?_⟩
  refine J.q hX fun b19 => ?_
  refine J.plan (.take true 0 (.take false 1 (.take false 2 (.take true 5 (.take false 6 (.take true 7 (.alt false 3 ((.alt false 4 ((.of [40,34,38,47,48,55])) (.alt false 8 ((.of [18,40,38,47,48,55])) .non))) (.alt false 8 ((.of [14,18,40,38,47,48,55])) .non)))))))) [11,12,13] [7, 10] (by rw [hX.hP]; kernel_rfl) (by kernel_rfl) ?_
  refine J.join (α := Option Nat × Nat × Option Nat × Nat) (fun x => [⟨28, .int .i64 k, 0, .tt⟩, ⟨27, .int .i64 (G.slots m), 0, .tt⟩, ⟨9, fnC 193 [.pointer (some ⟨bb 0, 0, none⟩), .pointer (some ⟨bb 1, 0, none⟩), .pointer (some ⟨bb 2, 0, none⟩), .pointer (some ⟨bb 3, 0, none⟩)], 0, .tt⟩, ⟨4, .pointer (some ⟨bb 0, 0, none⟩), 3, .tt⟩, ⟨5, .pointer (some ⟨bb 1, 0, none⟩), 4, .tt⟩, ⟨6, .pointer (some ⟨bb 2, 0, none⟩), 5, .tt⟩, ⟨7, .pointer (some ⟨bb 3, 0, none⟩), 6, .tt⟩, ⟨8, .pointer (some ⟨bb 4, 0, none⟩), 7, .tt⟩, ⟨10, .pointer (some ⟨bb 5, 0, none⟩), 8, .tt⟩]) (fun x => [.hp F, NandA p N, .pt (bb 0) 27 [.pointer (some ⟨p, 0, none⟩)], .pt (bb 1) 3 [.int .i64 b], .pt (bb 2) 3 [.int .i64 r], .pt (bb 3) 3 [.int .i64 m], .pt (bb 4) 208 (fdL none 0 none 0 0 Sh.zero false), .pt (bb 5) 208 (fdL x.1 x.2.1 x.2.2.1 x.2.2.2 (k + 1) P.1 P.2), ownA 132 23 x.1 (k + 1) x.2.1 (cellsS ((R.ones N b r m (k + 1)).map (·.1))), ownA 4 1 x.2.2.1 (k + 1) x.2.2.2 (cellsB ((R.ones N b r m (k + 1)).map (·.2)))]) (fun hj => ?_) (fun x => ?_)
  ·skip
   refine J.qn hX 6 fun b20 => ?_
   refine J.alts ?_ ?_
   ·skip
    refine J.qn hX 1 fun b3 => ?_
    refine J.alts ?_ ?_
    ·skip
     refine J.append hX tk 8 11 0 rfl rfl rfl rfl rfl rfl rfl rfl rfl rfl rfl rfl rfl rfl rfl rfl ?_ ?_ (fun _ => rfl) fun a3 c3 => ⟨_, (congrArg (fun z => lset _ 8 (ownA _ _ _ _ _ z)) hS1).trans rfl, ⟨rfl, rfl, trivial⟩, ?_⟩
     ·simp only [maxLen]; omega
     ·omega
     refine J.qn hX 1 fun b21 => ?_
     refine J.qn hX 1 fun b8 => ?_
     refine J.append hX tk 9 12 0 rfl rfl rfl rfl rfl rfl rfl rfl rfl rfl rfl rfl rfl rfl rfl rfl ?_ ?_ (fun _ => rfl) fun a4 c4 => ⟨_, (congrArg (fun z => lset _ 9 (ownA _ _ _ _ _ z)) hS2).trans rfl, ⟨rfl, rfl, trivial⟩, ?_⟩
     ·simp only [maxLen]; omega
     ·omega
     refine J.qn hX 4 fun b22 => ?_
     exact J.goto [0, 1, 2, 3, 4, 5, 6, 7, 8, 9] (hj (a3, c3, a4, c4)) ⟨rfl, rfl, rfl, rfl, rfl, rfl, rfl, rfl, rfl, trivial⟩ rfl rfl
    ·skip
     refine J.qn hX 1 fun b8 => ?_
     refine J.append hX tk 8 11 0 rfl rfl rfl rfl rfl rfl rfl rfl rfl rfl rfl rfl rfl rfl rfl rfl ?_ ?_ (fun _ => rfl) fun a3 c3 => ⟨_, (congrArg (fun z => lset _ 8 (ownA _ _ _ _ _ z)) hS1).trans rfl, ⟨rfl, rfl, trivial⟩, ?_⟩
     ·simp only [maxLen]; omega
     ·omega
     refine J.qn hX 1 fun b23 => ?_
     refine J.append hX tk 9 12 0 rfl rfl rfl rfl rfl rfl rfl rfl rfl rfl rfl rfl rfl rfl rfl rfl ?_ ?_ (fun _ => rfl) fun a4 c4 => ⟨_, (congrArg (fun z => lset _ 9 (ownA _ _ _ _ _ z)) hS2).trans rfl, ⟨rfl, rfl, trivial⟩, ?_⟩
     ·simp only [maxLen]; omega
     ·omega
     refine J.qn hX 4 fun b24 => ?_
     exact J.goto [0, 1, 2, 3, 4, 5, 6, 7, 8, 9] (hj (a3, c3, a4, c4)) ⟨rfl, rfl, rfl, rfl, rfl, rfl, rfl, rfl, rfl, trivial⟩ rfl rfl
   ·skip
    refine J.qn hX 1 fun b8 => ?_
    refine J.qn hX 1 fun b3 => ?_
    refine J.append hX tk 8 12 0 rfl rfl rfl rfl rfl rfl rfl rfl rfl rfl rfl rfl rfl rfl rfl rfl ?_ ?_ (fun _ => rfl) fun a3 c3 => ⟨_, (congrArg (fun z => lset _ 8 (ownA _ _ _ _ _ z)) hS1).trans rfl, ⟨rfl, rfl, trivial⟩, ?_⟩
    ·simp only [maxLen]; omega
    ·omega
    refine J.qn hX 1 fun b25 => ?_
    refine J.append hX tk 9 11 0 rfl rfl rfl rfl rfl rfl rfl rfl rfl rfl rfl rfl rfl rfl rfl rfl ?_ ?_ (fun _ => rfl) fun a4 c4 => ⟨_, (congrArg (fun z => lset _ 9 (ownA _ _ _ _ _ z)) hS2).trans rfl, ⟨rfl, rfl, trivial⟩, ?_⟩
    ·simp only [maxLen]; omega
    ·omega
    refine J.qn hX 4 fun b26 => ?_
    exact J.goto [0, 1, 2, 3, 4, 5, 6, 7, 8, 9] (hj (a3, c3, a4, c4)) ⟨rfl, rfl, rfl, rfl, rfl, rfl, rfl, rfl, rfl, trivial⟩ rfl rfl
  obtain ⟨a3, c3, a4, c4⟩ := x
  dsimp only
  refine J.q hX fun b27 => ?_
  refine J.nS ((k + 1, a3, c3, a4, c4)) (by dsimp only; omega) (by dsimp only; omega) [0, 1, 2, 3, 4, 5, 6, 7, 8, 9] rfl rfl
 ·simp only [decide_eq_false_iff_not] at h1
  have hk : k = (G.slots m).toNat := by omega
  subst hk
  refine J.q hX fun b29 => ?_
  refine J.ru hX [1, 8, 9] ?_
  refine ⟨a1, c1, a2, c2, ?_, rfl⟩
  rw [show (R.look N b r m).parity = P.1 from congrArg Prod.fst hP, show (R.look N b r m).whole = P.2 from congrArg Prod.snd hP]
  rfl
def othN (l : List Sh) (k i : Nat) : List Sh := (l.take i).eraseIdx k
theorem othN_eq (l : List Sh) (i : Nat) (h : i < l.length) : othN l i (i + 1) = othN l i i := by
 unfold othN
 have hl : (l.take i).length = i := by rw [List.length_take]; omega
 rw [List.eraseIdx_of_length_le (l := l.take i) (by omega), List.take_add_one, List.getElem?_eq_getElem h, Option.toList_some]
 rw [List.eraseIdx_append_of_length_le (by omega), hl, Nat.sub_self]
 simp
theorem othN_ne (l : List Sh) (k i : Nat) (x : Sh) (h : l[i]? = some x) (hk : i ≠ k) : othN l k (i + 1) = othN l k i ++ [x] := by
 unfold othN
 rw [List.take_add_one, h, Option.toList_some]
 have hi := (List.getElem?_eq_some_iff.1 h).1
 have hl : (l.take i).length = i := by rw [List.length_take]; omega
 by_cases hlt : k < i
 ·rw [List.eraseIdx_append_of_lt_length (by omega)]
 ·rw [List.eraseIdx_of_length_le (l := l.take i ++ [x]) (by rw [List.length_append, List.length_singleton]; omega), List.eraseIdx_of_length_le (by omega)]
theorem othN_len (l : List Sh) (k i : Nat) : (othN l k i).length ≤ l.length := by
 unfold othN
 refine Nat.le_trans (List.length_eraseIdx_le _ _) ?_
 rw [List.length_take]; omega
theorem othN_mem {l : List Sh} {k i : Nat} {x : Sh} (h : x ∈ othN l k i) : x ∈ l := List.mem_of_mem_take (List.mem_of_mem_eraseIdx h)
theorem r_mended (f : Fd) (n : Nat) (hn : n ≤ 8) (h1l : f.slots.length = n) (h2l : f.good.length = n) (hd : ∀ s ∈ f.slots, s.data.length = 16) (hp : f.parity.data.length = 16) (a1 a2 : Option Nat) (c1 c2 k : Nat) : Fn Tryz.prog 161 [.agg (fdL a1 c1 a2 c2 n f.parity f.whole).toArray, .int .i64 k] [ownA 132 23 a1 n c1 (cellsS f.slots), ownA 4 1 a2 n c2 (cellsB f.good)]
  (fun v As => v = .tuple #[enV (R.mend f k), .bool (R.mendB f k)] ∧ As = [ownA 132 23 a1 n c1 (cellsS f.slots), ownA 4 1 a2 n c2 (cellsB f.good)]) := by
 refine Fn.enter [0, 0] Tryz.func161 rfl rfl rfl fun X F hX => ?_
 refine J.q hX fun bb => ?_
 refine J.turn1 [] rfl (As := [ownA 132 23 none 0 0 (cellsS (othN f.slots k 0))]) (fun h s => Sep.one ⟨rfl, rfl, rfl⟩) rfl ?_
 refine J.q hX fun b1 => ?_
 refine J.lo (α := (Nat × Option Nat × Nat)) (fun z => z.1 ≤ n ∧ ∀ j < z.1, j = k ∨ f.good.getD j false = true) (fun z => [⟨12, .int .i64 z.1, 0, .tt⟩, ⟨11, .int .i64 n, 0, .tt⟩, ⟨10, slv a1 n c1, 0, .tt⟩, ⟨1, .int .i64 k, 0, .tt⟩, ⟨2, .pointer (some ⟨bb 0, 0, none⟩), 4, .tt⟩, ⟨4, .pointer (some ⟨bb 1, 0, none⟩), 5, .tt⟩, ⟨5, .bool false, 0, .tt⟩, ⟨6, slv z.2.1 (othN f.slots k z.1).length z.2.2, 0, .tt⟩]) [5] (fun z => [ownA 132 23 z.2.1 (othN f.slots k z.1).length z.2.2 (cellsS (othN f.slots k z.1))]) (fun z => n - z.1) ((0, none, 0)) (⟨Nat.zero_le _, by omega⟩) rfl ?_ (fun _ => rfl) fun z hI => ?_
 ·rfl
 obtain ⟨i, a3, c3⟩ := z
 dsimp only at hI ⊢
 have hol := othN_len f.slots k i
 refine J.q hX fun b3 => ?_
 refine J.cond rfl (fun h1 => ?_) (fun h1 => ?_)
 ·simp only [decide_eq_true_eq, Int.ofNat_lt] at h1
  refine J.know (fun h' s => own_some (c := (a1, c1)) (by omega) (s.get (i := 1) rfl)) fun hg => ?_
  obtain ⟨g1, rfl⟩ := hg
  refine J.know (fun h' s => own_some (c := (a2, c2)) (by omega) (s.get (i := 2) rfl)) fun hg => ?_
  obtain ⟨g2, rfl⟩ := hg
  obtain ⟨s, hs⟩ : ∃ s, f.slots[i]? = some s := ⟨_, List.getElem?_eq_getElem (by omega)⟩
  have hgd : f.good[i]? = some (f.good.getD i false) := by rw [List.getD_eq_getElem?_getD, List.getElem?_eq_getElem (by omega), Option.getD_some]
  refine J.q hX fun b4 => ?_
  refine J.val hX (shV s) 0 rfl rfl (fun hg a w he hw => ?_) rfl trivial ?_
  ·exact ownN_run tk rfl rfl he rfl rfl rfl (hw.get (i := 1) rfl) (by rw [show 0 + (i : Int).toNat * 23 = i * 23 from by omega]; exact cellsS_get hs) rfl
  refine J.q hX fun b5 => ?_
  refine J.cond rfl (fun h2 => ?_) (fun h2 => ?_)
  ·simp only [beq_iff_eq, Int.natCast_inj] at h2
   subst h2
   rw [← othN_eq f.slots i (by omega)]
   refine J.q hX fun b6 => ?_
   refine J.nS ((i + 1, a3, c3)) (⟨by dsimp only; omega, fun j hj => by
    rcases Nat.lt_succ_iff_lt_or_eq.1 hj with h | h
    ·exact hI.2 j h
    ·exact .inl h⟩) (by dsimp only; omega) [0, 1, 2, 3, 4, 5] rfl rfl
  simp only [beq_eq_false_iff_ne, ne_eq, Int.natCast_inj] at h2
  refine J.q hX fun b8 => ?_
  refine J.val hX (.bool (f.good.getD i false)) 0 rfl rfl (fun hg a w he hw => ?_) rfl trivial ?_
  ·exact own1_run tk rfl rfl he rfl rfl rfl (hw.get (i := 2) rfl) (by rw [show 0 + (i : Int).toNat * 1 = i from by omega]; exact cellsB_get hgd)
  refine J.q hX fun b9 => ?_
  refine J.cond rfl (fun h3 => ?_) (fun h3 => ?_)
  ·simp only [Bool.not_eq_true'] at h3
   refine J.q hX fun b10 => ?_
   refine J.ru hX [1, 2] ?_
   have hr : R.rest f k = false := by
    unfold R.rest
    rw [List.all_eq_false]
    exact ⟨i, by rw [List.mem_range]; omega, by rw [h3]; simpa using h2⟩
   simp only [R.mend, R.mendB, hr, Bool.false_and]
   exact ⟨rfl, rfl⟩
  ·simp only [Bool.not_eq_false'] at h3
   have hsn := othN_ne f.slots k i s hs h2
   have hsl : (othN f.slots k i).length + 1 = (othN f.slots k (i + 1)).length := by rw [hsn]; simp
   refine J.q hX fun b11 => ?_
   refine J.append hX tk 5 7 0 rfl rfl rfl rfl rfl rfl rfl rfl rfl rfl rfl rfl rfl rfl rfl rfl ?_ ?_ (fun _ => rfl) fun a4 c4 => ⟨_, (congrArg (fun z => lset _ 5 (ownA _ _ _ _ _ z)) ((cellsS_snoc _ s).symm.trans (congrArg cellsS hsn.symm))).trans rfl, trivial, ?_⟩
   ·simp only [maxLen]; omega
   ·omega
   rw [hsl]
   refine J.q hX fun b12 => ?_
   refine J.nS ((i + 1, a4, c4)) (⟨by dsimp only; omega, fun j hj => by
    rcases Nat.lt_succ_iff_lt_or_eq.1 hj with h | h
    ·exact hI.2 j h
    ·exact .inr (h ▸ h3)⟩) (by dsimp only; omega) [0, 1, 2, 3, 4, 5] rfl rfl
 ·simp only [decide_eq_false_iff_not, Int.ofNat_lt] at h1
  obtain rfl : i = n := by omega
  have hr : R.rest f k = true := by
   unfold R.rest
   rw [List.all_eq_true]
   intro j hj
   rcases hI.2 j (by simp at hj; omega) with h | h
   ·simp [h]
   ·rw [h]; simp
  have ho : othN f.slots k i = f.slots.eraseIdx k := by unfold othN; rw [List.take_of_length_le (by omega)]
  refine J.q hX fun b14 => ?_
  refine J.cond rfl (fun h4 => ?_) (fun h4 => ?_)
  ·simp only [Bool.not_eq_true'] at h4
   refine J.q hX fun b15 => ?_
   refine J.ru hX [1, 2] ?_
   simp only [R.mend, R.mendB, h4, Bool.and_false, Bool.false_and]
   exact ⟨rfl, rfl⟩
  ·simp only [Bool.not_eq_false'] at h4
   refine J.q hX fun b16 => ?_
   refine J.cb hX (w_Back f.parity hp a3 (othN f.slots k i).length c3 (othN f.slots k i) rfl (by omega) (fun s hs => hd s (othN_mem hs))) [5] ?_
   refine cpq ⟨_, rfl, trivial, ?_⟩
   refine J.q hX fun b18 => ?_
   refine J.ru hX [1, 2] ?_
   simp only [R.mend, R.mendB, hr, h4, Bool.and_self, Bool.true_and, if_true, ← ho]
   exact ⟨rfl, rfl⟩
theorem without_count : ∀ m, m < 256 → ∀ k, k < 8 → 0 ≤ L.at_ (m : Nat) (k : Nat) → L.count (L.without (m : Nat) (L.at_ (m : Nat) (k : Nat))) = L.count (m : Nat) - 1 := by decide +kernel
theorem die_lt {m b r s : Int} (h : 0 ≤ G.die m b r s) : 0 ≤ s ∧ s < G.slots m := by
 unfold G.die at h
 split at h
 ·omega
 ·rename_i hp
  have hp0 : 0 ≤ G.parity m b r := by omega
  have hs : 0 ≤ s ∧ s < (L.count (L.without m (G.parity m b r)) : Int) := by
   by_cases hh : s < 0 ∨ (L.count (L.without m (G.parity m b r)) : Int) ≤ s
   ·rw [L.at_ge _ _ hh] at h; omega
   ·omega
  unfold G.parity at hp0 hs
  split at hp0
  ·omega
  ·rename_i hc
   rw [if_neg hc] at hs
   have hm : 0 ≤ m ∧ m < 256 := by
    by_cases hh : 0 ≤ m ∧ m < 256
    ·exact hh
    ·have := L.count_no m hh; omega
   obtain ⟨M, rfl⟩ := Int.eq_ofNat_of_zero_le hm.1
   have hcl := L.count_le (M : Int)
   have hq : 0 ≤ (b + r) % (L.count (M : Int) : Int) ∧ (b + r) % (L.count (M : Int) : Int) < L.count (M : Int) := ⟨Int.emod_nonneg _ (by omega), Int.emod_lt_of_pos _ (by omega)⟩
   obtain ⟨q, hq2⟩ := Int.eq_ofNat_of_zero_le hq.1
   rw [hq2] at hs hp0 hq
   rw [without_count M (by omega) q (by omega) hp0] at hs
   unfold G.slots
   rw [if_neg (by omega)]
   omega
theorem look_data {N : Nand} (hN : N.Ok) (b r m : Int) : (∀ s ∈ (R.look N b r m).slots, s.data.length = 16) ∧ (R.look N b r m).parity.data.length = 16 := by
 refine ⟨fun s hs => ?_, mlook_len hN _ _ _⟩
 simp only [R.look, R.ones, List.map_map, List.mem_map] at hs
 obtain ⟨k, _, rfl⟩ := hs
 exact mlook_len hN _ _ _
theorem r_Read (p : Nat) (N : Nand) (hN : N.Ok) (hR : N.Room) (b r s m : Int) (h0 : -1000000 ≤ s) (h1 : s ≤ 1000000) : Fn Tryz.prog 120 [.pointer (some ⟨p, 0, none⟩), .agg #[.int .i64 b, .int .i64 r, .int .i64 s], .int .i64 m] [NandA p N]
  (fun v As => v = .tuple #[enV (R.read N b r s m).1, .int .i64 (R.read N b r s m).2] ∧ As = [NandA p N]) := by
 have hbd := hN.bd
 refine Fn.enter [2, 0, 0] Tryz.func120 rfl rfl rfl fun X F hX => ?_
 refine J.q hX fun bb => ?_
 refine J.join (α := Unit) (fun _ => [⟨30, .bool (decide (G.die m b r s < 0) || !geoIn N.dies N.blocks N.pages 0 b r), 0, .tt⟩, ⟨0, .pointer (some ⟨p, 0, none⟩), 2, .tt⟩, ⟨2, .int .i64 m, 0, .tt⟩, ⟨4, .pointer (some ⟨bb 0, 0, none⟩), 3, .tt⟩, ⟨6, .pointer (some ⟨bb 1, 0, none⟩), 4, .tt⟩]) (fun _ => [.hp F, NandA p N, .pt (bb 0) 44 [.int .i64 b, .int .i64 r, .int .i64 s], .pt (bb 1) 38 (enL En.zero)]) (fun hj => ?_) (fun _ => ?_)
 ·refine J.q hX fun b1 => ?_
  refine J.plan (.of [0,4,9,12,17,20,25,30,32,36,40,48,53,56,61,64,46,70,72,76]) [] [2] (by rw [hX.hP]; kernel_rfl) (by kernel_rfl) ?_
  refine J.q hX fun b2 => ?_
  refine J.cb hX (g_Die m b r s h0 h1) [] ?_
  refine cpq ⟨_, rfl, ⟨rfl, trivial⟩, ?_⟩
  refine J.q hX fun b4 => ?_
  refine J.gcase hX rfl rfl rfl ⟨rfl, trivial⟩ (fun hb => ?_) (fun hb => ?_)
  ·have hb2 : decide (G.die m b r s < 0) = false := by rwa [Bool.not_eq_true'] at hb
   rw [hb2] at hj ⊢
   refine J.q hX fun b5 => ?_
   refine J.cb hX (n_Geo p N) [1] ?_
   refine cpq ⟨_, rfl, ⟨rfl, trivial⟩, ?_⟩
   refine J.q hX fun b6 => ?_
   refine J.cb hX (f_In N.dies N.blocks N.pages 0 b r (by omega) (by omega) (by omega)) [] ?_
   refine cpq ⟨_, rfl, ⟨rfl, trivial⟩, ?_⟩
   refine J.q hX fun b8 => ?_
   exact J.goto [0, 1, 2, 3] (hj ()) ⟨rfl, rfl, rfl, rfl, rfl, trivial⟩ rfl rfl
  ·have hb2 : decide (G.die m b r s < 0) = true := by rwa [Bool.not_eq_false'] at hb
   rw [hb2] at hj ⊢
   refine J.q hX fun b9 => ?_
   refine J.gcase hX rfl rfl rfl ⟨rfl, trivial⟩ (fun hb => by simp at hb) (fun hb => ?_)
   refine J.q hX fun b10 => ?_
   refine J.valT hX (.bool false) 0 rfl rfl (fun hg a w he hw => by simp [G.on] at hg) rfl ?_
   refine J.q hX fun b11 => ?_
   exact J.goto [0, 1, 2, 3] (hj ()) ⟨rfl, rfl, rfl, rfl, rfl, trivial⟩ rfl rfl
 refine J.q hX fun b12 => ?_
 refine J.cond rfl (fun h2 => ?_) (fun h2 => ?_)
 ·refine J.q hX fun b13 => ?_
  refine J.ru hX [1] ?_
  have : G.die m b r s < 0 ∨ geoIn N.dies N.blocks N.pages 0 b r = false := by simpa using h2
  rw [R.read, if_pos this]
  exact ⟨rfl, rfl⟩
 have hc : ¬(G.die m b r s < 0 ∨ geoIn N.dies N.blocks N.pages 0 b r = false) := by simpa using h2
 have hd := die_lt (m := m) (b := b) (r := r) (s := s) (by omega)
 have hsb := gslots_bd m
 refine J.q hX fun b14 => ?_
 refine J.cb hX (n_Power p N) [1] ?_
 refine cpq ⟨_, rfl, trivial, ?_⟩
 refine J.q hX fun b16 => ?_
 refine J.cond rfl (fun h3 => ?_) (fun h3 => ?_)
 ·refine J.q hX fun b17 => ?_
  refine J.ru hX [1] ?_
  have : N.off = true := by simpa using h3
  rw [R.read, if_neg hc, if_pos this]
  exact ⟨rfl, rfl⟩
 have hoff : ¬N.off = true := by simpa using h3
 obtain ⟨k, rfl⟩ := Int.eq_ofNat_of_zero_le hd.1
 have hlen := look_len N b r m
 have hdat := look_data hN b r m
 have hkn : k < (G.slots m).toNat := by omega
 refine J.q hX fun b18 => ?_
 refine J.cb hX (r_look p N hN hR b r m) [1] ?_
 rintro v As ⟨a1, c1, a2, c2, rfl, rfl⟩
 refine ⟨_, rfl, trivial, ?_⟩
 refine J.know (fun h' s => own_some (c := (a1, c1)) (by omega) (s.get (i := 4) rfl)) fun hg => ?_
 obtain ⟨g1, rfl⟩ := hg
 refine J.know (fun h' s => own_some (c := (a2, c2)) (by omega) (s.get (i := 5) rfl)) fun hg => ?_
 obtain ⟨g2, rfl⟩ := hg
 have hgd : (R.look N b r m).good[k]? = some ((R.look N b r m).good.getD k false) := by rw [List.getD_eq_getElem?_getD, List.getElem?_eq_getElem (by omega), Option.getD_some]
 have hsd : (R.look N b r m).slots[k]? = some ((R.look N b r m).slots.getD k Sh.zero) := by rw [List.getD_eq_getElem?_getD, List.getElem?_eq_getElem (by omega), Option.getD_some]
 have hr : R.read N b r k m = if (R.look N b r m).good.getD k false then (((R.look N b r m).slots.getD k Sh.zero).en, 0) else if R.mendB (R.look N b r m) k then (R.mend (R.look N b r m) k, 0) else (En.zero, 10) := by
  rw [R.read, if_neg hc, if_neg hoff, Int.toNat_natCast]
 refine J.q hX fun b20 => ?_
 refine J.val hX (.bool ((R.look N b r m).good.getD k false)) 0 rfl rfl (fun hg a w he hw => ?_) rfl trivial ?_
 ·exact own1_run tk rfl rfl he rfl rfl rfl (hw.get (i := 5) rfl) (by rw [show 0 + (k : Int).toNat * 1 = k from by omega]; exact cellsB_get hgd)
 refine J.q hX fun b21 => ?_
 refine J.cond rfl (fun h4 => ?_) (fun h4 => ?_)
 ·refine J.q hX fun b22 => ?_
  refine J.val hX (shV ((R.look N b r m).slots.getD k Sh.zero)) 0 rfl rfl (fun hg a w he hw => ?_) rfl trivial ?_
  ·exact ownN_run tk rfl rfl he rfl rfl rfl (hw.get (i := 4) rfl) (by rw [show 0 + (k : Int).toNat * 23 = k * 23 from by omega]; exact cellsS_get hsd) rfl
  refine J.q hX fun b23 => ?_
  refine J.cb hX (r_entry ((R.look N b r m).slots.getD k Sh.zero)) [] ?_
  refine cpq ⟨_, rfl, trivial, ?_⟩
  refine J.q hX fun b25 => ?_
  refine J.ru hX [1] ?_
  rw [hr, if_pos h4]
  exact ⟨rfl, rfl⟩
 refine J.q hX fun b26 => ?_
 refine J.cb hX (r_mended (R.look N b r m) (G.slots m).toNat (by omega) hlen.1 hlen.2 hdat.1 hdat.2 (some g1) (some g2) c1 c2 k) [4, 5] ?_
 refine cpq ⟨_, rfl, trivial, ?_⟩
 refine J.q hX fun b28 => ?_
 refine J.cond rfl (fun h5 => ?_) (fun h5 => ?_)
 ·refine J.q hX fun b29 => ?_
  refine J.ru hX [1] ?_
  rw [hr, if_neg (by rw [h4]; exact Bool.false_ne_true), if_pos h5]
  exact ⟨rfl, rfl⟩
 ·refine J.q hX fun b30 => ?_
  refine J.ru hX [1] ?_
  rw [hr, if_neg (by rw [h4]; exact Bool.false_ne_true), if_neg (by rw [h5]; exact Bool.false_ne_true)]
  exact ⟨rfl, rfl⟩
def fnL (x : Fnd) : List Value := [.int .i64 x.en.lpn, .int .i64 x.en.seq, .int .i64 x.en.role, byC x.en.data 0, byC x.en.data 1, byC x.en.data 2, byC x.en.data 3, byC x.en.data 4, byC x.en.data 5, byC x.en.data 6, byC x.en.data 7, byC x.en.data 8, byC x.en.data 9, byC x.en.data 10, byC x.en.data 11, byC x.en.data 12, byC x.en.data 13, byC x.en.data 14, byC x.en.data 15,
 .int .i64 x.block, .int .i64 x.row, .int .i64 x.slot, .int .i64 x.mask, .bool x.whole, .bool x.mended]
def cellsF (l : List Fnd) : List Value := l.flatMap fnL
theorem fnL_len (x : Fnd) : (fnL x).length = 25 := rfl
theorem cellsF_len (l : List Fnd) : (cellsF l).length = l.length * 25 := by
 induction l with
 | nil => rfl
 | cons x l ih => simp only [cellsF, List.flatMap_cons, List.length_append, List.length_cons] at ih ⊢; rw [ih, fnL_len]; omega
theorem cellsF_snoc (l : List Fnd) (x : Fnd) : cellsF (l ++ [x]) = cellsF l ++ fnL x := by simp [cellsF]
theorem cellsF_get : ∀ {l : List Fnd} {k : Nat} {x : Fnd}, l[k]? = some x → ((cellsF l).drop (k * 25)).take 25 = fnL x
 | [], _, _, h => by simp at h
 | y :: l, 0, x, h => by
  simp at h; subst h
  rw [Nat.zero_mul, List.drop_zero]
  exact List.take_left' (fnL_len y)
 | y :: l, k + 1, x, h => by
  have := cellsF_get (l := l) (k := k) (x := x) (by simpa using h)
  rw [show (k + 1) * 25 = 25 + k * 25 from by omega, ← List.drop_drop]
  simp only [cellsF, List.flatMap_cons]
  rw [List.drop_left' (fnL_len y)]
  exact this
theorem ded_len (x : Int) : ∀ l : List Int, (dedFrom x l).length ≤ l.length
 | [] => Nat.le_refl _
 | y :: l => by
  unfold dedFrom
  split
  ·have h := ded_len y l; exact Nat.le_trans h (by simp)
  ·have h := ded_len y l; simpa using h
theorem compact_len : ∀ l : List Int, (compactI l).length ≤ l.length
 | [] => Nat.le_refl _
 | x :: l => by have h := ded_len x l; simpa [compactI] using h
theorem masks_len (N : Nand) (b r : Int) : (M.masks N b r).length ≤ N.dies := by
 unfold M.masks
 refine Nat.le_trans (compact_len _) ?_
 rw [isortL_len]
 refine Nat.le_trans (List.length_filterMap_le _ _) ?_
 simp [M.rowN]
def outI (N : Nand) (b r : Int) (i : Nat) : List Fnd := ((M.masks N b r).take i).flatMap (R.allM N b r)
def outJ (N : Nand) (b r mk : Int) (i j : Nat) : List Fnd := outI N b r i ++ (List.range j).filterMap (R.fnd (R.look N b r mk) b r mk)
theorem allM_len (N : Nand) (b r m : Int) : (R.allM N b r m).length ≤ 7 := by
 unfold R.allM
 refine Nat.le_trans (List.length_filterMap_le _ _) ?_
 rw [List.length_range, (look_len N b r m).1]
 have := gslots_bd m; omega
theorem outI_len (N : Nand) (b r : Int) (i : Nat) (h : N.dies ≤ 6) : (outI N b r i).length ≤ 42 := by
 have h1 : ∀ l : List Int, (l.flatMap (R.allM N b r)).length ≤ 7 * l.length := by
  intro l
  induction l with
  | nil => simp
  | cons x l ih => rw [List.flatMap_cons, List.length_append, List.length_cons]; have := allM_len N b r x; omega
 have h2 := h1 ((M.masks N b r).take i)
 have h3 := masks_len N b r
 have h4 : ((M.masks N b r).take i).length ≤ 6 := by rw [List.length_take]; omega
 unfold outI; omega
theorem outJ_len (N : Nand) (b r mk : Int) (i j : Nat) (h : N.dies ≤ 6) (hj : j ≤ 7) : (outJ N b r mk i j).length ≤ 49 := by
 have h1 := outI_len N b r i h
 have h2 := List.length_filterMap_le (R.fnd (R.look N b r mk) b r mk) (List.range j)
 rw [List.length_range] at h2
 unfold outJ; rw [List.length_append]; omega
theorem outJ_zero (N : Nand) (b r mk : Int) (i : Nat) : outJ N b r mk i 0 = outI N b r i := by simp [outJ]
theorem outJ_succ (N : Nand) (b r mk : Int) (i j : Nat) : outJ N b r mk i (j + 1) = outJ N b r mk i j ++ (R.fnd (R.look N b r mk) b r mk j).toList := by
 unfold outJ
 rw [List.range_succ, List.filterMap_append, List.append_assoc]
 congr 2
theorem outJ_all (N : Nand) (b r mk : Int) (i : Nat) (h : (M.masks N b r)[i]? = some mk) : outJ N b r mk i (G.slots mk).toNat = outI N b r (i + 1) := by
 unfold outJ outI
 rw [List.take_add_one, h, Option.toList_some, List.flatMap_append]
 congr 1
 rw [List.flatMap_cons, List.flatMap_nil, List.append_nil, R.allM, (look_len N b r mk).1]
theorem r_All (p : Nat) (N : Nand) (hN : N.Ok) (hR : N.Room) (b r : Int) : Fn Tryz.prog 170 [.pointer (some ⟨p, 0, none⟩), .int .i64 b, .int .i64 r] [NandA p N]
  (fun v As => ∃ a c, v = slv a (R.all N b r).length c ∧ As = [NandA p N, ownA 142 25 a (R.all N b r).length c (cellsF (R.all N b r))]) := by
 have hbd := hN.bd
 have hml := masks_len N b r
 refine Fn.enter [2, 0, 0] Tryz.func170 rfl rfl rfl fun X F hX => ?_
 refine J.q hX fun b1 => ?_
 refine J.cb hX (m_Masks p N hN hR b r) [1] ?_
 rintro v As ⟨am, cm, rfl, rfl⟩
 refine ⟨_, rfl, trivial, ?_⟩
 refine J.turn1 [] rfl (As := [ownA 142 25 none 0 0 (cellsF (outI N b r 0))]) (fun h s => Sep.one ⟨rfl, rfl, rfl⟩) rfl ?_
 refine J.q hX fun b3 => ?_
 refine J.lo (α := (Nat × Option Nat × Nat)) (fun z => z.1 ≤ (M.masks N b r).length) (fun z => [⟨20, .int .i64 z.1, 0, .tt⟩, ⟨19, .int .i64 (M.masks N b r).length, 0, .tt⟩, ⟨18, slv am (M.masks N b r).length cm, 0, .tt⟩, ⟨7, slv z.2.1 (outI N b r z.1).length z.2.2, 0, .tt⟩, ⟨0, .pointer (some ⟨p, 0, none⟩), 2, .tt⟩, ⟨1, .int .i64 b, 0, .tt⟩, ⟨2, .int .i64 r, 0, .tt⟩]) [3] (fun z => [ownA 142 25 z.2.1 (outI N b r z.1).length z.2.2 (cellsF (outI N b r z.1))]) (fun z => (M.masks N b r).length - z.1) ((0, none, 0)) (Nat.zero_le _) rfl ?_ (fun _ => rfl) fun z hI => ?_
 ·rfl
 obtain ⟨i, ao, co⟩ := z
 dsimp only at hI ⊢
 refine J.q hX fun b5 => ?_
 refine J.cond rfl (fun h1 => ?_) (fun h1 => ?_)
 ·simp only [decide_eq_true_eq, Int.ofNat_lt] at h1
  refine J.know (fun h' s => own_some (c := (am, cm)) (by omega) (s.get (i := 2) rfl)) fun hg => ?_
  obtain ⟨gm, rfl⟩ := hg
  obtain ⟨mk, hmk⟩ : ∃ mk, (M.masks N b r)[i]? = some mk := ⟨_, List.getElem?_eq_getElem h1⟩
  refine J.q hX fun b6 => ?_
  refine J.val hX (.int .i64 mk) 0 rfl rfl (fun hg a w he hw => ?_) rfl trivial ?_
  ·exact own1_run tk rfl rfl he rfl rfl rfl (hw.get (i := 2) rfl) (by rw [show 0 + (i : Int).toNat * 1 = i from by omega]; exact cellsI_get hmk)
  have hsb := gslots_bd mk
  have hlen := look_len N b r mk
  have hdat := look_data hN b r mk
  refine J.q hX fun b7 => ?_
  refine J.cb hX (r_look p N hN hR b r mk) [1] ?_
  rintro v As ⟨a1, c1, a2, c2, rfl, rfl⟩
  refine ⟨_, rfl, trivial, ?_⟩
  have hfnd : ∀ j, R.fnd (R.look N b r mk) b r mk j = if R.okAt (R.look N b r mk) j && (R.enAt (R.look N b r mk) j).role != 3 then some ⟨R.enAt (R.look N b r mk) j, b, r, j, mk, (R.look N b r mk).whole, !((R.look N b r mk).good.getD j false)⟩ else none := fun j => rfl
  have hout := outJ_succ N b r mk i
  have hz := outJ_zero N b r mk i
  have hall := outJ_all N b r mk i hmk
  have hol : ∀ j, j ≤ 7 → (outJ N b r mk i j).length ≤ 49 := fun j hj => outJ_len N b r mk i j (by omega) hj
  have hnb : (G.slots mk).toNat ≤ 7 := by omega
  rw [← hz]
  generalize hf : R.look N b r mk = f at hlen hdat hfnd hout
  generalize hn : (G.slots mk).toNat = n at hlen hall hnb
  refine J.q hX fun bbf => ?_
  refine J.lo (α := (Nat × Option Nat × Nat)) (fun z => z.1 ≤ n) (fun z => [⟨32, .int .i64 z.1, 0, .tt⟩, ⟨31, .int .i64 n, 0, .tt⟩, ⟨30, slv a1 n c1, 0, .tt⟩, ⟨10, .pointer (some ⟨bbf 0, 0, none⟩), 7, .tt⟩, ⟨9, .int .i64 mk, 0, .tt⟩, ⟨20, .int .i64 i, 0, .tt⟩, ⟨19, .int .i64 (M.masks N b r).length, 0, .tt⟩, ⟨18, slv (some gm) (M.masks N b r).length cm, 0, .tt⟩, ⟨7, slv z.2.1 (outJ N b r mk i z.1).length z.2.2, 0, .tt⟩, ⟨0, .pointer (some ⟨p, 0, none⟩), 2, .tt⟩, ⟨1, .int .i64 b, 0, .tt⟩, ⟨2, .int .i64 r, 0, .tt⟩]) [3] (fun z => [ownA 142 25 z.2.1 (outJ N b r mk i z.1).length z.2.2 (cellsF (outJ N b r mk i z.1))]) (fun z => n - z.1) ((0, ao, co)) (Nat.zero_le _) rfl ?_ (fun _ => rfl) fun z hI => ?_
  ·rfl
  obtain ⟨j, ao, co⟩ := z
  dsimp only at hI ⊢
  refine J.q hX fun b10 => ?_
  refine J.cond rfl (fun h2 => ?_) (fun h2 => ?_)
  ·simp only [decide_eq_true_eq, Int.ofNat_lt] at h2
   refine J.know (fun h' s => own_some (c := (a1, c1)) (by omega) (s.get (i := 4) rfl)) fun hg => ?_
   obtain ⟨g1, rfl⟩ := hg
   refine J.know (fun h' s => own_some (c := (a2, c2)) (by omega) (s.get (i := 5) rfl)) fun hg => ?_
   obtain ⟨g2, rfl⟩ := hg
   obtain ⟨s, hs⟩ : ∃ s, f.slots[j]? = some s := ⟨_, List.getElem?_eq_getElem (by omega)⟩
   obtain ⟨gk, hgd⟩ : ∃ g, f.good[j]? = some g := ⟨_, List.getElem?_eq_getElem (by omega)⟩
   have hgk : f.good.getD j false = gk := by rw [List.getD_eq_getElem?_getD, hgd, Option.getD_some]
   have hsk : f.slots.getD j Sh.zero = s := by rw [List.getD_eq_getElem?_getD, hs, Option.getD_some]
   refine J.q hX fun b11 => ?_
   refine J.val hX (shV s) 0 rfl rfl (fun hg a w he hw => ?_) rfl trivial ?_
   ·exact ownN_run tk rfl rfl he rfl rfl rfl (hw.get (i := 4) rfl) (by rw [show 0 + (j : Int).toNat * 23 = j * 23 from by omega]; exact cellsS_get hs) rfl
   obtain ⟨bb, hbb⟩ : ∃ x, bbf 0 = x := ⟨_, rfl⟩
   rw [hbb]
   refine J.q hX fun b12 => ?_
   refine J.plan (.take false 0 (.take true 2 (.take false 3 (.take true 4 (.take true 5 (.take false 6 (.alt false 1 ((.of [30,34,36])) (.alt false 7 ((.of [6,34,36])) .non)))))))) [9] [5, 6, 7] (by rw [hX.hP]; kernel_rfl) (by kernel_rfl) ?_
   refine J.join (α := Nat) (fun x => [⟨14, .bool gk, 0, .tt⟩, ⟨13, .pointer (some ⟨x, 0, none⟩), 8, .tt⟩, ⟨11, .int .i64 j, 0, .tt⟩, ⟨32, .int .i64 j, 0, .tt⟩, ⟨31, .int .i64 n, 0, .tt⟩, ⟨30, slv (some g1) n c1, 0, .tt⟩, ⟨10, .pointer (some ⟨bb, 0, none⟩), 7, .tt⟩, ⟨9, .int .i64 mk, 0, .tt⟩, ⟨20, .int .i64 i, 0, .tt⟩, ⟨19, .int .i64 (M.masks N b r).length, 0, .tt⟩, ⟨18, slv (some gm) (M.masks N b r).length cm, 0, .tt⟩, ⟨7, slv ao (outJ N b r mk i j).length co, 0, .tt⟩, ⟨0, .pointer (some ⟨p, 0, none⟩), 2, .tt⟩, ⟨1, .int .i64 b, 0, .tt⟩, ⟨2, .int .i64 r, 0, .tt⟩]) (fun x => [.hp F, NandA p N, ownA 3 1 (some gm) (M.masks N b r).length cm (cellsI (M.masks N b r)), ownA 142 25 ao (outJ N b r mk i j).length co (cellsF (outJ N b r mk i j)), ownA 132 23 (some g1) n c1 (cellsS f.slots), ownA 4 1 (some g2) n c2 (cellsB f.good), .pt bb 208 (fdL (some g1) c1 (some g2) c2 n f.parity f.whole), .pt x 38 (enL s.en)]) (fun hj => ?_) (fun x => ?_)
   ·skip
    refine J.qn hX 5 fun b13 => ?_
    refine J.valT hX (.bool gk) 0 rfl rfl (fun _ a w he hC => own1_run tk rfl rfl he rfl rfl rfl (hC rfl _ (cget_mem (i := 5) rfl)) (by rw [show 0 + (j : Int).toNat * 1 = j from by omega]; exact cellsB_get hgd)) rfl ?_
    refine J.alts ?_ ?_
    ·skip
     refine J.q hX fun b14 => ?_
     refine J.cb hX (r_entry s) [] ?_
     refine cpq ⟨_, rfl, ⟨rfl, rfl, rfl, trivial⟩, ?_⟩
     refine J.qn hX 1 fun b7 => ?_
     refine J.qn hX 3 fun b15 => ?_
     exact J.goto [0, 1, 2, 3, 4, 5, 6, 8] (hj (b7 0)) ⟨rfl, rfl, rfl, rfl, rfl, rfl, rfl, rfl, rfl, rfl, rfl, rfl, rfl, rfl, rfl, trivial⟩ rfl rfl
    ·skip
     refine J.qn hX 1 fun b7 => ?_
     refine J.q hX fun b16 => ?_
     refine J.cb hX (r_entry s) [] ?_
     refine cpq ⟨_, rfl, ⟨rfl, rfl, rfl, trivial⟩, ?_⟩
     refine J.qn hX 3 fun b17 => ?_
     exact J.goto [0, 1, 2, 3, 4, 5, 6, 8] (hj (b7 0)) ⟨rfl, rfl, rfl, rfl, rfl, rfl, rfl, rfl, rfl, rfl, rfl, rfl, rfl, rfl, rfl, trivial⟩ rfl rfl
   refine J.q hX fun b18 => ?_
   refine J.join (α := Unit) (fun _ => [⟨14, .bool (R.okAt f j), 0, .tt⟩, ⟨13, .pointer (some ⟨x, 0, none⟩), 8, .tt⟩, ⟨11, .int .i64 j, 0, .tt⟩, ⟨32, .int .i64 j, 0, .tt⟩, ⟨31, .int .i64 n, 0, .tt⟩, ⟨30, slv (some g1) n c1, 0, .tt⟩, ⟨10, .pointer (some ⟨bb, 0, none⟩), 7, .tt⟩, ⟨9, .int .i64 mk, 0, .tt⟩, ⟨20, .int .i64 i, 0, .tt⟩, ⟨19, .int .i64 (M.masks N b r).length, 0, .tt⟩, ⟨18, slv (some gm) (M.masks N b r).length cm, 0, .tt⟩, ⟨7, slv ao (outJ N b r mk i j).length co, 0, .tt⟩, ⟨0, .pointer (some ⟨p, 0, none⟩), 2, .tt⟩, ⟨1, .int .i64 b, 0, .tt⟩, ⟨2, .int .i64 r, 0, .tt⟩]) (fun _ => [.hp F, NandA p N, ownA 3 1 (some gm) (M.masks N b r).length cm (cellsI (M.masks N b r)), ownA 142 25 ao (outJ N b r mk i j).length co (cellsF (outJ N b r mk i j)), ownA 132 23 (some g1) n c1 (cellsS f.slots), ownA 4 1 (some g2) n c2 (cellsB f.good), .pt bb 208 (fdL (some g1) c1 (some g2) c2 n f.parity f.whole), .pt x 38 (enL (R.enAt f j))]) (fun hj => ?_) (fun _ => ?_)
   ·refine J.q hX fun b19 => ?_
    refine J.cond rfl (fun h3 => ?_) (fun h3 => ?_)
    ·simp only [Bool.not_eq_true'] at h3
     subst h3
     refine J.q hX fun b20 => ?_
     refine J.cb hX (r_mended f n (by omega) hlen.1 hlen.2 hdat.1 hdat.2 (some g1) (some g2) c1 c2 j) [4, 5] ?_
     refine cpq ⟨_, rfl, trivial, ?_⟩
     rw [show R.okAt f j = R.mendB f j from by rw [R.okAt, hgk]; rfl, show R.enAt f j = R.mend f j from by rw [R.enAt, hgk]; rfl] at hj
     refine J.qn hX 6 fun b22 => ?_
     exact J.goto [0, 1, 2, 3, 4, 5, 6, 7] (hj ()) ⟨rfl, rfl, rfl, rfl, rfl, rfl, rfl, rfl, rfl, rfl, rfl, rfl, rfl, rfl, rfl, trivial⟩ rfl rfl
    ·simp only [Bool.not_eq_false'] at h3
     subst h3
     rw [show R.okAt f j = true from by rw [R.okAt, hgk]; rfl, show R.enAt f j = s.en from by rw [R.enAt, hgk, if_pos rfl, hsk]] at hj
     refine J.qn hX 1 fun b23 => ?_
     exact J.goto [0, 1, 2, 3, 4, 5, 6, 7] (hj ()) ⟨rfl, rfl, rfl, rfl, rfl, rfl, rfl, rfl, rfl, rfl, rfl, rfl, rfl, rfl, rfl, trivial⟩ rfl rfl
   have hf1 := hfnd j
   have ho1 := hout j
   have hol1 := hol j (by omega)
   generalize R.okAt f j = ok at hf1
   generalize R.enAt f j = e at hf1
   refine J.q hX fun b24 => ?_
   refine J.cond rfl (fun h4 => ?_) (fun h4 => ?_)
   ·rw [if_pos h4, hgk] at hf1
    rw [hf1, Option.toList_some] at ho1
    have hsl : (outJ N b r mk i j).length + 1 = (outJ N b r mk i (j + 1)).length := by rw [ho1, List.length_append]; rfl
    refine J.q hX fun b25 => ?_
    refine J.plan (.of [0,5,8,12,16,20,24,28,33,36,41,44,48,53,56,60,66,70,72]) [18] [5,6,7] (by rw [hX.hP]; kernel_rfl) (by kernel_rfl) ?_
    refine J.qn hX 14 fun b26 => ?_
    refine J.valT hX (.bool gk) 0 rfl rfl (fun _ a w he hC => own1_run tk rfl rfl he rfl rfl rfl (hC rfl _ (cget_mem (i := 5) rfl)) (by rw [show 0 + (j : Int).toNat * 1 = j from by omega]; exact cellsB_get hgd)) rfl ?_
    refine J.q hX fun b27 => ?_
    refine J.append hX tk 3 8 0 rfl rfl rfl rfl rfl rfl rfl rfl rfl rfl rfl rfl rfl rfl rfl rfl ?_ ?_ (fun _ => rfl) fun a4 c4 => ⟨_, (congrArg (fun z => lset _ 3 (ownA _ _ _ _ _ z)) ((cellsF_snoc _ _).symm.trans (congrArg cellsF ho1.symm))).trans rfl, ⟨rfl, rfl, rfl, trivial⟩, ?_⟩
    ·simp only [maxLen]; omega
    ·omega
    rw [hsl]
    refine J.q hX fun b28 => ?_
    rw [← hbb]
    refine J.q hX fun b29 => ?_
    refine J.nS ((j + 1, a4, c4)) (by dsimp only; omega) (by dsimp only; omega) [0, 1, 2, 3, 4, 5, 6] rfl rfl
   ·rw [if_neg (by rw [h4]; exact Bool.false_ne_true)] at hf1
    rw [hf1, Option.toList_none, List.append_nil] at ho1
    rw [← ho1]
    refine J.q hX fun b30 => ?_
    rw [← hbb]
    refine J.q hX fun b31 => ?_
    refine J.nS ((j + 1, ao, co)) (by dsimp only; omega) (by dsimp only; omega) [0, 1, 2, 3, 4, 5, 6] rfl rfl
  ·simp only [decide_eq_false_iff_not, Int.ofNat_lt] at h2
   obtain rfl : j = n := by omega
   rw [hall]
   refine J.q hX fun b32 => ?_
   refine J.nS ((i + 1, ao, co)) (by dsimp only; omega) (by dsimp only; omega) [0, 1, 2, 3] rfl rfl
 ·simp only [decide_eq_false_iff_not, Int.ofNat_lt] at h1
  obtain rfl : i = (M.masks N b r).length := by omega
  have : outI N b r (M.masks N b r).length = R.all N b r := by unfold outI R.all; rw [List.take_length]
  rw [this]
  refine J.q hX fun b34 => ?_
  refine J.ru hX [1, 3] ?_
  exact ⟨ao, co, rfl, rfl⟩
end Go.Proofs.YtdocmcapegcoeaaGreat
namespace Go.Proofs.YtdocmcapegcoeaaGreat
open Go
theorem go_Gd (b r : Int) {mm : Nat} : ∀ (q : List (Int × Sh)) (N : Nand) (f : Int) (k : Nat), (∀ x ∈ q, x.2.data.length = 16) → N.Gd (q.length + k) mm → (R.go b r q N f).1.Gd k mm
 | [], N, f, k, _, h => by rw [R.go]; exact h.less (by simp) (Nat.le_refl _)
 | (d, s) :: q, N, f, k, hd, h => by
  have h1 : (N.progN d b r (putP s)).Gd (q.length + k) mm := Nand.Gd.prog (h.less (by rw [List.length_cons]; omega) (Nat.le_refl _)) d b r _ (putP_len s (hd (d, s) (by simp)))
  have hd' : ∀ x ∈ q, x.2.data.length = 16 := fun x hx => hd x (by simp [hx])
  rw [R.go]
  split
  ·exact go_Gd b r q _ _ k hd' h1
  ·split
   ·exact h1.less (by omega) (Nat.le_refl _)
   ·exact go_Gd b r q _ _ k hd' h1
theorem job_data {b r m : Int} {l : List En} (hd : ∀ s ∈ l, s.data.length = 16) : ∀ x ∈ R.job b r m l, x.2.data.length = 16 := by
 intro x hx
 simp only [R.job, List.mem_append, List.mem_map, List.mem_range, List.mem_singleton] at hx
 rcases hx with ⟨k, hk, rfl⟩ | rfl
 ·refine hd _ ?_
  rw [List.getD_eq_getElem?_getD, List.getElem?_eq_getElem hk]; exact List.getElem_mem _
 ·exact fold_len (fun t ht => by obtain ⟨e, he, rfl⟩ := List.mem_map.1 ht; exact hd e he) _ rfl
theorem parB_len {b r m : Int} {l : List En} (h : W.parB b r m l = true) : (l.length : Int) = G.slots m ∧ 1 ≤ l.length ∧ l.length ≤ 7 ∧ ∀ e ∈ l, W.ok b r m e = true := by
 simp only [W.parB, Bool.and_eq_true, decide_eq_true_eq, List.all_eq_true] at h
 have := gslots_bd m
 refine ⟨h.1.1, ?_, by omega, h.2⟩
 cases l with
 | nil => simp at h
 | cons x l => simp
theorem write_Gd {N : Nand} {b r m : Int} {l : List En} {k mm : Nat} (hd : ∀ s ∈ l, s.data.length = 16) (h : N.Gd (8 + k) mm) : (R.write N b r m l).1.Gd k mm := by
 unfold R.write
 split
 ·rename_i hB
  have := parB_len hB
  exact go_Gd b r _ _ _ k (job_data hd) (h.less (by rw [job_len]; omega) (Nat.le_refl _))
 ·exact h.less (by omega) (Nat.le_refl _)
theorem go_like (b r : Int) : ∀ (q : List (Int × Sh)) (N : Nand) (f : Int), N.Like (R.go b r q N f).1
 | [], N, f => by rw [R.go]; exact Nand.Like.refl N
 | (d, s) :: q, N, f => by
  rw [R.go]
  split
  ·exact (Nand.like_prog _ _ _ _ _).trans (go_like b r q _ _)
  ·split
   ·exact Nand.like_prog _ _ _ _ _
   ·exact (Nand.like_prog _ _ _ _ _).trans (go_like b r q _ _)
theorem write_like (N : Nand) (b r m : Int) (l : List En) : N.Like (R.write N b r m l).1 := by
 unfold R.write
 split
 ·exact go_like b r _ _ _
 ·exact Nand.Like.refl N
end Go.Proofs.YtdocmcapegcoeaaGreat
namespace Go.Proofs.YtdocmcapegcoeaaGreat
namespace Tl
def clean (t : Tl) (k : Int) (on : Bool) : Tl := t.set k { t.at_ k with used := !on }
def die (t : Tl) (d : Int) : Tl := if t.hasDie d = true then ⟨t.d, t.b, t.p, t.l, L.with_ t.dead d⟩ else t
end Tl
def En.pad : En := ⟨0, 0, 3, zeros16⟩
structure Dv where
 N : Nand
 t : Tl
 T : Tb
 op : Int
 row : Int
 mask : Int
 next : Int
namespace Dv
def pick (S : Dv) : Int := pkLeast (fun x y => cmpI (S.t.wear x) (S.t.wear y)) (pkSome (pkFree S.t S.T) S.op S.t.b)
def left (S : Dv) : Bool := decide (S.op ≥ 0) && decide (S.row < S.N.pages) && decide (G.slots S.mask > 0)
def slots (S : Dv) : Int := if S.left then G.slots S.mask else G.slots (S.t.mask S.pick)
def opened (S : Dv) : Dv := { S with t := S.t.clean S.pick false, op := S.pick, row := 0, mask := (S.t.clean S.pick false).mask S.pick }
def lose (f : Int) (S : Dv) (d : Nat) : Dv :=
 if L.has f d then
  { S with t := if S.N.deadAt d then S.t.die d else S.t.bad d S.op, mask := L.without S.mask d }
 else S
def loses (S : Dv) (f : Int) : Dv := (List.range S.N.dies).foldl (lose f) S
def numAt (l : List En) (next : Int) (k : Nat) : En := if k < l.length then { l.getD k En.zero with seq := next + k } else En.pad
def num (l : List En) (next : Int) (n : Nat) : List En := (List.range n).map (numAt l next)
def puts (T : Tb) (b r m : Int) (es : List En) (k : Nat) : Tb := (List.range k).foldl (fun T (i : Nat) => T.put (es.getD i En.zero) b r i m) T
def fit (S : Dv) (l : List En) : Nat := min l.length (G.slots S.mask).toNat
def es (S : Dv) (l : List En) : List En := num l S.next (G.slots S.mask).toNat
def wr (S : Dv) (l : List En) : Nand × Int × Int := R.write S.N S.op S.row S.mask (S.es l)
def wrote (S : Dv) (l : List En) : Dv := { S with N := (S.wr l).1, row := S.row + 1, next := S.next + S.fit l }
def write : Nat → Dv → List En → Dv × Int × Int
 | 0, S, _ => (S, 0, 0)
 | k + 1, S, l =>
  if l.length = 0 then (S, 0, 0)
  else if S.left = false ∧ S.pick < 0 then (S, 0, 11)
  else
   let S1 := if S.left then S else S.opened
   if S1.next > 1099511627775 - (S1.fit l : Int) + 1 then (S1, 0, 11)
   else if (S1.wr l).2.2 = 1 then ({ S1 with next := S1.next + S1.fit l, N := (S1.wr l).1 }, 0, 1)
   else if (S1.wr l).2.2 = 0 then ({ S1.wrote l with T := puts S1.T S1.op S1.row S1.mask (S1.es l) (S1.fit l) }, S1.fit l, 0)
   else if (S1.wr l).2.2 = 9 then (S1.wrote l, 0, 9)
   else write k ((S1.wrote l).loses (S1.wr l).2.1) l
def fuel : Nat := 160
def pen (S : Dv) (l : List En) : Dv × Int × Int := write fuel S l
def rd (S : Dv) (i : Int) : En × Int :=
 let a := (Tb.look S.T.at_ i).getD AtV.zero
 let x := R.read S.N a.block a.row a.slot a.mask
 if x.2 = 9 then (En.zero, 9)
 else if x.2 ≠ 0 ∨ x.1.lpn ≠ i ∨ x.1.seq ≠ a.seq then (⟨i, 0, 4, zeros16⟩, 0)
 else (x.1, 0)
def rds (S : Dv) : List Int → List En × Int
 | [] => ([], 0)
 | i :: l => if (S.rd i).2 ≠ 0 then ([], (S.rd i).2) else ((S.rd i).1 :: (rds S l).1, (rds S l).2)
def carryGo : Nat → Dv → List Int → Int → Dv × Int × Int
 | 0, S, _, done => (S, done, 0)
 | k + 1, S, l, done =>
  if l.length = 0 then (S, done, 0)
  else
   let r := S.rds (l.take (max S.slots 1).toNat)
   if r.2 ≠ 0 then (S, done, r.2)
   else
    let w := S.pen r.1
    if w.2.2 ≠ 0 then (w.1, done + w.2.1, w.2.2)
    else carryGo k w.1 (l.drop w.2.1.toNat) (done + w.2.1)
def carry (S : Dv) (b most : Int) : Dv × Int × Int :=
 let l := (S.T.ins b).take (max most 0).toNat
 carryGo l.length S l 0
def eraseD (b m : Int) (x : Nand × Tl × Int) (d : Nat) : Nand × Tl × Int :=
 if x.2.2 ≠ 0 then x
 else if L.has m d = false then x
 else
  let e := x.1.eraseE d b
  (x.1.eraseN d b, if e = 0 then x.2.1 else if e = 9 then x.2.1 else if e = 8 then x.2.1.die d else x.2.1.bad d b, if e = 9 then 9 else 0)
def eraseB (N : Nand) (t : Tl) (b : Int) : Nand × Tl × Int := (List.range N.dies).foldl (eraseD b (t.mask b)) (N, t, 0)
def wores (N : Nand) (t : Tl) (b : Int) : Tl := (List.range N.dies).foldl (fun t (d : Nat) => t.wore b (N.wornAt d b)) t
def eraseT (N : Nand) (t : Tl) (b : Int) : Tl := if (wores N t b).usable b then (wores N t b).clean b true else wores N t b
def erase (N : Nand) (t : Tl) (b : Int) : Nand × Tl × Int :=
 let x := eraseB N t b
 if x.2.2 ≠ 0 then x else (x.1, eraseT x.1 x.2.1 b, 0)
def clearGo : List Int → Nand → Tl → Nand × Tl × Int
 | [], N, t => (N, t, 0)
 | b :: l, N, t =>
  let x := erase N t b
  if x.2.2 ≠ 0 then x else clearGo l x.1 x.2.1
def clearX (N : Nand) (t : Tl) (T : Tb) (o : Int) : Nand × Tl × Int := clearGo (pkSome (pkSpent t T) o t.b) N t
def clear (S : Dv) : Dv × Int :=
 let x := clearX S.N S.t S.T S.op
 ({ S with N := x.1, t := x.2.1 }, x.2.2)
def victim (S : Dv) : Int := pkLeast (fun x y => orI [cmpI (S.T.count x) (S.T.count y), cmpI (S.t.wear x) (S.t.wear y)]) (pkSome (pkUsed S.t S.T) S.op S.t.b)
def free (S : Dv) : Nat := (pkSome (pkFree S.t S.T) S.op S.t.b).length
def roomGo : Nat → Dv → Dv × Int
 | 0, S => (S, 0)
 | k + 1, S =>
  if (S.free : Int) > 4 then (S, 0)
  else if S.victim < 0 ∨ S.T.count S.victim ≥ S.t.p * G.slots (S.t.mask S.victim) then (S, 0)
  else
   let c := S.carry S.victim (S.T.count S.victim)
   if c.2.2 ≠ 0 then (c.1, c.2.2)
   else
    let d := c.1.clear
    if d.2 ≠ 0 then d else roomGo k d.1
def room (S : Dv) : Dv × Int := if S.clear.2 ≠ 0 then S.clear else roomGo S.t.b S.clear.1
def hurts (S : Dv) : List Int := pkSome (pkHurt S.t S.T) (-1) S.t.b
def leftN (S : Dv) : Int := (S.hurts.map S.T.count).sum
def seeDead (N : Nand) (t : Tl) : Tl := (List.range t.d).foldl (fun t (d : Nat) => if N.deadAt d then t.die d else t) t
def seen (S : Dv) : Dv := { S with t := seeDead S.N S.t }
def step (S : Dv) (most : Int) : Dv × Int × Int :=
 let r := S.seen.room
 if r.2 ≠ 0 then (r.1, 0, r.2)
 else match r.1.hurts with
  | [] => (r.1, 0, 0)
  | b :: _ => r.1.carry b most
def tornGo : Nat → Dv → List En → Dv × Int
 | 0, S, _ => (S, 0)
 | k + 1, S, l =>
  if l.length = 0 then (S, 0)
  else
   let r := S.room
   if r.2 ≠ 0 then r
   else
    let w := r.1.pen l
    if w.2.2 ≠ 0 then (w.1, w.2.2) else tornGo k w.1 (l.drop w.2.1.toNat)
def torn (S : Dv) (l : List En) : Dv × Int := tornGo l.length S l
end Dv
end Go.Proofs.YtdocmcapegcoeaaGreat
namespace Go.Proofs.YtdocmcapegcoeaaGreat
open Go Go.RowKit
theorem tl_Clean (q : Nat) (t : Tl) (hb : t.b ≤ 1000) (hl : t.l.length = t.b) (k : Int) (on : Bool) : Fn Tryz.prog 104 [.pointer (some ⟨q, 0, none⟩), .int .i64 k, .bool on] [TlA q t] (fun v As => v = .tuple #[] ∧ As = [TlA q (t.clean k on)]) := by
 refine Fn.enter [2, 0, 0] Tryz.func104 rfl rfl rfl fun X F hX => ?_
 refine J.open_ (α := Nat) 1 rfl rfl (fun _ => rfl) fun g => ?_
 refine J.q hX fun b1 => ?_
 refine J.cb hX (tl_at q t hb g k) [1, 2] ?_
 refine cpq ⟨_, rfl, trivial, ?_⟩
 cases hh : t.has k with
 | false =>
  rw [Tl.adr, hh, if_neg (by simp)]
  refine J.q hX fun b3 => ?_
  refine J.cF ?_
  refine J.q hX fun b4 => ?_
  refine J.close (f := fun g : Nat => TlP q t g) g [1, 2] rfl rfl rfl ?_
  refine J.q hX fun b5 => ?_
  refine J.fi hX tk [1] rfl rfl rfl ?_
  exact ⟨rfl, by rw [Tl.clean, Tl.set, hh]; rfl⟩
 | true =>
  rw [Tl.adr, hh, if_pos rfl]
  refine J.q hX fun b6 => ?_
  refine J.cT ?_
  refine J.q hX fun b7 => ?_
  refine J.store1 hX tk 2 rfl rfl rfl rfl rfl rfl rfl rfl rfl rfl rfl rfl rfl ?_ ((t.clean k on).l.flatMap sbL) ?_ rfl (fun _ => rfl) ⟨trivial, ?_⟩
  ·rw [t.len_l, hl]; simp only [Tl.has, Bool.and_eq_true, decide_eq_true_eq] at hh; omega
  ·exact t.set_at hl hh 2 (by omega) _ _ rfl
  refine J.close (f := fun g : Nat => TlP q (t.clean k on) g) g [1, 2] rfl (by simp only [TlP, Tl.clean, Tl.set_d, Tl.set_b, Tl.set_p, Tl.set_dead]; rfl) rfl ?_
  refine J.q hX fun b8 => ?_
  refine J.fi hX tk [1] rfl rfl rfl ?_
  exact ⟨rfl, rfl⟩
theorem tl_Dead (q : Nat) (t : Tl) (d : Int) : Fn Tryz.prog 47 [.pointer (some ⟨q, 0, none⟩), .int .i64 d] [TlA q t] (fun v As => v = .tuple #[] ∧ As = [TlA q (t.die d)]) := by
 refine Fn.enter [2, 0] Tryz.func47 rfl rfl rfl fun X F hX => ?_
 refine J.open_ (α := Nat) 1 rfl rfl (fun _ => rfl) fun g => ?_
 refine J.q hX fun b9 => ?_
 refine J.cb hX (tl_die q t g d) [1, 2] ?_
 refine cpq ⟨_, rfl, trivial, ?_⟩
 refine J.q hX fun b11 => ?_
 refine J.cond rfl (fun h1 => ?_) (fun h1 => ?_)
 ·refine J.q hX fun b12 => ?_
  refine J.cb hX (l_With t.dead d) [] ?_
  refine cpq ⟨_, rfl, trivial, ?_⟩
  have he : t.die d = ⟨t.d, t.b, t.p, t.l, L.with_ t.dead d⟩ := by rw [Tl.die, if_pos h1]
  refine J.q hX fun b14 => ?_
  refine J.close (f := fun g : Nat => TlP q (t.die d) g) g [1, 2] rfl (by rw [he]; rfl) rfl ?_
  refine J.q hX fun b15 => ?_
  refine J.fi hX tk [1] rfl rfl rfl ?_
  exact ⟨rfl, rfl⟩
 ·refine J.q hX fun b16 => ?_
  refine J.close (f := fun g : Nat => TlP q t g) g [1, 2] rfl rfl rfl ?_
  refine J.q hX fun b17 => ?_
  refine J.fi hX tk [1] rfl rfl rfl ?_
  exact ⟨rfl, by rw [Tl.die, if_neg (by rw [h1]; simp)]; rfl⟩
end Go.Proofs.YtdocmcapegcoeaaGreat
