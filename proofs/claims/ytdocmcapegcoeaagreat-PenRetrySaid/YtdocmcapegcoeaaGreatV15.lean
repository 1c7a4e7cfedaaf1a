/- Helpers, proved here. No condition. -/
import Derived.Test.YtdocmcapegcoeaaGreatV06
import Derived.Test.YtdocmcapegcoeaaGreatV09
import Derived.Test.YtdocmcapegcoeaaGreatV12
import Derived.Test.YtdocmcapegcoeaaGreatV13
set_option maxRecDepth 20000
set_option linter.all false
namespace Go.Proofs.YtdocmcapegcoeaaGreat
namespace Tb
def cntB (l : List (Int × AtV)) (b : Int) : Nat := l.countP fun x => x.2.block == b
structure Ok (t : Tb) : Prop where
 keys : (t.at_.map (·.1)).Nodup
 rng : ∀ x ∈ t.at_, 0 ≤ x.1 ∧ x.1 < t.logical
 cnt : ∀ b, t.count b = (cntB t.at_ b : Int)
 log : 0 ≤ t.logical ∧ t.logical ≤ 65536
theorem look_none {α : Type} {k : Int} : ∀ {l : List (Int × α)}, look l k = none ↔ k ∉ l.map (·.1)
 | [] => by simp [look]
 | x :: l => by
  simp only [look, List.map_cons, List.mem_cons, not_or]
  split
  ·rename_i h; simp [h]
  ·rename_i h; rw [look_none]; simp [h]
theorem look_mem {α : Type} {k : Int} {a : α} : ∀ {l : List (Int × α)}, look l k = some a → (k, a) ∈ l
 | [], h => by simp [look] at h
 | x :: l, h => by
  simp only [look] at h
  split at h
  ·rename_i e; injection h with h; subst h; subst e; exact List.mem_cons_self ..
  ·exact List.mem_cons_of_mem _ (look_mem h)
theorem put1_new {α : Type} {k : Int} {v : α} : ∀ {l : List (Int × α)}, look l k = none → put1 l k v = l ++ [(k, v)]
 | [], _ => rfl
 | x :: l, h => by
  simp only [look] at h
  split at h
  ·cases h
  ·rename_i e; simp only [put1, if_neg e, put1_new h, List.cons_append]
theorem put1_keys {α : Type} {k : Int} {v : α} : ∀ {l : List (Int × α)}, (look l k).isSome = true → (put1 l k v).map (·.1) = l.map (·.1)
 | [], h => by simp [look] at h
 | x :: l, h => by
  simp only [look] at h
  simp only [put1]
  split
  ·rename_i e; simp [e]
  ·rename_i e; rw [if_neg e] at h; simp only [List.map_cons, put1_keys h]
theorem cntB_put {k : Int} {v : AtV} (b : Int) : ∀ {l : List (Int × AtV)}, (l.map (·.1)).Nodup → (cntB (put1 l k v) b : Int) = (cntB l b : Int) - (match look l k with | some a => if a.block = b then 1 else 0 | none => 0) + (if v.block = b then 1 else 0)
 | [], _ => by simp [put1, look, cntB]; split <;> simp_all
 | x :: l, h => by
  simp only [put1, look]
  by_cases e : k = x.1
  ·rw [if_pos e, if_pos e]
   simp only [cntB, List.countP_cons, beq_iff_eq]
   split <;> split <;> omega
  ·rw [if_neg e, if_neg e]
   have := cntB_put (k := k) (v := v) b (l := l) (by simp only [List.map_cons, List.nodup_cons] at h; exact h.2)
   simp only [cntB, List.countP_cons] at this ⊢
   rw [Int.natCast_add, Int.natCast_add, this]
   omega
theorem count_put1 (c : List (Int × Int)) (k v b : Int) : (look (put1 c k v) b).getD 0 = if b = k then v else (look c b).getD 0 := by
 rw [look_put1]; split <;> rfl
theorem ok_spec {t : Tb} {e : En} (h : t.ok e = true) : 0 ≤ e.lpn ∧ e.lpn < t.logical := by
 simp only [ok, Bool.not_eq_true', Bool.or_eq_false_iff, decide_eq_false_iff_not] at h
 omega
theorem Ok.new (n : Int) : (Tb.new n).Ok := ⟨by simp [Tb.new], by simp [Tb.new], fun b => rfl, by simp only [Tb.new]; omega⟩
theorem Ok.put {t : Tb} (h : t.Ok) (e : En) (b r s m : Int) : (t.put e b r s m).Ok := by
 unfold Tb.put
 split
 ·rename_i hp
  simp only [putB, Bool.and_eq_true] at hp
  have ho := ok_spec hp.1
  have hk : (put1 t.at_ e.lpn ⟨b, r, s, m, e.seq, e.role⟩).map (·.1) = t.at_.map (·.1) ∨ look t.at_ e.lpn = none ∧ (put1 t.at_ e.lpn ⟨b, r, s, m, e.seq, e.role⟩).map (·.1) = t.at_.map (·.1) ++ [e.lpn] := by
   cases hl : look t.at_ e.lpn with
   | none => right; exact ⟨rfl, by rw [put1_new hl]; simp⟩
   | some a => left; exact put1_keys (by rw [hl]; rfl)
  refine ⟨?_, ?_, ?_, h.log⟩
  ·rcases hk with hk | ⟨hn, hk⟩
   ·show ((put1 _ _ _).map _).Nodup
    rw [hk]; exact h.keys
   ·show ((put1 _ _ _).map _).Nodup
    rw [hk, List.nodup_append]
    exact ⟨h.keys, by simp, fun a ha c hc => by simp at hc; subst hc; exact fun e => look_none.1 hn (e ▸ ha)⟩
  ·intro x hx
   have hx : x.1 ∈ (put1 t.at_ e.lpn ⟨b, r, s, m, e.seq, e.role⟩).map (·.1) := List.mem_map_of_mem hx
   have hr : ∀ k ∈ t.at_.map (·.1), 0 ≤ k ∧ k < t.logical := fun k hk => by
    obtain ⟨y, hy, rfl⟩ := List.mem_map.1 hk; exact h.rng y hy
   rcases hk with hk | ⟨_, hk⟩
   ·rw [hk] at hx; exact hr _ hx
   ·rw [hk, List.mem_append] at hx
    rcases hx with hx | hx
    ·exact hr _ hx
    ·simp at hx; rw [hx]; exact ho
  ·intro c
   show (look (cnt2 t e b) c).getD 0 = (cntB (put1 t.at_ e.lpn ⟨b, r, s, m, e.seq, e.role⟩) c : Int)
   rw [cntB_put c h.keys]
   have h1 : ∀ d, (look (cnt1 t e) d).getD 0 = (cntB t.at_ d : Int) - (match look t.at_ e.lpn with | some a => if a.block = d then 1 else 0 | none => 0) := by
    intro d
    have hd : (look t.cnt d).getD 0 = (cntB t.at_ d : Int) := h.cnt d
    unfold cnt1
    cases hl : look t.at_ e.lpn with
    | none => dsimp only; rw [hd]; omega
    | some a =>
     dsimp only
     rw [count_put1]
     split
     ·rename_i e1; subst e1; rw [if_pos rfl, h.cnt]
     ·rename_i e1; rw [if_neg (fun e => e1 e.symm), hd]; omega
   unfold cnt2
   rw [count_put1, h1 b, h1 c]
   dsimp only
   by_cases e1 : c = b
   ·subst e1; rw [if_pos rfl, if_pos rfl]
   ·rw [if_neg e1, if_neg (fun e => e1 e.symm)]; omega
 ·exact h
theorem countP_one {p q : Nat → Bool} {i0 : Nat} (h1 : ∀ i, i ≠ i0 → p i = q i) (h2 : q i0 = false) : ∀ n, (List.range n).countP p = (List.range n).countP q + (if i0 < n ∧ p i0 = true then 1 else 0)
 | 0 => by simp
 | n + 1 => by
  rw [List.range_succ, List.countP_append, List.countP_append, countP_one h1 h2 n]
  simp only [List.countP_singleton]
  by_cases e : n = i0
  ·subst e
   rw [h2]
   cases p n <;> simp
  ·rw [h1 n e]
   by_cases e2 : i0 < n
   ·simp [e2, show i0 < n + 1 by omega]; omega
   ·simp [e2, show ¬ i0 < n + 1 by omega]
theorem at_cnt {α : Type} (n : Nat) : ∀ l : List (Int × α), (l.map (·.1)).Nodup → (∀ x ∈ l, 0 ≤ x.1 ∧ x.1 < (n : Int)) → l.length = (List.range n).countP fun i : Nat => (look l (i : Int)).isSome
 | [], _, _ => by simp [look]
 | x :: l, h1, h2 => by
  simp only [List.map_cons, List.nodup_cons] at h1
  have ih := at_cnt n l h1.2 (fun y hy => h2 y (List.mem_cons_of_mem _ hy))
  have hx := h2 x (List.mem_cons_self ..)
  have hn : look l x.1 = none := look_none.2 h1.1
  rw [countP_one (q := fun i : Nat => (look l (i : Int)).isSome) (i0 := x.1.toNat)]
  ·rw [← ih]
   have : ((x.1.toNat : Nat) : Int) = x.1 := by omega
   simp only [this, look, if_true, Option.isSome_some, and_true, List.length_cons]
   rw [if_pos (by omega)]
  ·intro i hi
   simp only [look]
   rw [if_neg (by omega)]
  ·have : ((x.1.toNat : Nat) : Int) = x.1 := by omega
   simp only [this, hn]; rfl
theorem len_le {α : Type} (n : Nat) (l : List (Int × α)) (h1 : (l.map (·.1)).Nodup) (h2 : ∀ x ∈ l, 0 ≤ x.1 ∧ x.1 < (n : Int)) : l.length ≤ n := by
 rw [at_cnt n l h1 h2]
 have := List.countP_le_length (p := fun i : Nat => (look l (i : Int)).isSome) (l := List.range n)
 rwa [List.length_range] at this
theorem Ok.len {t : Tb} (h : t.Ok) : t.at_.length ≤ 65536 := by
 have := len_le t.logical.toNat t.at_ h.keys (fun x hx => by have := h.rng x hx; omega)
 have := h.log
 omega
theorem Ok.bd {t : Tb} (h : t.Ok) (k : Int) : 0 ≤ t.count k ∧ t.count k ≤ 1000000 := by
 rw [h.cnt]
 have : cntB t.at_ k ≤ t.at_.length := List.countP_le_length
 have := h.len
 omega
theorem range_cnt (b : Int) (n : Nat) : ∀ l : List (Int × AtV), (l.map (·.1)).Nodup → (∀ x ∈ l, 0 ≤ x.1 ∧ x.1 < (n : Int)) → (List.range n).countP (fun i : Nat => match look l (i : Int) with | some a => a.block == b | none => false) = cntB l b
 | [], _, _ => by simp [look, cntB]
 | x :: l, h1, h2 => by
  simp only [List.map_cons, List.nodup_cons] at h1
  have ih := range_cnt b n l h1.2 (fun y hy => h2 y (List.mem_cons_of_mem _ hy))
  have hx := h2 x (List.mem_cons_self ..)
  have hn : look l x.1 = none := look_none.2 h1.1
  rw [countP_one (q := fun i : Nat => match look l (i : Int) with | some a => a.block == b | none => false) (i0 := x.1.toNat)]
  ·rw [ih, cntB, cntB, List.countP_cons]
   have : ((x.1.toNat : Nat) : Int) = x.1 := by omega
   simp only [this, look, if_true]
   have hlt : x.1.toNat < n := by omega
   simp only [hlt, true_and]
  ·intro i hi
   simp only [look]
   rw [if_neg (by omega)]
  ·have : ((x.1.toNat : Nat) : Int) = x.1 := by omega
   simp only [this, hn]
theorem Ok.inK_len {t : Tb} (h : t.Ok) (b : Int) : ((inK t b t.logical.toNat).length : Int) = t.count b := by
 rw [h.cnt, inK, List.length_map, ← List.countP_eq_length_filter, ← range_cnt b t.logical.toNat t.at_ h.keys (fun x hx => by have := h.rng x hx; omega)]
 rfl
theorem Ok.ins {t : Tb} (h : t.Ok) (b : Int) : t.ins b = inK t b t.logical.toNat := by
 unfold Tb.ins
 split
 ·rename_i h0
  have := h.inK_len b
  rw [h0] at this
  have : (inK t b t.logical.toNat).length = 0 := by omega
  exact (List.eq_nil_of_length_eq_zero this).symm
 ·rfl
theorem Ok.ins_len {t : Tb} (h : t.Ok) (b : Int) : ((t.ins b).length : Int) = t.count b := by rw [h.ins, h.inK_len]
theorem put_logical (t : Tb) (e : En) (b r s m : Int) : (t.put e b r s m).logical = t.logical := by unfold Tb.put; split <;> rfl
end Tb
end Go.Proofs.YtdocmcapegcoeaaGreat
namespace Go.Proofs.YtdocmcapegcoeaaGreat
open Go Go.RowKit
def mk0 (N : Nand) (b r : Int) (k : Nat) : List Int := ((M.rowN N b r N.dies).take k).filterMap M.maskOf
theorem rowN_at (N : Nand) (b r : Int) (n k : Nat) (h : k < n) : (M.rowN N b r n)[k]? = some (M.look N (k : Nat) b r) := by simp [M.rowN, h]
theorem mk0_succ (N : Nand) (b r : Int) (k : Nat) (h : k < N.dies) : mk0 N b r (k + 1) = mk0 N b r k ++ (M.maskOf (M.look N (k : Nat) b r)).toList := by
 unfold mk0
 rw [List.take_add_one, rowN_at N b r _ k h, List.filterMap_append]
 congr 1
theorem mk0_len (N : Nand) (b r : Int) (k : Nat) : (mk0 N b r k).length ≤ k := by
 refine Nat.le_trans (List.length_filterMap_le _ _) ?_
 rw [List.length_take]; omega
theorem cellsI_get {l : List Int} {k : Nat} {x : Int} (h : l[k]? = some x) : (cellsI l)[k]? = some (.int .i64 x) := by simp [cellsI, h]
theorem cellsS_get {l : List Sh} {k : Nat} {x : Sh} (h : l[k]? = some x) : ((cellsS l).drop (k * 23)).take 23 = shL x := by
 have := cellsS_at l [] k x h; rwa [List.append_nil] at this
theorem m_Masks (p : Nat) (N : Nand) (hN : N.Ok) (hR : N.Room) (b r : Int) : Fn Tryz.prog 202 [.pointer (some ⟨p, 0, none⟩), .int .i64 b, .int .i64 r] [NandA p N]
  (fun v As => ∃ a c, v = slv a (M.masks N b r).length c ∧ As = [NandA p N, ownA 3 1 a (M.masks N b r).length c (cellsI (M.masks N b r))]) := by
 have hbd := hN.bd
 refine Fn.enter [2, 0, 0] Tryz.func202 rfl rfl rfl fun X F hX => ?_
 refine J.q hX fun b1 => ?_
 refine J.cb hX (m_Row p N hN hR b r) [1] ?_
 rintro v As ⟨a1, c1, a2, c2, rfl, rfl⟩
 refine ⟨_, rfl, trivial, ?_⟩
 refine J.turn1 [] rfl (As := [ownA 3 1 none 0 0 (cellsI (mk0 N b r 0))]) (fun h s => Sep.one ⟨rfl, rfl, rfl⟩) rfl ?_
 refine J.q hX fun b3 => ?_
 refine J.lo (α := (Nat × Option Nat × Nat)) (fun z => z.1 ≤ N.dies) (fun z => [⟨21, .int .i64 z.1, 0, .tt⟩, ⟨20, .int .i64 N.dies, 0, .tt⟩, ⟨19, slv a1 N.dies c1, 0, .tt⟩, ⟨9, slv a2 N.dies c2, 0, .tt⟩, ⟨7, slv z.2.1 (mk0 N b r z.1).length z.2.2, 0, .tt⟩]) [4] (fun z => [ownA 3 1 z.2.1 (mk0 N b r z.1).length z.2.2 (cellsI (mk0 N b r z.1))]) (fun z => N.dies - z.1) ((0, none, 0)) (Nat.zero_le _) rfl ?_ (fun _ => rfl) fun z hI => ?_
 ·rfl
 obtain ⟨k, a3, c3⟩ := z
 dsimp only at hI ⊢
 have hml := mk0_len N b r k
 refine J.q hX fun b5 => ?_
 refine J.cond rfl (fun h1 => ?_) (fun h1 => ?_)
 ·simp only [decide_eq_true_eq, Int.ofNat_lt] at h1
  refine J.know (fun h' s => own_some (c := (a1, c1)) (by omega) (s.get (i := 2) rfl)) fun hg => ?_
  obtain ⟨g1, rfl⟩ := hg
  refine J.know (fun h' s => own_some (c := (a2, c2)) (by omega) (s.get (i := 3) rfl)) fun hg => ?_
  obtain ⟨g2, rfl⟩ := hg
  have hat := rowN_at N b r _ k h1
  refine J.q hX fun b6 => ?_
  refine J.val hX (shV (M.look N (k : Nat) b r).1) 0 rfl rfl (fun hg a w he hs => ?_) rfl trivial ?_
  ·exact ownN_run tk rfl rfl he rfl rfl rfl (hs.get (i := 2) rfl) (by rw [show 0 + (k : Int).toNat * 23 = k * 23 from by omega]; exact cellsS_get (by rw [List.getElem?_map, hat]; rfl)) rfl
  refine J.q hX fun b7 => ?_
  refine J.val hX (.int .i64 (M.look N (k : Nat) b r).2) 0 rfl rfl (fun hg a w he hs => ?_) rfl trivial ?_
  ·exact own1_run tk rfl rfl he rfl rfl rfl (hs.get (i := 3) rfl) (by rw [show 0 + (k : Int).toNat * 1 = k from by omega]; exact cellsI_get (by rw [List.getElem?_map, hat]; rfl))
  refine J.q hX fun b8 => ?_
  refine J.cond rfl (fun h2 => ?_) (fun h2 => ?_)
  ·simp only [beq_iff_eq] at h2
   have hs : mk0 N b r (k + 1) = mk0 N b r k ++ [(M.look N (k : Nat) b r).1.mask] := by rw [mk0_succ N b r k h1, M.maskOf, if_pos h2]; rfl
   have hl : (mk0 N b r k).length + 1 = (mk0 N b r (k + 1)).length := by rw [hs]; simp
   refine J.q hX fun b9 => ?_
   refine J.append hX tk 4 6 0 rfl rfl rfl rfl rfl rfl rfl rfl rfl rfl rfl rfl rfl rfl rfl rfl ?_ ?_ (fun _ => rfl) fun a4 c4 => ⟨_, (congrArg (fun z => lset _ 4 (ownA _ _ _ _ _ z)) ((cellsI_snoc _ _).symm.trans (congrArg cellsI hs.symm))).trans rfl, trivial, ?_⟩
   ·simp only [maxLen]; omega
   ·omega
   rw [hl]
   refine J.q hX fun b10 => ?_
   refine J.nS ((k + 1, a4, c4)) (by dsimp only; omega) (by dsimp only; omega) [0, 1, 2, 3, 4] rfl rfl
  ·simp only [beq_eq_false_iff_ne, ne_eq] at h2
   have hs : mk0 N b r k = mk0 N b r (k + 1) := by rw [mk0_succ N b r k h1, M.maskOf, if_neg h2]; simp
   rw [hs]
   refine J.q hX fun b11 => ?_
   refine J.nS ((k + 1, a3, c3)) (by dsimp only; omega) (by dsimp only; omega) [0, 1, 2, 3, 4] rfl rfl
 ·simp only [decide_eq_false_iff_not, Int.ofNat_lt] at h1
  obtain rfl : k = N.dies := by omega
  have hall : mk0 N b r N.dies = (M.rowN N b r N.dies).filterMap M.maskOf := by
   unfold mk0; rw [List.take_of_length_le (by simp [M.rowN])]
  refine J.q hX fun b12 => ?_
  refine J.cb hX (s_SortInts a3 (mk0 N b r N.dies).length c3 (mk0 N b r N.dies) rfl (by omega)) [4] ?_
  refine cpq ⟨_, rfl, trivial, ?_⟩
  refine J.q hX fun b14 => ?_
  refine J.ca hX (by kernel_rfl) (x_Compact a3 (mk0 N b r N.dies).length c3 (isortL (mk0 N b r N.dies)) (isortL_len _) (by omega)) [4] 0 rfl rfl rfl rfl rfl rfl (fun _ => rfl) ?_
  rintro v As ⟨l', hl', rfl, rfl⟩
  refine ⟨_, rfl, trivial, ?_⟩
  have he : l' = M.masks N b r := by rw [hl', hall]; rfl
  subst he
  refine J.q hX fun b16 => ?_
  refine J.ru hX [1, 4] ?_
  exact ⟨a3, c3, rfl, rfl⟩
end Go.Proofs.YtdocmcapegcoeaaGreat
namespace Go.Proofs.YtdocmcapegcoeaaGreat
structure Nand.Gd (N : Nand) (k m : Nat) : Prop where
 ok : N.Ok
 ops : N.ops + k < 4611686018427387904
 broken : N.broken + k < 4611686018427387904
 nodup : N.plan.Nodup
 few : N.plan.length ≤ m
namespace Nand
variable {N : Nand} {k m : Nat}
theorem Gd.room (h : N.Gd k m) : N.Room := ⟨by have := h.ops; omega, by have := h.broken; omega⟩
theorem Gd.less (h : N.Gd k m) {k' m' : Nat} (hk : k' ≤ k) (hm : m ≤ m') : N.Gd k' m' := ⟨h.ok, by have := h.ops; omega, by have := h.broken; omega, h.nodup, by have := h.few; omega⟩
theorem Ok.setBlk (h : N.Ok) (i j : Nat) (B : NBlock) (h1 : B.cells.length ≤ N.pages) (h2 : ∀ c ∈ B.cells, c.p.length = 32) (h3 : 0 ≤ B.worn ∧ B.worn ≤ N.ops) : (N.setBlk i j B).Ok := by
 refine ⟨h.geo, h.dead, fun a b ha hb => ?_, ⟨h.num.1, h.num.2.1, fun a b => ?_⟩, h.lft, h.lf2, h.kp⟩
 ·show (if a = i ∧ b = j then B else N.blk a b).cells.length ≤ N.pages ∧ ∀ c ∈ (if a = i ∧ b = j then B else N.blk a b).cells, c.p.length = 32
  split
  ·exact ⟨h1, h2⟩
  ·exact h.cells a b ha hb
 ·show 0 ≤ (if a = i ∧ b = j then B else N.blk a b).worn ∧ (if a = i ∧ b = j then B else N.blk a b).worn ≤ N.ops
  split
  ·exact h3
  ·exact h.num.2.2 a b
theorem Ok.cutN (h : N.Ok) : N.cutN.Ok := by
 have h1 := h.num
 have h2 := h.lft
 have h3 := h.lf2
 refine ⟨h.geo, h.dead, h.cells, ⟨by show 0 ≤ N.ops + 1; omega, h1.2.1, fun a b => ⟨(h1.2.2 a b).1, by show _ ≤ N.ops + 1; have := (h1.2.2 a b).2; exact Int.le_trans this (by omega)⟩⟩, fun hc => ?_, ?_, h.kp⟩
 ·have hc : (if N.cutB then false else N.cuts) = true := hc
  show 0 ≤ (if N.cuts then N.left - 1 else N.left) ∧ (if N.cuts then N.left - 1 else N.left) ≤ 9223372036854775807
  split at hc
  ·cases hc
  ·rename_i hb
   simp [cutB, hc] at hb
   have := h2 hc
   rw [if_pos hc]; omega
 ·show -9223372036854775807 ≤ (if N.cuts then N.left - 1 else N.left) ∧ (if N.cuts then N.left - 1 else N.left) ≤ 9223372036854775807
  split
  ·rename_i hc; have := h2 hc; omega
  ·exact h3
theorem Ok.push (h : N.Ok) (i j : Nat) (c : NCell) (h1 : (N.blk i j).cells.length < N.pages) (h2 : c.p.length = 32) (hi : i < N.dies) (hj : j < N.blocks) : (N.push i j c).Ok := by
 refine h.setBlk i j _ ?_ ?_ (h.num.2.2 i j)
 ·simp; omega
 ·intro x hx
  simp only [List.mem_append, List.mem_singleton] at hx
  rcases hx with hx | hx
  ·exact (h.cells i j hi hj).2 x hx
  ·rw [hx]; exact h2
theorem Ok.plan (h : N.Ok) (l : List A3') : Ok { N with plan := l } := ⟨h.geo, h.dead, h.cells, h.num, h.lft, h.lf2, h.kp⟩
theorem fillP_len (k : Nat) (p : List UInt8) (h : p.length = 32) (hk : k ≤ 32) : (fillP k p).length = 32 := by simp [fillP, h]; omega
theorem Ok.prog (h : N.Ok) (x y z : Int) (pg : List UInt8) (hp : pg.length = 32) : (N.progN x y z pg).Ok := by
 unfold progN
 split
 ·exact h
 ·rename_i h0
  simp only [ne_eq, Decidable.not_not] at h0
  obtain ⟨_, _, hr⟩ := refuses_zero h0
  split
  ·exact ⟨h.geo, h.dead, h.cells, ⟨h.num.1, by show 0 ≤ N.broken + 1; have := h.num.2.1; omega, h.num.2.2⟩, h.lft, h.lf2, h.kp⟩
  ·rename_i h1
   simp only [ne_eq, Decidable.not_not] at h1
   have hlt : (N.blk x.toNat y.toNat).cells.length < N.pages := by omega
   have hi : x.toNat < N.dies := by omega
   have hj : y.toNat < N.blocks := by omega
   split
   ·exact h.cutN.push _ _ _ hlt (fillP_len _ _ hp (by have := h.kp; omega)) hi hj
   ·exact (h.cutN.plan _).push _ _ _ hlt hp hi hj
theorem Gd.prog (h : N.Gd (k + 1) m) (x y z : Int) (pg : List UInt8) (hp : pg.length = 32) : (N.progN x y z pg).Gd k m := by
 have h1 := h.ops
 have h2 := h.broken
 refine ⟨h.ok.prog x y z pg hp, ?_, ?_, ?_, ?_⟩
 ·unfold progN
  split
  ·omega
  ·split
   ·show N.ops + _ < _; omega
   ·split <;> (show N.ops + 1 + (k : Int) < _; omega)
 ·unfold progN
  split
  ·omega
  ·split
   ·show N.broken + 1 + (k : Int) < _; omega
   ·split <;> (show N.broken + (k : Int) < _; omega)
 ·unfold progN
  split
  ·exact h.nodup
  ·split
   ·exact h.nodup
   ·split
    ·exact h.nodup
    ·exact h.nodup.erase _
 ·have h3 := h.few
  unfold progN
  split
  ·exact h3
  ·split
   ·exact h3
   ·split
    ·exact h3
    ·show (N.plan.erase _).length ≤ m
     rw [List.length_erase]; split <;> omega
theorem Ok.erase (h : N.Ok) (x y : Int) : (N.eraseN x y).Ok := by
 unfold eraseN
 dsimp only
 split
 ·exact h
 ·rename_i h0
  simp only [ne_eq, Decidable.not_not] at h0
  obtain ⟨_, _, hr⟩ := refuses_zero h0
  have hi : x.toNat < N.dies := by omega
  have hj : y.toNat < N.blocks := by omega
  have hc := h.cells _ _ hi hj
  split
  ·refine h.cutN.setBlk _ _ _ ?_ ?_ (h.cutN.num.2.2 _ _)
   ·show _ ≤ N.pages
    simp; omega
   ·intro c hcm
    simp only [List.mem_map, List.mem_append, List.mem_replicate] at hcm
    obtain ⟨a, ha, rfl⟩ := hcm
    rcases ha with ha | ha
    ·exact hc.2 a ha
    ·rw [ha.2]; rfl
  ·split
   ·exact h.cutN.setBlk _ _ _ hc.1 hc.2 (h.cutN.num.2.2 _ _)
   ·refine (h.cutN.setBlk _ _ _ (by simp) (by simp) ?_).plan _
    show 0 ≤ (N.blk x.toNat y.toNat).worn + 1 ∧ (N.blk x.toNat y.toNat).worn + 1 ≤ N.ops + 1
    have := h.num.2.2 x.toNat y.toNat
    omega
theorem Gd.erase (h : N.Gd (k + 1) m) (x y : Int) : (N.eraseN x y).Gd k m := by
 have h1 := h.ops
 have h2 := h.broken
 refine ⟨h.ok.erase x y, ?_, ?_, ?_, ?_⟩
 ·unfold eraseN
  dsimp only
  split
  ·omega
  ·(repeat' split) <;> (show N.ops + 1 + (k : Int) < _; omega)
 ·unfold eraseN
  dsimp only
  split
  ·omega
  ·(repeat' split) <;> (show N.broken + (k : Int) < _; omega)
 ·unfold eraseN
  dsimp only
  (repeat' split) <;> first | exact h.nodup | exact h.nodup.filter _
 ·have h3 := h.few
  unfold eraseN
  dsimp only
  (repeat' split) <;> first | exact h3 | exact Nat.le_trans (List.length_filter_le _ _) h3
theorem xorAt_len (p : List UInt8) (n : Nat) (x : UInt8) : (xorAt p n x).length = p.length := by simp [xorAt]
theorem Ok.setCell (h : N.Ok) (x y z : Int) (f : NCell → NCell) (hf : ∀ c, (f c).p.length = c.p.length) (hi : x.toNat < N.dies) (hj : y.toNat < N.blocks) : (N.setCell x y z f).Ok := by
 have hc := h.cells _ _ hi hj
 refine h.setBlk _ _ _ (by simpa using hc.1) ?_ (h.num.2.2 _ _)
 intro c hm
 obtain ⟨i, hi', rfl⟩ := List.mem_iff_getElem.1 hm
 simp only [List.length_modify] at hi'
 rw [List.getElem_modify]
 split
 ·rw [hf]; exact hc.2 _ (List.getElem_mem _)
 ·exact hc.2 _ (List.getElem_mem _)
theorem Ok.fault (h : N.Ok) (kind x y z n xx : Int) : (N.fault kind x y z n xx).2.Ok := by
 unfold Nand.fault
 split
 ·exact h
 ·rename_i h0
  have hr : 0 ≤ x ∧ x < N.dies ∧ 0 ≤ y ∧ y < N.blocks := by simp [geoIn] at h0; omega
  have hi : x.toNat < N.dies := by omega
  have hj : y.toNat < N.blocks := by omega
  have hc := h.cells _ _ hi hj
  split
  ·exact h.plan _
  ·split
   ·exact h.setBlk _ _ _ hc.1 hc.2 (h.num.2.2 _ _)
   ·split
    ·exact h.setCell _ _ _ _ (fun _ => rfl) hi hj
    ·split
     ·exact ⟨h.geo, by show (N.dead.set _ _).length = _; rw [List.length_set]; exact h.dead, h.cells, h.num, h.lft, h.lf2, h.kp⟩
     ·split
      ·split
       ·exact h
       ·split
        ·exact h
        ·split
         ·exact h
         ·split
          ·exact h
          ·exact h.setCell _ _ _ _ (fun c => xorAt_len _ _ _) hi hj
      ·exact h
theorem Gd.fault (h : N.Gd k m) (kind x y z n xx : Int) : (N.fault kind x y z n xx).2.Gd k (m + 1) := by
 refine ⟨h.ok.fault .., ?_, ?_, ?_, ?_⟩
 ·unfold Nand.fault
  (repeat' split) <;> exact h.ops
 ·unfold Nand.fault
  (repeat' split) <;> exact h.broken
 ·unfold Nand.fault
  have h1 : ∀ a, (addP N.plan a).Nodup := fun a => by
   unfold addP; split
   ·exact h.nodup
   ·rename_i hn
    rw [List.nodup_append]
    exact ⟨h.nodup, by simp, fun b hb c hc => by simp at hc; subst hc; rintro rfl; exact hn hb⟩
  (repeat' split) <;> first | exact h.nodup | exact h1 _
 ·unfold Nand.fault
  have h3 := h.few
  have h1 : ∀ a, (addP N.plan a).length ≤ m + 1 := fun a => by
   unfold addP; split
   ·omega
   ·simp; omega
  (repeat' split) <;> first | exact h1 _ | exact Nat.le_succ_of_le h3
theorem Gd.fault0 (h : N.Gd k m) (kind x y z n xx : Int) (hk : kind ≠ 1) : (N.fault kind x y z n xx).2.Gd k m := by
 have h1 := h.fault kind x y z n xx
 refine ⟨h1.ok, h1.ops, h1.broken, h1.nodup, ?_⟩
 unfold Nand.fault
 rw [if_neg hk]
 (repeat' split) <;> exact h.few
theorem Gd.cut (h : N.Gd k m) (x kk : Int) (h1 : -9223372036854775807 ≤ x) (h2 : x ≤ 9223372036854775807) : (N.setCut x kk).Gd k m := by
 unfold setCut
 split
 ·exact h
 ·exact ⟨⟨h.ok.geo, h.ok.dead, h.ok.cells, h.ok.num, fun hc => by simp at hc; exact ⟨hc, h2⟩, ⟨h1, h2⟩, by show 0 ≤ min (max kk 0) 32 ∧ min (max kk 0) 32 ≤ 32; omega⟩, h.ops, h.broken, h.nodup, h.few⟩
theorem Gd.on (h : N.Gd k m) : N.onN.Gd k m := ⟨⟨h.ok.geo, h.ok.dead, h.ok.cells, h.ok.num, fun hc => (by cases hc), h.ok.lf2, h.ok.kp⟩, h.ops, h.broken, h.nodup, h.few⟩
theorem Gd.new (d b p : Nat) (h : geoMay d b p = true) (k : Nat) (hk : k ≤ 1000000) : (Nand.new d b p).Gd k 0 :=
 ⟨⟨h, by simp [Nand.new], fun i j _ _ => by simp [Nand.new], ⟨by simp [Nand.new], by simp [Nand.new], fun i j => by simp [Nand.new]⟩, fun hc => (by cases hc), by simp [Nand.new], by simp [Nand.new]⟩, by simp [Nand.new]; omega, by simp [Nand.new]; omega, by simp [Nand.new], by simp [Nand.new]⟩
structure Like (N N' : Nand) : Prop where
 dies : N'.dies = N.dies
 blocks : N'.blocks = N.blocks
 pages : N'.pages = N.pages
theorem Like.refl (N : Nand) : Like N N := ⟨rfl, rfl, rfl⟩
theorem Like.trans {A B C : Nand} (h : Like A B) (h' : Like B C) : Like A C := ⟨h'.dies.trans h.dies, h'.blocks.trans h.blocks, h'.pages.trans h.pages⟩
theorem like_prog (N : Nand) (x y z : Int) (pg : List UInt8) : Like N (N.progN x y z pg) := by
 unfold progN; (repeat' split) <;> exact ⟨rfl, rfl, rfl⟩
theorem like_erase (N : Nand) (x y : Int) : Like N (N.eraseN x y) := by
 unfold eraseN; dsimp only; (repeat' split) <;> exact ⟨rfl, rfl, rfl⟩
theorem like_fault (N : Nand) (kind x y z n xx : Int) : Like N (N.fault kind x y z n xx).2 := by
 unfold fault; (repeat' split) <;> exact ⟨rfl, rfl, rfl⟩
end Nand
end Go.Proofs.YtdocmcapegcoeaaGreat
namespace Go.Proofs.YtdocmcapegcoeaaGreat
open Go Go.RowKit
theorem job_len (b r m : Int) (l : List En) : (R.job b r m l).length = l.length + 1 := by simp [R.job]
theorem job_at (b r m : Int) (l : List En) (k : Nat) (h : k < l.length) : (R.job b r m l)[k]? = some (G.die m b r (k : Nat), W.sh b r m (l.getD k En.zero)) := by
 rw [R.job, List.getElem?_append_left (by simpa using h)]; simp [h]
theorem job_last (b r m : Int) (l : List En) : (R.job b r m l)[l.length]? = some (G.parity m b r, W.parS b r m l) := by
 rw [R.job, List.getElem?_append_right (by simp)]; simp
theorem job_drop {b r m : Int} {l : List En} {k : Nat} {x : Int × Sh} (h : (R.job b r m l)[k]? = some x) : (R.job b r m l).drop k = x :: (R.job b r m l).drop (k + 1) := by
 obtain ⟨h1, h2⟩ := List.getElem?_eq_some_iff.1 h
 rw [List.drop_eq_getElem_cons h1, h2]
theorem r_Write (p : Nat) (N : Nand) (A : Atom) (b r m : Int) (a : Option Addr) (n cap mm : Nat) (l : List En) (hA : Rd A a 19 n (cellsE l)) (hl : l.length = n) (hd : ∀ s ∈ l, s.data.length = 16) (hG : N.Gd 8 mm) :
  Fn Tryz.prog 58 [.pointer (some ⟨p, 0, none⟩), .int .i64 b, .int .i64 r, .int .i64 m, .slice a n cap] [NandA p N, A]
  (fun v As => v = .tuple #[.int .i64 (R.write N b r m l).2.1, .int .i64 (R.write N b r m l).2.2] ∧ As = [NandA p (R.write N b r m l).1, A]) := by
 have hsb := gslots_bd m
 refine Fn.enter [2, 0, 0, 0, 0] Tryz.func58 rfl rfl rfl fun X F hX => ?_
 refine J.q hX fun b1 => ?_
 refine J.cb hX (w_Parity b r m A a n cap l hA hl hd) [2] ?_
 refine cpq ⟨_, rfl, trivial, ?_⟩
 refine J.q hX fun bb => ?_
 refine J.cond rfl (fun h0 => ?_) (fun h0 => ?_)
 ·simp only [Bool.not_eq_true'] at h0
  refine J.q hX fun b4 => ?_
  refine J.ru hX [1, 2] ?_
  simp only [R.write, h0]
  exact ⟨rfl, rfl⟩
 simp only [Bool.not_eq_false'] at h0
 have hw : R.write N b r m l = R.go b r (R.job b r m l) N 0 := by rw [R.write, if_pos h0]
 have hB := h0
 simp only [W.parB, Bool.and_eq_true, decide_eq_true_eq, List.all_eq_true] at hB
 have hn : n ≤ 7 := by have := hB.1.1; omega
 refine J.q hX fun b5 => ?_
 refine J.lo (α := (Nat × Nand × Int)) (fun z => z.1 ≤ n + 1 ∧ z.2.1.Gd (n + 1 - z.1) mm ∧ R.go b r ((R.job b r m l).drop z.1) z.2.1 z.2.2 = R.write N b r m l) (fun z => [⟨33, .int .i64 z.1, 0, .tt⟩, ⟨32, .int .i64 ((n : Int) + 1), 0, .tt⟩, ⟨14, .int .i64 z.2.2, 0, .tt⟩, ⟨12, .pointer (some ⟨bb 0, 0, none⟩), 4, .tt⟩, ⟨0, .pointer (some ⟨p, 0, none⟩), 2, .tt⟩, ⟨1, .int .i64 b, 0, .tt⟩, ⟨2, .int .i64 r, 0, .tt⟩, ⟨3, .int .i64 m, 0, .tt⟩, ⟨4, .slice a n cap, 0, .tt⟩]) [1] (fun z => [NandA p z.2.1]) (fun z => n + 1 - z.1) ((0, N, 0)) (⟨Nat.zero_le _, hG.less (by dsimp only; omega) (Nat.le_refl _), hw.symm⟩) rfl ?_ (fun _ => rfl) fun z hI => ?_
 ·rfl
 obtain ⟨k, Nk, f⟩ := z
 dsimp only at hI ⊢
 obtain ⟨hI1, hI2, hI3⟩ := hI
 refine J.q hX fun b7 => ?_
 refine J.cond rfl (fun h1 => ?_) (fun h1 => ?_)
 ·simp only [decide_eq_true_eq] at h1
  have h1 : k < n + 1 := by omega
  refine J.q hX fun b8 => ?_
  refine J.plan (.take true 0 (.take true 1 (.take true 2 (.take false 4 (.alt false 3 ((.of [22,24,31])) (.alt false 5 ((.of [14,24,31])) .non)))))) [7] [3] (by rw [hX.hP]; kernel_rfl) (by kernel_rfl) ?_
  refine J.join (α := Nat) (fun x => [⟨16, .int .i64 (G.parity m b r), 0, .tt⟩, ⟨17, .pointer (some ⟨x, 0, none⟩), 5, .tt⟩, ⟨15, .int .i64 k, 0, .tt⟩, ⟨33, .int .i64 k, 0, .tt⟩, ⟨32, .int .i64 ((n : Int) + 1), 0, .tt⟩, ⟨14, .int .i64 f, 0, .tt⟩, ⟨12, .pointer (some ⟨bb 0, 0, none⟩), 4, .tt⟩, ⟨0, .pointer (some ⟨p, 0, none⟩), 2, .tt⟩, ⟨1, .int .i64 b, 0, .tt⟩, ⟨2, .int .i64 r, 0, .tt⟩, ⟨3, .int .i64 m, 0, .tt⟩, ⟨4, .slice a n cap, 0, .tt⟩]) (fun x => [.hp F, NandA p Nk, A, .pt (bb 0) 132 (shL (W.par b r m l)), .pt x 132 (shL (W.par b r m l))]) (fun hj => ?_) (fun x => ?_)
  ·skip
   refine J.qn hX 4 fun b9 => ?_
   refine J.alts ?_ ?_
   ·skip
    refine J.q hX fun b10 => ?_
    refine J.cb hX (g_Parity m b r) [] ?_
    refine cpq ⟨_, rfl, ⟨rfl, trivial⟩, ?_⟩
    refine J.qn hX 1 fun b5 => ?_
    refine J.qn hX 3 fun b11 => ?_
    exact J.goto [0, 1, 2, 3, 4] (hj (b5 0)) ⟨rfl, rfl, rfl, rfl, rfl, rfl, rfl, rfl, rfl, rfl, rfl, rfl, trivial⟩ rfl rfl
   ·skip
    refine J.qn hX 1 fun b5 => ?_
    refine J.q hX fun b12 => ?_
    refine J.cb hX (g_Parity m b r) [] ?_
    refine cpq ⟨_, rfl, ⟨rfl, trivial⟩, ?_⟩
    refine J.qn hX 3 fun b13 => ?_
    exact J.goto [0, 1, 2, 3, 4] (hj (b5 0)) ⟨rfl, rfl, rfl, rfl, rfl, rfl, rfl, rfl, rfl, rfl, rfl, rfl, trivial⟩ rfl rfl
  obtain ⟨⟨d, s⟩, hjob⟩ : ∃ x, (R.job b r m l)[k]? = some x := ⟨_, List.getElem?_eq_getElem (by rw [job_len]; omega)⟩
  have hsl : s.data.length = 16 := by
   by_cases hk : k < l.length
   ·rw [job_at b r m l k hk] at hjob
    injection hjob with hjob; injection hjob with _ hjob
    rw [← hjob]
    refine hd _ ?_
    rw [List.getD_eq_getElem?_getD, List.getElem?_eq_getElem hk]; exact List.getElem_mem _
   ·rw [show k = l.length by omega, job_last] at hjob
    injection hjob with hjob; injection hjob with _ hjob
    rw [← hjob]
    exact fold_len (fun t ht => by obtain ⟨e, he, rfl⟩ := List.mem_map.1 ht; exact hd e he) _ rfl
  refine J.q hX fun b14 => ?_
  refine J.join (α := Unit) (fun _ => [⟨16, .int .i64 d, 0, .tt⟩, ⟨17, .pointer (some ⟨x, 0, none⟩), 5, .tt⟩, ⟨33, .int .i64 k, 0, .tt⟩, ⟨32, .int .i64 ((n : Int) + 1), 0, .tt⟩, ⟨14, .int .i64 f, 0, .tt⟩, ⟨12, .pointer (some ⟨bb 0, 0, none⟩), 4, .tt⟩, ⟨0, .pointer (some ⟨p, 0, none⟩), 2, .tt⟩, ⟨1, .int .i64 b, 0, .tt⟩, ⟨2, .int .i64 r, 0, .tt⟩, ⟨3, .int .i64 m, 0, .tt⟩, ⟨4, .slice a n cap, 0, .tt⟩]) (fun _ => [.hp F, NandA p Nk, A, .pt (bb 0) 132 (shL (W.par b r m l)), .pt x 132 (shL s)]) (fun hj => ?_) (fun _ => ?_)
  ·refine J.q hX fun b15 => ?_
   refine J.cond rfl (fun h2 => ?_) (fun h2 => ?_)
   ·simp only [decide_eq_true_eq, Int.ofNat_lt] at h2
    have hkl : k < l.length := by omega
    rw [job_at b r m l k hkl] at hjob
    simp only [Option.some.injEq, Prod.mk.injEq] at hjob
    obtain ⟨hd1, hs1⟩ := hjob
    have hget : l[k]? = some (l.getD k En.zero) := by rw [List.getD_eq_getElem?_getD, List.getElem?_eq_getElem hkl, Option.getD_some]
    have hel : (l.getD k En.zero).data.length = 16 := hd _ (List.mem_of_getElem? hget)
    have hok : W.ok b r m (l.getD k En.zero) = true := hB.2 _ (List.mem_of_getElem? hget)
    refine J.q hX fun b16 => ?_
    refine J.cb hX (g_Die m b r k (by omega) (by omega)) [] ?_
    refine cpq ⟨_, rfl, trivial, ?_⟩
    refine J.know (p := ∃ g o, a = some ⟨g, o, none⟩) (fun h' s => Rd.addr (hA _ (s.get (i := 2) rfl)) (by omega)) fun hk => ?_
    obtain ⟨g, o, rfl⟩ := hk
    refine J.q hX fun b18 => ?_
    refine J.val hX (enV (l.getD k En.zero)) 0 rfl rfl (fun hg a w he hw => ?_) rfl trivial ?_
    ·exact rdN_run tk rfl rfl he rfl rfl rfl (hA _ (hw.get (i := 2) rfl)) (by omega) (j := k * 19) (by omega) (by have := cellsE_at l [] k _ hget; rwa [List.append_nil] at this) rfl
    refine J.q hX fun b19 => ?_
    refine J.cb hX (w_Own b r m (l.getD k En.zero) hel) [] ?_
    refine cpq ⟨_, rfl, trivial, ?_⟩
    rw [show W.own b r m (l.getD k En.zero) = s from by rw [W.own, if_pos hok, hs1], hd1]
    refine J.qn hX 5 fun b21 => ?_
    exact J.goto [0, 1, 2, 3, 4] (hj ()) ⟨rfl, rfl, rfl, rfl, rfl, rfl, rfl, rfl, rfl, rfl, rfl, trivial⟩ rfl rfl
   ·simp only [decide_eq_false_iff_not, Int.ofNat_lt] at h2
    have hkl : k = l.length := by omega
    rw [hkl, job_last] at hjob
    simp only [Option.some.injEq, Prod.mk.injEq] at hjob
    obtain ⟨hd1, hs1⟩ := hjob
    rw [hd1, show W.par b r m l = s from by rw [W.par, if_pos h0, hs1]] at *
    refine J.qn hX 1 fun b22 => ?_
    exact J.goto [0, 1, 2, 3, 4] (hj ()) ⟨rfl, rfl, rfl, rfl, rfl, rfl, rfl, rfl, rfl, rfl, rfl, trivial⟩ rfl rfl
  have hj2 := job_drop hjob
  rw [hj2] at hI3
  rw [R.go] at hI3
  have hG0 : Nk.Gd (n - k + 1) mm := hI2.less (by omega) (Nat.le_refl _)
  have hG1 : (Nk.progN d b r (putP s)).Gd (n + 1 - (k + 1)) mm := (hG0.prog d b r _ (putP_len s hsl)).less (by omega) (Nat.le_refl _)
  refine J.q hX fun b23 => ?_
  refine J.cb hX (h_Put s hsl) [] ?_
  refine cpq ⟨_, rfl, trivial, ?_⟩
  refine J.q hX fun b25 => ?_
  refine J.cb hX (n_Program p Nk hI2.ok hI2.room d b r (putP s) (putP_len s hsl)) [1] ?_
  refine cpq ⟨_, rfl, trivial, ?_⟩
  refine J.q hX fun b27 => ?_
  refine J.cond rfl (fun h3 => ?_) (fun h3 => ?_)
  ·simp only [beq_iff_eq] at h3
   rw [if_pos h3] at hI3
   refine J.q hX fun b28 => ?_
   refine J.nS ((k + 1, Nk.progN d b r (putP s), f)) (⟨by dsimp only; omega, hG1, hI3⟩) (by dsimp only; omega) [0, 1, 2, 3] rfl rfl
  ·simp only [beq_eq_false_iff_ne, ne_eq] at h3
   rw [if_neg h3] at hI3
   refine J.q hX fun b30 => ?_
   refine J.cond rfl (fun h4 => ?_) (fun h4 => ?_)
   ·simp only [beq_iff_eq] at h4
    rw [if_pos h4] at hI3
    refine J.q hX fun b31 => ?_
    refine J.ru hX [1, 2] ?_
    rw [← hI3]
    exact ⟨rfl, rfl⟩
   ·simp only [beq_eq_false_iff_ne, ne_eq] at h4
    rw [if_neg h4] at hI3
    refine J.q hX fun b32 => ?_
    refine J.cb hX (l_With f d) [] ?_
    refine cpq ⟨_, rfl, trivial, ?_⟩
    refine J.q hX fun b34 => ?_
    refine J.nS ((k + 1, Nk.progN d b r (putP s), L.with_ f d)) (⟨by dsimp only; omega, hG1, hI3⟩) (by dsimp only; omega) [0, 1, 2, 3] rfl rfl
 ·simp only [decide_eq_false_iff_not] at h1
  have : k = n + 1 := by omega
  subst this
  rw [List.drop_of_length_le (by rw [job_len]; omega), R.go] at hI3
  refine J.q hX fun b36 => ?_
  refine J.cond rfl (fun h5 => ?_) (fun h5 => ?_)
  ·simp only [bne_iff_ne, ne_eq] at h5
   rw [if_neg h5] at hI3
   refine J.q hX fun b37 => ?_
   refine J.ru hX [1, 2] ?_
   rw [← hI3]
   exact ⟨rfl, rfl⟩
  ·simp only [bne_eq_false_iff_eq] at h5
   rw [if_pos h5] at hI3
   refine J.q hX fun b38 => ?_
   refine J.ru hX [1, 2] ?_
   rw [← hI3, h5]
   exact ⟨rfl, rfl⟩
def W.backC (p : Sh) (l : List Sh) : Bool := p.kind == 2 && S.may p && !l.any (alien p) && decide ((l.length : Int) = G.slots p.mask - 1)
def idxS (p : Sh → Bool) (l : List Sh) : Int := match l.findIdx? p with
 | some k => k
 | none => -1
theorem idxS_step {p : Sh → Bool} {l : List Sh} {k : Nat} {x : Sh} (h : l[k]? = some x) (h0 : ∀ i < k, p (l.getD i Sh.zero) = false) (hp : p x = true) : l.findIdx? p = some k := by
 rw [List.findIdx?_eq_some_iff_getElem]
 obtain ⟨h1, h2⟩ := List.getElem?_eq_some_iff.1 h
 refine ⟨h1, by rw [h2]; exact hp, fun j hj => ?_⟩
 have := h0 j hj
 rw [List.getD_eq_getElem?_getD, List.getElem?_eq_getElem (by omega), Option.getD_some] at this
 simp [this]
theorem idxS_none {p : Sh → Bool} {l : List Sh} (h0 : ∀ i < l.length, p (l.getD i Sh.zero) = false) : l.findIdx? p = none := by
 rw [List.findIdx?_eq_none_iff]
 intro x hx
 obtain ⟨i, hi, rfl⟩ := List.mem_iff_getElem.1 hx
 have := h0 i hi
 rwa [List.getD_eq_getElem?_getD, List.getElem?_eq_getElem hi, Option.getD_some] at this
theorem idxS_any (p : Sh → Bool) (l : List Sh) : decide (idxS p l ≥ 0) = l.any p := by
 unfold idxS
 cases h : l.findIdx? p with
 | none =>
  rw [List.findIdx?_eq_none_iff] at h
  have : l.any p = false := by rw [List.any_eq_false]; exact fun x hx => by simp [h x hx]
  rw [this]; rfl
 | some k =>
  rw [List.findIdx?_eq_some_iff_getElem] at h
  obtain ⟨h1, h2, _⟩ := h
  have : l.any p = true := List.any_eq_true.2 ⟨l[k], List.getElem_mem _, h2⟩
  rw [this]; simp
theorem x_IndexS (c : Nat) (cs : List Value) (p : Sh → Bool) (A : Atom) (hcal : callable Tryz.prog c = true) (l : List Sh) (hf : ∀ x ∈ l, Fn Tryz.prog c (shV x :: cs) [A] (fun v As => v = .bool (p x) ∧ As = [A]))
  (a : Option Nat) (n cap : Nat) (hl : l.length = n) (hn : n ≤ 4611686018427387904) : Fn Tryz.prog 241 [slv a n cap, fnC c cs] [ownA 132 23 a n cap (cellsS l), A]
  (fun v As => v = .int .i64 (idxS p l) ∧ As = [ownA 132 23 a n cap (cellsS l), A]) := by
 refine Fn.enter [0, 0] Tryz.func241 rfl rfl rfl fun X F hX => ?_
 refine J.q hX fun b1 => ?_
 refine J.lo (α := Nat) (fun k => k ≤ n ∧ ∀ i < k, p (l.getD i Sh.zero) = false) (fun k => [⟨8, .int .i64 k, 0, .tt⟩, ⟨7, .int .i64 n, 0, .tt⟩, ⟨0, slv a n cap, 0, .tt⟩, ⟨1, fnC c cs, 0, .tt⟩]) [] (fun k => []) (fun k => n - k) (0) (⟨by omega, by omega⟩) rfl ?_ (fun _ => rfl) fun k hI => ?_
 ·rfl
 refine J.q hX fun b3 => ?_
 refine J.cond rfl (fun h1 => ?_) (fun h1 => ?_)
 ·simp only [decide_eq_true_eq, Int.ofNat_lt] at h1
  cases a with
  | none =>
   refine J.know (fun h' s => (s.get (i := 1) rfl).2.1) fun hn0 => ?_
   omega
  | some g =>
   have hk : l[k]? = some (l.getD k Sh.zero) := by rw [List.getD_eq_getElem?_getD, List.getElem?_eq_getElem (by omega), Option.getD_some]
   refine J.q hX fun b4 => ?_
   refine J.val hX (shV (l.getD k Sh.zero)) 0 rfl rfl (fun hg a w he hs => ?_) rfl trivial ?_
   ·exact ownN_run tk rfl rfl he rfl rfl rfl (hs.get (i := 1) rfl) (by rw [show 0 + (k : Int).toNat * 23 = k * 23 from by omega]; have := cellsS_at l [] k _ hk; rwa [List.append_nil] at this) rfl
   refine J.q hX fun b5 => ?_
   refine J.call hX hcal (hf (l.getD k Sh.zero) (List.mem_of_getElem? hk)) [2] 0 rfl rfl rfl rfl (by (repeat' (first | exact Conj.nil | refine Conj.cons ?_ ?_ | omega | exact hq0 | (simpa using hq0) | (exact fun h => h) | exact rfl | (intro hq; have hq0 := hq; try simp only [Bool.and_eq_true, Bool.or_eq_true, decide_eq_true_eq, Bool.not_eq_true', decide_eq_false_iff_not] at hq) | (simp; done) | (simp; omega) | decide))) rfl rfl (fun _ => rfl) ?_
   refine cpq ⟨_, rfl, trivial, ?_⟩
   refine J.q hX fun b6 => ?_
   refine J.cond rfl (fun h2 => ?_) (fun h2 => ?_)
   ·refine J.q hX fun b7 => ?_
    refine J.ru hX [1, 2] ?_
    exact ⟨by rw [idxS, idxS_step hk hI.2 h2], rfl⟩
   ·refine J.q hX fun b8 => ?_
    refine J.nx (k + 1) (⟨by omega, fun i hi => by
     rcases Nat.lt_succ_iff_lt_or_eq.1 hi with h3 | h3
     ·exact hI.2 i h3
     ·rw [h3]; exact h2⟩) (by omega) (fun _ s => s)
 ·simp only [decide_eq_false_iff_not, Int.ofNat_lt] at h1
  refine J.q hX fun b9 => ?_
  refine J.ru hX [1, 2] ?_
  exact ⟨by rw [idxS, idxS_none (fun i hi => hI.2 i (by omega))], rfl⟩
theorem x_ContainsS (c : Nat) (cs : List Value) (p : Sh → Bool) (A : Atom) (hcal : callable Tryz.prog c = true) (l : List Sh) (hf : ∀ x ∈ l, Fn Tryz.prog c (shV x :: cs) [A] (fun v As => v = .bool (p x) ∧ As = [A]))
  (a : Option Nat) (n cap : Nat) (hl : l.length = n) (hn : n ≤ 4611686018427387904) : Fn Tryz.prog 215 [slv a n cap, fnC c cs] [ownA 132 23 a n cap (cellsS l), A]
  (fun v As => v = .bool (l.any p) ∧ As = [ownA 132 23 a n cap (cellsS l), A]) := by
 refine Fn.enter [0, 0] Tryz.func215 rfl rfl rfl fun X F hX => ?_
 refine J.q hX fun b10 => ?_
 refine J.cb hX (x_IndexS c cs p A hcal l hf a n cap hl hn) [1, 2] ?_
 refine cpq ⟨_, rfl, trivial, ?_⟩
 refine J.q hX fun b12 => ?_
 refine J.ru hX [1, 2] ?_
 exact ⟨by rw [← idxS_any], rfl⟩
theorem cellsS_one (l : List Sh) : ∀ u ∈ cellsS l, u.oneCell' = true := by
 intro u hu
 simp only [cellsS, List.mem_flatMap] at hu
 obtain ⟨s, _, hu⟩ := hu
 simp only [shL, List.mem_cons, List.not_mem_nil, or_false] at hu
 rcases hu with rfl | rfl | rfl | rfl | rfl | rfl | rfl | rfl | rfl | rfl | rfl | rfl | rfl | rfl | rfl | rfl | rfl | rfl | rfl | rfl | rfl | rfl | rfl <;> rfl
theorem x_CloneS (a : Option Nat) (n cap : Nat) (l : List Sh) (hl : l.length = n) (hn : n ≤ 1000000) : Fn Tryz.prog 217 [slv a n cap] [ownA 132 23 a n cap (cellsS l)]
  (fun v As => ∃ a' c', v = slv a' n c' ∧ As = [ownA 132 23 a n cap (cellsS l), ownA 132 23 a' n c' (cellsS l)]) := by
 refine Fn.enter [0] Tryz.func217 rfl rfl rfl fun X F hX => ?_
 cases a with
 | none =>
  refine J.know (fun h' s => (s.get (i := 1) rfl).2) fun hn0 => ?_
  obtain ⟨rfl, rfl⟩ := hn0
  have : l = [] := List.eq_nil_of_length_eq_zero hl
  subst this
  refine J.q hX fun b13 => ?_
  refine J.cT ?_
  refine J.turn1 [] rfl (As := [ownA 132 23 none 0 0 (cellsS [])]) (fun h s => Sep.one ⟨rfl, rfl, rfl⟩) rfl ?_
  refine J.q hX fun b14 => ?_
  refine J.ru hX [1, 2] ?_
  exact ⟨none, 0, rfl, rfl⟩
 | some g =>
  refine J.q hX fun b15 => ?_
  refine J.cF ?_
  refine J.qn hX 5 fun bb => ?_
  refine J.closeOwn (e := 132) (size := 23) (n := 0) (cap := 0) (xs := []) 2 rfl rfl rfl (Nat.le_refl _) (Nat.zero_le _) rfl rfl rfl ?_
  refine J.q hX fun b16 => ?_
  refine J.appendR hX tk (a := some (bb 0)) (n := 0) (cap := 0) (xs := []) (oo := 0) (Ay := ownA 132 23 (some g) n cap (cellsS l)) 2 1 0 rfl rfl rfl rfl rfl rfl rfl rfl rfl rfl (own_rd _ _ (some g) _ _ _) rfl rfl rfl rfl (cellsS_one l) ?_ ?_ (fun _ => rfl) fun a' c' => ⟨_, rfl, trivial, ?_⟩
  ·simp only [maxLen]; omega
  ·omega
  rw [Nat.zero_add n, List.nil_append]
  refine J.q hX fun b17 => ?_
  refine J.ru hX [1, 2] ?_
  exact ⟨a', c', rfl, rfl⟩
theorem w_Back1 (b2 : Nat) (p s : Sh) (h : s.data.length = 16) : Fn Tryz.prog 216 [shV s, .pointer (some ⟨b2, 0, none⟩)] [.pt b2 132 (shL p)] (fun v As => v = .bool (W.alien p s) ∧ As = [.pt b2 132 (shL p)]) := by
 refine Fn.enter [0, 2] Tryz.func216 rfl rfl rfl fun X F hX => ?_
 refine J.q hX fun b18 => ?_
 refine J.gcase hX rfl rfl rfl trivial (fun hb => ?_) (fun hb => ?_)
 ·have hb2 : (s.kind != 1) = false := by rwa [Bool.not_eq_true'] at hb
  rw [hb2]
  refine J.q hX fun b19 => ?_
  refine J.cb hX (h_May s h) [] ?_
  refine cpq ⟨_, rfl, trivial, ?_⟩
  refine J.q hX fun b20 => ?_
  refine J.ru hX [1] ?_
  exact ⟨by simp only [W.alien]; rw [hb2], rfl⟩
 ·have hb2 : (s.kind != 1) = true := by rwa [Bool.not_eq_false'] at hb
  rw [hb2]
  refine J.q hX fun b21 => ?_
  refine J.val hX (.bool false) 0 rfl rfl (fun hg a w he hw => by simp [G.on] at hg) rfl trivial ?_
  refine J.q hX fun b22 => ?_
  refine J.ru hX [1] ?_
  exact ⟨by simp only [W.alien]; rw [hb2]; simp, rfl⟩
theorem over_len {l : List Sh} (hd : ∀ s ∈ l, s.data.length = 16) : (W.over l).1.length = 16 := fold_len hd _ rfl
theorem w_Back (p : Sh) (hp : p.data.length = 16) (a : Option Nat) (n cap : Nat) (l : List Sh) (hl : l.length = n) (hn : n ≤ 100) (hd : ∀ s ∈ l, s.data.length = 16) : Fn Tryz.prog 195 [shV p, slv a n cap] [ownA 132 23 a n cap (cellsS l)]
  (fun v As => v = .tuple #[enV (W.back p l), .bool (W.backB p l)] ∧ As = [ownA 132 23 a n cap (cellsS l)]) := by
 have hsb := gslots_bd p.mask
 have hdp : ∀ s ∈ l ++ [p], s.data.length = 16 := fun s hs => by
  rw [List.mem_append, List.mem_singleton] at hs
  rcases hs with hs | rfl
  ·exact hd s hs
  ·exact hp
 have key : ∀ (b : Bool), W.backB p l = b → W.back p l = if b then W.backS p l else En.zero := fun b hb => by rw [W.back, hb]
 refine Fn.enter [0, 0] Tryz.func195 rfl rfl rfl fun X F hX => ?_
 refine J.q hX fun bb => ?_
 refine J.ca hX (by kernel_rfl) (x_ContainsS 216 [.pointer (some ⟨bb 0, 0, none⟩)] (W.alien p) _ (by kernel_rfl) l (fun x hx => w_Back1 (bb 0) p x (hd x hx)) a n cap hl (by omega)) [1, 2] 0 rfl rfl rfl rfl rfl rfl (fun _ => rfl) ?_
 refine cpq ⟨_, rfl, trivial, ?_⟩
 refine J.q hX fun b24 => ?_
 refine J.join (α := Unit) (fun _ => [⟨34, .bool (!W.backC p l), 0, .tt⟩, ⟨1, slv a n cap, 0, .tt⟩, ⟨5, .bool false, 0, .tt⟩, ⟨2, .pointer (some ⟨bb 0, 0, none⟩), 3, .tt⟩, ⟨4, .pointer (some ⟨bb (0 + 1), 0, none⟩), 4, .tt⟩]) (fun _ => [.hp F, ownA 132 23 a n cap (cellsS l), .pt (bb 0) 132 (shL p), .pt (bb (0 + 1)) 38 (enL En.zero)]) (fun hj => ?_) (fun _ => ?_)
 ·have hnil : ∀ b : Bool, (!W.backC p l) = b → ∀ x : Bool, b = x → (!W.backC p l) = x := fun b h x e => h.trans e
  have hC : (!W.backC p l) = ((p.kind != 2) || !S.may p || l.any (W.alien p) || ((n : Int) != G.slots p.mask - 1)) := by
   simp only [W.backC, Bool.not_and, Bool.not_not, hl, bne]
   congr 1
  refine J.gcase hX rfl rfl rfl trivial (fun hb => ?_) (fun hb => ?_)
  ·have hb2 : (p.kind != 2) = false := by rwa [Bool.not_eq_true'] at hb
   rw [hb2] at hC ⊢
   refine J.q hX fun b25 => ?_
   refine J.cb hX (h_May p hp) [] ?_
   refine cpq ⟨_, rfl, trivial, ?_⟩
   refine J.q hX fun b26 => ?_
   refine J.gcase hX rfl rfl rfl trivial (fun hb => ?_) (fun hb => ?_)
   ·have hb3 : (false || !S.may p || l.any (W.alien p)) = false := by rwa [Bool.not_eq_true'] at hb
    rw [hb3] at hC ⊢
    refine J.q hX fun b27 => ?_
    refine J.cb hX (g_Slots p.mask) [] ?_
    refine cpq ⟨_, rfl, trivial, ?_⟩
    refine J.q hX fun b28 => ?_
    exact J.goto [0, 1, 2, 3] (hj ()) ⟨congrArg (fun b => some (Value.bool b)) hC.symm, rfl, rfl, rfl, rfl, trivial⟩ rfl rfl
   ·have hb3 : (false || !S.may p || l.any (W.alien p)) = true := by rwa [Bool.not_eq_false'] at hb
    rw [hb3] at hC ⊢
    refine J.q hX fun b29 => ?_
    refine J.val hX (.int .i64 0) 0 rfl rfl (fun hg a w he hw => by simp [G.on] at hg) rfl trivial ?_
    refine J.q hX fun b30 => ?_
    exact J.goto [0, 1, 2, 3] (hj ()) ⟨congrArg (fun b => some (Value.bool b)) (show _ = !W.backC p l from by rw [hC]; rfl), rfl, rfl, rfl, rfl, trivial⟩ rfl rfl
  ·have hb2 : (p.kind != 2) = true := by rwa [Bool.not_eq_false'] at hb
   rw [hb2] at hC ⊢
   refine J.q hX fun b31 => ?_
   refine J.val hX (.bool false) 0 rfl rfl (fun hg a w he hw => by simp [G.on] at hg) rfl trivial ?_
   refine J.q hX fun b32 => ?_
   refine J.gcase hX rfl rfl rfl trivial (fun hb => by simp at hb) (fun hb => ?_)
   refine J.q hX fun b33 => ?_
   refine J.val hX (.int .i64 0) 0 rfl rfl (fun hg a w he hw => by simp [G.on] at hg) rfl trivial ?_
   refine J.q hX fun b34 => ?_
   exact J.goto [0, 1, 2, 3] (hj ()) ⟨congrArg (fun b => some (Value.bool b)) (show _ = !W.backC p l from by rw [hC]; rfl), rfl, rfl, rfl, rfl, trivial⟩ rfl rfl
 refine J.q hX fun b35 => ?_
 refine J.cond rfl (fun h1 => ?_) (fun h1 => ?_)
 ·have hB : W.backB p l = false := by
   have : W.backB p l = (W.backC p l && W.ok p.block p.row p.mask (W.backS p l)) := rfl
   rw [this, show W.backC p l = false from by simpa using h1]; rfl
  refine J.q hX fun b36 => ?_
  refine J.ru hX [1] ?_
  exact ⟨by rw [key _ hB, hB]; rfl, rfl⟩
 have h2 : W.backC p l = true := by simpa using h1
 have hB : W.backB p l = W.ok p.block p.row p.mask (W.backS p l) := by
  have : W.backB p l = (W.backC p l && W.ok p.block p.row p.mask (W.backS p l)) := rfl
  rw [this, h2]; rfl
 refine J.q hX fun b37 => ?_
 refine J.plan (.take true 0 (.take false 2 (.alt false 1 ((.alt false 3 ((.alt false 4 ((.alt false 5 ((.of [24,28,32,38,42,44])) (.alt false 9 ((.of [22,24,28,32,42,44])) .non))) (.alt false 9 ((.of [18,22,24,28,32,42,44])) .non))) (.alt false 9 ((.of [14,18,22,24,28,32,42,44])) .non))) (.alt false 3 ((.alt false 1 ((.alt false 4 ((.alt false 5 ((.of [24,28,32,38,42,44])) (.alt false 9 ((.of [22,24,28,32,42,44])) .non))) (.alt false 9 ((.of [18,22,24,28,32,42,44])) .non))) (.alt false 9 ((.of [6,18,22,24,28,32,42,44])) .non))) (.alt false 9 ((.alt false 1 ((.of [14,18,22,24,28,32,42,44])) (.alt false 3 ((.of [6,18,22,24,28,32,42,44])) .non))) .non))))) [11] [2] (by rw [hX.hP]; kernel_rfl) (by kernel_rfl) ?_
 refine J.join (α := Nat) (fun x => [⟨7, .pointer (some ⟨x, 0, none⟩), 5, .tt⟩, ⟨8, .int .u64 (W.over (l ++ [p])).2, 0, .tt⟩, ⟨2, .pointer (some ⟨bb 0, 0, none⟩), 3, .tt⟩, ⟨4, .pointer (some ⟨bb (0 + 1), 0, none⟩), 4, .tt⟩]) (fun x => [.hp F, ownA 132 23 a n cap (cellsS l), .pt (bb 0) 132 (shL p), .pt (bb (0 + 1)) 38 (enL En.zero), .pt x 36 (dataC (W.over (l ++ [p])).1)]) (fun hj => ?_) (fun x => ?_)
 ·skip
  refine J.qn hX 2 fun b38 => ?_
  refine J.alts ?_ (J.alts ?_ ?_)
  ·skip
   refine J.q hX fun b39 => ?_
   refine J.cb hX (x_CloneS a n cap l hl (by omega)) [1] ?_
   rintro v As ⟨a1, c1, rfl, rfl⟩
   refine ⟨_, rfl, ⟨rfl, trivial⟩, ?_⟩
   refine J.alts ?_ ?_
   ·skip
    refine J.qn hX 1 fun b3 => ?_
    refine J.alts ?_ ?_
    ·skip
     refine J.append hX tk 4 5 0 rfl rfl rfl rfl rfl rfl rfl rfl rfl rfl rfl rfl rfl rfl rfl rfl ?_ ?_ (fun _ => rfl) fun a2 c2 => ⟨_, (congrArg (fun z => lset _ 4 (ownA _ _ _ _ _ z)) (cellsS_snoc l p).symm).trans rfl, ⟨rfl, trivial⟩, ?_⟩
     ·simp only [maxLen]; omega
     ·omega
     refine J.alts ?_ ?_
     ·skip
      refine J.q hX fun b40 => ?_
      refine J.cb hX (w_Over a2 (n + 1) c2 (l ++ [p]) (by simp [hl]) (by omega) hdp) [4] ?_
      refine cpq ⟨_, rfl, ⟨rfl, trivial⟩, ?_⟩
      refine J.qn hX 3 fun b41 => ?_
      refine J.qn hX 1 fun b9 => ?_
      refine J.qn hX 3 fun b42 => ?_
      exact J.goto [0, 1, 2, 3, 6] (hj (b9 0)) ⟨rfl, rfl, rfl, rfl, trivial⟩ rfl rfl
     ·skip
      refine J.qn hX 1 fun b9 => ?_
      refine J.q hX fun b43 => ?_
      refine J.cb hX (w_Over a2 (n + 1) c2 (l ++ [p]) (by simp [hl]) (by omega) hdp) [4] ?_
      refine cpq ⟨_, rfl, ⟨rfl, trivial⟩, ?_⟩
      refine J.qn hX 6 fun b44 => ?_
      exact J.goto [0, 1, 2, 3, 6] (hj (b9 0)) ⟨rfl, rfl, rfl, rfl, trivial⟩ rfl rfl
    ·skip
     refine J.qn hX 1 fun b9 => ?_
     refine J.append hX tk 4 5 0 rfl rfl rfl rfl rfl rfl rfl rfl rfl rfl rfl rfl rfl rfl rfl rfl ?_ ?_ (fun _ => rfl) fun a2 c2 => ⟨_, (congrArg (fun z => lset _ 4 (ownA _ _ _ _ _ z)) (cellsS_snoc l p).symm).trans rfl, ⟨rfl, trivial⟩, ?_⟩
     ·simp only [maxLen]; omega
     ·omega
     refine J.q hX fun b45 => ?_
     refine J.cb hX (w_Over a2 (n + 1) c2 (l ++ [p]) (by simp [hl]) (by omega) hdp) [4] ?_
     refine cpq ⟨_, rfl, ⟨rfl, trivial⟩, ?_⟩
     refine J.qn hX 6 fun b46 => ?_
     exact J.goto [0, 1, 2, 3, 6] (hj (b9 0)) ⟨rfl, rfl, rfl, rfl, trivial⟩ rfl rfl
   ·skip
    refine J.qn hX 1 fun b9 => ?_
    refine J.qn hX 1 fun b3 => ?_
    refine J.append hX tk 4 6 0 rfl rfl rfl rfl rfl rfl rfl rfl rfl rfl rfl rfl rfl rfl rfl rfl ?_ ?_ (fun _ => rfl) fun a2 c2 => ⟨_, (congrArg (fun z => lset _ 4 (ownA _ _ _ _ _ z)) (cellsS_snoc l p).symm).trans rfl, ⟨rfl, trivial⟩, ?_⟩
    ·simp only [maxLen]; omega
    ·omega
    refine J.q hX fun b47 => ?_
    refine J.cb hX (w_Over a2 (n + 1) c2 (l ++ [p]) (by simp [hl]) (by omega) hdp) [4] ?_
    refine cpq ⟨_, rfl, ⟨rfl, trivial⟩, ?_⟩
    refine J.qn hX 6 fun b48 => ?_
    exact J.goto [0, 1, 2, 3, 5] (hj (b9 0)) ⟨rfl, rfl, rfl, rfl, trivial⟩ rfl rfl
  ·skip
   refine J.qn hX 1 fun b3 => ?_
   refine J.alts ?_ ?_
   ·skip
    refine J.q hX fun b49 => ?_
    refine J.cb hX (x_CloneS a n cap l hl (by omega)) [1] ?_
    rintro v As ⟨a1, c1, rfl, rfl⟩
    refine ⟨_, rfl, ⟨rfl, trivial⟩, ?_⟩
    refine J.alts ?_ ?_
    ·skip
     refine J.append hX tk 5 4 0 rfl rfl rfl rfl rfl rfl rfl rfl rfl rfl rfl rfl rfl rfl rfl rfl ?_ ?_ (fun _ => rfl) fun a2 c2 => ⟨_, (congrArg (fun z => lset _ 5 (ownA _ _ _ _ _ z)) (cellsS_snoc l p).symm).trans rfl, ⟨rfl, trivial⟩, ?_⟩
     ·simp only [maxLen]; omega
     ·omega
     refine J.alts ?_ ?_
     ·skip
      refine J.q hX fun b50 => ?_
      refine J.cb hX (w_Over a2 (n + 1) c2 (l ++ [p]) (by simp [hl]) (by omega) hdp) [5] ?_
      refine cpq ⟨_, rfl, ⟨rfl, trivial⟩, ?_⟩
      refine J.qn hX 3 fun b51 => ?_
      refine J.qn hX 1 fun b9 => ?_
      refine J.qn hX 3 fun b52 => ?_
      exact J.goto [0, 1, 2, 3, 6] (hj (b9 0)) ⟨rfl, rfl, rfl, rfl, trivial⟩ rfl rfl
     ·skip
      refine J.qn hX 1 fun b9 => ?_
      refine J.q hX fun b53 => ?_
      refine J.cb hX (w_Over a2 (n + 1) c2 (l ++ [p]) (by simp [hl]) (by omega) hdp) [5] ?_
      refine cpq ⟨_, rfl, ⟨rfl, trivial⟩, ?_⟩
      refine J.qn hX 6 fun b54 => ?_
      exact J.goto [0, 1, 2, 3, 6] (hj (b9 0)) ⟨rfl, rfl, rfl, rfl, trivial⟩ rfl rfl
    ·skip
     refine J.qn hX 1 fun b9 => ?_
     refine J.append hX tk 5 4 0 rfl rfl rfl rfl rfl rfl rfl rfl rfl rfl rfl rfl rfl rfl rfl rfl ?_ ?_ (fun _ => rfl) fun a2 c2 => ⟨_, (congrArg (fun z => lset _ 5 (ownA _ _ _ _ _ z)) (cellsS_snoc l p).symm).trans rfl, ⟨rfl, trivial⟩, ?_⟩
     ·simp only [maxLen]; omega
     ·omega
     refine J.q hX fun b55 => ?_
     refine J.cb hX (w_Over a2 (n + 1) c2 (l ++ [p]) (by simp [hl]) (by omega) hdp) [5] ?_
     refine cpq ⟨_, rfl, ⟨rfl, trivial⟩, ?_⟩
     refine J.qn hX 6 fun b56 => ?_
     exact J.goto [0, 1, 2, 3, 6] (hj (b9 0)) ⟨rfl, rfl, rfl, rfl, trivial⟩ rfl rfl
   ·skip
    refine J.qn hX 1 fun b9 => ?_
    refine J.q hX fun b57 => ?_
    refine J.cb hX (x_CloneS a n cap l hl (by omega)) [1] ?_
    rintro v As ⟨a1, c1, rfl, rfl⟩
    refine ⟨_, rfl, ⟨rfl, trivial⟩, ?_⟩
    refine J.append hX tk 6 4 0 rfl rfl rfl rfl rfl rfl rfl rfl rfl rfl rfl rfl rfl rfl rfl rfl ?_ ?_ (fun _ => rfl) fun a2 c2 => ⟨_, (congrArg (fun z => lset _ 6 (ownA _ _ _ _ _ z)) (cellsS_snoc l p).symm).trans rfl, ⟨rfl, trivial⟩, ?_⟩
    ·simp only [maxLen]; omega
    ·omega
    refine J.q hX fun b58 => ?_
    refine J.cb hX (w_Over a2 (n + 1) c2 (l ++ [p]) (by simp [hl]) (by omega) hdp) [6] ?_
    refine cpq ⟨_, rfl, ⟨rfl, trivial⟩, ?_⟩
    refine J.qn hX 6 fun b59 => ?_
    exact J.goto [0, 1, 2, 3, 5] (hj (b9 0)) ⟨rfl, rfl, rfl, rfl, trivial⟩ rfl rfl
  ·skip
   refine J.qn hX 1 fun b9 => ?_
   refine J.alts ?_ ?_
   ·skip
    refine J.q hX fun b60 => ?_
    refine J.cb hX (x_CloneS a n cap l hl (by omega)) [1] ?_
    rintro v As ⟨a1, c1, rfl, rfl⟩
    refine ⟨_, rfl, ⟨rfl, trivial⟩, ?_⟩
    refine J.qn hX 1 fun b3 => ?_
    refine J.append hX tk 5 6 0 rfl rfl rfl rfl rfl rfl rfl rfl rfl rfl rfl rfl rfl rfl rfl rfl ?_ ?_ (fun _ => rfl) fun a2 c2 => ⟨_, (congrArg (fun z => lset _ 5 (ownA _ _ _ _ _ z)) (cellsS_snoc l p).symm).trans rfl, ⟨rfl, trivial⟩, ?_⟩
    ·simp only [maxLen]; omega
    ·omega
    refine J.q hX fun b61 => ?_
    refine J.cb hX (w_Over a2 (n + 1) c2 (l ++ [p]) (by simp [hl]) (by omega) hdp) [5] ?_
    refine cpq ⟨_, rfl, ⟨rfl, trivial⟩, ?_⟩
    refine J.qn hX 6 fun b62 => ?_
    exact J.goto [0, 1, 2, 3, 4] (hj (b9 0)) ⟨rfl, rfl, rfl, rfl, trivial⟩ rfl rfl
   ·skip
    refine J.qn hX 1 fun b3 => ?_
    refine J.q hX fun b63 => ?_
    refine J.cb hX (x_CloneS a n cap l hl (by omega)) [1] ?_
    rintro v As ⟨a1, c1, rfl, rfl⟩
    refine ⟨_, rfl, ⟨rfl, trivial⟩, ?_⟩
    refine J.append hX tk 6 5 0 rfl rfl rfl rfl rfl rfl rfl rfl rfl rfl rfl rfl rfl rfl rfl rfl ?_ ?_ (fun _ => rfl) fun a2 c2 => ⟨_, (congrArg (fun z => lset _ 6 (ownA _ _ _ _ _ z)) (cellsS_snoc l p).symm).trans rfl, ⟨rfl, trivial⟩, ?_⟩
    ·simp only [maxLen]; omega
    ·omega
    refine J.q hX fun b64 => ?_
    refine J.cb hX (w_Over a2 (n + 1) c2 (l ++ [p]) (by simp [hl]) (by omega) hdp) [6] ?_
    refine cpq ⟨_, rfl, ⟨rfl, trivial⟩, ?_⟩
    refine J.qn hX 6 fun b65 => ?_
    exact J.goto [0, 1, 2, 3, 4] (hj (b9 0)) ⟨rfl, rfl, rfl, rfl, trivial⟩ rfl rfl

 obtain ⟨mm, hm1, hm2⟩ := over_nat (l ++ [p]) (zeros16, 0) ⟨by decide, by decide⟩
 have hm1 : (W.over (l ++ [p])).2 = (mm : Int) := hm1
 have hS : W.backS p l = ⟨(mm / 1099511627776 % 65536 : Nat), (mm % 1099511627776 : Nat), (mm / 72057594037927936 : Nat), (W.over (l ++ [p])).1⟩ := by
  have hx : mm = (W.over (l ++ [p])).2.toNat := by rw [hm1]; rfl
  rw [W.backS, ← hx]
 rw [hm1]
 refine J.q hX fun b66 => ?_
 refine J.cb hX (h_Of mm hm2) [] ?_
 refine cpq ⟨_, rfl, trivial, ?_⟩
 refine J.q hX fun b68 => ?_
 refine J.cb hX (w_Own p.block p.row p.mask ⟨(mm / 1099511627776 % 65536 : Nat), (mm % 1099511627776 : Nat), (mm / 72057594037927936 : Nat), (W.over (l ++ [p])).1⟩ (over_len hdp)) [] ?_
 refine cpq ⟨_, rfl, trivial, ?_⟩
 rw [← hS, ← hB]
 refine J.q hX fun b70 => ?_
 refine J.cond rfl (fun h3 => ?_) (fun h3 => ?_)
 ·simp only [Bool.not_eq_true'] at h3
  refine J.q hX fun b71 => ?_
  refine J.ru hX [1] ?_
  exact ⟨by rw [key _ h3, h3]; rfl, rfl⟩
 ·simp only [Bool.not_eq_false'] at h3
  refine J.q hX fun b72 => ?_
  refine J.ru hX [1] ?_
  exact ⟨by rw [key _ h3, h3, if_pos rfl, hS]; rfl, rfl⟩
end Go.Proofs.YtdocmcapegcoeaaGreat
