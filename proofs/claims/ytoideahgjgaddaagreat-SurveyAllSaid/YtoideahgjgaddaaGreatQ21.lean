/- Helpers of the proofs about ostrakonlaw11, proved here: RfH, RfI, PlH, PlR, RfJ, RfK, PlAl, MkN. No condition. -/
import Derived.Test.YtoideahgjgaddaaGreatQ05
import Derived.Test.YtoideahgjgaddaaGreatQ14
import Derived.Test.YtoideahgjgaddaaGreatQ16
import Derived.Test.YtoideahgjgaddaaGreatQ17
import Derived.Test.YtoideahgjgaddaaGreatQ18
import Derived.Test.YtoideahgjgaddaaGreatQ20
set_option maxRecDepth 20000
set_option linter.unusedVariables false
set_option linter.unusedSimpArgs false
set_option linter.unusedSectionVars false
set_option linter.unnecessarySimpa false
namespace Go.Proofs.YtoideahgjgaddaaGreat
open Go Go.RowKit
theorem spot_mem (l : List Int) (d : Int) : decide (spotI l d ≥ 0) = decide (d ∈ l) := by
 induction l with
 | nil => rfl
 | cons x l ih =>
  unfold spotI
  by_cases h : x = d
  ·rw [if_pos h, decide_eq_true (by decide : (0 : Int) ≥ 0), decide_eq_true (by rw [h]; exact List.mem_cons_self)]
  ·rw [if_neg h]
   by_cases h2 : d ∈ l
   ·rw [decide_eq_true h2] at ih
    have := of_decide_eq_true ih
    rw [if_neg (by omega), decide_eq_true (by omega), decide_eq_true (List.mem_cons_of_mem _ h2)]
   ·rw [decide_eq_false h2] at ih
    have := of_decide_eq_false ih
    rw [if_pos (by omega), decide_eq_false (by omega), decide_eq_false (by
     intro hm
     rcases List.mem_cons.1 hm with e | e
     ·exact h e.symm
     ·exact h2 e)]
theorem spot_hasI (m d : Int) : decide (spotI (dI m) d ≥ 0) = L.has m d := by
 have hmem : d ∈ dI m ↔ L.has m d = true := by
  unfold dI dsk
  constructor
  ·intro h
   obtain ⟨k, hk, e⟩ := List.mem_map.1 h
   subst e
   exact (List.mem_filter.1 hk).2
  ·intro h
   have h8 := L.has_lt m d h
   obtain ⟨k, rfl⟩ := Int.eq_ofNat_of_zero_le h8.1
   exact List.mem_map.2 ⟨k, List.mem_filter.2 ⟨List.mem_range.2 (by omega), h⟩, rfl⟩
 rw [spot_mem, decide_eq_decide.2 hmem]
 exact Bool.decide_coe _
theorem f9_Look (p : Nat) (N : Nand) (hN : N.Ok) (hR : N.Room) (x y z : Int) : Fn Tryz.prog 100 [.pointer (some ⟨p, 0, none⟩), .agg #[.int .i64 x, .int .i64 y, .int .i64 z]] [NandA p N]
  (fun v As => v = .tuple #[shV (M.look N x y z).1, .int .i64 (M.look N x y z).2] ∧ As = [NandA p N]) := by
 refine Fn.enter [2, 0] Tryz.func100 rfl rfl rfl fun X F hX => ?_
 refine J.r hX tk 400 (fun _ => rfl) fun b1 => ?_
 refine J.ca hX (by kernel_rfl) (n_Read p N hN x y z) [1] 0 rfl rfl rfl rfl rfl rfl (fun _ => rfl) ?_
 rintro v As ⟨rfl, rfl⟩
 refine ⟨_, rfl, trivial, ?_⟩
 have hl0 : ∀ e, N.readE x y z = e → e ≠ 0 → M.look N x y z = if e = 5 then (Sh.zero, 2) else if e = 8 ∨ e = 9 ∨ e = 3 ∨ e = 12 then (Sh.zero, 4) else (Sh.zero, 3) := fun e he h => by
  simp only [M.look]; rw [he, if_neg h]
 have hlk : N.readE x y z = 0 → M.look N x y z = if S.getE (N.readV x y z) ≠ 0 ∨ M.bad (S.getV (N.readV x y z)) x y z = true then (Sh.zero, 3) else (S.getV (N.readV x y z), 1) := fun h1 => by simp only [M.look]; rw [if_pos h1]
 have hvl := readV_len hN x y z
 generalize N.readE x y z = e at hl0 hlk
 refine J.r hX tk 400 (fun _ => rfl) fun b3 => ?_
 refine J.cond rfl (fun h1 => ?_) (fun h1 => ?_)
 ·simp only [beq_iff_eq] at h1
  subst h1
  refine J.r hX tk 400 (fun _ => rfl) fun b4 => ?_
  refine J.rt hX tk [1] rfl rfl rfl ?_
  rw [hl0 5 rfl (by decide)]
  exact ⟨rfl, rfl⟩
 have H4 : e = 8 ∨ e = 9 ∨ e = 3 ∨ e = 12 → M.look N x y z = (Sh.zero, 4) := fun h => by
  rw [hl0 e rfl (by omega), if_neg (by omega), if_pos h]
 refine J.r hX tk 400 (fun _ => rfl) fun b5 => ?_
 refine J.cond rfl (fun h2 => ?_) (fun h2 => ?_)
 ·rw [h2]
  refine J.r hX tk 400 (fun _ => rfl) fun b6 => ?_
  refine J.cond rfl (fun _ => ?_) (fun h => absurd h (by decide))
  simp only [beq_iff_eq] at h2
  refine J.r hX tk 400 (fun _ => rfl) fun b7 => ?_
  refine J.rt hX tk [1] rfl rfl rfl ?_
  rw [H4 (.inl h2)]
  exact ⟨rfl, rfl⟩
 refine J.r hX tk 400 (fun _ => rfl) fun b8 => ?_
 refine J.cond rfl (fun h3 => ?_) (fun h3 => ?_)
 ·rw [h3]
  refine J.r hX tk 400 (fun _ => rfl) fun b9 => ?_
  refine J.cond rfl (fun _ => ?_) (fun h => absurd h (by decide))
  simp only [beq_iff_eq] at h3
  refine J.r hX tk 400 (fun _ => rfl) fun b10 => ?_
  refine J.rt hX tk [1] rfl rfl rfl ?_
  rw [H4 (.inr (.inl h3))]
  exact ⟨rfl, rfl⟩
 refine J.r hX tk 400 (fun _ => rfl) fun b11 => ?_
 refine J.cond rfl (fun h4 => ?_) (fun h4 => ?_)
 ·rw [h4]
  refine J.r hX tk 400 (fun _ => rfl) fun b12 => ?_
  refine J.cond rfl (fun _ => ?_) (fun h => absurd h (by decide))
  simp only [beq_iff_eq] at h4
  refine J.r hX tk 400 (fun _ => rfl) fun b13 => ?_
  refine J.rt hX tk [1] rfl rfl rfl ?_
  rw [H4 (.inr (.inr (.inl h4)))]
  exact ⟨rfl, rfl⟩
 refine J.r hX tk 400 (fun _ => rfl) fun b14 => ?_
 refine J.cond rfl (fun h5 => ?_) (fun h5 => ?_)
 ·simp only [beq_iff_eq] at h5
  refine J.r hX tk 400 (fun _ => rfl) fun b15 => ?_
  refine J.rt hX tk [1] rfl rfl rfl ?_
  rw [H4 (.inr (.inr (.inr h5)))]
  exact ⟨rfl, rfl⟩
 refine J.r hX tk 400 (fun _ => rfl) fun b16 => ?_
 refine J.cond rfl (fun h6 => ?_) (fun h6 => ?_)
 ·simp only [beq_iff_eq] at h6
  have hlk := hlk h6
  refine J.r hX tk 400 (fun _ => rfl) fun b17 => ?_
  refine J.ca hX (by kernel_rfl) (f9_Get (N.readV x y z) hvl) [] 0 rfl rfl rfl rfl rfl rfl (fun _ => rfl) ?_
  rintro v As ⟨rfl, rfl⟩
  refine ⟨_, rfl, trivial, ?_⟩
  refine J.r hX tk 400 (fun _ => rfl) fun b19 => ?_
  refine J.plan (.of [0,5,8,13,16,21,28,33,26,36,40]) [9,10] [1,2,3,4,5] (by rw [hX.hP]; kernel_rfl) (by kernel_rfl) ?_
  refine J.r hX tk 400 (fun _ => rfl) fun b20 => ?_
  refine J.ca hX (by kernel_rfl) (f6_Parity (S.getV (N.readV x y z)).mask (S.getV (N.readV x y z)).block (S.getV (N.readV x y z)).row) [] 0 rfl rfl rfl rfl rfl rfl (fun _ => rfl) ?_
  rintro v As ⟨rfl, rfl⟩
  refine ⟨_, rfl, ⟨rfl, rfl, rfl, rfl, rfl, trivial⟩, ?_⟩
  have hgE : S.getE (N.readV x y z) = if (S.get (N.readV x y z)).isSome then 0 else 1 := rfl
  generalize S.getE (N.readV x y z) = ge at hlk hgE
  generalize (S.get (N.readV x y z)).isSome = gs at hgE
  generalize S.getV (N.readV x y z) = s at hlk
  refine J.r hX tk 400 (fun _ => rfl) fun b22 => ?_
  refine J.gcase hX rfl rfl rfl trivial (fun hb => ?_) (fun hb => ?_)
  ·rw [hb]
   refine J.r hX tk 400 (fun _ => rfl) fun b23 => ?_
   refine J.ca hX (by kernel_rfl) (f1_Spot s.mask x) [] 0 rfl rfl rfl rfl rfl rfl (fun _ => rfl) ?_
   rintro v As ⟨rfl, rfl⟩
   refine ⟨_, rfl, trivial, ?_⟩
   have hsp := spot_hasI s.mask x
   refine J.r hX tk 400 (fun _ => rfl) fun b24 => ?_
   rw [hsp]
   simp only [Bool.and_eq_true, beq_iff_eq] at hb
   have hge : ge = 0 := by rw [hgE, if_pos hb.1.1]
   refine J.r hX tk 400 (fun _ => rfl) fun b25 => ?_
   refine J.cond rfl (fun h7 => ?_) (fun h7 => ?_)
   ·have hc : ¬(ge ≠ 0 ∨ M.bad s x y z = true) := by
     have : M.bad s x y z = false := by
      unfold M.bad
      simp only [Bool.true_and, Bool.and_eq_true] at h7
      rw [h7.1]
      have h8 := h7.2
      rw [beq_iff_eq] at h8
      rw [h8, hb.1.2, hb.2]
      simp
     rw [this, hge]; simp
    refine J.r hX tk 400 (fun _ => rfl) fun b26 => ?_
    refine J.rt hX tk [1] rfl rfl rfl ?_
    rw [hlk, if_neg hc]
    exact ⟨rfl, rfl⟩
   ·have hc : ge ≠ 0 ∨ M.bad s x y z = true := by
     right
     unfold M.bad
     rw [hb.1.2, hb.2]
     cases hh : L.has s.mask x with
     | false => simp
     | true =>
      rw [hh] at h7
      simp only [Bool.true_and] at h7
      rw [beq_eq_false_iff_ne, hb.1.2, hb.2] at h7
      simpa using h7
    refine J.r hX tk 400 (fun _ => rfl) fun b27 => ?_
    refine J.rt hX tk [1] rfl rfl rfl ?_
    rw [hlk, if_pos hc]
    exact ⟨rfl, rfl⟩
  ·rw [hb]
   refine J.r hX tk 400 (fun _ => rfl) fun b28 => ?_
   refine J.val hX (.bool false) 0 rfl rfl (fun hg a w he hw => by simp [G.on] at hg) rfl trivial ?_
   have hc : ge ≠ 0 ∨ M.bad s x y z = true := by
    cases gs with
    | false => left; rw [hgE]; decide
    | true =>
     right
     rw [Bool.true_and, Bool.and_eq_false_iff] at hb
     unfold M.bad
     rcases hb with h | h
     ·rw [beq_eq_false_iff_ne] at h; simp [h]
     ·rw [beq_eq_false_iff_ne] at h; simp [h]
   refine J.r hX tk 400 (fun _ => rfl) fun b29 => ?_
   refine J.cond rfl (fun h7 => ?_) (fun h7 => ?_)
   ·simp at h7
   ·refine J.r hX tk 400 (fun _ => rfl) fun b30 => ?_
    refine J.rt hX tk [1] rfl rfl rfl ?_
    rw [hlk, if_pos hc]
    exact ⟨rfl, rfl⟩
 simp only [beq_eq_false_iff_ne, ne_eq] at h1 h2 h3 h4 h5 h6
 refine J.r hX tk 400 (fun _ => rfl) fun b31 => ?_
 refine J.rt hX tk [1] rfl rfl rfl ?_
 rw [hl0 e rfl h6, if_neg h1, if_neg (by omega)]
 exact ⟨rfl, rfl⟩
theorem f9_entry (s : Sh) : Fn Tryz.prog 155 [shV s] [] (fun v As => v = enV s.en ∧ As = []) := by
 refine Fn.enter [0] Tryz.func155 rfl rfl rfl fun X F hX => ?_
 refine J.r hX tk 400 (fun _ => rfl) fun b32 => ?_
 refine J.rt hX tk [] rfl rfl rfl ?_
 exact ⟨rfl, rfl⟩
theorem f9_one (p : Nat) (N : Nand) (hN : N.Ok) (hR : N.Room) (b r m d : Int) : Fn Tryz.prog 152 [.pointer (some ⟨p, 0, none⟩), .int .i64 b, .int .i64 r, .int .i64 m, .int .i64 d] [NandA p N]
  (fun v As => v = .tuple #[shV (R.one N b r m d).1, .bool (R.one N b r m d).2] ∧ As = [NandA p N]) := by
 refine Fn.enter [2, 0, 0, 0, 0] Tryz.func152 rfl rfl rfl fun X F hX => ?_
 refine J.r hX tk 400 (fun _ => rfl) fun b33 => ?_
 refine J.ca hX (by kernel_rfl) (f9_Look p N hN hR d b r) [1] 0 rfl rfl rfl rfl rfl rfl (fun _ => rfl) ?_
 rintro v As ⟨rfl, rfl⟩
 refine ⟨_, rfl, trivial, ?_⟩
 refine J.r hX tk 400 (fun _ => rfl) fun b35 => ?_
 refine J.plan (.of [1,4,8,12,16,21,24,28,32,38,40]) [10] [1,3] (by rw [hX.hP]; kernel_rfl) (by kernel_rfl) ?_
 refine J.r hX tk 400 (fun _ => rfl) fun b36 => ?_
 refine J.rt hX tk [1] rfl rfl rfl ?_
 exact ⟨rfl, rfl⟩
theorem at_lt8 (m i : Int) : L.at_ m i < 8 := by
 unfold L.at_
 split
 ·cases h : (L.dies m)[i.toNat]? with
  | none => decide
  | some d =>
   have hm := List.mem_of_getElem? h
   unfold L.dies at hm
   split at hm
   ·have := List.mem_range.1 (List.mem_filter.1 hm).1
    show ((d : Nat) : Int) < 8
    omega
   ·simp at hm
 ·decide
theorem oth_dec : ∀ m, m < 256 → ∀ p, p < 8 → (dI ((m : Nat) : Int)).filter (fun d => d != ((p : Nat) : Int)) = dI (L.without ((m : Nat) : Int) ((p : Nat) : Int)) := by decide +kernel
def othI (m b r : Int) : List Int := if 0 ≤ G.parity m b r then (dI m).filter (fun d => d != G.parity m b r) else []
theorem oth_eq {m b r : Int} (h : 0 ≤ G.parity m b r) : othI m b r = dI (L.without m (G.parity m b r)) := by
 have h8 : G.parity m b r < 8 := by
  unfold G.parity at h ⊢
  split
  ·decide
  ·exact at_lt8 _ _
 have hm : 0 ≤ m ∧ m < 256 := by
  by_cases hh : 0 ≤ m ∧ m < 256
  ·exact hh
  ·have hc := L.count_no m hh
   unfold G.parity at h
   rw [if_pos (by omega)] at h
   omega
 unfold othI
 rw [if_pos h]
 obtain ⟨p, hp⟩ := Int.eq_ofNat_of_zero_le h
 obtain ⟨M, rfl⟩ := Int.eq_ofNat_of_zero_le hm.1
 rw [hp]
 exact oth_dec M (by omega) p (by omega)
theorem oth_die (m b r s : Int) : (s < 0 ∨ ((othI m b r).length : Int) ≤ s → G.die m b r s = -1) ∧ (∀ k : Nat, s = k → k < (othI m b r).length → (othI m b r)[k]? = some (G.die m b r s)) := by
 by_cases h : 0 ≤ G.parity m b r
 ·have he := oth_eq h
  have hd : G.die m b r s = L.at_ (L.without m (G.parity m b r)) s := by unfold G.die; rw [if_neg (by omega)]
  rw [he, hd, dI_count]
  refine ⟨fun hs => L.at_ge _ _ hs, fun k hk hlt => ?_⟩
  subst hk
  exact dI_at _ _ hlt
 ·have he : othI m b r = [] := by unfold othI; rw [if_neg h]
  have hd : G.die m b r s = -1 := by unfold G.die; rw [if_pos (by omega)]
  rw [he, hd]
  exact ⟨fun _ => rfl, fun k _ hlt => by simp at hlt⟩
theorem f6_Others (m b r : Int) : Fn Tryz.prog 195 [.int .i64 m, .int .i64 b, .int .i64 r] [] (fun v As => ∃ a c, v = slv a (othI m b r).length c ∧ As = [ownA 3 1 a (othI m b r).length c (cellsI (othI m b r))]) := by
 have hlen := dI_len m
 refine Fn.enter [0, 0, 0] Tryz.func195 rfl rfl rfl fun X F hX => ?_
 refine J.turn1 [] rfl (As := [ownA 3 1 none 0 0 (cellsI (((dI m).take 0).filter fun d => d != G.parity m b r))]) (fun h s => Sep.one ⟨rfl, rfl, rfl⟩) rfl ?_
 refine J.r hX tk 400 (fun _ => rfl) fun b1 => ?_
 refine J.ca hX (by kernel_rfl) (f1_Dies m) [] 0 rfl rfl rfl rfl rfl rfl (fun _ => rfl) ?_
 rintro v As ⟨a, c, rfl, rfl⟩
 refine ⟨_, rfl, trivial, ?_⟩
 refine J.r hX tk 400 (fun _ => rfl) fun b3 => ?_
 refine J.ca hX (by kernel_rfl) (f6_Parity m b r) [] 0 rfl rfl rfl rfl rfl rfl (fun _ => rfl) ?_
 rintro v As ⟨rfl, rfl⟩
 refine ⟨_, rfl, trivial, ?_⟩
 have hoth : othI m b r = if 0 ≤ G.parity m b r then (dI m).filter (fun d => d != G.parity m b r) else [] := rfl
 generalize hpp : G.parity m b r = p at hoth
 refine J.r hX tk 400 (fun _ => rfl) fun b5 => ?_
 refine J.lo (α := (Nat × Option Nat × Nat)) (fun z => z.1 ≤ (dI m).length ∧ (z.1 = 0 ∨ 0 ≤ p)) (fun z => [⟨10, .int .i64 z.1, 0, .tt⟩, ⟨9, .int .i64 p, 0, .tt⟩, ⟨8, slv a (dI m).length c, 0, .tt⟩, ⟨7, slv z.2.1 (((dI m).take z.1).filter fun d => d != p).length z.2.2, 0, .tt⟩]) [1] (fun z => [ownA 3 1 z.2.1 (((dI m).take z.1).filter fun d => d != p).length z.2.2 (cellsI (((dI m).take z.1).filter fun d => d != p))]) (fun z => (dI m).length - z.1) ((0, none, 0)) (⟨Nat.zero_le _, .inl rfl⟩) rfl ?_ (fun _ => rfl) fun z hI => ?_
 ·rfl
 obtain ⟨k, o, oc⟩ := z
 dsimp only at hI ⊢
 obtain ⟨hk, hp⟩ := hI
 have hfl := List.length_filter_le (fun d => d != p) ((dI m).take k)
 have htl : ((dI m).take k).length ≤ k := by rw [List.length_take]; omega
 refine J.r hX tk 400 (fun _ => rfl) fun b7 => ?_
 refine J.cond rfl (fun h1 => ?_) (fun h1 => ?_)
 ·simp only [Bool.and_eq_true, decide_eq_true_eq, Int.ofNat_lt] at h1
  obtain ⟨h1, h2⟩ := h1
  obtain ⟨x, hx⟩ : ∃ x, (dI m)[k]? = some x := ⟨_, List.getElem?_eq_getElem h1⟩
  have hs : ((dI m).take (k + 1)).filter (fun d => d != p) = ((dI m).take k).filter (fun d => d != p) ++ (if x != p then [x] else []) := by
   rw [List.take_add_one, hx, Option.toList_some, List.filter_append]
   congr 1
   cases hxp : x != p <;> simp [hxp]
  refine J.know (fun h' s => own_some (c := (a, c)) (by omega) (s.get (i := 2) rfl)) fun hg => ?_
  obtain ⟨g, rfl⟩ := hg
  refine J.r hX tk 400 (fun _ => rfl) fun b8 => ?_
  refine J.val hX (.int .i64 x) 0 rfl rfl (fun hg a w he hs => own1_run tk rfl rfl he rfl rfl rfl (hs.get (i := 2) rfl) (by rw [show 0 + (k : Int).toNat * 1 = k from by omega]; exact cellsI_get hx)) rfl trivial ?_
  refine J.r hX tk 400 (fun _ => rfl) fun b9 => ?_
  refine J.cond rfl (fun h3 => ?_) (fun h3 => ?_)
  ·rw [if_pos h3] at hs
   have hl : (((dI m).take k).filter fun d => d != p).length + 1 = (((dI m).take (k + 1)).filter fun d => d != p).length := by rw [hs]; simp
   refine J.r hX tk 400 (fun _ => rfl) fun b10 => ?_
   refine J.val hX (.int .i64 x) 0 rfl rfl (fun hg a w he hs => own1_run tk rfl rfl he rfl rfl rfl (hs.get (i := 2) rfl) (by rw [show 0 + (k : Int).toNat * 1 = k from by omega]; exact cellsI_get hx)) rfl trivial ?_
   refine J.r hX tk 400 (fun _ => rfl) fun b11 => ?_
   refine J.append hX tk 1 3 0 rfl rfl rfl rfl rfl rfl rfl rfl rfl rfl rfl rfl rfl rfl rfl rfl ?_ ?_ (fun _ => rfl) fun a4 c4 => ⟨_, (congrArg (fun z => lset _ 1 (ownA _ _ _ _ _ z)) ((cellsI_snoc _ _).symm.trans (congrArg cellsI hs.symm))).trans rfl, trivial, ?_⟩
   ·simp only [maxLen]; omega
   ·omega
   rw [hl]
   refine J.r hX tk 400 (fun _ => rfl) fun b12 => ?_
   refine J.nS ((k + 1, a4, c4)) (⟨by dsimp only; omega, .inr h2⟩) (by dsimp only; omega) [0, 1, 2] rfl rfl
  ·rw [if_neg (by rw [h3]; simp), List.append_nil] at hs
   rw [← hs]
   refine J.r hX tk 400 (fun _ => rfl) fun b14 => ?_
   refine J.nS ((k + 1, o, oc)) (⟨by dsimp only; omega, .inr h2⟩) (by dsimp only; omega) [0, 1, 2] rfl rfl
 ·have he : ((dI m).take k).filter (fun d => d != p) = othI m b r := by
   rw [hoth]
   by_cases h0 : 0 ≤ p
   ·rw [if_pos h0]
    have hkl : (dI m).length ≤ k := by
     rcases Nat.lt_or_ge k (dI m).length with h | h
     ·rw [decide_eq_true (by omega), decide_eq_true (by omega)] at h1
      cases h1
     ·exact h
    rw [List.take_of_length_le hkl]
   ·rw [if_neg h0]
    obtain rfl : k = 0 := by omega
    simp
  rw [he]
  refine J.r hX tk 400 (fun _ => rfl) fun b16 => ?_
  refine J.rt hX tk [1] rfl rfl rfl ?_
  exact ⟨o, oc, rfl, rfl⟩
theorem f6_Die (m b r s : Int) : Fn Tryz.prog 154 [.int .i64 m, .int .i64 b, .int .i64 r, .int .i64 s] [] (fun v As => v = .int .i64 (G.die m b r s) ∧ As = []) := by
 obtain ⟨d1, d2⟩ := oth_die m b r s
 refine Fn.enter [0, 0, 0, 0] Tryz.func154 rfl rfl rfl fun X F hX => ?_
 refine J.r hX tk 400 (fun _ => rfl) fun b17 => ?_
 refine J.ca hX (by kernel_rfl) (f6_Others m b r) [] 0 rfl rfl rfl rfl rfl rfl (fun _ => rfl) ?_
 rintro v As ⟨a, c, rfl, rfl⟩
 refine ⟨_, rfl, trivial, ?_⟩
 refine J.r hX tk 400 (fun _ => rfl) fun b19 => ?_
 refine J.cond rfl (fun h1 => ?_) (fun h1 => ?_)
 ·simp only [Bool.or_eq_true, decide_eq_true_eq] at h1
  refine J.r hX tk 400 (fun _ => rfl) fun b20 => ?_
  refine J.rt hX tk [] rfl rfl rfl ?_
  rw [d1 h1]
  exact ⟨rfl, rfl⟩
 ·simp only [Bool.or_eq_false_iff, decide_eq_false_iff_not] at h1
  obtain ⟨k, rfl⟩ := Int.eq_ofNat_of_zero_le (show 0 ≤ s by omega)
  have hk : k < (othI m b r).length := by omega
  have hx := d2 k rfl hk
  refine J.know (fun h' s => own_some (c := (a, c)) (by omega) (s.get (i := 1) rfl)) fun hg => ?_
  obtain ⟨g, rfl⟩ := hg
  refine J.r hX tk 400 (fun _ => rfl) fun b21 => ?_
  refine J.val hX (.int .i64 (G.die m b r k)) 0 rfl rfl (fun hg a w he hs => own1_run tk rfl rfl he rfl rfl rfl (hs.get (i := 1) rfl) (by rw [show 0 + (k : Int).toNat * 1 = k from by omega]; exact cellsI_get hx)) rfl trivial ?_
  refine J.r hX tk 400 (fun _ => rfl) fun b22 => ?_
  refine J.rt hX tk [] rfl rfl rfl ?_
  exact ⟨rfl, rfl⟩
end Go.Proofs.YtoideahgjgaddaaGreat
namespace Go.Proofs.YtoideahgjgaddaaGreat
open Go
namespace Xo
def op (a b : List UInt8 × Nat) : List UInt8 × Nat := (List.zipWith (· ^^^ ·) a.1 b.1, a.2 ^^^ b.2)
def z : List UInt8 × Nat := (zeros16, 0)
def Ok (a : List UInt8 × Nat) : Prop := a.1.length = 16
def all (l : List (List UInt8 × Nat)) : List UInt8 × Nat := l.foldl op z
theorem op_ok {a b} (ha : Ok a) (hb : Ok b) : Ok (op a b) := by unfold Ok op at *; simp [ha, hb]
theorem z_ok : Ok z := rfl
theorem op_comm (a b) : op a b = op b a := by
 unfold op
 refine Prod.ext ?_ (Nat.xor_comm _ _)
 apply List.ext_getElem?
 intro i
 simp only [List.getElem?_zipWith]
 cases a.1[i]? <;> cases b.1[i]? <;> simp [UInt8.xor_comm]
theorem op_assoc (a b c) : op (op a b) c = op a (op b c) := by
 unfold op
 refine Prod.ext ?_ (Nat.xor_assoc _ _ _)
 apply List.ext_getElem?
 intro i
 simp only [List.getElem?_zipWith]
 cases a.1[i]? <;> cases b.1[i]? <;> cases c.1[i]? <;> simp [UInt8.xor_assoc]
theorem z_op {a} (ha : Ok a) : op z a = a := by
 obtain ⟨d, n⟩ := a
 unfold op z
 refine Prod.ext ?_ (Nat.zero_xor n)
 apply List.ext_getElem?
 intro i
 have hd : d.length = 16 := ha
 simp only [List.getElem?_zipWith, zeros16, List.getElem?_replicate]
 by_cases hi : i < 16
 ·rw [if_pos hi]
  cases d[i]? <;> simp
 ·rw [if_neg hi, List.getElem?_eq_none (by omega)]
theorem fold_ok : ∀ (l : List (List UInt8 × Nat)), (∀ x ∈ l, Ok x) → ∀ a, Ok a → Ok (l.foldl op a)
 | [], _, _, h => h
 | x :: l, hl, a, h => fold_ok l (fun y hy => hl y (by simp [hy])) _ (op_ok h (hl x (by simp)))
theorem fold_from : ∀ (l : List (List UInt8 × Nat)), (∀ x ∈ l, Ok x) → ∀ a, Ok a → l.foldl op a = op a (all l)
 | [], _, a, h => by unfold all; rw [List.foldl_nil, List.foldl_nil, op_comm, z_op h]
 | x :: l, hl, a, h => by
  have hx := hl x (by simp)
  have hl' : ∀ y ∈ l, Ok y := fun y hy => hl y (by simp [hy])
  unfold all
  rw [List.foldl_cons, List.foldl_cons, fold_from l hl' _ (op_ok h hx), z_op hx, fold_from l hl' _ hx, op_assoc]
theorem ovM_nat {a b : Nat} (ha : a < 18446744073709551616) (hb : b < 18446744073709551616) : W.ovM a b = ((a ^^^ b : Nat) : Int) := by
 unfold W.ovM
 have h1 : (BitVec.ofInt 64 (a : Int) ^^^ BitVec.ofInt 64 (b : Int)).toNat = a ^^^ b := by
  rw [BitVec.toNat_xor, BitVec.ofInt_natCast, BitVec.ofInt_natCast, BitVec.toNat_ofNat, BitVec.toNat_ofNat, Nat.mod_eq_of_lt ha, Nat.mod_eq_of_lt hb]
 rw [h1]
 have h2 : a ^^^ b < 18446744073709551616 := Nat.xor_lt_two_pow (n := 64) ha hb
 simp [IntKind.wrap, IntKind.bits, IntKind.signed]
 omega
def toX (s : Sh) : List UInt8 × Nat := (s.data, S.meta_ s.role s.lpn s.seq)
theorem mix_all {x s : List UInt8} (hx : x.length = 16) (hs : s.length = 16) : W.mix x s 16 = List.zipWith (· ^^^ ·) x s := by
 unfold W.mix
 rw [List.take_of_length_le (by simp [hx, hs]), List.drop_of_length_le (by omega), List.append_nil]
theorem over_all : ∀ (l : List Sh) (a : List UInt8 × Nat), (∀ s ∈ l, s.data.length = 16) → Ok a → a.2 < 18446744073709551616 → l.foldl W.over1 (a.1, (a.2 : Int)) = (((l.map toX).foldl op a).1, ((((l.map toX).foldl op a).2 : Nat) : Int)) ∧ ((l.map toX).foldl op a).2 < 18446744073709551616
 | [], a, _, _, h => ⟨rfl, h⟩
 | s :: l, a, hl, ha, h => by
  have hs := hl s (by simp)
  have hm := S.meta_lt s.role s.lpn s.seq
  have hlt : a.2 ^^^ S.meta_ s.role s.lpn s.seq < 18446744073709551616 := Nat.xor_lt_two_pow (n := 64) h hm
  have e : W.over1 (a.1, (a.2 : Int)) s = ((op a (toX s)).1, (((op a (toX s)).2 : Nat) : Int)) := by
   unfold W.over1
   rw [ovM_nat h hm, mix_all ha hs]; rfl
  rw [List.foldl_cons, List.map_cons, List.foldl_cons, e]
  exact over_all l (op a (toX s)) (fun t ht => hl t (by simp [ht])) (op_ok ha hs) hlt
end Xo
theorem xor_mul_add (k : Nat) {a b c d : Nat} (hb : b < 2 ^ k) (hd : d < 2 ^ k) : (2 ^ k * a + b) ^^^ (2 ^ k * c + d) = 2 ^ k * (a ^^^ c) + (b ^^^ d) := by
 apply Nat.eq_of_testBit_eq
 intro j
 have hbd : b ^^^ d < 2 ^ k := Nat.xor_lt_two_pow hb hd
 rw [Nat.testBit_xor, Nat.testBit_two_pow_mul_add _ hb, Nat.testBit_two_pow_mul_add _ hd, Nat.testBit_two_pow_mul_add _ hbd]
 split
 ·rw [Nat.testBit_xor]
 ·rw [Nat.testBit_xor]
theorem xo_nat {a b : Nat} (ha : a < 4611686018427387904) (hb : b < 4611686018427387904) : F9.xo a b = ((a ^^^ b : Nat) : Int) := by
 have h1 : (BitVec.ofInt 64 (a : Int) ^^^ BitVec.ofInt 64 (b : Int)).toNat = a ^^^ b := by
  rw [BitVec.toNat_xor, BitVec.ofInt_natCast, BitVec.ofInt_natCast, BitVec.toNat_ofNat, BitVec.toNat_ofNat, Nat.mod_eq_of_lt (by omega), Nat.mod_eq_of_lt (by omega)]
 have h2 : a ^^^ b < 4611686018427387904 := Nat.xor_lt_two_pow (n := 62) ha hb
 unfold F9.xo
 show IntKind.i64.wrap ((BitVec.ofInt 64 (a : Int) ^^^ BitVec.ofInt 64 (b : Int)).toNat : Int) = _
 rw [h1]
 simp [IntKind.wrap, IntKind.bits, IntKind.signed]
 omega
structure Num9 (s : Sh) : Prop where
 role : 0 ≤ s.role ∧ s.role ≤ 255
 lpn : 0 ≤ s.lpn ∧ s.lpn ≤ 65535
 seq : 0 ≤ s.seq ∧ s.seq ≤ 1099511627775
 data : s.data.length = 16
theorem may_num9 {s : Sh} (h : S.may s = true) (hd : s.data.length = 16) : Num9 s := by
 simp only [S.may, S.numbers, S.inB, Bool.and_eq_true, decide_eq_true_eq] at h
 exact ⟨by omega, by omega, by omega, hd⟩
theorem over_num9 {a b : Sh} (ha : Num9 a) (hb : Num9 b) : Num9 (F9.over a b) ∧ Xo.toX (F9.over a b) = Xo.op (Xo.toX a) (Xo.toX b) := by
 obtain ⟨r1, e1⟩ := Int.eq_ofNat_of_zero_le ha.role.1
 obtain ⟨r2, e2⟩ := Int.eq_ofNat_of_zero_le hb.role.1
 obtain ⟨l1, e3⟩ := Int.eq_ofNat_of_zero_le ha.lpn.1
 obtain ⟨l2, e4⟩ := Int.eq_ofNat_of_zero_le hb.lpn.1
 obtain ⟨s1, e5⟩ := Int.eq_ofNat_of_zero_le ha.seq.1
 obtain ⟨s2, e6⟩ := Int.eq_ofNat_of_zero_le hb.seq.1
 have i1 := ha.role
 have i2 := hb.role
 have i3 := ha.lpn
 have i4 := hb.lpn
 have i5 := ha.seq
 have i6 := hb.seq
 have x1 : F9.xo a.role b.role = ((r1 ^^^ r2 : Nat) : Int) := by rw [e1, e2]; exact xo_nat (by omega) (by omega)
 have x2 : F9.xo a.lpn b.lpn = ((l1 ^^^ l2 : Nat) : Int) := by rw [e3, e4]; exact xo_nat (by omega) (by omega)
 have x3 : F9.xo a.seq b.seq = ((s1 ^^^ s2 : Nat) : Int) := by rw [e5, e6]; exact xo_nat (by omega) (by omega)
 have b1 : r1 ^^^ r2 < 256 := Nat.xor_lt_two_pow (n := 8) (by omega) (by omega)
 have b2 : l1 ^^^ l2 < 65536 := Nat.xor_lt_two_pow (n := 16) (by omega) (by omega)
 have b3 : s1 ^^^ s2 < 1099511627776 := Nat.xor_lt_two_pow (n := 40) (by omega) (by omega)
 refine ⟨⟨?_, ?_, ?_, ?_⟩, ?_⟩
 ·show 0 ≤ F9.xo a.role b.role ∧ F9.xo a.role b.role ≤ 255
  rw [x1]; omega
 ·show 0 ≤ F9.xo a.lpn b.lpn ∧ F9.xo a.lpn b.lpn ≤ 65535
  rw [x2]; omega
 ·show 0 ≤ F9.xo a.seq b.seq ∧ F9.xo a.seq b.seq ≤ 1099511627775
  rw [x3]; omega
 ·exact mix_len ha.data hb.data 16 (by omega)
 ·unfold Xo.toX Xo.op
  refine Prod.ext ?_ ?_
  ·exact Xo.mix_all ha.data hb.data
  ·show S.meta_ (F9.xo a.role b.role) (F9.xo a.lpn b.lpn) (F9.xo a.seq b.seq) = S.meta_ a.role a.lpn a.seq ^^^ S.meta_ b.role b.lpn b.seq
   rw [x1, x2, x3, e1, e2, e3, e4, e5, e6]
   have hm : ∀ r l s : Nat, r < 256 → l < 65536 → s < 1099511627776 → S.meta_ (r : Nat) (l : Nat) (s : Nat) = 2 ^ 40 * (2 ^ 16 * r + l) + s := fun r l s h1 h2 h3 => by
    unfold S.meta_; omega
   rw [hm _ _ _ b1 b2 b3, hm r1 l1 s1 (by omega) (by omega) (by omega), hm r2 l2 s2 (by omega) (by omega) (by omega), xor_mul_add 40 (by omega) (by omega), xor_mul_add 16 (by omega) (by omega)]
theorem fold_num9 : ∀ (l : List Sh) (p : Sh), Num9 p → (∀ s ∈ l, Num9 s) → Num9 (l.foldl F9.over p) ∧ Xo.toX (l.foldl F9.over p) = (l.map Xo.toX).foldl Xo.op (Xo.toX p)
 | [], p, h, _ => ⟨h, rfl⟩
 | s :: l, p, h, hl => by
  obtain ⟨h1, h2⟩ := over_num9 h (hl s (by simp))
  obtain ⟨h3, h4⟩ := fold_num9 l (F9.over p s) h1 (fun t ht => hl t (by simp [ht]))
  rw [List.foldl_cons, List.map_cons, List.foldl_cons, ← h2]
  exact ⟨h3, h4⟩
theorem fold_back (p : Sh) (l : List Sh) (hp : Num9 p) (hl : ∀ s ∈ l, Num9 s) : (l.foldl F9.over p).en = W.backS p l := by
 obtain ⟨h1, h2⟩ := fold_num9 l p hp hl
 generalize l.foldl F9.over p = S9 at h1 h2
 have hd : ∀ s ∈ l ++ [p], s.data.length = 16 := fun s hs => by
  rcases List.mem_append.1 hs with h | h
  ·exact (hl s h).data
  ·rw [List.mem_singleton.1 h]; exact hp.data
 obtain ⟨o1, o2⟩ := Xo.over_all (l ++ [p]) Xo.z hd Xo.z_ok (by decide)
 have hok : ∀ x ∈ l.map Xo.toX, Xo.Ok x := fun x hx => by
  obtain ⟨s, hs, rfl⟩ := List.mem_map.1 hx
  exact (hl s hs).data
 have hpx : Xo.Ok (Xo.toX p) := hp.data
 have e : ((l ++ [p]).map Xo.toX).foldl Xo.op Xo.z = Xo.toX S9 := by
  rw [h2, List.map_append, List.foldl_append, Xo.fold_from (l.map Xo.toX) hok _ hpx]
  exact Xo.op_comm _ _
 rw [e] at o1 o2
 obtain ⟨m1, m2, m3⟩ := S.meta_back S9.role S9.lpn S9.seq h1.role h1.lpn h1.seq
 have ho : W.over (l ++ [p]) = ((Xo.toX S9).1, (((Xo.toX S9).2 : Nat) : Int)) := o1
 unfold W.backS
 simp only [ho, Int.toNat_natCast]
 show (⟨S9.lpn, S9.seq, S9.role, S9.data⟩ : En) = ⟨((S.meta_ S9.role S9.lpn S9.seq / 1099511627776 % 65536 : Nat) : Int), ((S.meta_ S9.role S9.lpn S9.seq % 1099511627776 : Nat) : Int), ((S.meta_ S9.role S9.lpn S9.seq / 72057594037927936 : Nat) : Int), S9.data⟩
 rw [m1, m2, m3]
end Go.Proofs.YtoideahgjgaddaaGreat
namespace Go.Proofs.YtoideahgjgaddaaGreat
open Go Go.RowKit
theorem f6_SlotsG (m : Int) : Fn Tryz.prog 153 [.int .i64 m] [] (fun v As => v = .int .i64 (G.slots m) ∧ As = []) := by
 rw [← slots_dI m]; exact f6_Slots m
def b9out (p : Sh) (n : Nat) : Bool := (!S.may p || p.kind != 2) || ((n : Int) != G.slots p.mask - 1)
theorem b9out_back {p : Sh} {l : List Sh} {n : Nat} (hl : l.length = n) (h : b9out p n = true) : W.backB p l = false := by
 unfold W.backB
 simp only [b9out, Bool.or_eq_true, Bool.not_eq_true', bne_iff_ne, ne_eq] at h
 rcases h with (h | h) | h
 ·rw [h]; simp
 ·rw [beq_eq_false_iff_ne.2 h]; simp
 ·rw [decide_eq_false (by rw [hl]; exact h)]; simp
def alien9 (p o : Sh) : Bool := (((!S.may o || o.kind != 1) || o.block != p.block) || o.row != p.row) || o.mask != p.mask
theorem alien9_eq (p o : Sh) : alien9 p o = W.alien p o := by
 unfold alien9 W.alien
 cases S.may o <;> cases o.kind != 1 <;> simp
theorem back_no {p : Sh} {l : List Sh} (h : W.backB p l = false) : W.back p l = En.zero := by unfold W.back; rw [h]; rfl
theorem f9_Back (p : Sh) (hp : p.data.length = 16) (a : Option Nat) (n c : Nat) (l : List Sh) (hl : l.length = n) (hd : ∀ s ∈ l, s.data.length = 16) : Fn Tryz.prog 196 [shV p, slv a n c] [ownA 137 23 a n c (cellsS l)]
  (fun v As => v = .tuple #[enV (W.back p l), .bool (W.backB p l)] ∧ As = [ownA 137 23 a n c (cellsS l)]) := by
 refine Fn.enter [0, 0] Tryz.func196 rfl rfl rfl fun X F hX => ?_
 refine J.r hX tk 400 (fun _ => rfl) fun bb => ?_
 refine J.ca hX (by kernel_rfl) (f9_May p hp) [] 0 rfl rfl rfl rfl rfl rfl (fun _ => rfl) ?_
 rintro v As ⟨rfl, rfl⟩
 refine ⟨_, rfl, trivial, ?_⟩
 have hG := gslots_bd p.mask
 refine J.r hX tk 400 (fun _ => rfl) fun b2 => ?_
 refine J.join (α := Unit) (fun _ => [⟨28, .bool (b9out p n), 0, .tt⟩, ⟨1, slv a n c, 0, .tt⟩, ⟨2, .pointer (some ⟨bb 0, 0, none⟩), 3, .tt⟩, ⟨4, .pointer (some ⟨bb (0 + 1), 0, none⟩), 4, .tt⟩]) (fun _ => [.hp F, ownA 137 23 a n c (cellsS l), .pt (bb 0) 137 (shL p), .pt (bb (0 + 1)) 45 (enL En.zero)]) (fun hj => ?_) (fun _ => ?_)
 ·refine J.gcase hX rfl rfl rfl trivial (fun hb => ?_) (fun hb => ?_)
  ·have hb2 : (!S.may p || p.kind != 2) = false := by rwa [Bool.not_eq_true'] at hb
   have hC : b9out p n = (false || ((n : Int) != G.slots p.mask - 1)) := by unfold b9out; rw [hb2]
   rw [hb2]
   refine J.r hX tk 400 (fun _ => rfl) fun b3 => ?_
   refine J.ca hX (by kernel_rfl) (f6_SlotsG p.mask) [] 0 rfl rfl rfl rfl rfl rfl (fun _ => rfl) ?_
   rintro v As ⟨rfl, rfl⟩
   refine ⟨_, rfl, trivial, ?_⟩
   refine J.r hX tk 400 (fun _ => rfl) fun b4 => ?_
   exact J.goto [0, 1, 2, 3] (hj ()) ⟨congrArg (fun b => some (Value.bool b)) hC.symm, rfl, rfl, rfl, trivial⟩ rfl rfl
  ·have hb2 : (!S.may p || p.kind != 2) = true := by rwa [Bool.not_eq_false'] at hb
   have hC : b9out p n = true := by unfold b9out; rw [hb2]; rfl
   rw [hb2]
   refine J.r hX tk 400 (fun _ => rfl) fun b5 => ?_
   refine J.val hX (.int .i64 0) 0 rfl rfl (fun hg a w he hw => by simp [G.on] at hg) rfl trivial ?_
   refine J.r hX tk 400 (fun _ => rfl) fun b6 => ?_
   exact J.goto [0, 1, 2, 3] (hj ()) ⟨congrArg (fun b => some (Value.bool b)) (show _ = b9out p n from by rw [hC]; rfl), rfl, rfl, rfl, trivial⟩ rfl rfl
 refine J.r hX tk 400 (fun _ => rfl) fun b7 => ?_
 refine J.cond rfl (fun h1 => ?_) (fun h1 => ?_)
 ·have hB := b9out_back hl h1
  refine J.r hX tk 400 (fun _ => rfl) fun b8 => ?_
  refine J.rt hX tk [1] rfl rfl rfl ?_
  rw [back_no hB, hB]
  exact ⟨rfl, rfl⟩
 simp only [b9out, Bool.or_eq_false_iff, Bool.not_eq_false', bne_eq_false_iff_eq] at h1
 obtain ⟨⟨hmp, hkp⟩, hln⟩ := h1
 refine J.r hX tk 400 (fun _ => rfl) fun b5 => ?_
 refine J.lo (α := Nat) (fun k => k ≤ n ∧ ∀ o ∈ l.take k, alien9 p o = false) (fun k => [⟨7, .int .i64 k, 0, .tt⟩, ⟨6, .pointer (some ⟨b5 0, 0, none⟩), 5, .tt⟩, ⟨1, slv a n c, 0, .tt⟩, ⟨2, .pointer (some ⟨bb 0, 0, none⟩), 3, .tt⟩, ⟨4, .pointer (some ⟨bb (0 + 1), 0, none⟩), 4, .tt⟩]) [4] (fun k => [.pt (b5 0) 137 (shL ((l.take k).foldl F9.over p))]) (fun k => n - k) (0) (⟨Nat.zero_le _, by simp⟩) rfl ?_ (fun _ => rfl) fun k hI => ?_
 ·rfl
 obtain ⟨hk, hal⟩ := hI
 refine J.r hX tk 400 (fun _ => rfl) fun b10 => ?_
 refine J.cond rfl (fun h2 => ?_) (fun h2 => ?_)
 ·simp only [decide_eq_true_eq, Int.ofNat_lt] at h2
  obtain ⟨o, ho⟩ : ∃ o, l[k]? = some o := ⟨_, List.getElem?_eq_getElem (by omega)⟩
  have hod := hd o (List.mem_of_getElem? ho)
  refine J.know (fun h' s => own_some (c := (a, c)) (by omega) (s.get (i := 1) rfl)) fun hg => ?_
  obtain ⟨g, rfl⟩ := hg
  have hts : l.take (k + 1) = l.take k ++ [o] := by rw [List.take_add_one, ho]; rfl
  have hfold : (l.take (k + 1)).foldl F9.over p = F9.over ((l.take k).foldl F9.over p) o := by rw [hts, List.foldl_append]; rfl
  have hfl : ((l.take k).foldl F9.over p).data.length = 16 := by
   have : ∀ (l : List Sh) (q : Sh), (∀ s ∈ l, s.data.length = 16) → q.data.length = 16 → (l.foldl F9.over q).data.length = 16 := by
    intro l
    induction l with
    | nil => intro q _ h; exact h
    | cons x l ih => intro q hd h; exact ih _ (fun t ht => hd t (by simp [ht])) (mix_len h (hd x (by simp)) 16 (by omega))
   exact this _ _ (fun s hs => hd s (List.mem_of_mem_take hs)) hp
  generalize (l.take k).foldl F9.over p = q at hfold hfl
  refine J.r hX tk 400 (fun _ => rfl) fun b11 => ?_
  refine J.val hX (shV o) 0 rfl rfl (fun hg a w he hw => ?_) rfl trivial ?_
  ·exact ownN_run tk rfl rfl he rfl rfl rfl (hw.get (i := 1) rfl) (by rw [show 0 + (k : Int).toNat * 23 = k * 23 from by omega]; exact cellsS_get ho) rfl
  refine J.r hX tk 400 (fun _ => rfl) fun b12 => ?_
  refine J.ca hX (by kernel_rfl) (f9_May o hod) [] 0 rfl rfl rfl rfl rfl rfl (fun _ => rfl) ?_
  rintro v As ⟨rfl, rfl⟩
  refine ⟨_, rfl, trivial, ?_⟩
  refine J.r hX tk 400 (fun _ => rfl) fun b14 => ?_
  refine J.cond rfl (fun h3 => ?_) (fun h3 => ?_)
  ·have hB : W.backB p l = false := by
    have ha : W.alien p o = true := by rw [← alien9_eq]; exact h3
    unfold W.backB
    rw [List.any_eq_true.2 ⟨o, List.mem_of_getElem? ho, ha⟩]; simp
   refine J.r hX tk 400 (fun _ => rfl) fun b15 => ?_
   refine J.rt hX tk [1] rfl rfl rfl ?_
   rw [back_no hB, hB]
   exact ⟨rfl, rfl⟩
  ·have h3 : alien9 p o = false := h3
   refine J.r hX tk 400 (fun _ => rfl) fun b16 => ?_
   refine J.ca hX (by kernel_rfl) (f9_over q o hfl hod) [] 0 rfl rfl rfl rfl rfl rfl (fun _ => rfl) ?_
   rintro v As ⟨rfl, rfl⟩
   refine ⟨_, rfl, trivial, ?_⟩
   rw [← hfold]
   refine J.r hX tk 400 (fun _ => rfl) fun b18 => ?_
   refine J.nS (k + 1) (⟨by omega, fun t ht => by
    rw [hts] at ht
    rcases List.mem_append.1 ht with h | h
    ·exact hal t h
    ·rw [List.mem_singleton.1 h]; exact h3⟩) (by omega) [0, 1, 2, 3, 4] rfl rfl
 simp only [decide_eq_false_iff_not, Int.ofNat_lt] at h2
 have htk : l.take k = l := List.take_of_length_le (by omega)
 rw [htk] at hal ⊢
 have hnum : ∀ s ∈ l, Num9 s := fun s hs => may_num9 (by
  have h := hal s hs
  simp only [alien9, Bool.or_eq_false_iff, Bool.not_eq_false'] at h
  exact h.1.1.1.1) (hd s hs)
 have hq := fold_back p l (may_num9 hmp hp) hnum
 have hqd := (fold_num9 l p (may_num9 hmp hp) hnum).1.data
 have hany : l.any (W.alien p) = false := by
  rw [List.any_eq_false]
  intro o ho
  rw [← alien9_eq, hal o ho]; decide
 have hB : W.backB p l = W.ok p.block p.row p.mask (l.foldl F9.over p).en := by
  unfold W.backB
  rw [hkp, hmp, hany, decide_eq_true (by rw [hl]; exact hln), hq]; simp
 generalize l.foldl F9.over p = q at hq hqd hB
 refine J.r hX tk 400 (fun _ => rfl) fun b20 => ?_
 refine J.ca hX (by kernel_rfl) (f9_Own p.block p.row p.mask q.en hqd) [] 0 rfl rfl rfl rfl rfl rfl (fun _ => rfl) ?_
 rintro v As ⟨rfl, rfl⟩
 refine ⟨_, rfl, trivial, ?_⟩
 rw [← hB]
 refine J.r hX tk 400 (fun _ => rfl) fun b22 => ?_
 refine J.cond rfl (fun h4 => ?_) (fun h4 => ?_)
 ·have h4 : W.backB p l = false := by simpa using h4
  refine J.r hX tk 400 (fun _ => rfl) fun b23 => ?_
  refine J.rt hX tk [1] rfl rfl rfl ?_
  rw [back_no h4, h4]
  exact ⟨rfl, rfl⟩
 ·have h4 : W.backB p l = true := by simpa using h4
  have hbk : W.back p l = q.en := by unfold W.back; rw [if_pos h4, hq]
  refine J.r hX tk 400 (fun _ => rfl) fun b24 => ?_
  refine J.rt hX tk [1] rfl rfl rfl ?_
  rw [hbk, h4]
  exact ⟨rfl, rfl⟩
theorem look_slot (N : Nand) (b r m : Int) {i : Nat} (h : i < (G.slots m).toNat) : (R.look N b r m).slots[i]? = some (R.one N b r m (G.die m b r i)).1 ∧ (R.look N b r m).good.getD i false = (R.one N b r m (G.die m b r i)).2 := by
 unfold R.look R.ones
 simp [List.getD_eq_getElem?_getD, h]
theorem f9_mended (p : Nat) (N : Nand) (hN : N.Ok) (hR : N.Room) (b r m : Int) (k : Nat) (hk : k < 1000000) : Fn Tryz.prog 156 [.pointer (some ⟨p, 0, none⟩), .int .i64 b, .int .i64 r, .int .i64 m, .int .i64 k] [NandA p N]
  (fun v As => v = .tuple #[enV (R.mend (R.look N b r m) k), .bool (R.mendB (R.look N b r m) k)] ∧ As = [NandA p N]) := by
 have hG := gslots_bd m
 obtain ⟨hsl, hgl⟩ := look_len N b r m
 obtain ⟨hsd, hpd⟩ := look_data hN b r m
 have hslot := fun i (h : i < (G.slots m).toNat) => look_slot N b r m h
 have hwh : (R.one N b r m (G.parity m b r)) = ((R.look N b r m).parity, (R.look N b r m).whole) := rfl
 obtain ⟨f, hf⟩ : ∃ f, R.look N b r m = f := ⟨_, rfl⟩
 rw [hf] at hsl hgl hsd hpd hslot hwh ⊢
 obtain ⟨n, hn⟩ := Int.eq_ofNat_of_zero_le hG.1
 have hnt : (G.slots m).toNat = n := by omega
 rw [hnt] at hsl hgl hslot
 refine Fn.enter [2, 0, 0, 0, 0] Tryz.func156 rfl rfl rfl fun X F hX => ?_
 refine J.turn1 [] rfl (As := [ownA 137 23 none 0 0 (cellsS (othN f.slots k 0))]) (fun h s => Sep.one ⟨rfl, rfl, rfl⟩) rfl ?_
 refine J.r hX tk 400 (fun _ => rfl) fun bb => ?_
 refine J.ca hX (by kernel_rfl) (f6_Parity m b r) [] 0 rfl rfl rfl rfl rfl rfl (fun _ => rfl) ?_
 rintro v As ⟨rfl, rfl⟩
 refine ⟨_, rfl, trivial, ?_⟩
 refine J.r hX tk 400 (fun _ => rfl) fun b2 => ?_
 refine J.ca hX (by kernel_rfl) (f9_one p N hN hR b r m (G.parity m b r)) [1] 0 rfl rfl rfl rfl rfl rfl (fun _ => rfl) ?_
 rintro v As ⟨rfl, rfl⟩
 refine ⟨_, rfl, trivial, ?_⟩
 rw [hwh]
 refine J.r hX tk 400 (fun _ => rfl) fun b12 => ?_
 refine J.lo (α := (Nat × Bool × Option Nat × Nat)) (fun z => z.1 ≤ n ∧ z.2.1 = (f.whole && (List.range z.1).all fun i => i == k || f.good.getD i false)) (fun z => [⟨15, .int .i64 z.1, 0, .tt⟩, ⟨14, slv z.2.2.1 (othN f.slots k z.1).length z.2.2.2, 0, .tt⟩, ⟨13, .bool z.2.1, 0, .tt⟩, ⟨12, .pointer (some ⟨b12 0, 0, none⟩), 5, .tt⟩, ⟨10, .pointer (some ⟨bb 0, 0, none⟩), 4, .tt⟩, ⟨11, .bool false, 0, .tt⟩, ⟨0, .pointer (some ⟨p, 0, none⟩), 2, .tt⟩, ⟨1, .int .i64 b, 0, .tt⟩, ⟨2, .int .i64 r, 0, .tt⟩, ⟨3, .int .i64 m, 0, .tt⟩, ⟨4, .int .i64 k, 0, .tt⟩]) [2] (fun z => [ownA 137 23 z.2.2.1 (othN f.slots k z.1).length z.2.2.2 (cellsS (othN f.slots k z.1))]) (fun z => n - z.1) ((0, f.whole, none, 0)) (⟨Nat.zero_le _, by simp⟩) rfl ?_ (fun _ => rfl) fun z hI => ?_
 ·rfl
 obtain ⟨i, ob, a, c⟩ := z
 dsimp only at hI ⊢
 obtain ⟨hi, hob⟩ := hI
 have hol := othN_len f.slots k i
 refine J.r hX tk 400 (fun _ => rfl) fun b5 => ?_
 refine J.ca hX (by kernel_rfl) (f6_SlotsG m) [] 0 rfl rfl rfl rfl rfl rfl (fun _ => rfl) ?_
 rintro v As ⟨rfl, rfl⟩
 refine ⟨_, rfl, trivial, ?_⟩
 rw [hn]
 refine J.r hX tk 400 (fun _ => rfl) fun b7 => ?_
 refine J.cond rfl (fun h1 => ?_) (fun h1 => ?_)
 ·simp only [decide_eq_true_eq, Int.ofNat_lt] at h1
  obtain ⟨q1, q2⟩ := hslot i h1
  refine J.r hX tk 400 (fun _ => rfl) fun b8 => ?_
  refine J.ca hX (by kernel_rfl) (f6_Die m b r i) [] 0 rfl rfl rfl rfl rfl rfl (fun _ => rfl) ?_
  rintro v As ⟨rfl, rfl⟩
  refine ⟨_, rfl, trivial, ?_⟩
  refine J.r hX tk 400 (fun _ => rfl) fun b10 => ?_
  refine J.ca hX (by kernel_rfl) (f9_one p N hN hR b r m (G.die m b r i)) [1] 0 rfl rfl rfl rfl rfl rfl (fun _ => rfl) ?_
  rintro v As ⟨rfl, rfl⟩
  refine ⟨_, rfl, trivial, ?_⟩
  generalize R.one N b r m (G.die m b r i) = x at q1 q2
  obtain ⟨s, g⟩ := x
  refine J.r hX tk 400 (fun _ => rfl) fun b12 => ?_
  refine J.cond rfl (fun h2 => ?_) (fun h2 => ?_)
  ·simp only [bne_iff_ne, ne_eq, Int.natCast_inj] at h2
   have hsn := othN_ne f.slots k i s q1 h2
   have hob2 : (ob && g) = (f.whole && (List.range (i + 1)).all fun i => i == k || f.good.getD i false) := by
    rw [List.range_succ, List.all_append, ← Bool.and_assoc, ← hob]
    congr 1
    rw [List.all_cons, List.all_nil, Bool.and_true, beq_eq_false_iff_ne.2 h2, Bool.false_or, q2]
   refine J.r hX tk 400 (fun _ => rfl) fun b13 => ?_
   refine J.append hX tk 2 6 0 rfl rfl rfl rfl rfl rfl rfl rfl rfl rfl rfl rfl rfl rfl rfl rfl ?_ ?_ (fun _ => rfl) fun a4 c4 => ⟨_, (congrArg (fun z => lset _ 2 (ownA _ _ _ _ _ z)) ((cellsS_snoc _ _).symm.trans (congrArg cellsS hsn.symm))).trans rfl, trivial, ?_⟩
   ·simp only [maxLen]; omega
   ·omega
   rw [show (othN f.slots k i).length + 1 = (othN f.slots k (i + 1)).length from by rw [hsn]; simp]
   refine J.r hX tk 400 (fun _ => rfl) fun b14 => ?_
   refine J.nS ((i + 1, ob && g, a4, c4)) (⟨by dsimp only; omega, hob2⟩) (by dsimp only; omega) [0, 1, 2, 3, 4] rfl rfl
  ·simp only [bne_eq_false_iff_eq, Int.natCast_inj] at h2
   have hsn : othN f.slots k (i + 1) = othN f.slots k i := by rw [← h2]; exact othN_eq f.slots i (by omega)
   have hob2 : ob = (f.whole && (List.range (i + 1)).all fun i => i == k || f.good.getD i false) := by
    rw [List.range_succ, List.all_append, ← Bool.and_assoc, ← hob, List.all_cons, List.all_nil, Bool.and_true, h2]
    simp
   rw [← hsn]
   refine J.r hX tk 400 (fun _ => rfl) fun b16 => ?_
   refine J.nS ((i + 1, ob, a, c)) (⟨by dsimp only; omega, hob2⟩) (by dsimp only; omega) [0, 1, 2, 3, 4] rfl rfl
 simp only [decide_eq_false_iff_not, Int.ofNat_lt] at h1
 obtain rfl : i = n := by omega
 have hoe : othN f.slots k i = f.slots.eraseIdx k := by unfold othN; rw [List.take_of_length_le (by omega)]
 have hrest : ob = (R.rest f k && f.whole) := by rw [hob, Bool.and_comm]; unfold R.rest; rw [hsl]
 rw [hoe]
 refine J.r hX tk 400 (fun _ => rfl) fun b18 => ?_
 refine J.cond rfl (fun h3 => ?_) (fun h3 => ?_)
 ·have h3 : ob = false := by simpa using h3
  rw [h3] at hrest
  have m1 : R.mendB f k = false := by unfold R.mendB; rw [← hrest]; rfl
  have m2 : R.mend f k = En.zero := by unfold R.mend; rw [← hrest]; rfl
  refine J.r hX tk 400 (fun _ => rfl) fun b19 => ?_
  refine J.rt hX tk [1] rfl rfl rfl ?_
  rw [m1, m2]
  exact ⟨rfl, rfl⟩
 ·have h3 : ob = true := by simpa using h3
  rw [h3] at hrest
  have m1 : R.mendB f k = W.backB f.parity (f.slots.eraseIdx k) := by unfold R.mendB; rw [← hrest]; rfl
  have m2 : R.mend f k = W.back f.parity (f.slots.eraseIdx k) := by unfold R.mend; rw [← hrest]; rfl
  refine J.r hX tk 400 (fun _ => rfl) fun b20 => ?_
  refine J.ca hX (by kernel_rfl) (f9_Back f.parity hpd a (f.slots.eraseIdx k).length c (f.slots.eraseIdx k) rfl (fun s hs => hsd s (List.mem_of_mem_eraseIdx hs))) [2] 0 rfl rfl rfl rfl rfl rfl (fun _ => rfl) ?_
  rintro v As ⟨rfl, rfl⟩
  refine ⟨_, rfl, trivial, ?_⟩
  rw [← m1, ← m2]
  refine J.r hX tk 400 (fun _ => rfl) fun b22 => ?_
  refine J.rt hX tk [1] rfl rfl rfl ?_
  exact ⟨rfl, rfl⟩
end Go.Proofs.YtoideahgjgaddaaGreat
namespace Go.Proofs.YtoideahgjgaddaaGreat
open Go
theorem cnt_one {p : Nat → Bool} {i : Nat} (hp : p i = true) : ∀ n, (∀ j, j < n → j ≠ i → p j = false) → (List.range n).countP p = if i < n then 1 else 0
 | 0, _ => rfl
 | n + 1, h => by
  rw [List.range_succ, List.countP_append, cnt_one hp n (fun j hj => h j (by omega)), List.countP_singleton]
  by_cases e : n = i
  ·subst e
   rw [hp, if_neg (Nat.lt_irrefl n), if_pos rfl, if_pos (Nat.lt_succ_self n)]
  ·rw [h n (by omega) e, if_neg Bool.false_ne_true, Nat.add_zero]
   by_cases h2 : i < n
   ·rw [if_pos h2, if_pos (by omega)]
   ·rw [if_neg h2, if_neg (by omega)]
def missN (g : Nat → Bool) (k : Nat) : Nat := (List.range k).countP fun i => !g i
theorem missN_succ (g : Nat → Bool) (k : Nat) : missN g (k + 1) = missN g k + (if g k then 0 else 1) := by
 unfold missN
 rw [List.range_succ, List.countP_append, List.countP_singleton]
 cases g k <;> rfl
theorem missN_le (g : Nat → Bool) (k : Nat) : missN g k ≤ k := by
 unfold missN
 have := List.countP_le_length (p := fun i => !g i) (l := List.range k)
 rwa [List.length_range] at this
theorem miss_rest {f : Fd} {i n : Nat} (hn : f.slots.length = n) (hi : i < n) (hg : f.good.getD i false = false) (hr : R.rest f i = true) : missN (fun j => f.good.getD j false) n = 1 := by
 unfold missN
 rw [cnt_one (i := i) (show (!(f.good.getD i false)) = true by rw [hg]; rfl) n, if_pos hi]
 intro j hj hji
 unfold R.rest at hr
 rw [hn, List.all_eq_true] at hr
 have := hr j (List.mem_range.2 hj)
 simp only [Bool.or_eq_true, beq_iff_eq, hji, false_or] at this
 show (!(f.good.getD j false)) = false
 rw [this]; rfl
def betB (x b : Fnd) : Bool := decide (x.en.seq > b.en.seq) || (x.en.seq == b.en.seq && x.whole && !b.whole)
theorem betB_eq (x b : Fnd) : betB x b = V.behind b x := by
 unfold betB V.behind
 by_cases h : b.en.seq = x.en.seq
 ·rw [if_neg (by simpa using h), h, decide_eq_false (by omega), beq_self_eq_true]; rfl
 ·rw [if_pos h, beq_eq_false_iff_ne.2 (fun e => h e.symm)]
  simp
theorem stand_none {l : List Fnd} (h : (V.standOf l).2 = false) : (V.standOf l).1 = Fnd.zero := by
 revert h
 unfold V.standOf
 cases V.tops l with
 | nil => intro _; rfl
 | cons f o => intro h; cases h
theorem stand_role {l : List Fnd} (hr : ∀ f ∈ l, f.en.role ≠ 0) : (V.standOf l).1.en.role = 0 ↔ (V.standOf l).2 = false := by
 constructor
 ·intro h
  cases h2 : (V.standOf l).2 with
  | false => rfl
  | true => exact absurd h (hr _ (V.standOf_mem h2))
 ·intro h
  rw [stand_none h]; rfl
def bestF (L : List Fnd) (k : Int) : Fnd := (V.standOf (V.of L k)).1
theorem bestF_snoc (L : List Fnd) (x : Fnd) (hr : ∀ f ∈ L, f.en.role ≠ 0) (k : Int) : bestF (L ++ [x]) k = if x.en.lpn = k ∧ ((bestF L k).en.role = 0 ∨ betB x (bestF L k) = true) then x else bestF L k := by
 unfold bestF
 rw [V.of_snoc]
 by_cases h : x.en.lpn = k
 ·have hs := stand_role (l := V.of L k) (fun f hf => hr f (List.mem_filter.1 hf).1)
  rw [if_pos h, V.standOf_snoc, betB_eq]
  by_cases h2 : (V.standOf (V.of L k)).2 = false ∨ V.behind (V.standOf (V.of L k)).1 x = true
  ·rw [if_pos h2, if_pos ⟨h, h2.imp hs.2 id⟩]
  ·rw [if_neg h2, if_neg (fun h3 => h2 (h3.2.imp hs.1 id))]
 ·rw [if_neg h, if_neg (fun h3 => h h3.1)]
theorem of_in (L : List Fnd) (m : Nat) (k : Nat) (hk : k < m) : V.of (L.filter fun f => decide (f.en.lpn < (m : Int))) (k : Int) = V.of L (k : Int) := by
 unfold V.of
 rw [List.filter_filter]
 refine List.filter_congr fun f _ => ?_
 by_cases h : f.en.lpn = (k : Int)
 ·rw [beq_iff_eq.2 h, decide_eq_true (by omega)]; rfl
 ·rw [beq_eq_false_iff_ne.2 h]; rfl
theorem look_fine {N : Nand} {x y z : Int} (h : (M.look N x y z).2 = 1) : M.bad (M.look N x y z).1 x y z = false ∧ 0 ≤ x := by
 have hx : 0 ≤ x := by
  rcases Int.lt_or_le x 0 with hx | hx
  ·exfalso
   have hr : N.refuses x y z = 9 ∨ N.refuses x y z = 3 := by
    unfold Nand.refuses
    split
    ·exact .inl rfl
    ·have : geoIn N.dies N.blocks N.pages x y z = false := by
      unfold geoIn
      rw [decide_eq_false (by omega)]; rfl
     rw [if_pos this]; exact .inr rfl
   have he : N.readE x y z = 9 ∨ N.readE x y z = 3 := by
    unfold Nand.readE
    rcases hr with hr | hr <;> rw [hr] <;> simp
   unfold M.look at h
   simp only at h
   rcases he with he | he <;> rw [he] at h <;> simp at h
  ·exact hx
 refine ⟨?_, hx⟩
 unfold M.look at h ⊢
 dsimp only at h ⊢
 split
 ·rename_i h0
  rw [if_pos h0] at h
  split
  ·rename_i h1
   rw [if_pos h1] at h
   simp at h
  ·rename_i h1
   simp only [not_or] at h1
   simpa using h1.2
 ·rename_i h0
  rw [if_neg h0] at h
  split at h
  ·simp at h
  ·split at h <;> simp at h
theorem entry_role {s : Sh} (h : S.entry s = true) : s.role = 1 ∨ s.role = 2 ∨ s.role = 3 ∨ s.role = 4 := by
 unfold S.entry at h
 split at h
 ·exact .inl (by assumption)
 ·split at h
  ·rename_i h1
   rcases h1 with h1 | h1
   ·exact .inr (.inl h1)
   ·exact .inr (.inr (.inr h1))
  ·split at h
   ·exact .inr (.inr (.inl (by assumption)))
   ·cases h
theorem may_role {s : Sh} (h : S.may s = true) (hk : s.kind ≠ 2) : s.role = 1 ∨ s.role = 2 ∨ s.role = 3 ∨ s.role = 4 := by
 unfold S.may at h
 rw [decide_eq_false hk] at h
 simp only [Bool.false_or, Bool.and_eq_true] at h
 exact entry_role h.2.2
theorem fnd_role {N : Nand} {b r : Int} {f : Fnd} (h : f ∈ R.all N b r) : f.en.role = 1 ∨ f.en.role = 2 ∨ f.en.role = 4 := by
 unfold R.all at h
 rw [List.mem_flatMap] at h
 obtain ⟨m, _, h⟩ := h
 unfold R.allM at h
 rw [List.mem_filterMap] at h
 obtain ⟨k, hk, h⟩ := h
 rw [List.mem_range, (look_len N b r m).1] at hk
 unfold R.fnd at h
 split at h
 ·rename_i hc
  injection h with h
  subst h
  simp only [Bool.and_eq_true, bne_iff_ne, ne_eq] at hc
  obtain ⟨h1, h3⟩ := hc
  dsimp only
  have key : (R.enAt (R.look N b r m) k).role = 1 ∨ (R.enAt (R.look N b r m) k).role = 2 ∨ (R.enAt (R.look N b r m) k).role = 3 ∨ (R.enAt (R.look N b r m) k).role = 4 := by
   obtain ⟨e2, e1⟩ := look_slot N b r m hk
   unfold R.enAt
   unfold R.okAt at h1
   split
   ·rename_i hg
    rw [List.getD_eq_getElem?_getD, e2, Option.getD_some]
    rw [e1] at hg
    unfold R.one at hg ⊢
    simp only [Bool.and_eq_true, beq_iff_eq] at hg
    obtain ⟨hl, hm⟩ := hg
    obtain ⟨hb, hx⟩ := look_fine hl
    refine may_role (look_may hl) fun hkd => ?_
    simp only [M.bad, Bool.or_eq_false_iff, bne_eq_false_iff_eq, Bool.not_eq_false'] at hb
    obtain ⟨⟨⟨b1, b2⟩, b3⟩, b4⟩ := hb
    rw [hm, b1, b2, hkd, beq_self_eq_true, beq_iff_eq] at b4
    obtain ⟨o1, o2⟩ := oth_die m b r k
    by_cases hlt : k < (othI m b r).length
    ·have := o2 k rfl hlt
     have hmem := List.mem_of_getElem? this
     unfold othI at hmem
     split at hmem
     ·have := (List.mem_filter.1 hmem).2
      simp only [bne_iff_ne, ne_eq] at this
      exact this b4.symm
     ·cases hmem
    ·have := o1 (.inr (by omega))
     omega
   ·rename_i hg
    rw [Bool.not_eq_true] at hg
    rw [hg, Bool.false_or] at h1
    unfold R.mendB at h1
    simp only [Bool.and_eq_true] at h1
    have hb := h1.2
    unfold R.mend
    rw [if_pos (by rw [Bool.and_eq_true]; exact h1.1), W.back, if_pos hb]
    unfold W.backB at hb
    simp only [Bool.and_eq_true] at hb
    exact may_role (s := W.sh _ _ _ _) hb.2 (show (1 : Int) ≠ 2 by decide)
  omega
 ·cases h
theorem all_role {N : Nand} {f : Fnd} (h : f ∈ V.all N) : f.en.role = 1 ∨ f.en.role = 2 ∨ f.en.role = 4 := by
 unfold V.all at h
 rw [List.mem_flatMap] at h
 obtain ⟨b, _, h⟩ := h
 rw [List.mem_flatMap] at h
 obtain ⟨r, _, h⟩ := h
 exact fnd_role h
def topK (L : List Fnd) (k : Int) (i : Nat) : Int := ((L.take i).filter fun f => f.en.lpn == k && f.whole).foldl (fun m f => max m f.en.seq) (-1)
theorem topK_succ (L : List Fnd) (k : Int) (i : Nat) (x : Fnd) (h : L[i]? = some x) : topK L k (i + 1) = if (x.en.lpn == k && x.whole) = true then max (topK L k i) x.en.seq else topK L k i := by
 unfold topK
 rw [List.take_add_one, h, Option.toList_some, List.filter_append]
 by_cases hp : (x.en.lpn == k && x.whole) = true
 ·have e : [x].filter (fun f => f.en.lpn == k && f.whole) = [x] := by rw [List.filter_cons, if_pos hp]; rfl
  rw [if_pos hp, e, List.foldl_append]; rfl
 ·have e : [x].filter (fun f => f.en.lpn == k && f.whole) = [] := by rw [List.filter_cons, if_neg hp]; rfl
  rw [if_neg hp, e, List.append_nil]
theorem topK_all (L : List Fnd) (k : Int) : topK L k L.length = V.topSeq ((V.of L k).filter fun f => f.whole) := by
 unfold topK V.topSeq V.of
 rw [List.take_length, List.filter_filter]
 congr 1
 exact List.filter_congr fun f _ => Bool.and_comm _ _
def heldK (H : List Int) (L : List Fnd) (k : Int) (t : Int) (i : Nat) : List Int := (((L.take i).filter fun f => f.en.lpn == k && f.whole && f.en.seq == t).map (·.block)).foldl insI H
theorem heldK_succ (H : List Int) (L : List Fnd) (k t : Int) (i : Nat) (x : Fnd) (h : L[i]? = some x) : heldK H L k t (i + 1) = if (x.en.lpn == k && x.whole && x.en.seq == t) = true then insI (heldK H L k t i) x.block else heldK H L k t i := by
 unfold heldK
 rw [List.take_add_one, h, Option.toList_some, List.filter_append]
 by_cases hp : (x.en.lpn == k && x.whole && x.en.seq == t) = true
 ·have e : [x].filter (fun f => f.en.lpn == k && f.whole && f.en.seq == t) = [x] := by rw [List.filter_cons, if_pos hp]; rfl
  rw [if_pos hp, e, List.map_append, List.foldl_append]; rfl
 ·have e : [x].filter (fun f => f.en.lpn == k && f.whole && f.en.seq == t) = [] := by rw [List.filter_cons, if_neg hp]; rfl
  rw [if_neg hp, e, List.append_nil]
theorem normI_app (H : List Int) : ∀ B : List Int, normI (H ++ B) = B.foldl insI (normI H) := by
 intro B
 have : ∀ k, k ≤ B.length → normI (H ++ B.take k) = (B.take k).foldl insI (normI H) := by
  intro k
  induction k with
  | zero => intro _; simp
  | succ k ih =>
   intro hk
   rw [List.take_add_one, List.getElem?_eq_getElem (by omega), Option.toList_some, ← List.append_assoc, normI_snoc, List.foldl_append, ih (by omega)]
   rfl
 have h := this B.length (Nat.le_refl _)
 rwa [List.take_length] at h
theorem heldK_all (H : List Int) (L : List Fnd) (k : Int) (h0 : ∀ f ∈ L, 0 ≤ f.en.seq) : heldK (normI H) L k (topK L k L.length) L.length = normI (H ++ V.holds (V.of L k)) := by
 rw [normI_app, topK_all]
 unfold heldK V.holds
 rw [List.take_length, V.tops_whole ((V.of L k).filter fun f => f.whole) (fun f hf => ⟨(List.mem_filter.1 hf).2, h0 f (List.mem_filter.1 (List.mem_filter.1 hf).1).1⟩)]
 congr 2
 unfold V.of
 rw [List.filter_filter, List.filter_filter]
 refine List.filter_congr fun f _ => ?_
 cases f.en.lpn == k <;> cases f.whole <;> simp
theorem heldK_len (H : List Int) (L : List Fnd) (k t : Int) (i : Nat) : (heldK H L k t i).length ≤ H.length + i := by
 have hi : ∀ (l : List Int) (b : Int), (insI l b).length ≤ l.length + 1 := by
  intro l
  induction l with
  | nil => intro b; simp [insI]
  | cons x l ih =>
   intro b
   simp only [insI]
   split
   ·rw [List.length_cons, List.length_cons]; have := ih b; omega
   ·split
    ·omega
    ·simp
 have hf : ∀ (B : List Int) (H : List Int), (B.foldl insI H).length ≤ H.length + B.length := by
  intro B
  induction B with
  | nil => intro H; simp
  | cons b B ih =>
   intro H
   rw [List.foldl_cons, List.length_cons]
   have := ih (insI H b)
   have := hi H b
   omega
 unfold heldK
 refine Nat.le_trans (hf _ _) ?_
 rw [List.length_map]
 have := List.length_filter_le (fun f : Fnd => f.en.lpn == k && f.whole && f.en.seq == t) (L.take i)
 rw [List.length_take] at this
 omega
end Go.Proofs.YtoideahgjgaddaaGreat
namespace Go.Proofs.YtoideahgjgaddaaGreat
open Go Go.RowKit
theorem madeCells_flat (z : Array Value) (n : Nat) : (madeCells z (n * z.size)).toList = (List.replicate n z.toList).flatten := by
 have e0 : ∀ k, (madeCells z k).toList = (List.range k).map fun i => z[i % z.size]! := fun k => by simp [madeCells]
 induction n with
 | zero => rw [e0]; simp
 | succ n ih =>
  rw [e0] at ih ⊢
  rw [Nat.succ_mul, List.range_add, List.map_append, ih, List.replicate_succ', List.flatten_append, List.flatten_singleton]
  congr 1
  apply List.ext_getElem?
  intro i
  rw [List.map_map, List.getElem?_map]
  by_cases h : i < z.size
  ·rw [List.getElem?_range h, Option.map_some]
   simp only [Function.comp, Nat.mul_comm n, Nat.mul_add_mod, Nat.mod_eq_of_lt h]
   rw [Array.getElem?_toList, Array.getElem?_eq_getElem h, getElem!_pos z i h]
  ·rw [List.getElem?_eq_none (by rw [List.length_range]; omega), Option.map_none, List.getElem?_eq_none (by rw [Array.length_toList]; omega)]
section
variable {X : Cx} {P : Program} {K : List KI} {E : Env} {L : List Atom} {N : Nat} {F : HP} {Post : Value → List Atom → Prop} {rs : List ResultVar}
theorem J.makeMany {T : Tab} (hX : IsCx X P rs N F Post) (hT : TabOK P T) {ops : Array Oper} {C : Cl} {lt : Bool} {i : Nat} {t : PT} {o : Oper} {g : G} {st e by_ size : Nat} {x y : Operand} {k1 k2 t1 t2 n s1 b1 : Nat} {kl kc : IntKind} {g1 g2 : G} {z1 z : List Value} {td : TD} {E' : Value → Env} {L2 : Nat → List Atom} (tag : Nat)
  (ho : lget ops.toList i = some o) (hg : gd ops.toList E o = some g) (hgo : g.on = true) (hop : o.op = .makeSlice st x y) (hx : ev E x = some ⟨k1, .int kl n, t1, g1⟩) (v1 : g1.on = true) (hy : ev E y = some ⟨k2, .int kc n, t2, g2⟩) (v2 : g2.on = true)
  (hst : T.get st = some ⟨.slice e size, s1, z1, b1⟩) (he : T.get e = some ⟨td, size, z, by_⟩) (hzs : Nat.beq z.length size = true) (h63 : n ≤ maxLen) (hbytes : by_ * n ≤ 281474976710656)
  (hL2 : ∀ b, lsnoc nums L (.pt b e (List.replicate n z).flatten) = some (L2 b, tag)) (hd : ∀ v, putE N o.dst v tag .tt E = some (E' v)) (hJ : ∀ b, Conj (staysL lt C (L2 b)) ∧ J X (.reg ops C t :: K) (E' (.slice (some ⟨b, 0, none⟩) n n)) (L2 b)) : J X (.reg ops C (.alt lt i t .non) :: K) E L := by
 refine J.op hX (S := fun v' L' => ∃ b, v' = .slice (some ⟨b, 0, none⟩) n n ∧ L' = L ++ [.pt b e (List.replicate n z).flatten]) tag ho hg hgo (fun a0 w hen hs => ?_) hd (fun v L' ⟨b, e1, e2⟩ => by subst e1; subst e2; rw [← lsnoc_eq (hL2 b)]; exact hJ b)
 have ex := ev_spec hen hx
 have ey := ev_spec hen hy
 simp only [Slot.val, v1, v2] at ex ey
 obtain ⟨d, f, zv, ok⟩ := tiOf_spec (hT.get hst)
 obtain ⟨fe, rfl, g1', g2'⟩ := ok.slice rfl
 obtain ⟨d', f', zv', ok'⟩ := tiOf_spec (hT.get he)
 have hf : fe = f' := by have := g1'.symm.trans ok'.hf; injection this
 subst hf
 have hb2 : (fe.bytes : Int) * (n : Int) ≤ 281474976710656 := by
  rw [← ok'.hbytes]
  have h : ((by_ * n : Nat) : Int) ≤ 281474976710656 := by omega
  rwa [Int.natCast_mul] at h
 have hr := run_make (P := P) w st e fe zv' ok.hd ok'.hf ok'.hz kl kc n n (by omega) (Int.le_refl _) hb2 (by simp [maxLen] at h63; omega)
 have hz : zv'.cells.toList = z := ok'.hzero.symm
 have hs1 : fe.size = size := ok'.hsize.symm
 have hzl : zv'.cells.size = size := by rw [← Array.length_toList, hz]; exact Nat.eq_of_beq_eq_true hzs
 simp only [Int.toNat_natCast, hs1] at hr
 rw [← hzl] at hr
 refine ⟨_, _, .value (.slice (some ⟨w.heap.size, 0, none⟩) n n), w.alloc (.cells (madeCells zv'.cells (n * zv'.cells.size)) e), ⟨w.heap.size, rfl, rfl⟩, ?_, .inl rfl, ?_, ⟨rfl, rfl, rfl, by show w.heap.size ≤ (w.heap.push _).size; simp⟩⟩
 ·simp only [execOp, hop, ex, ey, hr, Sem.run_bind, Result.andThen_ok, Sem.run_pure]
 ·have e1 : Obj.cells (madeCells zv'.cells (n * zv'.cells.size)) e (0, 0) = Obj.cells (List.replicate n z).flatten.toArray e (0, 0) := by
   congr 1; apply Array.toList_inj.1; rw [madeCells_flat, hz]
  show Sep _ (hl { w with heap := w.heap.push (Obj.cells (madeCells zv'.cells (n * zv'.cells.size)) e (0, 0)) })
  rw [e1, hl_push]
  exact hs.snoc (hl_none w) (fun h' hh => hh)
end
end Go.Proofs.YtoideahgjgaddaaGreat
