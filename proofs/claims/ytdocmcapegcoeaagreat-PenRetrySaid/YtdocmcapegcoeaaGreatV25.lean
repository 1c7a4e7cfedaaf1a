/- Helpers, proved here. No condition. -/
import Derived.Test.YtdocmcapegcoeaaGreatRows
import Derived.Test.YtdocmcapegcoeaaGreatV06
import Derived.Test.YtdocmcapegcoeaaGreatV12
import Derived.Test.YtdocmcapegcoeaaGreatV15
import Derived.Test.YtdocmcapegcoeaaGreatV16
import Derived.Test.YtdocmcapegcoeaaGreatV19
import Derived.Test.YtdocmcapegcoeaaGreatV21
import Derived.Test.YtdocmcapegcoeaaGreatV22
import Derived.Test.YtdocmcapegcoeaaGreatV23
import Derived.Test.YtdocmcapegcoeaaGreatV24
import Derived.ProofKit
import Derived.OpenShut
import Derived.ChangeOld
import Derived.Below
import Derived.Deep.Slices
import Derived.Deep.Strs
import Derived.Lib.SmallJoins
set_option maxRecDepth 20000
set_option linter.all false
namespace Go.Proofs.YtdocmcapegcoeaaGreat
open Go Go.RowKit
theorem f9_Own (b r m : Int) (e : En) (h : e.data.length = 16) : Fn Tryz.prog 168 [.int .i64 b, .int .i64 r, .int .i64 m, enV e] [] (fun v As => v = .tuple #[shV (W.own b r m e), .bool (W.ok b r m e)] ∧ As = []) := by
 refine Fn.enter [0, 0, 0, 0] Tryz.func168 rfl rfl rfl fun X F hX => ?_
 refine J.q hX fun b1 => ?_
 refine J.cb hX (f9_May (W.sh b r m e) h) [] ?_
 refine cpq ⟨_, rfl, trivial, ?_⟩
 refine J.q hX fun b3 => ?_
 refine J.cond rfl (fun h1 => ?_) (fun h1 => ?_)
 ·simp only [Bool.not_eq_true'] at h1
  refine J.q hX fun b4 => ?_
  refine J.ru hX [] ?_
  exact ⟨by rw [W.own, W.ok, h1]; rfl, rfl⟩
 ·simp only [Bool.not_eq_false'] at h1
  refine J.q hX fun b5 => ?_
  refine J.ru hX [] ?_
  exact ⟨by rw [W.own, W.ok, h1]; rfl, rfl⟩
namespace F9
def xo (m n : Int) : Int := IntKind.i64.wrap ((BitVec.ofInt IntKind.i64.bits m ^^^ BitVec.ofInt IntKind.i64.bits n).toNat : Int)
def mixS (a b : Sh) (k : Nat) : Sh := ⟨W.mix a.data b.data k, a.role, a.lpn, a.seq, a.kind, a.block, a.row, a.mask⟩
def over (a b : Sh) : Sh := ⟨W.mix a.data b.data 16, xo a.role b.role, xo a.lpn b.lpn, xo a.seq b.seq, a.kind, a.block, a.row, a.mask⟩
end F9
theorem shL_get {s : Sh} (h : s.data.length = 16) {k : Nat} (hk : k < 16) : (shL s)[k]? = some (bv (s.data.getD k 0)) := by
 have e : shL s = dataC s.data ++ [.int .i64 s.role, .int .i64 s.lpn, .int .i64 s.seq, .int .i64 s.kind, .int .i64 s.block, .int .i64 s.row, .int .i64 s.mask] := rfl
 rw [e, List.getElem?_append_left (by show k < 16; exact hk), dataC_get h hk]
theorem shL_set {a b : Sh} (ha : a.data.length = 16) (hb : b.data.length = 16) {k : Nat} (hk : k < 16) : (shL (F9.mixS a b k)).set k (bv (a.data.getD k 0 ^^^ b.data.getD k 0)) = shL (F9.mixS a b (k + 1)) := by
 have e : ∀ s : Sh, shL s = dataC s.data ++ [.int .i64 s.role, .int .i64 s.lpn, .int .i64 s.seq, .int .i64 s.kind, .int .i64 s.block, .int .i64 s.row, .int .i64 s.mask] := fun s => rfl
 rw [e, e, List.set_append_left _ _ (by show k < 16; exact hk)]
 show (dataC (W.mix a.data b.data k)).set k _ ++ _ = dataC (W.mix a.data b.data (k + 1)) ++ _
 rw [dataC_set (mix_len ha hb k (by omega)), mix_set ha hb hk]
 rfl
theorem f9_over (a b : Sh) (ha : a.data.length = 16) (hb : b.data.length = 16) : Fn Tryz.prog 167 [shV a, shV b] [] (fun v As => v = shV (F9.over a b) ∧ As = []) := by
 refine Fn.enter [0, 0] Tryz.func167 rfl rfl rfl fun X F hX => ?_
 refine J.q hX fun bb => ?_
 refine J.lo (α := Nat) (fun i => i ≤ 16) (fun i => [⟨5, .int .i64 i, 0, .tt⟩, ⟨2, .pointer (some ⟨bb 0, 0, none⟩), 2, .tt⟩, ⟨3, .pointer (some ⟨bb (0 + 1), 0, none⟩), 3, .tt⟩, ⟨4, .pointer (some ⟨bb (0 + 1 + 1), 0, none⟩), 4, .tt⟩]) [1] (fun i => [.pt (bb 0) 132 (shL (F9.mixS a b i))]) (fun i => 16 - i) (0) (Nat.zero_le _) rfl ?_ (fun _ => rfl) fun i hI => ?_
 ·rw [show F9.mixS a b 0 = a from by simp [F9.mixS, W.mix]]; rfl
 have hml := mix_len ha hb i hI
 refine J.q hX fun b7 => ?_
 refine J.cond rfl (fun h2 => ?_) (fun h2 => ?_)
 ·simp only [decide_eq_true_eq] at h2
  have h3 : i < 16 := by omega
  refine J.q hX fun b8 => ?_
  refine J.plan (.of [0,4,8,13,16,20,24,29,32,36,40,47]) [10,11] [1,2,3] (by rw [hX.hP]; kernel_rfl) (by kernel_rfl) ?_
  refine J.q hX fun b9 => ?_
  refine J.valT hX (bv (a.data.getD i 0)) 0 rfl rfl (fun hg a w he hC => ?_) rfl ?_
  ·exact load1_run tk rfl rfl he hg rfl rfl (hC rfl _ (cget_mem (i := 1) rfl)) (by rw [show 0 + 0 + (i : Int).toNat * 1 = i from by omega, shL_get hml h3]; exact congrArg (fun z => some (bv z)) (mix_get ha hb h3))
  refine J.q hX fun b10 => ?_
  refine J.valT hX (bv (b.data.getD i 0)) 0 rfl rfl (fun hg a w he hC => ?_) rfl ?_
  ·exact load1_run tk rfl rfl he hg rfl rfl (hC rfl _ (cget_mem (i := 2) rfl)) (by rw [show 0 + 0 + (i : Int).toNat * 1 = i from by omega]; exact shL_get hb h3)
  refine J.q hX fun b11 => ?_
  refine J.store1 hX tk 1 rfl rfl rfl rfl rfl rfl rfl rfl rfl rfl rfl rfl rfl ?_ (shL (F9.mixS a b (i + 1))) ?_ rfl (fun _ => rfl) ⟨trivial, ?_⟩
  ·show 0 + 0 + (i : Int).toNat * 1 < 23
   omega
  ·rw [show 0 + 0 + (i : Int).toNat * 1 = i from by omega, xor_u8b]
   exact shL_set ha hb h3
  refine J.q hX fun b12 => ?_
  refine J.nx (i + 1) (by omega) (by omega) (fun _ s => s)
 ·simp only [decide_eq_false_iff_not] at h2
  obtain rfl : i = 16 := by omega
  refine J.q hX fun b13 => ?_
  refine J.plan (.take true 0 (.take true 2 (.take false 3 (.take true 5 (.take true 7 (.take false 8 (.take true 10 (.take true 12 (.take false 13 (.alt false 1 ((.take true 4 (.alt false 6 ((.of [36,46,56,60,66,68,74,76,83])) (.alt false 11 ((.of [56,26,36,60,66,68,74,76,83])) .non)))) (.alt false 6 ((.take true 9 (.alt false 1 ((.of [16,46,56,60,66,68,74,76,83])) (.alt false 11 ((.of [56,6,16,60,66,68,74,76,83])) .non)))) (.alt false 11 ((.take true 14 (.alt false 1 ((.of [16,26,36,60,66,68,74,76,83])) (.alt false 6 ((.of [36,6,16,60,66,68,74,76,83])) .non)))) .non)))))))))))) [19,20] [2,3] (by rw [hX.hP]; kernel_rfl) (by kernel_rfl) ?_
  refine J.q hX fun b14 => ?_
  refine J.alts ?_ (J.alts ?_ ?_)
  all_goals skip
  ·skip
   refine J.q hX fun b15 => ?_
   refine J.alts ?_ ?_
   ·skip
    refine J.q hX fun b16 => ?_
    exact J.ru hX [] ⟨rfl, rfl⟩
   ·skip
    refine J.q hX fun b17 => ?_
    exact J.ru hX [] ⟨rfl, rfl⟩
  ·skip
   refine J.q hX fun b18 => ?_
   refine J.alts ?_ ?_
   ·skip
    refine J.q hX fun b19 => ?_
    exact J.ru hX [] ⟨rfl, rfl⟩
   ·skip
    refine J.q hX fun b20 => ?_
    exact J.ru hX [] ⟨rfl, rfl⟩
  ·skip
   refine J.q hX fun b21 => ?_
   refine J.alts ?_ ?_
   ·skip
    refine J.q hX fun b22 => ?_
    exact J.ru hX [] ⟨rfl, rfl⟩
   ·skip
    refine J.q hX fun b23 => ?_
    exact J.ru hX [] ⟨rfl, rfl⟩
theorem slots_dI (m : Int) : (if 2 ≤ (dI m).length then ((dI m).length : Int) - 1 else 0) = G.slots m := by
 rw [dI_count, G.slots]
 by_cases h : L.count m < 2
 ·rw [if_pos h, if_neg (by omega)]
 ·rw [if_neg h, if_pos (by omega)]
theorem dI_dies (m : Int) : dI m = (L.dies m).map (fun d : Nat => (d : Int)) := by
 unfold dI dsk L.dies
 congr 1
 cases hs : L.set m with
 | false =>
  rw [if_neg (by simp)]
  refine List.filter_eq_nil_iff.2 fun d _ => ?_
  simp [L.has, hs]
 | true =>
  rw [if_pos rfl]
  refine List.filter_congr fun d hd => ?_
  rw [List.mem_range] at hd
  simp [L.has, hs, hd]
  omega
theorem dI_at (m : Int) (i : Nat) (hi : i < L.count m) : (dI m)[i]? = some (L.at_ m i) := by
 have h1 : i < (L.dies m).length := hi
 rw [dI_dies, List.getElem?_map, L.at_, if_pos (by omega), Int.toNat_natCast, List.getElem?_eq_getElem h1]
 rfl
theorem par_idx (b r c : Int) (hb : 0 ≤ b) (hr : 0 ≤ r) (hc : 0 < c) : (b.tmod c + r.tmod c).tmod c = (b + r) % c ∧ (0 ≤ b.tmod c ∧ b.tmod c < c) ∧ (0 ≤ r.tmod c ∧ r.tmod c < c) := by
 rw [Int.tmod_eq_emod_of_nonneg hb, Int.tmod_eq_emod_of_nonneg hr]
 have h1 := Int.emod_nonneg b (show c ≠ 0 by omega)
 have h2 := Int.emod_nonneg r (show c ≠ 0 by omega)
 have h3 := Int.emod_lt_of_pos b hc
 have h4 := Int.emod_lt_of_pos r hc
 refine ⟨?_, ⟨h1, h3⟩, h2, h4⟩
 rw [Int.tmod_eq_emod_of_nonneg (by omega), ← Int.add_emod]
theorem f6_Parity (m b r : Int) : Fn Tryz.prog 123 [.int .i64 m, .int .i64 b, .int .i64 r] [] (fun v As => v = .int .i64 (G.parity m b r) ∧ As = []) := by
 have hcnt := dI_count m
 have hc8 := L.count_le m
 refine Fn.enter [0, 0, 0] Tryz.func123 rfl rfl rfl fun X F hX => ?_
 refine J.q hX fun b1 => ?_
 refine J.cb hX (f1_Dies m) [] ?_
 rintro v As ⟨a, c, rfl, rfl⟩
 refine ⟨_, rfl, trivial, ?_⟩
 rw [hcnt]
 refine J.q hX fun b3 => ?_
 refine J.cond rfl (fun h1 => ?_) (fun h1 => ?_)
 ·refine J.q hX fun b4 => ?_
  refine J.ru hX [] ?_
  refine ⟨?_, rfl⟩
  unfold G.parity
  rw [if_pos]
  simp only [Bool.or_eq_true, decide_eq_true_eq] at h1
  omega
 ·simp only [Bool.or_eq_false_iff, decide_eq_false_iff_not] at h1
  obtain ⟨⟨h1, h2⟩, h3⟩ := h1
  have hp : G.parity m b r = L.at_ m ((b + r) % (L.count m : Int)) := by unfold G.parity; rw [if_neg (by omega)]
  obtain ⟨e1, e2, e3⟩ := par_idx b r (L.count m) (by omega) (by omega) (by omega)
  have e4 := Int.emod_nonneg (b + r) (show (L.count m : Int) ≠ 0 by omega)
  have e5 := Int.emod_lt_of_pos (b + r) (show 0 < (L.count m : Int) by omega)
  obtain ⟨i, hi⟩ := Int.eq_ofNat_of_zero_le e4
  rw [hi] at e1 e5 hp
  have hat := dI_at m i (by omega)
  refine J.know (fun h' s => own_some (c := (a, c)) (by omega) (s.get (i := 1) rfl)) fun hg => ?_
  obtain ⟨g1, rfl⟩ := hg
  have e6 := tm_bd b (L.count m) (by omega)
  refine J.q hX fun b5 => ?_
  refine J.plan (.of [0,4,8,12,16,20,24,28,32,36,40,44,48,52,57,60]) [15] [1] (by rw [hX.hP]; kernel_rfl) (by kernel_rfl) ?_
  refine J.qn hX 13 fun b6 => ?_
  rw [e1]
  refine J.q hX fun b7 => ?_
  refine J.valT hX (.int .i64 (L.at_ m (i : Nat))) 0 rfl rfl (fun hg a w he hC => own1_run tk rfl rfl he rfl rfl rfl (hC rfl _ (cget_mem (i := 1) rfl)) (by rw [show 0 + (i : Int).toNat * 1 = i from by omega]; exact cellsI_get hat)) rfl ?_
  refine J.q hX fun b8 => ?_
  refine J.ru hX [] ?_
  exact ⟨by rw [hp], rfl⟩
theorem spot_mem (l : List Int) (d : Int) : decide (spotI l d ≥ 0) = decide (d ∈ l) := by
 induction l with
 | nil => rfl
 | cons x l ih =>
  unfold spotI
  by_cases h : x = d
  ·rw [if_pos h, decide_eq_true (by decide : (0 : Int) ≥ 0), decide_eq_true (by rw [h]; exact List.mem_cons_self)]
  ·rw [if_neg h]
   by_cases h2 : d ∈ l
   ·rw [decide_eq_true h2] at ih
    have := of_decide_eq_true ih
    rw [if_neg (by omega), decide_eq_true (by omega), decide_eq_true (List.mem_cons_of_mem _ h2)]
   ·rw [decide_eq_false h2] at ih
    have := of_decide_eq_false ih
    rw [if_pos (by omega), decide_eq_false (by omega), decide_eq_false (by
     intro hm
     rcases List.mem_cons.1 hm with e | e
     ·exact h e.symm
     ·exact h2 e)]
theorem spot_hasI (m d : Int) : decide (spotI (dI m) d ≥ 0) = L.has m d := by
 have hmem : d ∈ dI m ↔ L.has m d = true := by
  unfold dI dsk
  constructor
  ·intro h
   obtain ⟨k, hk, e⟩ := List.mem_map.1 h
   subst e
   exact (List.mem_filter.1 hk).2
  ·intro h
   have h8 := L.has_lt m d h
   obtain ⟨k, rfl⟩ := Int.eq_ofNat_of_zero_le h8.1
   exact List.mem_map.2 ⟨k, List.mem_filter.2 ⟨List.mem_range.2 (by omega), h⟩, rfl⟩
 rw [spot_mem, decide_eq_decide.2 hmem]
 exact Bool.decide_coe _
theorem f9_Look (p : Nat) (N : Nand) (hN : N.Ok) (hR : N.Room) (x y z : Int) : Fn Tryz.prog 122 [.pointer (some ⟨p, 0, none⟩), .agg #[.int .i64 x, .int .i64 y, .int .i64 z]] [NandA p N]
  (fun v As => v = .tuple #[shV (M.look N x y z).1, .int .i64 (M.look N x y z).2] ∧ As = [NandA p N]) := by
 refine Fn.enter [2, 0] Tryz.func122 rfl rfl rfl fun X F hX => ?_
 refine J.q hX fun b1 => ?_
 refine J.cb hX (n_Read p N hN x y z) [1] ?_
 refine cpq ⟨_, rfl, trivial, ?_⟩
 have hl0 : ∀ e, N.readE x y z = e → e ≠ 0 → M.look N x y z = if e = 5 then (Sh.zero, 2) else if e = 8 ∨ e = 9 ∨ e = 3 ∨ e = 12 then (Sh.zero, 4) else (Sh.zero, 3) := fun e he h => by
  simp only [M.look]; rw [he, if_neg h]
 have hlk : N.readE x y z = 0 → M.look N x y z = if S.getE (N.readV x y z) ≠ 0 ∨ M.bad (S.getV (N.readV x y z)) x y z = true then (Sh.zero, 3) else (S.getV (N.readV x y z), 1) := fun h1 => by simp only [M.look]; rw [if_pos h1]
 have hvl := readV_len hN x y z
 generalize N.readE x y z = e at hl0 hlk
 refine J.q hX fun b3 => ?_
 refine J.cond rfl (fun h1 => ?_) (fun h1 => ?_)
 ·simp only [beq_iff_eq] at h1
  subst h1
  refine J.q hX fun b4 => ?_
  refine J.ru hX [1] ?_
  rw [hl0 5 rfl (by decide)]
  exact ⟨rfl, rfl⟩
 have H4 : e = 8 ∨ e = 9 ∨ e = 3 ∨ e = 12 → M.look N x y z = (Sh.zero, 4) := fun h => by
  rw [hl0 e rfl (by omega), if_neg (by omega), if_pos h]
 refine J.q hX fun b5 => ?_
 refine J.cond rfl (fun h2 => ?_) (fun h2 => ?_)
 ·rw [h2]
  refine J.q hX fun b6 => ?_
  refine J.cT ?_
  simp only [beq_iff_eq] at h2
  refine J.q hX fun b7 => ?_
  refine J.ru hX [1] ?_
  rw [H4 (.inl h2)]
  exact ⟨rfl, rfl⟩
 refine J.q hX fun b8 => ?_
 refine J.cond rfl (fun h3 => ?_) (fun h3 => ?_)
 ·rw [h3]
  refine J.q hX fun b9 => ?_
  refine J.cT ?_
  simp only [beq_iff_eq] at h3
  refine J.q hX fun b10 => ?_
  refine J.ru hX [1] ?_
  rw [H4 (.inr (.inl h3))]
  exact ⟨rfl, rfl⟩
 refine J.q hX fun b11 => ?_
 refine J.cond rfl (fun h4 => ?_) (fun h4 => ?_)
 ·rw [h4]
  refine J.q hX fun b12 => ?_
  refine J.cT ?_
  simp only [beq_iff_eq] at h4
  refine J.q hX fun b13 => ?_
  refine J.ru hX [1] ?_
  rw [H4 (.inr (.inr (.inl h4)))]
  exact ⟨rfl, rfl⟩
 refine J.q hX fun b14 => ?_
 refine J.cond rfl (fun h5 => ?_) (fun h5 => ?_)
 ·simp only [beq_iff_eq] at h5
  refine J.q hX fun b15 => ?_
  refine J.ru hX [1] ?_
  rw [H4 (.inr (.inr (.inr h5)))]
  exact ⟨rfl, rfl⟩
 refine J.q hX fun b16 => ?_
 refine J.cond rfl (fun h6 => ?_) (fun h6 => ?_)
 ·simp only [beq_iff_eq] at h6
  have hlk := hlk h6
  refine J.q hX fun b17 => ?_
  refine J.cb hX (f9_Get (N.readV x y z) hvl) [] ?_
  refine cpq ⟨_, rfl, trivial, ?_⟩
  refine J.q hX fun b19 => ?_
  refine J.plan (.of [0,5,8,13,16,21,28,33,26,36,40]) [9,10] [1,2,3,4,5] (by rw [hX.hP]; kernel_rfl) (by kernel_rfl) ?_
  refine J.q hX fun b20 => ?_
  refine J.cb hX (f6_Parity (S.getV (N.readV x y z)).mask (S.getV (N.readV x y z)).block (S.getV (N.readV x y z)).row) [] ?_
  refine cpq ⟨_, rfl, ⟨rfl, rfl, rfl, rfl, rfl, trivial⟩, ?_⟩
  have hgE : S.getE (N.readV x y z) = if (S.get (N.readV x y z)).isSome then 0 else 1 := rfl
  generalize S.getE (N.readV x y z) = ge at hlk hgE
  generalize (S.get (N.readV x y z)).isSome = gs at hgE
  generalize S.getV (N.readV x y z) = s at hlk
  refine J.q hX fun b22 => ?_
  refine J.gcase hX rfl rfl rfl trivial (fun hb => ?_) (fun hb => ?_)
  ·rw [hb]
   refine J.q hX fun b23 => ?_
   refine J.cb hX (f1_Spot s.mask x) [] ?_
   refine cpq ⟨_, rfl, trivial, ?_⟩
   have hsp := spot_hasI s.mask x
   refine J.q hX fun b24 => ?_
   rw [hsp]
   simp only [Bool.and_eq_true, beq_iff_eq] at hb
   have hge : ge = 0 := by rw [hgE, if_pos hb.1.1]
   refine J.q hX fun b25 => ?_
   refine J.cond rfl (fun h7 => ?_) (fun h7 => ?_)
   ·have hc : ¬(ge ≠ 0 ∨ M.bad s x y z = true) := by
     have : M.bad s x y z = false := by
      unfold M.bad
      simp only [Bool.true_and, Bool.and_eq_true] at h7
      rw [h7.1]
      have h8 := h7.2
      rw [beq_iff_eq] at h8
      rw [h8, hb.1.2, hb.2]
      simp
     rw [this, hge]; simp
    refine J.q hX fun b26 => ?_
    refine J.ru hX [1] ?_
    rw [hlk, if_neg hc]
    exact ⟨rfl, rfl⟩
   ·have hc : ge ≠ 0 ∨ M.bad s x y z = true := by
     right
     unfold M.bad
     rw [hb.1.2, hb.2]
     cases hh : L.has s.mask x with
     | false => simp
     | true =>
      rw [hh] at h7
      simp only [Bool.true_and] at h7
      rw [beq_eq_false_iff_ne, hb.1.2, hb.2] at h7
      simpa using h7
    refine J.q hX fun b27 => ?_
    refine J.ru hX [1] ?_
    rw [hlk, if_pos hc]
    exact ⟨rfl, rfl⟩
  ·rw [hb]
   refine J.q hX fun b28 => ?_
   refine J.val hX (.bool false) 0 rfl rfl (fun hg a w he hw => by simp [G.on] at hg) rfl trivial ?_
   have hc : ge ≠ 0 ∨ M.bad s x y z = true := by
    cases gs with
    | false => left; rw [hgE]; decide
    | true =>
     right
     rw [Bool.true_and, Bool.and_eq_false_iff] at hb
     unfold M.bad
     rcases hb with h | h
     ·rw [beq_eq_false_iff_ne] at h; simp [h]
     ·rw [beq_eq_false_iff_ne] at h; simp [h]
   refine J.q hX fun b29 => ?_
   refine J.cond rfl (fun h7 => ?_) (fun h7 => ?_)
   ·simp at h7
   ·refine J.q hX fun b30 => ?_
    refine J.ru hX [1] ?_
    rw [hlk, if_pos hc]
    exact ⟨rfl, rfl⟩
 simp only [beq_eq_false_iff_ne, ne_eq] at h1 h2 h3 h4 h5 h6
 refine J.q hX fun b31 => ?_
 refine J.ru hX [1] ?_
 rw [hl0 e rfl h6, if_neg h1, if_neg (by omega)]
 exact ⟨rfl, rfl⟩
theorem f9_entry (s : Sh) : Fn Tryz.prog 79 [shV s] [] (fun v As => v = enV s.en ∧ As = []) := by
 refine Fn.enter [0] Tryz.func79 rfl rfl rfl fun X F hX => ?_
 refine J.q hX fun b32 => ?_
 exact J.ru hX [] ⟨rfl, rfl⟩
theorem f9_one (p : Nat) (N : Nand) (hN : N.Ok) (hR : N.Room) (b r m d : Int) : Fn Tryz.prog 78 [.pointer (some ⟨p, 0, none⟩), .int .i64 b, .int .i64 r, .int .i64 m, .int .i64 d] [NandA p N]
  (fun v As => v = .tuple #[shV (R.one N b r m d).1, .bool (R.one N b r m d).2] ∧ As = [NandA p N]) := by
 refine Fn.enter [2, 0, 0, 0, 0] Tryz.func78 rfl rfl rfl fun X F hX => ?_
 refine J.q hX fun b33 => ?_
 refine J.cb hX (f9_Look p N hN hR d b r) [1] ?_
 refine cpq ⟨_, rfl, trivial, ?_⟩
 refine J.q hX fun b35 => ?_
 refine J.plan (.of [1,4,8,12,16,21,24,28,32,38,40]) [10] [1,3] (by rw [hX.hP]; kernel_rfl) (by kernel_rfl) ?_
 refine J.q hX fun b36 => ?_
 exact J.ru hX [1] ⟨rfl, rfl⟩
namespace T2
end T2
end Go.Proofs.YtdocmcapegcoeaaGreat
namespace Go.Proofs.YtdocmcapegcoeaaGreat
open Go
structure Nand.Lit (N : Nand) : Prop where
 off : N.off = false
 cuts : N.cuts = false
namespace Nand
theorem Lit.cutB {N : Nand} (h : N.Lit) : N.cutB = false := by unfold Nand.cutB; rw [h.cuts]; rfl
theorem Lit.cutN {N : Nand} (h : N.Lit) : N.cutN.Lit := by
 constructor
 ·show (if N.cutB then true else N.off) = false
  rw [h.cutB]; exact h.off
 ·show (if N.cutB then false else N.cuts) = false
  rw [h.cutB]; exact h.cuts
theorem Lit.new (d b p : Nat) : (Nand.new d b p).Lit := ⟨rfl, rfl⟩
theorem Lit.prog {N : Nand} (h : N.Lit) (x y z : Int) (pg : List UInt8) : (N.progN x y z pg).Lit := by
 unfold Nand.progN
 split
 ·exact h
 ·split
  ·exact ⟨h.off, h.cuts⟩
  ·rw [h.cutB]
   exact ⟨h.cutN.off, h.cutN.cuts⟩
end Nand
end Go.Proofs.YtdocmcapegcoeaaGreat
namespace Go.Proofs.YtdocmcapegcoeaaGreat
open Go Go.RowKit
open Go.ChangeShapes Go.WideShapes
def frz (W : World) : Atom := .hp ⟨Hle (hl W), fun _ _ l s => s.trans l⟩
theorem frz_rd {W : World} {a : Option Addr} {size n : Nat} {xs : List Value} (h : rdP a size n xs (hl W)) : Rd (frz W) a size n xs := fun _ s => h.up s
theorem Fn.whole {P : Program} {f : FuncId} {args : List Value} {r : Value} {W : World} (h : Fn P f args [frz W] (fun v As => v = r ∧ As = [frz W])) : Calls P f args.toArray W fun e w' => e = .returned r ∧ Below W.heap.size W w' := by
 have hs : Sep (.hp ⟨fun _ => True, fun _ _ _ s => s⟩ :: [frz W]) (hl W) := by
  refine ⟨fun _ => 1, fun i A hA => ?_⟩
  match i, hA with
  | 0, hA => simp at hA; subst hA; trivial
  | 1, hA =>
   simp at hA; subst hA
   intro b o hb
   exact res_some.2 ⟨rfl, hb⟩
  | i + 2, hA => simp at hA
 refine (h _ W hs).mono fun e w' ⟨v, As, e1, ⟨e2, e3⟩, s, x⟩ => ?_
 subst e2 e3
 have hle : Hle (hl W) (hl w') := s.get (i := 1) rfl
 refine ⟨e1, x.os, x.tape, x.output, x.size, fun k hk => ?_⟩
 have : W.heap[k]? = some W.heap[k] := Array.getElem?_eq_getElem hk
 rw [this]
 exact hle k _ this
theorem rd_none {size : Nat} {h : Hl} : rdP none size 0 [] h := ⟨by simp, fun h => absurd h (by omega)⟩
theorem rd_open {α : Type} {W : World} {base size n : Nat} {a : Addr} (f : α → List Value) (hsz : 0 < size)
  (h : ∀ i, i < n → ∃ x, W.cells? base (a.add (i * size)) size = some (f x)) : ∃ l : List α, l.length = n ∧ rdP (some a) size n (l.flatMap f) (hl W) := by
 have h1 : ∀ m, m ≤ n → ∃ l : List α, l.length = m ∧ (l.flatMap f).length = m * size ∧ ∀ i, i < m * size → W.cell? (a.add i) = (l.flatMap f)[i]? := by
  intro m
  induction m with
  | zero => exact fun _ => ⟨[], rfl, by simp, fun i hi => by omega⟩
  | succ m ih =>
   intro hm
   obtain ⟨l, e1, e2, e3⟩ := ih (by omega)
   obtain ⟨x, hx⟩ := h m (by omega)
   obtain ⟨_, q1, q2⟩ := World.cells?_some hx
   have hlen : ((l ++ [x]).flatMap f).length = (m + 1) * size := by simp [List.flatMap_append, e2, q1, Nat.succ_mul]
   refine ⟨l ++ [x], by simp [e1], hlen, fun i hi => ?_⟩
   rw [List.flatMap_append, List.getElem?_append, e2]
   split
   ·exact e3 i (by assumption)
   ·rename_i hge
    have := q2 (i - m * size) (by rw [Nat.succ_mul] at hi; omega)
    rw [Deep.add_add, show m * size + (i - m * size) = i by omega] at this
    rw [this]; simp
 obtain ⟨l, e1, e2, e3⟩ := h1 n (Nat.le_refl n)
 refine ⟨l, e1, e2, fun hn => ?_⟩
 obtain ⟨b, o, sp⟩ := a
 have hpos : 0 < n * size := Nat.mul_pos hn hsz
 have h0 := e3 0 hpos
 have hv : (l.flatMap f)[0]? = some ((l.flatMap f)[0]'(by omega)) := List.getElem?_eq_getElem _
 rw [hv] at h0
 have hsp : sp = none := by simpa [Addr.add] using World.cell?_spot h0
 subst hsp
 have hcell : ∀ i, W.cell? ⟨b, o + i, none⟩ = W.cell? ((⟨b, o, none⟩ : Addr).add i) := fun i => by rw [Addr.add_none]
 have hblk : ∃ cs ty fr, W.heap[b]? = some (.cells cs ty fr) := by
  unfold World.cell? at h0
  cases hh : W.heap[b]? with
  | none => simp [Addr.add, hh] at h0
  | some ob =>
   cases ob with
   | cells cs ty fr => exact ⟨cs, ty, fr, rfl⟩
   | _ => simp [Addr.add, hh] at h0
 obtain ⟨cs, ty, fr, hh⟩ := hblk
 refine ⟨b, o, cs, ty, fr, rfl, hh, ?_⟩
 apply List.ext_getElem?
 intro i
 rw [List.getElem?_take]
 split
 ·rename_i hi
  rw [← e3 i hi, ← hcell, cell_of_row W b (o + i) cs ty fr hh]
  simp
 ·rename_i hi
  exact (List.getElem?_eq_none (by omega)).symm
section
variable {H : Type} {enc : TypeId × Value → H} {w : World} {base : Nat} {spare : Nat → Bool} {held : Bool}
theorem one_i64 {t : TypeId} (ht : Tryz.prog.underlying t = some (.int .i64)) {fuel : Nat} {cs : List Value} {y : DataW H × List MemPlace} (h : DataW.trod enc Tryz.prog w base spare held fuel t cs = some y) : ∃ n, cs = [.int .i64 n] := by
 obtain ⟨n, rfl, _, _⟩ := DataW.trod_int ht h
 exact ⟨n, rfl⟩
end
end Go.Proofs.YtdocmcapegcoeaaGreat
namespace Go.Proofs.YtdocmcapegcoeaaGreat
open Go Go.RowKit
open Go.ChangeShapes Go.WideShapes Go.ChangeAt
section
variable {H : Type} {enc : TypeId × Value → H} {w : World} {base : Nat} {spare : Nat → Bool} {held : Bool}
theorem open_many {α : Type} {held' : Bool} {fuel : Nat} {st et : TypeId} {size : Nat} (f : α → List Value) (good : α → Prop) (hu : Tryz.prog.underlying st = some (.slice et)) (hc : Tryz.prog.cellsOf et = size) (hsz : 0 < size)
  (hof : ∀ {fuel : Nat} {held : Bool} {cs : List Value} {y : DataW H × List MemPlace}, DataW.trod enc Tryz.prog w base spare held fuel et cs = some y → ∃ x : α, good x ∧ cs = f x)
  {a : Option Addr} {len cap : Nat} {x : DataW H × List MemPlace} (h : DataW.trod enc Tryz.prog w base spare held' fuel st [.slice a len cap] = some x) :
  ∃ l : List α, l.length = len ∧ (∀ e ∈ l, good e) ∧ rdP a size len (l.flatMap f) (hl w) := by
 rcases Deep.open_slice hu h with ⟨hcs, _⟩ | ⟨a', len', cap', m, n, D, Pl, hcs, hb, hlc, hm, hmm, rfl, hx⟩
 ·simp at hcs
  obtain ⟨rfl, rfl, rfl⟩ := hcs
  exact ⟨[], rfl, fun _ h => by simp at h, rd_none⟩
 ·simp at hcs
  obtain ⟨rfl, rfl, rfl⟩ := hcs
  rw [hc] at hx
  obtain ⟨l, e1, e2⟩ := rd_open (W := w) (base := base) (size := size) (n := len) (a := a') (fun e : { e : α // good e } => f e.1) hsz (fun i hi => by
   obtain ⟨cs, q1, q2⟩ := hx i (by rw [hmm]; split <;> omega)
   obtain ⟨e, he, rfl⟩ := hof q2
   exact ⟨⟨e, he⟩, q1⟩)
  refine ⟨l.map (·.1), by simpa using e1, fun e he => ?_, ?_⟩
  ·obtain ⟨x, _, rfl⟩ := List.mem_map.1 he
   exact x.2
  ·rw [List.flatMap_map]
   exact e2
end
end Go.Proofs.YtdocmcapegcoeaaGreat
namespace Go.Proofs.YtdocmcapegcoeaaGreat
open Go Go.RowKit
open Go.ChangeShapes Go.WideShapes Go.ChangeAt
section
variable {H : Type} {enc : TypeId × Value → H} {w : World} {base : Nat} {spare : Nat → Bool} {held : Bool}
theorem int_of {fuel : Nat} {cs : List Value} {y : DataW H × List MemPlace} (h : DataW.trod enc Tryz.prog w base spare held fuel 3 cs = some y) : ∃ x : Int, (-9223372036854775808 ≤ x ∧ x ≤ 9223372036854775807) ∧ cs = [.int .i64 x] := by
 obtain ⟨n, rfl, _, hw⟩ := DataW.trod_int Tryz.underlying3 h
 refine ⟨n, ?_, rfl⟩
 simpa [Lit.wf, IntKind.min, IntKind.max, IntKind.signed, IntKind.bits] using hw
theorem open_ints {held' : Bool} {fuel : Nat} {a : Option Addr} {len cap : Nat} {x : DataW H × List MemPlace} (h : DataW.trod enc Tryz.prog w base spare held' fuel 24 [.slice a len cap] = some x) :
  ∃ l : List Int, l.length = len ∧ (∀ e ∈ l, -9223372036854775808 ≤ e ∧ e ≤ 9223372036854775807) ∧ rdP a 1 len (l.flatMap fun x => [.int .i64 x]) (hl w) :=
 open_many (fun x : Int => [.int .i64 x]) (fun x => -9223372036854775808 ≤ x ∧ x ≤ 9223372036854775807) Tryz.underlying24 (by kernel_rfl) (by decide) int_of h
end
end Go.Proofs.YtdocmcapegcoeaaGreat
namespace Go.Proofs.YtdocmcapegcoeaaGreat
open Go Go.RowKit
def rdA (a : Option Addr) (size n : Nat) (xs : List Value) : Atom := .hp ⟨rdP a size n xs, fun _ _ l s => s.up l⟩
theorem rdA_rd (a : Option Addr) (size n : Nat) (xs : List Value) : Rd (rdA a size n xs) a size n xs := fun _ s => s
def oad2 : Option (Nat × Nat) → Option Addr
 | some x => some ⟨x.1, x.2, none⟩
 | none => none
def cutA (a : Option (Nat × Nat)) (size h c : Nat) : Option (Nat × Nat) := match a with
 | some y => if c = h then some y else some (y.1, y.2 + h * size)
 | none => none
section
variable {P : Program} {T : Tab} {E : Env} {n : Nat} {ac : Act} {w : World}
theorem cutlo2_run (hT : TabOK P T) {o : Oper} {t e size : Nat} {x y : Operand} {k1 k2 t1 t2 : Nat} {g1 g2 : G} {a : Option (Nat × Nat)} {m c h : Nat} {kk : IntKind} {hI : Int} {s1 b1 b2 : Nat} {z1 z2 : List Value} {td : TD} (hop : o.op = .slice t x (some y) none none) (hx : ev E x = some ⟨k1, .slice (oad2 a) m c, t1, g1⟩) (hy : ev E y = some ⟨k2, .int kk hI, t2, g2⟩) (he : EnvOK n E ac) (v1 : g1.on = true) (v2 : g2.on = true)
  (ht : T.get t = some ⟨.slice e size, s1, z1, b1⟩) (hte : T.get e = some ⟨td, size, z2, b2⟩) (hhI : hI = (h : Int)) (hh : h ≤ m) :
  (execOp ac.eval o).run P w = .ok (.value (.slice (oad2 (cutA a size h c)) (m - h) (c - h))) w := by
 subst hhI
 have e1 := ev_spec he hx
 have e2 := ev_spec he hy
 simp only [Slot.val, v1, v2] at e1 e2
 obtain ⟨d, f, zv, ok⟩ := tiOf_spec (hT.get ht)
 obtain ⟨fe, rfl, g1, g2⟩ := ok.slice rfl
 cases a with
 | none =>
  simp only [execOp, hop, Option.map_some, Option.map_none, e1, e2, Instr.sliceAt, Instr.slice, Instr.sliceBounds, Instr.sliceBound, asIntOf, Sem.run_bind, Sem.run_pure, Result.andThen_ok, underlying_run ok.hd, sizeOf_run g1, g2]
  simp [hh, oad2, cutA]
 | some ad =>
  by_cases hne : c = h
  ·simp only [execOp, hop, Option.map_some, Option.map_none, e1, e2, Instr.sliceAt, Instr.slice, Instr.sliceBounds, Instr.sliceBound, asIntOf, Sem.run_bind, Sem.run_pure, Result.andThen_ok, underlying_run ok.hd, sizeOf_run g1, g2]
   simp [hh, hne, Addr.add_none, oad2, cutA]
  ·simp only [execOp, hop, Option.map_some, Option.map_none, e1, e2, Instr.sliceAt, Instr.slice, Instr.sliceBounds, Instr.sliceBound, asIntOf, Sem.run_bind, Sem.run_pure, Result.andThen_ok, underlying_run ok.hd, sizeOf_run g1, g2]
   simp [hh, hne, Addr.add_none, oad2, cutA]
end
section
variable {X : Cx} {P : Program} {K : List KI} {E : Env} {L : List Atom} {N : Nat} {F : HP} {Post : Value → List Atom → Prop} {rs : List ResultVar} {T : Tab}
end
theorem rd_cutA {a : Option (Nat × Nat)} {size n c h : Nat} {xs : List Value} {hh : Hl} (s : rdP (oad2 a) size n xs hh) (hn : h ≤ n) (hc : n ≤ c) : rdP (oad2 (cutA a size h c)) size (n - h) (xs.drop (h * size)) hh := by
 cases a with
 | none =>
  refine ⟨by rw [List.length_drop, s.1, Nat.sub_mul], fun h0 => ?_⟩
  obtain ⟨b, o, _, _, _, e, _⟩ := s.2 (by omega)
  cases e
 | some y =>
  by_cases e : c = h
  ·refine ⟨by rw [List.length_drop, s.1, Nat.sub_mul], fun h0 => by omega⟩
  ·unfold cutA
   simp only [if_neg e]
   exact (rdA_rd (some ⟨y.1, y.2, none⟩) size n xs).drop h hn _ s
theorem ne_selfI (z : Int) : (z != z) = false := by simp
theorem cellsE_drop (L : List En) : ∀ k, (cellsE L).drop (k * 19) = cellsE (L.drop k) := by
 induction L with
 | nil => intro k; simp [cellsE]
 | cons x l ih =>
  intro k
  cases k with
  | zero => simp
  | succ k =>
   have e1 : cellsE (x :: l) = enL x ++ cellsE l := by simp [cellsE]
   rw [e1, List.drop_succ_cons, ← ih k, show (k + 1) * 19 = (enL x).length + k * 19 from by show _ = 19 + k * 19; omega, ← List.drop_drop, List.drop_left' rfl]
theorem rd_drop {a : Option (Nat × Nat)} {n c h : Nat} {L : List En} {hh : Hl} (s : rdP (oad2 a) 19 n (cellsE L) hh) (hl : L.length = n) (hn : h ≤ n) (hc : n ≤ c) : rdP (oad2 (cutA a 19 h c)) 19 (L.drop h).length (cellsE (L.drop h)) hh := by
 have := rd_cutA s hn hc
 rwa [cellsE_drop, ← hl, ← List.length_drop] at this
theorem cutA_none {a : Option (Nat × Nat)} {size h c : Nat} (hz : a = none → c = 0) : cutA a size h c = none → c - h = 0 := by
 cases a with
 | none => intro _; rw [hz rfl]; omega
 | some y => intro e; unfold cutA at e; simp only at e; split at e <;> cases e
theorem cellsI_flat (xs : List Int) : (xs.flatMap fun x => [Value.int .i64 x]) = cellsI xs := by
 induction xs with
 | nil => rfl
 | cons x xs ih => simp only [List.flatMap_cons, ih]; rfl
theorem mn_Torn (n t l p : Nat) (S : Dv) (k mm : Nat) (A : Atom) (a : Option (Nat × Nat)) (m c : Nat) (es : List En) (hA : Rd A (oad2 a) 19 m (cellsE es)) (hl : es.length = m) (hm : m ≤ 1000000) (hc : m ≤ c) (ha : a = none → c = 0) (hd : ∀ s ∈ es, s.data.length = 16) (hO : S.Ok (Dv.costT * m + k) mm) (hmm : mm ≤ 12) :
  Fn Tryz.prog 50 [.pointer (some ⟨n, 0, none⟩), .pointer (some ⟨t, 0, none⟩), .pointer (some ⟨l, 0, none⟩), .pointer (some ⟨p, 0, none⟩), .slice (oad2 a) m c] (DvP p n t l S ++ [A])
  (fun v As => v = .int .i64 (S.torn es).2 ∧ As = DvP p n t l (S.torn es).1 ++ [A]) := by
 subst hl
 refine Fn.enter [3, 4, 5, 2, 0] Tryz.func50 rfl rfl rfl fun X F hX => ?_
 refine J.q hX fun b1 => ?_
 refine J.lo (α := (Nat × Dv × List En × Option (Nat × Nat) × Nat)) (fun z => z.2.2.1.length ≤ z.1 ∧ z.2.2.1.length ≤ z.2.2.2.2 ∧ z.2.2.1.length ≤ 1000000 ∧ (z.2.2.2.1 = none → z.2.2.2.2 = 0) ∧ Rd A (oad2 z.2.2.2.1) 19 z.2.2.1.length (cellsE z.2.2.1) ∧ (∀ s ∈ z.2.2.1, s.data.length = 16) ∧ z.2.1.Ok (Dv.costT * z.1 + k) mm ∧ Dv.tornGo z.1 z.2.1 z.2.2.1 = S.torn es) (fun z => [⟨4, .slice (oad2 z.2.2.2.1) z.2.2.1.length z.2.2.2.2, 0, .tt⟩, ⟨0, .pointer (some ⟨n, 0, none⟩), 3, .tt⟩, ⟨1, .pointer (some ⟨t, 0, none⟩), 4, .tt⟩, ⟨2, .pointer (some ⟨l, 0, none⟩), 5, .tt⟩, ⟨3, .pointer (some ⟨p, 0, none⟩), 2, .tt⟩]) [1, 2, 3, 4] (fun z => DvP p n t l z.2.1) (fun z => z.1) ((es.length, S, es, a, c)) (⟨Nat.le_refl _, hc, hm, ha, hA, hd, hO, rfl⟩) rfl ?_ (fun _ => rfl) fun z hI => ?_
 ·rfl
 obtain ⟨j, Q, L, a', c'⟩ := z
 dsimp only at hI ⊢
 obtain ⟨hj, hLc, hLm, ha', hAr, hLd, hQ, hw⟩ := hI
 refine J.q hX fun b3 => ?_
 refine J.cond rfl (fun h1 => ?_) (fun h1 => ?_)
 ·simp only [decide_eq_true_eq] at h1
  have hL0 : L.length ≠ 0 := by omega
  obtain ⟨j, rfl⟩ : ∃ i, j = i + 1 := ⟨j - 1, by omega⟩
  rw [Dv.tornGo, if_neg hL0] at hw
  dsimp only at hw
  have hQ1 : Q.Ok (Dv.costM + (8 * Dv.fuel + (Dv.costT * j + k))) mm := hQ.less (by unfold Dv.costT Dv.cost; rw [Nat.mul_succ]; omega)
  have hr := Dv.room_keep hQ1
  refine J.q hX fun b4 => ?_
  refine J.cb hX (sw_Room n t l p Q _ mm hQ1 hmm) [1, 2, 3, 4] ?_
  refine cpq ⟨_, rfl, trivial, ?_⟩
  generalize Q.room = W at hw hr ⊢
  obtain ⟨P, er⟩ := W
  dsimp only at hw hr ⊢
  refine J.q hX fun b6 => ?_
  refine J.cond rfl (fun h2 => ?_) (fun h2 => ?_)
  ·simp only [bne_iff_ne, ne_eq] at h2
   rw [if_pos h2] at hw
   refine J.q hX fun b7 => ?_
   refine J.ru hX [1, 2, 3, 4, 5] ?_
   rw [← hw]
   exact ⟨rfl, rfl⟩
  simp only [bne_eq_false_iff_eq] at h2
  rw [if_neg (by rw [h2]; decide)] at hw
  have htook := fun h0 => Dv.pen_took hr.1 hLd h0 hL0
  have hkeep := Dv.pen_keep hr.1 hLd
  refine J.q hX fun b8 => ?_
  refine J.cb hX (pn_Write p n t l P _ mm hr.1 A (oad2 a') L.length c' L hAr rfl hLm hLd) [1, 2, 3, 4, 5] ?_
  refine cpq ⟨_, rfl, trivial, ?_⟩
  have hpb : 0 ≤ (P.pen L).2.1 ∧ (P.pen L).2.1 ≤ 7 := write_bd _ _ _
  generalize P.pen L = W at hw htook hkeep hpb ⊢
  obtain ⟨P', nn, er2⟩ := W
  dsimp only at hw htook hkeep hpb ⊢
  refine J.q hX fun b10 => ?_
  refine J.cond rfl (fun h3 => ?_) (fun h3 => ?_)
  ·simp only [bne_iff_ne, ne_eq] at h3
   rw [if_pos h3] at hw
   refine J.q hX fun b11 => ?_
   refine J.ru hX [1, 2, 3, 4, 5] ?_
   rw [← hw]
   exact ⟨rfl, rfl⟩
  simp only [bne_eq_false_iff_eq] at h3
  rw [if_neg (by rw [h3]; decide)] at hw
  have htk := htook h3
  obtain ⟨v, rfl⟩ := Int.eq_ofNat_of_zero_le hpb.1
  have hvL : v ≤ L.length := by have := htk.2.1; omega
  rw [Int.toNat_natCast] at hw
  refine J.qn hX 4 fun b12 => ?_
  refine J.val hX (.slice (oad2 (cutA a' 19 v c')) (L.length - v) (c' - v)) 0 rfl rfl (fun hg aa w he hw => cutlo2_run tk rfl rfl rfl he rfl rfl rfl rfl rfl hvL) rfl trivial ?_
  rw [show L.length - v = (L.drop v).length from by rw [List.length_drop]]
  refine J.q hX fun b13 => ?_
  refine J.nS ((j, P', L.drop v, cutA a' 19 v c', c' - v)) (⟨by dsimp only; rw [List.length_drop]; omega, by dsimp only; rw [List.length_drop]; omega, by dsimp only; rw [List.length_drop]; omega, cutA_none ha', fun h s => rd_drop (hAr h s) rfl hvL hLc, fun s hs => hLd s (List.mem_of_mem_drop hs), hkeep.1, hw⟩) (by dsimp only; omega) [0, 1, 2, 3, 4, 5] rfl rfl
 ·simp only [decide_eq_false_iff_not] at h1
  have hL0 : L.length = 0 := by omega
  have hz : Dv.tornGo j Q L = (Q, 0) := by
   cases j with
   | zero => rfl
   | succ j => rw [Dv.tornGo, if_pos hL0]
  refine J.q hX fun b15 => ?_
  refine J.ru hX [1, 2, 3, 4, 5] ?_
  rw [← hw, hz]
  exact ⟨rfl, rfl⟩
end Go.Proofs.YtdocmcapegcoeaaGreat
namespace Go.Proofs.YtdocmcapegcoeaaGreat
open Go
theorem Bt.numAt_congr {a b : List UInt8} {k : Nat} : ∀ w, (∀ i, i < w → Bt.bitAt a (k + i) = Bt.bitAt b (k + i)) → Bt.numAt a k w = Bt.numAt b k w
 | 0, _ => rfl
 | w + 1, h => by rw [Bt.numAt, Bt.numAt, Bt.numAt_congr w (fun i hi => h i (by omega)), h w (by omega)]
theorem fill_get (K : Nat) (p : List UInt8) (hp : p.length = 32) (hK : K ≤ 32) (i : Nat) : (Nand.fillP K p).getD i 0 = if i < K then p.getD i 0 else if i < 32 then 255 else 0 := by
 unfold Nand.fillP
 simp only [List.getD_eq_getElem?_getD]
 rw [List.getElem?_append, List.length_take, hp]
 by_cases h : i < K
 ·rw [if_pos (by omega), if_pos h, List.getElem?_take, if_pos h]
 ·rw [if_neg (by omega), if_neg h]
  by_cases h2 : i < 32
  ·rw [if_pos h2, List.getElem?_replicate, if_pos (by omega)]; rfl
  ·rw [if_neg h2, List.getElem?_replicate, if_neg (by omega)]; rfl
theorem drop_getD (p : List UInt8) (k i : Nat) : (p.drop k).getD i 0 = p.getD (k + i) 0 := by
 simp [List.getD_eq_getElem?_getD]
theorem torn_kind (K : Nat) (p : List UInt8) (hp : p.length = 32) (hK : K < 28) : (S.fields (Nand.fillP K p)).kind = 255 := by
 show ((Bt.numAt ((Nand.fillP K p).drop 16) 88 8 : Nat) : Int) = 255
 rw [Bt.numAt_eq _ 88 8 255 (fun i hi => ?_) 8 (Nat.le_refl 8)]
 ·rfl
 ·unfold Bt.bitAt
  rw [show (88 + i) / 8 = 11 from by omega, drop_getD, fill_get K p hp (by omega), if_neg (by omega), if_pos (by omega), show 7 - (88 + i) % 8 = 8 - 1 - i from by omega]
  rfl
theorem torn_fields (K : Nat) (p : List UInt8) (hp : p.length = 32) (hK : 28 ≤ K) (hK2 : K ≤ 32) : S.fields (Nand.fillP K p) = S.fields p := by
 have hb : ∀ j, j < 96 → Bt.bitAt ((Nand.fillP K p).drop 16) j = Bt.bitAt (p.drop 16) j := fun j hj => by
  unfold Bt.bitAt
  rw [drop_getD, drop_getD, fill_get K p hp hK2, if_pos (by omega)]
 have h16 : (Nand.fillP K p).take 16 = p.take 16 := by
  unfold Nand.fillP
  rw [List.take_append_of_le_length (by rw [List.length_take, hp]; omega), List.take_take, Nat.min_eq_left (by omega)]
 unfold S.fields
 simp only [h16, Bt.numAt_congr (a := (Nand.fillP K p).drop 16) (b := p.drop 16) (k := 0) 64 (fun i hi => hb _ (by omega)), Bt.numAt_congr (a := (Nand.fillP K p).drop 16) (b := p.drop 16) (k := 88) 8 (fun i hi => hb _ (by omega)),
  Bt.numAt_congr (a := (Nand.fillP K p).drop 16) (b := p.drop 16) (k := 64) 8 (fun i hi => hb _ (by omega)), Bt.numAt_congr (a := (Nand.fillP K p).drop 16) (b := p.drop 16) (k := 72) 8 (fun i hi => hb _ (by omega)), Bt.numAt_congr (a := (Nand.fillP K p).drop 16) (b := p.drop 16) (k := 80) 8 (fun i hi => hb _ (by omega))]
namespace Nand
variable {N : Nand} {n : Nat}
end Nand
namespace Nand
variable {N N' N'' : Nand} {b : Nat}
end Nand
namespace V
end V
def u8 (x : Int) : UInt8 := UInt8.ofNat (x % 256).toNat
end Go.Proofs.YtdocmcapegcoeaaGreat
namespace Go.Proofs.YtdocmcapegcoeaaGreat
open Go Go.RowKit
theorem u8_val (x : Int) : Value.int .u8 (IntKind.u8.wrap x) = bv (u8 x) := by
 have h : IntKind.u8.wrap x = x % 256 := by simp [IntKind.wrap, IntKind.bits, IntKind.signed]
 rw [h, bv, u8]
 congr 1
 have h1 : 0 ≤ x % 256 ∧ x % 256 < 256 := ⟨Int.emod_nonneg _ (by decide), Int.emod_lt_of_pos _ (by decide)⟩
 have h2 : (UInt8.ofNat (x % 256).toNat).toNat = (x % 256).toNat := by
  rw [UInt8.toNat_ofNat']
  omega
 rw [h2]; omega
def e18 (k s : Int) : En := ⟨k, s, 1, [u8 k, u8 s, u8 (s / 256), 7, 0, 0, 0, 0, 0, 0, 0, 0, 0, 0, 0, 0]⟩
theorem l18_entry (k s : Int) : Fn Tryz.prog 20 [.int .i64 k, .int .i64 s] [] (fun v As => v = enV (e18 k s) ∧ As = []) := by
 refine Fn.enter [0, 0] Tryz.func20 rfl rfl rfl fun X F hX => ?_
 refine J.qn hX 9 fun b1 => ?_
 refine J.val hX (bv (u8 k)) 0 rfl rfl (fun hg a w he hs => by rw [← u8_val k]; exact convert_run tk rfl rfl he rfl rfl rfl) rfl trivial ?_
 refine J.qn hX 1 fun b2 => ?_
 refine J.val hX (bv (u8 s)) 0 rfl rfl (fun hg a w he hs => by rw [← u8_val s]; exact convert_run tk rfl rfl he rfl rfl rfl) rfl trivial ?_
 refine J.qn hX 2 fun b3 => ?_
 rw [show s.fdiv (2 ^ min (Int.toNat 8) IntKind.i64.bits) = s / 256 from Int.fdiv_eq_ediv_of_nonneg s (by decide : (0 : Int) ≤ 256)]
 refine J.val hX (bv (u8 (s / 256))) 0 rfl rfl (fun hg a w he hs => by rw [← u8_val (s / 256)]; exact convert_run tk rfl rfl he rfl rfl rfl) rfl trivial ?_
 refine J.q hX fun b4 => ?_
 exact J.ru hX [] ⟨rfl, rfl⟩
def Dv.new (d b p : Nat) (lg : Int) : Dv := ⟨Nand.new d b p, Tl.new d b p, Tb.new lg, -1, 0, 0, 1⟩
theorem gd_new (d b p : Nat) (h : geoMay d b p = true) (k : Nat) (hk : k ≤ 1000000000000000) : (Nand.new d b p).Gd k 0 := by
 have h0 := Nand.Gd.new d b p h 0 (by omega)
 refine ⟨h0.ok, ?_, ?_, h0.nodup, h0.few⟩
 ·show (0 : Int) + (k : Int) < _; omega
 ·show (0 : Int) + (k : Int) < _; omega
theorem Dv.Ok.new (d b p : Nat) (lg : Int) (h : geoMay d b p = true) (k : Nat) (hk : k ≤ 1000000000000000) : (Dv.new d b p lg).Ok k 0 :=
 ⟨gd_new d b p h k hk, ⟨rfl, rfl, rfl, by show (List.replicate b Sb.zero).length = b; simp⟩, Tb.Ok.new lg, fun x hx => by simp [Dv.new, Tb.new] at hx, by show (0 : Int) ≤ 0 ∧ (0 : Int) ≤ 8; omega, by show (1 : Int) ≤ 1 ∧ (1 : Int) ≤ 1099511627776; omega⟩
theorem l18_bench (d b p : Nat) (h : geoMay d b p = true) (lg : Int) : Fn Tryz.prog 17 [.agg #[.int .i64 d, .int .i64 b, .int .i64 p], .int .i64 lg] []
  (fun v As => ∃ n t l q, v = .tuple #[.pointer (some ⟨n, 0, none⟩), .pointer (some ⟨t, 0, none⟩), .pointer (some ⟨l, 0, none⟩), .pointer (some ⟨q, 0, none⟩)] ∧ As = DvP q n t l (Dv.new d b p lg)) := by
 refine Fn.enter [0, 0] Tryz.func17 rfl rfl rfl fun X F hX => ?_
 refine J.q hX fun b5 => ?_
 refine J.cb hX (n_New d b p h) [] ?_
 rintro v As ⟨n, rfl, rfl⟩
 refine ⟨_, rfl, trivial, ?_⟩
 refine J.q hX fun b7 => ?_
 refine J.cb hX (tl_New d b p h) [] ?_
 rintro v As ⟨t, rfl, rfl⟩
 refine ⟨_, rfl, trivial, ?_⟩
 refine J.q hX fun b9 => ?_
 refine J.cb hX (tb_New lg) [] ?_
 rintro v As ⟨l, rfl, rfl⟩
 refine ⟨_, rfl, trivial, ?_⟩
 refine J.q hX fun b11 => ?_
 refine J.cb hX (pn_New n t l 1 (by decide) (Nand.new d b p) (Tl.new d b p) (Tb.new lg)) [] ?_
 rintro v As ⟨q, rfl, rfl⟩
 refine ⟨_, rfl, trivial, ?_⟩
 refine J.q hX fun b13 => ?_
 refine J.ru hX [5, 2, 3, 4] ?_
 exact ⟨n, t, l, q, rfl, rfl⟩
theorem at_lt8 (m i : Int) : L.at_ m i < 8 := by
 unfold L.at_
 split
 ·cases h : (L.dies m)[i.toNat]? with
  | none => decide
  | some d =>
   have hm := List.mem_of_getElem? h
   unfold L.dies at hm
   split at hm
   ·have := List.mem_range.1 (List.mem_filter.1 hm).1
    show ((d : Nat) : Int) < 8
    omega
   ·simp at hm
 ·decide
theorem oth_dec : ∀ m, m < 256 → ∀ p, p < 8 → (dI ((m : Nat) : Int)).filter (fun d => d != ((p : Nat) : Int)) = dI (L.without ((m : Nat) : Int) ((p : Nat) : Int)) := by decide +kernel
def othI (m b r : Int) : List Int := if 0 ≤ G.parity m b r then (dI m).filter (fun d => d != G.parity m b r) else []
theorem oth_eq {m b r : Int} (h : 0 ≤ G.parity m b r) : othI m b r = dI (L.without m (G.parity m b r)) := by
 have h8 : G.parity m b r < 8 := by
  unfold G.parity at h ⊢
  split
  ·decide
  ·exact at_lt8 _ _
 have hm : 0 ≤ m ∧ m < 256 := by
  by_cases hh : 0 ≤ m ∧ m < 256
  ·exact hh
  ·have hc := L.count_no m hh
   unfold G.parity at h
   rw [if_pos (by omega)] at h
   omega
 unfold othI
 rw [if_pos h]
 obtain ⟨p, hp⟩ := Int.eq_ofNat_of_zero_le h
 obtain ⟨M, rfl⟩ := Int.eq_ofNat_of_zero_le hm.1
 rw [hp]
 exact oth_dec M (by omega) p (by omega)
theorem oth_die (m b r s : Int) : (s < 0 ∨ ((othI m b r).length : Int) ≤ s → G.die m b r s = -1) ∧ (∀ k : Nat, s = k → k < (othI m b r).length → (othI m b r)[k]? = some (G.die m b r s)) := by
 by_cases h : 0 ≤ G.parity m b r
 ·have he := oth_eq h
  have hd : G.die m b r s = L.at_ (L.without m (G.parity m b r)) s := by unfold G.die; rw [if_neg (by omega)]
  rw [he, hd, dI_count]
  refine ⟨fun hs => L.at_ge _ _ hs, fun k hk hlt => ?_⟩
  subst hk
  exact dI_at _ _ hlt
 ·have he : othI m b r = [] := by unfold othI; rw [if_neg h]
  have hd : G.die m b r s = -1 := by unfold G.die; rw [if_pos (by omega)]
  rw [he, hd]
  exact ⟨fun _ => rfl, fun k _ hlt => by simp at hlt⟩
theorem f6_Others (m b r : Int) : Fn Tryz.prog 121 [.int .i64 m, .int .i64 b, .int .i64 r] [] (fun v As => ∃ a c, v = slv a (othI m b r).length c ∧ As = [ownA 3 1 a (othI m b r).length c (cellsI (othI m b r))]) := by
 have hlen := dI_len m
 refine Fn.enter [0, 0, 0] Tryz.func121 rfl rfl rfl fun X F hX => ?_
 refine J.turn1 [] rfl (As := [ownA 3 1 none 0 0 (cellsI (((dI m).take 0).filter fun d => d != G.parity m b r))]) (fun h s => Sep.one ⟨rfl, rfl, rfl⟩) rfl ?_
 refine J.q hX fun b1 => ?_
 refine J.cb hX (f1_Dies m) [] ?_
 rintro v As ⟨a, c, rfl, rfl⟩
 refine ⟨_, rfl, trivial, ?_⟩
 refine J.q hX fun b3 => ?_
 refine J.cb hX (f6_Parity m b r) [] ?_
 refine cpq ⟨_, rfl, trivial, ?_⟩
 have hoth : othI m b r = if 0 ≤ G.parity m b r then (dI m).filter (fun d => d != G.parity m b r) else [] := rfl
 generalize hpp : G.parity m b r = p at hoth
 refine J.q hX fun b5 => ?_
 refine J.lo (α := (Nat × Option Nat × Nat)) (fun z => z.1 ≤ (dI m).length ∧ (z.1 = 0 ∨ 0 ≤ p)) (fun z => [⟨10, .int .i64 z.1, 0, .tt⟩, ⟨9, .int .i64 p, 0, .tt⟩, ⟨8, slv a (dI m).length c, 0, .tt⟩, ⟨7, slv z.2.1 (((dI m).take z.1).filter fun d => d != p).length z.2.2, 0, .tt⟩]) [1] (fun z => [ownA 3 1 z.2.1 (((dI m).take z.1).filter fun d => d != p).length z.2.2 (cellsI (((dI m).take z.1).filter fun d => d != p))]) (fun z => (dI m).length - z.1) ((0, none, 0)) (⟨Nat.zero_le _, .inl rfl⟩) rfl ?_ (fun _ => rfl) fun z hI => ?_
 ·rfl
 obtain ⟨k, o, oc⟩ := z
 dsimp only at hI ⊢
 obtain ⟨hk, hp⟩ := hI
 have hfl := List.length_filter_le (fun d => d != p) ((dI m).take k)
 have htl : ((dI m).take k).length ≤ k := by rw [List.length_take]; omega
 refine J.q hX fun b7 => ?_
 refine J.cond rfl (fun h1 => ?_) (fun h1 => ?_)
 ·simp only [Bool.and_eq_true, decide_eq_true_eq, Int.ofNat_lt] at h1
  obtain ⟨h1, h2⟩ := h1
  obtain ⟨x, hx⟩ : ∃ x, (dI m)[k]? = some x := ⟨_, List.getElem?_eq_getElem h1⟩
  have hs : ((dI m).take (k + 1)).filter (fun d => d != p) = ((dI m).take k).filter (fun d => d != p) ++ (if x != p then [x] else []) := by
   rw [List.take_add_one, hx, Option.toList_some, List.filter_append]
   congr 1
   cases hxp : x != p <;> simp [hxp]
  refine J.know (fun h' s => own_some (c := (a, c)) (by omega) (s.get (i := 2) rfl)) fun hg => ?_
  obtain ⟨g, rfl⟩ := hg
  refine J.q hX fun b8 => ?_
  refine J.val hX (.int .i64 x) 0 rfl rfl (fun hg a w he hs => own1_run tk rfl rfl he rfl rfl rfl (hs.get (i := 2) rfl) (by rw [show 0 + (k : Int).toNat * 1 = k from by omega]; exact cellsI_get hx)) rfl trivial ?_
  refine J.q hX fun b9 => ?_
  refine J.cond rfl (fun h3 => ?_) (fun h3 => ?_)
  ·rw [if_pos h3] at hs
   have hl : (((dI m).take k).filter fun d => d != p).length + 1 = (((dI m).take (k + 1)).filter fun d => d != p).length := by rw [hs]; simp
   refine J.q hX fun b10 => ?_
   refine J.val hX (.int .i64 x) 0 rfl rfl (fun hg a w he hs => own1_run tk rfl rfl he rfl rfl rfl (hs.get (i := 2) rfl) (by rw [show 0 + (k : Int).toNat * 1 = k from by omega]; exact cellsI_get hx)) rfl trivial ?_
   refine J.q hX fun b11 => ?_
   refine J.append hX tk 1 3 0 rfl rfl rfl rfl rfl rfl rfl rfl rfl rfl rfl rfl rfl rfl rfl rfl ?_ ?_ (fun _ => rfl) fun a4 c4 => ⟨_, (congrArg (fun z => lset _ 1 (ownA _ _ _ _ _ z)) ((cellsI_snoc _ _).symm.trans (congrArg cellsI hs.symm))).trans rfl, trivial, ?_⟩
   ·simp only [maxLen]; omega
   ·omega
   rw [hl]
   refine J.q hX fun b12 => ?_
   refine J.nS ((k + 1, a4, c4)) (⟨by dsimp only; omega, .inr h2⟩) (by dsimp only; omega) [0, 1, 2] rfl rfl
  ·rw [if_neg (by rw [h3]; simp), List.append_nil] at hs
   rw [← hs]
   refine J.q hX fun b14 => ?_
   refine J.nS ((k + 1, o, oc)) (⟨by dsimp only; omega, .inr h2⟩) (by dsimp only; omega) [0, 1, 2] rfl rfl
 ·have he : ((dI m).take k).filter (fun d => d != p) = othI m b r := by
   rw [hoth]
   by_cases h0 : 0 ≤ p
   ·rw [if_pos h0]
    have hkl : (dI m).length ≤ k := by
     rcases Nat.lt_or_ge k (dI m).length with h | h
     ·rw [decide_eq_true (by omega), decide_eq_true (by omega)] at h1
      cases h1
     ·exact h
    rw [List.take_of_length_le hkl]
   ·rw [if_neg h0]
    obtain rfl : k = 0 := by omega
    simp
  rw [he]
  refine J.q hX fun b16 => ?_
  refine J.ru hX [1] ?_
  exact ⟨o, oc, rfl, rfl⟩
theorem f6_Die (m b r s : Int) : Fn Tryz.prog 76 [.int .i64 m, .int .i64 b, .int .i64 r, .int .i64 s] [] (fun v As => v = .int .i64 (G.die m b r s) ∧ As = []) := by
 obtain ⟨d1, d2⟩ := oth_die m b r s
 refine Fn.enter [0, 0, 0, 0] Tryz.func76 rfl rfl rfl fun X F hX => ?_
 refine J.q hX fun b17 => ?_
 refine J.cb hX (f6_Others m b r) [] ?_
 rintro v As ⟨a, c, rfl, rfl⟩
 refine ⟨_, rfl, trivial, ?_⟩
 refine J.q hX fun b19 => ?_
 refine J.cond rfl (fun h1 => ?_) (fun h1 => ?_)
 ·simp only [Bool.or_eq_true, decide_eq_true_eq] at h1
  refine J.q hX fun b20 => ?_
  refine J.ru hX [] ?_
  rw [d1 h1]
  exact ⟨rfl, rfl⟩
 ·simp only [Bool.or_eq_false_iff, decide_eq_false_iff_not] at h1
  obtain ⟨k, rfl⟩ := Int.eq_ofNat_of_zero_le (show 0 ≤ s by omega)
  have hk : k < (othI m b r).length := by omega
  have hx := d2 k rfl hk
  refine J.know (fun h' s => own_some (c := (a, c)) (by omega) (s.get (i := 1) rfl)) fun hg => ?_
  obtain ⟨g, rfl⟩ := hg
  refine J.q hX fun b21 => ?_
  refine J.val hX (.int .i64 (G.die m b r k)) 0 rfl rfl (fun hg a w he hs => own1_run tk rfl rfl he rfl rfl rfl (hs.get (i := 1) rfl) (by rw [show 0 + (k : Int).toNat * 1 = k from by omega]; exact cellsI_get hx)) rfl trivial ?_
  refine J.q hX fun b22 => ?_
  exact J.ru hX [] ⟨rfl, rfl⟩
theorem f6_In (d b p x y z : Int) : Fn Tryz.prog 77 [.agg #[.int .i64 d, .int .i64 b, .int .i64 p], .agg #[.int .i64 x, .int .i64 y, .int .i64 z]] [] (fun v As => v = .bool (geoIn d b p x y z) ∧ As = []) := by
 refine Fn.enter [0, 0] Tryz.func77 rfl rfl rfl fun X F hX => ?_
 refine J.q hX fun b23 => ?_
 refine J.ru hX [] ?_
 refine ⟨congrArg Value.bool ?_, rfl⟩
 unfold geoIn
 rw [Bool.eq_iff_iff]
 simp only [Bool.and_eq_true, decide_eq_true_eq]
 omega
end Go.Proofs.YtdocmcapegcoeaaGreat
namespace Go.Proofs.YtdocmcapegcoeaaGreat
open Go
namespace Xo
def op (a b : List UInt8 × Nat) : List UInt8 × Nat := (List.zipWith (· ^^^ ·) a.1 b.1, a.2 ^^^ b.2)
def z : List UInt8 × Nat := (zeros16, 0)
def Ok (a : List UInt8 × Nat) : Prop := a.1.length = 16
def all (l : List (List UInt8 × Nat)) : List UInt8 × Nat := l.foldl op z
theorem op_ok {a b} (ha : Ok a) (hb : Ok b) : Ok (op a b) := by unfold Ok op at *; simp [ha, hb]
theorem z_ok : Ok z := rfl
theorem op_comm (a b) : op a b = op b a := by
 unfold op
 refine Prod.ext ?_ (Nat.xor_comm _ _)
 apply List.ext_getElem?
 intro i
 simp only [List.getElem?_zipWith]
 cases a.1[i]? <;> cases b.1[i]? <;> simp [UInt8.xor_comm]
theorem op_assoc (a b c) : op (op a b) c = op a (op b c) := by
 unfold op
 refine Prod.ext ?_ (Nat.xor_assoc _ _ _)
 apply List.ext_getElem?
 intro i
 simp only [List.getElem?_zipWith]
 cases a.1[i]? <;> cases b.1[i]? <;> cases c.1[i]? <;> simp [UInt8.xor_assoc]
theorem z_op {a} (ha : Ok a) : op z a = a := by
 obtain ⟨d, n⟩ := a
 unfold op z
 refine Prod.ext ?_ (Nat.zero_xor n)
 apply List.ext_getElem?
 intro i
 have hd : d.length = 16 := ha
 simp only [List.getElem?_zipWith, zeros16, List.getElem?_replicate]
 by_cases hi : i < 16
 ·rw [if_pos hi]
  cases d[i]? <;> simp
 ·rw [if_neg hi, List.getElem?_eq_none (by omega)]
theorem op_self {a} (ha : Ok a) : op a a = z := by
 obtain ⟨d, n⟩ := a
 unfold op z
 refine Prod.ext ?_ (Nat.xor_self n)
 apply List.ext_getElem?
 intro i
 have hd : d.length = 16 := ha
 simp only [List.getElem?_zipWith, zeros16, List.getElem?_replicate]
 by_cases hi : i < 16
 ·rw [if_pos hi, List.getElem?_eq_getElem (by omega)]; simp
 ·rw [if_neg hi, List.getElem?_eq_none (by omega)]
theorem fold_ok : ∀ (l : List (List UInt8 × Nat)), (∀ x ∈ l, Ok x) → ∀ a, Ok a → Ok (l.foldl op a)
 | [], _, _, h => h
 | x :: l, hl, a, h => fold_ok l (fun y hy => hl y (by simp [hy])) _ (op_ok h (hl x (by simp)))
theorem fold_from : ∀ (l : List (List UInt8 × Nat)), (∀ x ∈ l, Ok x) → ∀ a, Ok a → l.foldl op a = op a (all l)
 | [], _, a, h => by unfold all; rw [List.foldl_nil, List.foldl_nil, op_comm, z_op h]
 | x :: l, hl, a, h => by
  have hx := hl x (by simp)
  have hl' : ∀ y ∈ l, Ok y := fun y hy => hl y (by simp [hy])
  unfold all
  rw [List.foldl_cons, List.foldl_cons, fold_from l hl' _ (op_ok h hx), z_op hx, fold_from l hl' _ hx, op_assoc]
theorem all_erase : ∀ (l : List (List UInt8 × Nat)) (k : Nat) (x : List UInt8 × Nat), (∀ x ∈ l, Ok x) → l[k]? = some x → op (all (l.eraseIdx k)) x = all l
 | [], _, _, _, h => by simp at h
 | y :: l, 0, x, hl, h => by
  simp at h; subst h
  have hl' : ∀ z ∈ l, Ok z := fun z hz => hl z (by simp [hz])
  have hy := hl y (by simp)
  rw [List.eraseIdx_cons_zero]
  show _ = (y :: l).foldl op z
  rw [List.foldl_cons, z_op hy, fold_from l hl' _ hy, op_comm]
 | y :: l, k + 1, x, hl, h => by
  have hl' : ∀ z ∈ l, Ok z := fun z hz => hl z (by simp [hz])
  have hy := hl y (by simp)
  have he : ∀ z ∈ l.eraseIdx k, Ok z := fun z hz => hl' z (List.mem_of_mem_eraseIdx hz)
  rw [List.eraseIdx_cons_succ]
  show op ((y :: l.eraseIdx k).foldl op z) x = (y :: l).foldl op z
  rw [List.foldl_cons, List.foldl_cons, z_op hy, fold_from _ he _ hy, fold_from l hl' _ hy, op_assoc, all_erase l k x hl' (by simpa using h)]
theorem all_back (l : List (List UInt8 × Nat)) (k : Nat) (x : List UInt8 × Nat) (hl : ∀ x ∈ l, Ok x) (h : l[k]? = some x) : all (l.eraseIdx k ++ [all l]) = x := by
 have he : ∀ z ∈ l.eraseIdx k, Ok z := fun z hz => hl z (List.mem_of_mem_eraseIdx hz)
 have hx := hl x (List.mem_of_getElem? h)
 have e : all (l.eraseIdx k ++ [all l]) = op (all (l.eraseIdx k)) (all l) := by unfold all; rw [List.foldl_append]; rfl
 have hok : Ok (all (l.eraseIdx k)) := fold_ok _ he _ z_ok
 rw [e, ← all_erase l k x hl h, ← op_assoc, op_self hok, z_op hx]
theorem ovM_nat {a b : Nat} (ha : a < 18446744073709551616) (hb : b < 18446744073709551616) : W.ovM a b = ((a ^^^ b : Nat) : Int) := by
 unfold W.ovM
 have h1 : (BitVec.ofInt 64 (a : Int) ^^^ BitVec.ofInt 64 (b : Int)).toNat = a ^^^ b := by
  rw [BitVec.toNat_xor, BitVec.ofInt_natCast, BitVec.ofInt_natCast, BitVec.toNat_ofNat, BitVec.toNat_ofNat, Nat.mod_eq_of_lt ha, Nat.mod_eq_of_lt hb]
 rw [h1]
 have h2 : a ^^^ b < 18446744073709551616 := Nat.xor_lt_two_pow (n := 64) ha hb
 simp [IntKind.wrap, IntKind.bits, IntKind.signed]
 omega
def toX (s : Sh) : List UInt8 × Nat := (s.data, S.meta_ s.role s.lpn s.seq)
theorem mix_all {x s : List UInt8} (hx : x.length = 16) (hs : s.length = 16) : W.mix x s 16 = List.zipWith (· ^^^ ·) x s := by
 unfold W.mix
 rw [List.take_of_length_le (by simp [hx, hs]), List.drop_of_length_le (by omega), List.append_nil]
theorem over_all : ∀ (l : List Sh) (a : List UInt8 × Nat), (∀ s ∈ l, s.data.length = 16) → Ok a → a.2 < 18446744073709551616 → l.foldl W.over1 (a.1, (a.2 : Int)) = (((l.map toX).foldl op a).1, ((((l.map toX).foldl op a).2 : Nat) : Int)) ∧ ((l.map toX).foldl op a).2 < 18446744073709551616
 | [], a, _, _, h => ⟨rfl, h⟩
 | s :: l, a, hl, ha, h => by
  have hs := hl s (by simp)
  have hm := S.meta_lt s.role s.lpn s.seq
  have hlt : a.2 ^^^ S.meta_ s.role s.lpn s.seq < 18446744073709551616 := Nat.xor_lt_two_pow (n := 64) h hm
  have e : W.over1 (a.1, (a.2 : Int)) s = ((op a (toX s)).1, (((op a (toX s)).2 : Nat) : Int)) := by
   unfold W.over1
   rw [ovM_nat h hm, mix_all ha hs]; rfl
  rw [List.foldl_cons, List.map_cons, List.foldl_cons, e]
  exact over_all l (op a (toX s)) (fun t ht => hl t (by simp [ht])) (op_ok ha hs) hlt
end Xo
end Go.Proofs.YtdocmcapegcoeaaGreat
