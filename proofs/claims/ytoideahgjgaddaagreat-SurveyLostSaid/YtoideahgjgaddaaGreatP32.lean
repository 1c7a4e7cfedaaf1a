/- Helpers of the proofs about ostrakonlaw11, proved here: PlH, PlI, PlJ, PlK, PlM, PlN, PlLo, ClmE. No condition. -/
import Derived.Test.YtoideahgjgaddaaGreatP09
import Derived.Test.YtoideahgjgaddaaGreatP17
import Derived.Test.YtoideahgjgaddaaGreatP24
import Derived.Test.YtoideahgjgaddaaGreatP25
import Derived.Test.YtoideahgjgaddaaGreatP26
set_option linter.unusedVariables false
set_option linter.unusedSimpArgs false
set_option linter.unusedSectionVars false
set_option linter.unnecessarySimpa false
/- Plain laws: what is laid over one another comes off again. No program in sight. -/
namespace Go.Proofs.YtoideahgjgaddaaGreat
open Go
namespace Xo
/-- sixteen bytes and a number, laid over others -/
def op (a b : List UInt8 × Nat) : List UInt8 × Nat := (List.zipWith (· ^^^ ·) a.1 b.1, a.2 ^^^ b.2)
def z : List UInt8 × Nat := (zeros16, 0)
def Ok (a : List UInt8 × Nat) : Prop := a.1.length = 16
def all (l : List (List UInt8 × Nat)) : List UInt8 × Nat := l.foldl op z
theorem op_ok {a b} (ha : Ok a) (hb : Ok b) : Ok (op a b) := by unfold Ok op at *; simp [ha, hb]
theorem z_ok : Ok z := rfl
theorem op_comm (a b) : op a b = op b a := by
  unfold op
  refine Prod.ext ?_ (Nat.xor_comm _ _)
  apply List.ext_getElem?
  intro i
  simp only [List.getElem?_zipWith]
  cases a.1[i]? <;> cases b.1[i]? <;> simp [UInt8.xor_comm]
theorem op_assoc (a b c) : op (op a b) c = op a (op b c) := by
  unfold op
  refine Prod.ext ?_ (Nat.xor_assoc _ _ _)
  apply List.ext_getElem?
  intro i
  simp only [List.getElem?_zipWith]
  cases a.1[i]? <;> cases b.1[i]? <;> cases c.1[i]? <;> simp [UInt8.xor_assoc]
theorem z_op {a} (ha : Ok a) : op z a = a := by
  obtain ⟨d, n⟩ := a
  unfold op z
  refine Prod.ext ?_ (Nat.zero_xor n)
  apply List.ext_getElem?
  intro i
  have hd : d.length = 16 := ha
  simp only [List.getElem?_zipWith, zeros16, List.getElem?_replicate]
  by_cases hi : i < 16
  · rw [if_pos hi]
    cases d[i]? <;> simp
  · rw [if_neg hi, List.getElem?_eq_none (by omega)]
theorem op_self {a} (ha : Ok a) : op a a = z := by
  obtain ⟨d, n⟩ := a
  unfold op z
  refine Prod.ext ?_ (Nat.xor_self n)
  apply List.ext_getElem?
  intro i
  have hd : d.length = 16 := ha
  simp only [List.getElem?_zipWith, zeros16, List.getElem?_replicate]
  by_cases hi : i < 16
  · rw [if_pos hi, List.getElem?_eq_getElem (by omega)]; simp
  · rw [if_neg hi, List.getElem?_eq_none (by omega)]
theorem fold_ok : ∀ (l : List (List UInt8 × Nat)), (∀ x ∈ l, Ok x) → ∀ a, Ok a → Ok (l.foldl op a)
  | [], _, _, h => h
  | x :: l, hl, a, h => fold_ok l (fun y hy => hl y (by simp [hy])) _ (op_ok h (hl x (by simp)))
theorem fold_from : ∀ (l : List (List UInt8 × Nat)), (∀ x ∈ l, Ok x) → ∀ a, Ok a → l.foldl op a = op a (all l)
  | [], _, a, h => by unfold all; rw [List.foldl_nil, List.foldl_nil, op_comm, z_op h]
  | x :: l, hl, a, h => by
    have hx := hl x (by simp)
    have hl' : ∀ y ∈ l, Ok y := fun y hy => hl y (by simp [hy])
    unfold all
    rw [List.foldl_cons, List.foldl_cons, fold_from l hl' _ (op_ok h hx), z_op hx, fold_from l hl' _ hx, op_assoc]
theorem all_erase : ∀ (l : List (List UInt8 × Nat)) (k : Nat) (x : List UInt8 × Nat), (∀ x ∈ l, Ok x) → l[k]? = some x → op (all (l.eraseIdx k)) x = all l
  | [], _, _, _, h => by simp at h
  | y :: l, 0, x, hl, h => by
    simp at h; subst h
    have hl' : ∀ z ∈ l, Ok z := fun z hz => hl z (by simp [hz])
    have hy := hl y (by simp)
    rw [List.eraseIdx_cons_zero]
    show _ = (y :: l).foldl op z
    rw [List.foldl_cons, z_op hy, fold_from l hl' _ hy, op_comm]
  | y :: l, k + 1, x, hl, h => by
    have hl' : ∀ z ∈ l, Ok z := fun z hz => hl z (by simp [hz])
    have hy := hl y (by simp)
    have he : ∀ z ∈ l.eraseIdx k, Ok z := fun z hz => hl' z (List.mem_of_mem_eraseIdx hz)
    rw [List.eraseIdx_cons_succ]
    show op ((y :: l.eraseIdx k).foldl op z) x = (y :: l).foldl op z
    rw [List.foldl_cons, List.foldl_cons, z_op hy, fold_from _ he _ hy, fold_from l hl' _ hy, op_assoc, all_erase l k x hl' (by simpa using h)]
/-- one of many is what all others leave of the whole -/
theorem all_back (l : List (List UInt8 × Nat)) (k : Nat) (x : List UInt8 × Nat) (hl : ∀ x ∈ l, Ok x) (h : l[k]? = some x) : all (l.eraseIdx k ++ [all l]) = x := by
  have he : ∀ z ∈ l.eraseIdx k, Ok z := fun z hz => hl z (List.mem_of_mem_eraseIdx hz)
  have hx := hl x (List.mem_of_getElem? h)
  have e : all (l.eraseIdx k ++ [all l]) = op (all (l.eraseIdx k)) (all l) := by unfold all; rw [List.foldl_append]; rfl
  have hok : Ok (all (l.eraseIdx k)) := fold_ok _ he _ z_ok
  rw [e, ← all_erase l k x hl h, ← op_assoc, op_self hok, z_op hx]
theorem ovM_nat {a b : Nat} (ha : a < 18446744073709551616) (hb : b < 18446744073709551616) : W.ovM a b = ((a ^^^ b : Nat) : Int) := by
  unfold W.ovM
  have h1 : (BitVec.ofInt 64 (a : Int) ^^^ BitVec.ofInt 64 (b : Int)).toNat = a ^^^ b := by
    rw [BitVec.toNat_xor, BitVec.ofInt_natCast, BitVec.ofInt_natCast, BitVec.toNat_ofNat, BitVec.toNat_ofNat, Nat.mod_eq_of_lt ha, Nat.mod_eq_of_lt hb]
  rw [h1]
  have h2 : a ^^^ b < 18446744073709551616 := Nat.xor_lt_two_pow (n := 64) ha hb
  simp [IntKind.wrap, IntKind.bits, IntKind.signed]
  omega
def toX (s : Sh) : List UInt8 × Nat := (s.data, S.meta_ s.role s.lpn s.seq)
theorem mix_all {x s : List UInt8} (hx : x.length = 16) (hs : s.length = 16) : W.mix x s 16 = List.zipWith (· ^^^ ·) x s := by
  unfold W.mix
  rw [List.take_of_length_le (by simp [hx, hs]), List.drop_of_length_le (by omega), List.append_nil]
theorem over_all : ∀ (l : List Sh) (a : List UInt8 × Nat), (∀ s ∈ l, s.data.length = 16) → Ok a → a.2 < 18446744073709551616 → l.foldl W.over1 (a.1, (a.2 : Int)) = (((l.map toX).foldl op a).1, ((((l.map toX).foldl op a).2 : Nat) : Int)) ∧ ((l.map toX).foldl op a).2 < 18446744073709551616
  | [], a, _, _, h => ⟨rfl, h⟩
  | s :: l, a, hl, ha, h => by
    have hs := hl s (by simp)
    have hm := S.meta_lt s.role s.lpn s.seq
    have hlt : a.2 ^^^ S.meta_ s.role s.lpn s.seq < 18446744073709551616 := Nat.xor_lt_two_pow (n := 64) h hm
    have e : W.over1 (a.1, (a.2 : Int)) s = ((op a (toX s)).1, (((op a (toX s)).2 : Nat) : Int)) := by
      unfold W.over1
      rw [ovM_nat h hm, mix_all ha hs]; rfl
    rw [List.foldl_cons, List.map_cons, List.foldl_cons, e]
    exact over_all l (op a (toX s)) (fun t ht => hl t (by simp [ht])) (op_ok ha hs) hlt
end Xo
end Go.Proofs.YtoideahgjgaddaaGreat
/- Plain laws: a row's page that is missing is mended. No program in sight. -/
namespace Go.Proofs.YtoideahgjgaddaaGreat
open Go
theorem over_X (l : List Sh) (hl : ∀ s ∈ l, s.data.length = 16) : W.over l = ((Xo.all (l.map Xo.toX)).1, ((Xo.all (l.map Xo.toX)).2 : Int)) ∧ (Xo.all (l.map Xo.toX)).2 < 18446744073709551616 :=
  Xo.over_all l Xo.z hl Xo.z_ok (by decide)
theorem toX_parS {b r m : Int} {l : List En} (hd : ∀ s ∈ l, s.data.length = 16) : Xo.toX (W.parS b r m l) = Xo.all ((l.map (W.sh b r m)).map Xo.toX) := by
  obtain ⟨h1, h2⟩ := over_X (l.map (W.sh b r m)) (fun s hs => by obtain ⟨e, he, rfl⟩ := List.mem_map.1 hs; exact hd e he)
  have e2 : (W.over (l.map (W.sh b r m))).2.toNat = (Xo.all ((l.map (W.sh b r m)).map Xo.toX)).2 := by rw [h1]; rfl
  have e1 : (W.over (l.map (W.sh b r m))).1 = (Xo.all ((l.map (W.sh b r m)).map Xo.toX)).1 := by rw [h1]
  refine Prod.ext e1 ?_
  show S.meta_ ((W.over (l.map (W.sh b r m))).2.toNat / 72057594037927936 : Nat) ((W.over (l.map (W.sh b r m))).2.toNat / 1099511627776 % 65536 : Nat) ((W.over (l.map (W.sh b r m))).2.toNat % 1099511627776 : Nat) = _
  rw [e2]
  generalize (Xo.all ((l.map (W.sh b r m)).map Xo.toX)).2 = x at h2
  unfold S.meta_
  omega
theorem map_erase {α β : Type} (f : α → β) : ∀ (l : List α) (k : Nat), (l.eraseIdx k).map f = (l.map f).eraseIdx k
  | [], _ => rfl
  | _ :: _, 0 => rfl
  | x :: l, k + 1 => by simp only [List.eraseIdx_cons_succ, List.map_cons, map_erase f l k]
/-- all others give the one that is missing -/
theorem back_one {b r m : Int} {l : List En} (hd : ∀ s ∈ l, s.data.length = 16) (hB : W.parB b r m l = true) {k : Nat} {e : En} (hk : l[k]? = some e) : W.backS (W.parS b r m l) ((l.map (W.sh b r m)).eraseIdx k) = e := by
  have hdm : ∀ s ∈ l.map (W.sh b r m), s.data.length = 16 := fun s hs => by obtain ⟨e, he, rfl⟩ := List.mem_map.1 hs; exact hd e he
  have hde : ∀ s ∈ (l.map (W.sh b r m)).eraseIdx k ++ [W.parS b r m l], s.data.length = 16 := fun s hs => by
    rw [List.mem_append, List.mem_singleton] at hs
    rcases hs with hs | rfl
    · exact hdm s (List.mem_of_mem_eraseIdx hs)
    · exact parS_len hd
  obtain ⟨h1, h2⟩ := over_X _ hde
  have hx : Xo.all (((l.map (W.sh b r m)).eraseIdx k ++ [W.parS b r m l]).map Xo.toX) = Xo.toX (W.sh b r m e) := by
    rw [List.map_append, List.map_cons, List.map_nil, toX_parS hd, map_erase]
    exact Xo.all_back _ k _ (fun x hx => by obtain ⟨s, hs, rfl⟩ := List.mem_map.1 hx; exact hdm s hs) (by rw [List.getElem?_map, List.getElem?_map, hk]; rfl)
  rw [hx] at h1
  have hok := (parB_len hB).2.2.2 e (List.mem_of_getElem? hk)
  have hmay : S.may (W.sh b r m e) = true := hok
  have hb := hmay
  simp only [S.may, S.numbers, S.inB, Bool.and_eq_true, decide_eq_true_eq] at hb
  obtain ⟨m1, m2, m3⟩ := S.meta_back e.role e.lpn e.seq hb.1.2.2 hb.1.2.1.2 hb.1.2.1.1
  unfold W.backS
  simp only [h1]
  obtain ⟨el, es, er, ed⟩ := e
  exact (En.mk.injEq ..).mpr ⟨m2, m3, m1, rfl⟩
end Go.Proofs.YtoideahgjgaddaaGreat
/- Plain laws: a row of which one page is not good. No program in sight. -/
namespace Go.Proofs.YtoideahgjgaddaaGreat
open Go
/-- which pages of a row are good -/
structure PartRow (N : Nand) (b m : Int) (l : List En) (g : Nat → Bool) : Prop where
  good : ∀ k x, (R.job b 0 m l)[k]? = some x → g k = true → M.look N x.1 b 0 = (x.2, 1)
  bad : ∀ k x, (R.job b 0 m l)[k]? = some x → g k = false → (M.look N x.1 b 0).2 ≠ 1
  nope : ∀ i : Nat, i < N.dies → (∀ x ∈ R.job b 0 m l, x.1 ≠ i) → (M.look N (i : Nat) b 0).2 ≠ 1
theorem PartRow.one2 {N : Nand} {b m : Int} {l : List En} {g : Nat → Bool} (h : PartRow N b m l g) (hm : ∀ x ∈ R.job b 0 m l, x.2.mask = m) {k : Nat} {x : Int × Sh} (hk : (R.job b 0 m l)[k]? = some x) : (R.one N b 0 m x.1).2 = g k ∧ (g k = true → (R.one N b 0 m x.1).1 = x.2) := by
  unfold R.one
  cases hg : g k with
  | true =>
    rw [h.good k x hk hg]
    refine ⟨?_, fun _ => rfl⟩
    show ((1 : Int) == 1 && x.2.mask == m) = true
    rw [hm x (List.mem_of_getElem? hk)]; simp
  | false =>
    refine ⟨?_, fun h => by cases h⟩
    have := h.bad k x hk hg
    show ((M.look N x.1 b 0).2 == 1 && _) = false
    rw [beq_eq_false_iff_ne.2 this]; rfl
theorem PartRow.masks {N : Nand} {b m : Int} {l : List En} {g : Nat → Bool} (h : PartRow N b m l g) (hm : ∀ x ∈ R.job b 0 m l, x.2.mask = m) (hin : ∀ x ∈ R.job b 0 m l, 0 ≤ x.1 ∧ x.1 < (N.dies : Int)) :
    (M.masks N b 0 = [] ∨ M.masks N b 0 = [m]) ∧ ((∃ k, k ≤ l.length ∧ g k = true) → M.masks N b 0 = [m]) := by
  have hall : ∀ x ∈ (M.rowN N b 0 N.dies).filterMap M.maskOf, x = m := fun y hy => by
    obtain ⟨z, hz, hy⟩ := List.mem_filterMap.1 hy
    unfold M.rowN at hz
    obtain ⟨i, hi, rfl⟩ := List.mem_map.1 hz
    have hi := List.mem_range.1 hi
    unfold M.maskOf at hy
    split at hy
    · rename_i h1
      injection hy with hy
      subst hy
      by_cases hno : ∀ x ∈ R.job b 0 m l, x.1 ≠ (i : Int)
      · exact absurd h1 (h.nope i hi hno)
      · simp only [Classical.not_forall] at hno
        obtain ⟨x, hx, hxi⟩ := hno
        have hxi : x.1 = (i : Int) := by omega
        obtain ⟨k, hk⟩ := List.getElem?_of_mem hx
        cases hg : g k with
        | true =>
          have := h.good k x hk hg
          rw [hxi] at this
          rw [this]
          exact hm x hx
        | false =>
          have := h.bad k x hk hg
          rw [hxi] at this
          exact absurd h1 this
    · cases hy
  have hmk := masks_same _ hall
  refine ⟨?_, fun ⟨k, hk, hg⟩ => ?_⟩
  · unfold M.masks
    rw [hmk]
    split
    · exact .inl rfl
    · exact .inr rfl
  · unfold M.masks
    rw [hmk, if_neg]
    intro hnil
    have hjl : (R.job b 0 m l).length = l.length + 1 := by simp [R.job]
    obtain ⟨x, hx⟩ : ∃ x, (R.job b 0 m l)[k]? = some x := ⟨_, List.getElem?_eq_getElem (by omega)⟩
    have hxm := List.mem_of_getElem? hx
    have hd := hin x hxm
    have : x.2.mask ∈ (M.rowN N b 0 N.dies).filterMap M.maskOf := by
      refine List.mem_filterMap.2 ⟨(x.2, 1), ?_, rfl⟩
      unfold M.rowN
      refine List.mem_map.2 ⟨x.1.toNat, List.mem_range.2 (by omega), ?_⟩
      rw [show ((x.1.toNat : Nat) : Int) = x.1 from by omega]
      exact h.good k x hx hg
    rw [hnil] at this
    cases this
end Go.Proofs.YtoideahgjgaddaaGreat
/- Plain laws: a row of which one page is not good is read whole. No program in sight. -/
namespace Go.Proofs.YtoideahgjgaddaaGreat
open Go
theorem backB_one {b r m : Int} {l : List En} (hd : ∀ s ∈ l, s.data.length = 16) (hB : W.parB b r m l = true) {k : Nat} {e : En} (hk : l[k]? = some e) : W.backB (W.parS b r m l) ((l.map (W.sh b r m)).eraseIdx k) = true ∧ W.back (W.parS b r m l) ((l.map (W.sh b r m)).eraseIdx k) = e := by
  obtain ⟨p1, p2, p3, p4⟩ := parB_len hB
  have hb := back_one hd hB hk
  have hkl : k < l.length := (List.getElem?_eq_some_iff.1 hk).1
  have hany : ((l.map (W.sh b r m)).eraseIdx k).any (W.alien (W.parS b r m l)) = false := by
    rw [List.any_eq_false]
    intro s hs
    obtain ⟨x, hx, rfl⟩ := List.mem_map.1 (List.mem_of_mem_eraseIdx hs)
    have hmay : S.may (W.sh b r m x) = true := p4 x hx
    unfold W.alien
    rw [hmay]
    simp [W.sh, W.parS]
  have hlen : decide ((((l.map (W.sh b r m)).eraseIdx k).length : Int) = G.slots (W.parS b r m l).mask - 1) = true := by
    refine decide_eq_true ?_
    rw [List.length_eraseIdx, if_pos (by rw [List.length_map]; exact hkl), List.length_map]
    show ((l.length - 1 : Nat) : Int) = G.slots m - 1
    omega
  have h1 : W.backB (W.parS b r m l) ((l.map (W.sh b r m)).eraseIdx k) = true := by
    unfold W.backB
    rw [parS_may hB, hany, hlen, hb]
    show (((2 : Int) == 2 && true && !false && true) && W.ok b r m e) = true
    rw [p4 e (List.mem_of_getElem? hk)]; rfl
  refine ⟨h1, ?_⟩
  unfold W.back
  rw [if_pos h1, hb]
theorem PartRow.fd {N : Nand} {b m : Int} {l : List En} {g : Nat → Bool} (h : PartRow N b m l g) (hm : ∀ x ∈ R.job b 0 m l, x.2.mask = m) (hl : (l.length : Int) = G.slots m) :
    (∀ k, k < l.length → (R.look N b 0 m).good.getD k false = g k ∧ (g k = true → (R.look N b 0 m).slots.getD k Sh.zero = W.sh b 0 m (l.getD k En.zero))) ∧
    (R.look N b 0 m).slots.length = l.length ∧ (R.look N b 0 m).whole = g l.length ∧ (g l.length = true → (R.look N b 0 m).parity = W.parS b 0 m l) := by
  have hs : (G.slots m).toNat = l.length := by omega
  obtain ⟨w1, w2⟩ := h.one2 hm (job_last b 0 m l)
  refine ⟨fun k hk => ?_, by rw [(look_len N b 0 m).1, hs], w1, w2⟩
  obtain ⟨o1, o2⟩ := h.one2 hm (job_at b 0 m l k hk)
  constructor
  · unfold R.look R.ones
    simp only [hs, List.getD_eq_getElem?_getD, List.getElem?_map, List.getElem?_range hk, Option.map_some, Option.getD_some]
    exact o1
  · intro hg
    have := o2 hg
    unfold R.look R.ones
    simp only [hs, List.getD_eq_getElem?_getD, List.getElem?_map, List.getElem?_range hk, Option.map_some, Option.getD_some] at this ⊢
    exact this
/-- one page is not good: it is mended -/
theorem PartRow.mend {N : Nand} {b m : Int} {l : List En} {j : Nat} (h : PartRow N b m l (fun k => k != j)) (hd : ∀ s ∈ l, s.data.length = 16) (hB : W.parB b 0 m l = true) (hm : ∀ x ∈ R.job b 0 m l, x.2.mask = m) (hj : j < l.length) :
    R.mendB (R.look N b 0 m) j = true ∧ R.mend (R.look N b 0 m) j = l.getD j En.zero := by
  obtain ⟨p1, p2, p3, p4⟩ := parB_len hB
  obtain ⟨f1, f2, f3, f4⟩ := h.fd hm p1
  have hg : (l.length != j) = true := by simp; omega
  have hw := f3.trans hg
  have hpar := f4 hg
  have hrest : R.rest (R.look N b 0 m) j = true := by
    unfold R.rest
    rw [List.all_eq_true]
    intro i hi
    have hi := List.mem_range.1 hi
    rw [f2] at hi
    rw [(f1 i hi).1]
    by_cases e : i = j
    · simp [e]
    · simp [e]
  have her : (R.look N b 0 m).slots.eraseIdx j = (l.map (W.sh b 0 m)).eraseIdx j := by
    apply List.ext_getElem?
    intro i
    rw [List.getElem?_eraseIdx, List.getElem?_eraseIdx]
    have key : ∀ i, i ≠ j → (R.look N b 0 m).slots[i]? = (l.map (W.sh b 0 m))[i]? := fun i hij => by
      rcases Nat.lt_or_ge i l.length with hi | hi
      · have := (f1 i hi).2 (by simp [hij])
        rw [List.getD_eq_getElem?_getD, List.getElem?_eq_getElem (by omega), Option.getD_some] at this
        rw [List.getElem?_eq_getElem (by omega), this, List.getElem?_map, List.getD_eq_getElem?_getD, List.getElem?_eq_getElem hi]; rfl
      · rw [List.getElem?_eq_none (by omega), List.getElem?_eq_none (by rw [List.length_map]; omega)]
    split
    · exact key i (by omega)
    · exact key (i + 1) (by omega)
  have he : l[j]? = some (l.getD j En.zero) := by rw [List.getD_eq_getElem?_getD, List.getElem?_eq_getElem hj, Option.getD_some]
  obtain ⟨b1, b2⟩ := backB_one hd hB he
  unfold R.mendB R.mend
  rw [hrest, hw, hpar, her, b1, b2]
  exact ⟨rfl, rfl⟩
end Go.Proofs.YtoideahgjgaddaaGreat
/- Plain laws: of a row any one page may be not good: each entry is read, all are found. No program in sight. -/
namespace Go.Proofs.YtoideahgjgaddaaGreat
open Go
variable {N : Nand} {b m : Int} {l : List En} {j : Nat}
theorem PartRow.read (h : PartRow N b m l (fun k => k != j)) (F : DieFacts m b 0) (hd : ∀ s ∈ l, s.data.length = 16) (hB : W.parB b 0 m l = true) (hm : ∀ x ∈ R.job b 0 m l, x.2.mask = m) (hoff : N.off = false) (hg : geoIn N.dies N.blocks N.pages 0 b 0 = true) {i : Nat} (hi : i < l.length) :
    R.read N b 0 (i : Nat) m = (l.getD i En.zero, 0) := by
  obtain ⟨p1, p2, p3, p4⟩ := parB_len hB
  obtain ⟨f1, f2, f3, f4⟩ := h.fd hm p1
  have hf := F.die i (by omega)
  unfold R.read
  rw [if_neg (by rw [hg]; simp; omega), hoff, if_neg (by decide), Int.toNat_natCast, (f1 i hi).1]
  by_cases e : i = j
  · subst e
    obtain ⟨m1, m2⟩ := h.mend hd hB hm hi
    rw [if_neg (by simp), if_pos m1, m2]
  · rw [if_pos (by simp [e]), (f1 i hi).2 (by simp [e])]
    rfl
theorem PartRow.fnd (h : PartRow N b m l (fun k => k != j)) (hd : ∀ s ∈ l, s.data.length = 16) (hB : W.parB b 0 m l = true) (hm : ∀ x ∈ R.job b 0 m l, x.2.mask = m) {k : Nat} (hk : k < l.length) :
    R.fnd (R.look N b 0 m) b 0 m k = if (l.getD k En.zero).role != 3 then some ⟨l.getD k En.zero, b, 0, k, m, l.length != j, !(k != j)⟩ else none := by
  obtain ⟨p1, p2, p3, p4⟩ := parB_len hB
  obtain ⟨f1, f2, f3, f4⟩ := h.fd hm p1
  unfold R.fnd R.okAt R.enAt
  rw [(f1 k hk).1, f3]
  by_cases e : k = j
  · subst e
    obtain ⟨m1, m2⟩ := h.mend hd hB hm hk
    have hf : (k != k) = false := by simp
    rw [m1, m2, hf]; rfl
  · have ht : (k != j) = true := by simp [e]
    rw [(f1 k hk).2 ht, ht]
    rfl
theorem PartRow.allM (h : PartRow N b m l (fun k => k != j)) (hd : ∀ s ∈ l, s.data.length = 16) (hB : W.parB b 0 m l = true) (hm : ∀ x ∈ R.job b 0 m l, x.2.mask = m) :
    R.allM N b 0 m = (List.range l.length).filterMap fun k => if (l.getD k En.zero).role != 3 then some ⟨l.getD k En.zero, b, 0, k, m, l.length != j, !(k != j)⟩ else none := by
  obtain ⟨p1, p2, p3, p4⟩ := parB_len hB
  unfold R.allM
  rw [(look_len N b 0 m).1, show (G.slots m).toNat = l.length from by omega]
  exact filterMap_same fun k hk => h.fnd hd hB hm (List.mem_range.1 hk)
theorem PartRow.all (h : PartRow N b m l (fun k => k != j)) (hd : ∀ s ∈ l, s.data.length = 16) (hB : W.parB b 0 m l = true) (hm : ∀ x ∈ R.job b 0 m l, x.2.mask = m) (hin : ∀ x ∈ R.job b 0 m l, 0 ≤ x.1 ∧ x.1 < (N.dies : Int)) :
    R.all N b 0 = (List.range l.length).filterMap fun k => if (l.getD k En.zero).role != 3 then some ⟨l.getD k En.zero, b, 0, k, m, l.length != j, !(k != j)⟩ else none := by
  obtain ⟨p1, p2, p3, p4⟩ := parB_len hB
  have hmk := (h.masks hm hin).2 (if h0 : j = 0 then ⟨1, by omega, by simp [h0]⟩ else ⟨0, by omega, by simp; omega⟩)
  unfold R.all
  rw [hmk, List.flatMap_cons, List.flatMap_nil, List.append_nil]
  exact h.allM hd hB hm
end Go.Proofs.YtoideahgjgaddaaGreat
/- Plain laws: a row that was written, and one fault. No program in sight. -/
namespace Go.Proofs.YtoideahgjgaddaaGreat
open Go
theorem look_err {N : Nand} {d b : Int} (h : N.readE d b 0 ≠ 0) : (M.look N d b 0).2 ≠ 1 := by
  unfold M.look
  simp only
  rw [if_neg h]
  split
  · decide
  · split <;> decide
theorem look_dead {N : Nand} {d b : Int} (hd : N.dead.getD d.toNat false = true) : (M.look N d b 0).2 ≠ 1 := by
  refine look_err ?_
  have : N.refuses d b 0 ≠ 0 := by
    unfold Nand.refuses
    rw [hd]
    split
    · decide
    · split
      · decide
      · decide
  unfold Nand.readE
  rw [if_pos this]; exact this
/-- a row of which one die's page may be not good -/
theorem part_of {N : Nand} {b d : Nat} {m : Int} {l : List En} (F : DieFacts m b 0) (hl : (l.length : Int) = G.slots m) (hdd : d < 6)
    (hgood : ∀ x ∈ R.job b 0 m l, x.1 ≠ d → M.look N x.1 b 0 = (x.2, 1)) (hbad : (M.look N (d : Nat) b 0).2 ≠ 1) (hno : ∀ i : Nat, i < N.dies → (∀ x ∈ R.job b 0 m l, x.1 ≠ i) → (M.look N (i : Nat) b 0).2 ≠ 1) :
    ∃ j : Nat, PartRow N b m l (fun k => k != j) ∧ (l.length != j) = !(L.has m (d : Nat) && G.parity m b 0 == (d : Nat)) := by
  have hnd := job_nodup F hl
  have hql : (R.job b 0 m l).length = l.length + 1 := by simp [R.job]
  have huniq : ∀ (j k : Nat) (x y : Int × Sh), (R.job b 0 m l)[j]? = some x → (R.job b 0 m l)[k]? = some y → x.1 = y.1 → j = k := fun j k x y hj hk e => by
    have h1 : j < (R.job b 0 m l).length := (List.getElem?_eq_some_iff.1 hj).1
    have h2 : k < (R.job b 0 m l).length := (List.getElem?_eq_some_iff.1 hk).1
    rw [List.nodup_iff_pairwise_ne, List.pairwise_iff_getElem] at hnd
    have gj : ((R.job b 0 m l).map (·.1))[j]'(by simpa using h1) = x.1 := by
      rw [List.getElem_map]; exact congrArg (·.1) (List.getElem?_eq_some_iff.1 hj).2
    have gk : ((R.job b 0 m l).map (·.1))[k]'(by simpa using h2) = y.1 := by
      rw [List.getElem_map]; exact congrArg (·.1) (List.getElem?_eq_some_iff.1 hk).2
    rcases Nat.lt_trichotomy j k with h | h | h
    · exact absurd (gj.trans (e.trans gk.symm)) (hnd j k _ _ h)
    · exact h
    · exact absurd (gk.trans (e.symm.trans gj.symm)) (hnd k j _ _ h)
  have hlast : (R.job b 0 m l)[l.length]? = some (G.parity m b 0, W.parS b 0 m l) := job_last b 0 m l
  by_cases hh : L.has m (d : Nat) = true
  · obtain ⟨s, hs, _⟩ := job_of F hl hdd hh
    obtain ⟨j, hj⟩ := List.getElem?_of_mem hs
    refine ⟨j, ⟨fun k x hk hg => ?_, fun k x hk hg => ?_, hno⟩, ?_⟩
    · refine hgood x (List.mem_of_getElem? hk) fun e => ?_
      rw [huniq k j x _ hk hj e] at hg
      simp at hg
    · have hkj : k = j := by simpa using hg
      subst hkj
      rw [hj] at hk
      injection hk with hk
      subst hk
      exact hbad
    · rw [hh, Bool.true_and]
      by_cases e : l.length = j
      · subst e
        rw [hj] at hlast
        injection hlast with hlast
        have hpd : G.parity m b 0 = (d : Nat) := (congrArg (fun z : Int × Sh => z.1) hlast).symm
        rw [hpd]
        simp
      · have hp : G.parity m b 0 ≠ (d : Nat) := fun hp => e (huniq _ _ _ _ hlast hj hp)
        rw [beq_eq_false_iff_ne.2 hp]
        simpa using e
  · have hnj : ∀ x ∈ R.job b 0 m l, x.1 ≠ d := fun x hx e => by
      obtain ⟨i, ei, _, hi, _⟩ := job_has F hl x hx
      have : i = d := by omega
      subst this
      exact hh hi
    refine ⟨l.length + 1, ⟨fun k x hk _ => hgood x (List.mem_of_getElem? hk) (hnj x (List.mem_of_getElem? hk)), fun k x hk hg => ?_, hno⟩, ?_⟩
    · have hkj : k = l.length + 1 := by simpa using hg
      have := (List.getElem?_eq_some_iff.1 hk).1
      omega
    · rw [Bool.not_eq_true] at hh
      rw [hh]
      simp
end Go.Proofs.YtoideahgjgaddaaGreat
/- Plain laws: of whole rows one die's pages are lost: all that stood stands still. No program in sight. -/
namespace Go.Proofs.YtoideahgjgaddaaGreat
open Go
/-- what a superblock's pages have: one row -/
structure Laid (N : Nand) (b : Nat) (m : Int) (l : List En) : Prop where
  cells : ∀ x ∈ R.job b 0 m l, (N.blk x.1.toNat b).cells = [⟨putP x.2, false, false⟩]
  rest : ∀ i, (∀ x ∈ R.job b 0 m l, x.1.toNat ≠ i) → (N.blk i b).cells = []
theorem RowOk.laid {N : Nand} {b : Nat} {m : Int} {l : List En} (h : RowOk N b m l) (hc : N.Calm) (hf : Fresh N b) {N' : Nand} (e : R.write N b 0 m l = (N', 0, 0)) : Laid N' b m l := by
  obtain ⟨N'', e2, W⟩ := write_clean h.par (h.clean hc hf)
  rw [e] at e2
  injection e2 with e2
  subst e2
  refine ⟨fun x hx => ?_, fun i hi => ?_⟩
  · have := W.cells x hx
    rwa [Int.toNat_natCast] at this
  · rw [W.rest i b (.inr hi)]; exact (hf i).1
theorem Laid.same {N N' : Nand} {b : Nat} {m : Int} {l : List En} (h : Laid N b m l) (hb : ∀ i, N'.blk i b = N.blk i b) : Laid N' b m l := ⟨fun x hx => by rw [hb]; exact h.cells x hx, fun i hi => by rw [hb]; exact h.rest i hi⟩
theorem Laid.len {N : Nand} {b : Nat} {m : Int} {l : List En} (h : Laid N b m l) (d : Nat) : (N.blk d b).cells.length ≤ 1 := by
  by_cases hx : ∃ x ∈ R.job b 0 m l, x.1.toNat = d
  · obtain ⟨x, hx, rfl⟩ := hx
    rw [h.cells x hx]; exact Nat.le_refl _
  · rw [h.rest d fun x hx' e => hx ⟨x, hx', e⟩]
    exact Nat.zero_le _
def loDead (N : Nand) (d : Nat) : Nand := { N with dead := N.dead.set d true }
theorem loDead_get {N : Nand} {d i : Nat} (hi : i ≠ d) : (loDead N d).dead.getD i false = N.dead.getD i false := by
  show (N.dead.set d true).getD i false = _
  rw [List.getD_eq_getElem?_getD, List.getElem?_set_ne (fun e => hi e.symm), ← List.getD_eq_getElem?_getD]
/-- what is found of a row when a die is dead -/
theorem dead_row {N : Nand} {b d : Nat} {m : Int} {l : List En} (hr : RowOk N b m l) (hc : N.Calm) (hL : Laid N b m l) (hd : d < N.dies) (hlen : N.dead.length = N.dies) :
    ∃ (w : Bool) (z : Nat → Bool), OneRow (loDead N d) b ((List.range l.length).filterMap fun k => if (l.getD k En.zero).role != 3 then some ⟨l.getD k En.zero, b, 0, k, m, w, z k⟩ else none) := by
  obtain ⟨F, p1, hin, hmm⟩ := hr.facts
  have hsh := job_sh F hr.data hr.par
  have hdd : (loDead N d).dead.getD d false = true := by
    show (N.dead.set d true).getD d false = true
    rw [List.getD_eq_getElem?_getD, List.getElem?_set_self (by omega)]; rfl
  have hbad : (M.look (loDead N d) (d : Nat) b 0).2 ≠ 1 := look_dead (by rw [Int.toNat_natCast]; exact hdd)
  obtain ⟨j, hp, _⟩ := part_of (N := loDead N d) F p1 (d := d) (by have := hr.six; omega) (fun x hx hne => by
    obtain ⟨s1, s2, s3, s4, s5, s6, s7⟩ := hsh x hx
    have hi := hin x hx
    have hc1 := hL.cells x hx
    exact look_good (N := loDead N d) hc.off hi (by rw [loDead_get (by omega)]; exact hc.dead _) ⟨by omega, by have := hr.blk; show (b : Int) < (N.blocks : Int); omega⟩ hr.pages (t := false) (rst := []) (by rw [Int.toNat_natCast]; exact hc1) s1 s2 s3 s4 s5 s6) hbad (fun i hi hno => by
    refine look_empty ?_
    rw [Int.toNat_natCast, Int.toNat_natCast]
    exact hL.rest i fun x hx e => hno x hx (by have := hin x hx; omega))
  refine ⟨l.length != j, fun k => !(k != j), hp.all hr.data hr.par hmm hin, fun r hr d' => look_blank ?_⟩
  rw [Int.toNat_natCast, Int.toNat_natCast, Int.toNat_natCast]
  exact Nat.le_trans (hL.len d') hr
/-- rows, each in a superblock of its own -/
def loN (N : Nand) (f : Nat → Int × List En) : Nat → Nand
  | 0 => N
  | i + 1 => (R.write (loN N f i) (i : Nat) 0 (f i).1 (f i).2).1
structure LoI (N0 : Nand) (f : Nat → Int × List En) (i : Nat) (N : Nand) : Prop where
  calm : N.Calm
  like : N0.Like N
  dead : N.dead.length = N.dies
  fresh : ∀ b, (i ≤ b ∨ W.parB b 0 (f b).1 (f b).2 = false) → Fresh N b
  rows : ∀ b, b < i → W.parB b 0 (f b).1 (f b).2 = true → OneRow N b (rowF b (f b).1 (f b).2 fun _ => true) ∧ Laid N b (f b).1 (f b).2
theorem lo_inv {N0 : Nand} (hc : N0.Calm) (hf : ∀ b, Fresh N0 b) (hD : 3 ≤ N0.dies ∧ N0.dies ≤ 6) (hp : 0 < N0.pages) (hlen : N0.dead.length = N0.dies) (f : Nat → Int × List En) (hm : ∀ i, 0 ≤ (f i).1 ∧ (f i).1 < 2 ^ N0.dies) (hd : ∀ i, ∀ s ∈ (f i).2, s.data.length = 16) (hG : ∀ i, i ≤ N0.blocks → (loN N0 f i).dead.length = (loN N0 f i).dies) : ∀ i, i ≤ N0.blocks → LoI N0 f i (loN N0 f i)
  | 0, h => ⟨hc, Nand.Like.refl _, hlen, fun b _ => hf b, fun b hb => by omega⟩
  | i + 1, h => by
    have ih := lo_inv hc hf hD hp hlen f hm hd hG i (by omega)
    have hlen' := hG (i + 1) h
    by_cases hB : W.parB i 0 (f i).1 (f i).2 = true
    · have hr : RowOk (loN N0 f i) i (f i).1 (f i).2 := ⟨by rw [ih.like.dies]; exact hD.2, by rw [ih.like.blocks]; omega, by rw [ih.like.pages]; exact hp, by rw [ih.like.dies]; exact hm i, hd i, hB⟩
      have hfr := ih.fresh i (.inl (Nat.le_refl _))
      obtain ⟨N', e, c', l', _, r', o'⟩ := hr.write ih.calm hfr
      have hla := hr.laid ih.calm hfr e
      have hN : loN N0 f (i + 1) = N' := by
        show (R.write (loN N0 f i) (i : Nat) 0 (f i).1 (f i).2).1 = N'
        rw [e]
      rw [hN] at hlen' ⊢
      refine ⟨c', ih.like.trans l', hlen', fun b hb k => ?_, fun b hb hbB => ?_⟩
      · by_cases hbi : b = i
        · subst hbi
          rcases hb with hb | hb
          · omega
          · rw [hb] at hB; cases hB
        · rw [r' k b hbi]
          exact ih.fresh b (hb.imp (fun h => by omega) id) k
      · by_cases hbi : b = i
        · subst hbi
          exact ⟨o', hla⟩
        · have := ih.rows b (by omega) hbB
          exact ⟨this.1.same (ih.calm.same c' l' fun k => r' k b hbi), this.2.same fun k => r' k b hbi⟩
    · have hN : loN N0 f (i + 1) = loN N0 f i := by
        show (R.write (loN N0 f i) (i : Nat) 0 (f i).1 (f i).2).1 = _
        unfold R.write
        rw [if_neg hB]
      rw [hN]
      refine ⟨ih.calm, ih.like, ih.dead, fun b hb => ih.fresh b (hb.imp (fun h => by omega) id), fun b hb hbB => ?_⟩
      by_cases hbi : b = i
      · subst hbi
        exact absurd hbB hB
      · exact ih.rows b (by omega) hbB
/-- what may be found of a row -/
def loF (f : Nat → Int × List En) (w : Nat → Bool) (z : Nat → Nat → Bool) (b : Nat) : List Fnd := if W.parB b 0 (f b).1 (f b).2 then (List.range (f b).2.length).filterMap fun k => if ((f b).2.getD k En.zero).role != 3 then some ⟨(f b).2.getD k En.zero, b, 0, k, (f b).1, w b, z b k⟩ else none else []
def loE (l : List En) : List En := (List.range l.length).filterMap fun k => if (l.getD k En.zero).role != 3 then some (l.getD k En.zero) else none
theorem loF_en (f : Nat → Int × List En) (w : Nat → Bool) (z : Nat → Nat → Bool) (b : Nat) : (loF f w z b).map (·.en) = if W.parB b 0 (f b).1 (f b).2 then loE (f b).2 else [] := by
  unfold loF
  split
  · rw [List.map_filterMap]
    unfold loE
    refine filterMap_same fun k _ => ?_
    split <;> rfl
  · rfl
theorem flat_map_en (F G : Nat → List Fnd) (l : List Nat) (h : ∀ b ∈ l, (F b).map (·.en) = (G b).map (·.en)) : (l.flatMap F).map (·.en) = (l.flatMap G).map (·.en) := by
  rw [List.map_flatMap, List.map_flatMap, List.flatMap_def, List.flatMap_def]
  congr 1
  exact List.map_congr_left h
theorem lo_all {N0 : Nand} {f : Nat → Int × List En} {n : Nat} {N : Nand} (h : LoI N0 f n N) (hp : 0 < N0.pages) : V.all N = (List.range N0.blocks).flatMap fun b => if b < n then loF f (fun _ => true) (fun _ _ => false) b else [] := by
  rw [all_rows (fun b => if b < n then loF f (fun _ => true) (fun _ _ => false) b else []) (by rw [h.like.pages]; exact hp) fun b hb => ?_, h.like.blocks]
  by_cases hbn : b < n
  · simp only [if_pos hbn]
    unfold loF
    by_cases hB : W.parB b 0 (f b).1 (f b).2 = true
    · rw [if_pos hB]
      exact (h.rows b hbn hB).1
    · rw [if_neg hB]
      exact one_empty fun i => (h.fresh b (.inr (by simpa using hB)) i).1
  · simp only [if_neg hbn]
    exact one_empty fun i => (h.fresh b (.inl (by omega)) i).1
theorem lo_dead {N0 : Nand} {f : Nat → Int × List En} {n : Nat} {N : Nand} (h : LoI N0 f n N) (hp : 0 < N0.pages) (hD : 3 ≤ N0.dies ∧ N0.dies ≤ 6) (hn : n ≤ N0.blocks) (hm : ∀ i, 0 ≤ (f i).1 ∧ (f i).1 < 2 ^ N0.dies) (hd : ∀ i, ∀ s ∈ (f i).2, s.data.length = 16) (d : Nat) (hdD : d < N0.dies) :
    ∃ w z, V.all (loDead N d) = (List.range N0.blocks).flatMap fun b => if b < n then loF f w z b else [] := by
  have key : ∀ b, ∃ (w : Bool) (z : Nat → Bool), b < n → W.parB b 0 (f b).1 (f b).2 = true → OneRow (loDead N d) b ((List.range (f b).2.length).filterMap fun k => if ((f b).2.getD k En.zero).role != 3 then some ⟨(f b).2.getD k En.zero, b, 0, k, (f b).1, w, z k⟩ else none) := fun b => by
    by_cases hb : b < n ∧ W.parB b 0 (f b).1 (f b).2 = true
    · have hr : RowOk N b (f b).1 (f b).2 := ⟨by rw [h.like.dies]; exact hD.2, by rw [h.like.blocks]; omega, by rw [h.like.pages]; exact hp, by rw [h.like.dies]; exact hm b, hd b, hb.2⟩
      obtain ⟨w, z, o⟩ := dead_row hr h.calm (h.rows b hb.1 hb.2).2 (d := d) (by rw [h.like.dies]; exact hdD) h.dead
      exact ⟨w, z, fun _ _ => o⟩
    · exact ⟨true, fun _ => true, fun h1 h2 => absurd ⟨h1, h2⟩ hb⟩
  refine ⟨fun b => (key b).choose, fun b => (key b).choose_spec.choose, ?_⟩
  have hk := fun b => (key b).choose_spec.choose_spec
  have hemp : ∀ b, Fresh N b → OneRow (loDead N d) b [] := fun b hb => one_empty (N := loDead N d) fun i => (hb i).1
  rw [all_rows (fun b => if b < n then loF f (fun b => (key b).choose) (fun b => (key b).choose_spec.choose) b else []) (by show 0 < N.pages; rw [h.like.pages]; exact hp) fun b hb => ?_]
  · show (List.range N.blocks).flatMap _ = _
    rw [h.like.blocks]
  · by_cases hbn : b < n
    · simp only [if_pos hbn]
      unfold loF
      by_cases hB : W.parB b 0 (f b).1 (f b).2 = true
      · rw [if_pos hB]
        exact hk b hbn hB
      · rw [if_neg hB]
        exact hemp b (h.fresh b (.inr (by simpa using hB)))
    · simp only [if_neg hbn]
      exact hemp b (h.fresh b (.inl (by omega)))
namespace V
/-- of entries with unlike sequences the same one stands -/
theorem standOf_en : ∀ (n : Nat) (l l' : List Fnd), l.length = n → l.map (·.en) = l'.map (·.en) → (l.map fun f => f.en.seq).Nodup → (standOf l).2 = (standOf l').2 ∧ (standOf l).1.en = (standOf l').1.en
  | 0, l, l', hl, he, _ => by
    have h1 : l = [] := List.eq_nil_of_length_eq_zero hl
    subst h1
    have h2 : l' = [] := by
      have := congrArg List.length he
      simp only [List.map_nil, List.length_nil, List.length_map] at this
      exact List.eq_nil_of_length_eq_zero this.symm
    subst h2
    exact ⟨rfl, rfl⟩
  | n + 1, l, l', hl, he, hn => by
    have hlen : l'.length = n + 1 := by
      have := congrArg List.length he
      simp only [List.length_map] at this
      omega
    have h1 : l ≠ [] := fun h => by rw [h] at hl; simp at hl
    have h2 : l' ≠ [] := fun h => by rw [h] at hlen; simp at hlen
    obtain ⟨a, x, rfl⟩ : ∃ a x, l = a ++ [x] := ⟨l.dropLast, l.getLast h1, (List.dropLast_concat_getLast h1).symm⟩
    obtain ⟨a', x', rfl⟩ : ∃ a x, l' = a ++ [x] := ⟨l'.dropLast, l'.getLast h2, (List.dropLast_concat_getLast h2).symm⟩
    simp only [List.length_append, List.length_cons, List.length_nil] at hl hlen
    rw [List.map_append, List.map_append] at he
    obtain ⟨ha, hx⟩ := List.append_inj he (by simp only [List.length_map]; omega)
    have hx : x.en = x'.en := by simpa using hx
    rw [List.map_append, List.nodup_append] at hn
    obtain ⟨i1, i2⟩ := standOf_en n a a' (by omega) ha hn.1
    rw [standOf_snoc, standOf_snoc]
    cases h3 : (standOf a).2 with
    | false =>
      rw [if_pos (.inl rfl), if_pos (.inl (by rw [← i1]; exact h3))]
      exact ⟨rfl, hx⟩
    | true =>
      have hm := standOf_mem h3
      have hm' := standOf_mem (l := a') (by rw [← i1]; exact h3)
      have hne : (standOf a).1.en.seq ≠ x.en.seq := fun e => hn.2.2 _ (List.mem_map_of_mem (f := fun f : Fnd => f.en.seq) hm) x.en.seq (by simp) e
      have hb : behind (standOf a).1 x = decide ((standOf a).1.en.seq < x.en.seq) := by unfold behind; rw [if_pos hne]
      have hb' : behind (standOf a').1 x' = decide ((standOf a).1.en.seq < x.en.seq) := by unfold behind; rw [← i2, ← hx, if_pos hne]
      rw [← i1, h3, hb, hb']
      split
      · exact ⟨rfl, hx⟩
      · exact ⟨by rw [h3, ← i1, h3], i2⟩
theorem step_tb' (N : Nand) (L : List Fnd) (s : Sst) (k : Nat) : (step N L s k).tb = if (standOf (of L k)).2 = true then s.tb.put (standOf (of L k)).1.en (standOf (of L k)).1.block (standOf (of L k)).1.row (standOf (of L k)).1.slot (standOf (of L k)).1.mask else s.tb := by
  unfold step
  by_cases h : (standOf (of L k)).2 = true
  · rw [if_pos h, if_pos h]
    split
    · rfl
    · split <;> rfl
  · rw [if_neg h, if_neg h]
theorem look_put (t : Tb) (e : En) (b r s m : Int) (i : Int) : Tb.look (t.put e b r s m).at_ i = if t.putB e = true ∧ i = e.lpn then some ⟨b, r, s, m, e.seq, e.role⟩ else Tb.look t.at_ i := by
  unfold Tb.put
  by_cases h : t.putB e = true
  · rw [if_pos h]
    show Tb.look (Tb.put1 t.at_ e.lpn _) i = _
    rw [Tb.look_put1]
    by_cases hi : i = e.lpn
    · rw [if_pos hi, if_pos ⟨h, hi⟩]
    · rw [if_neg hi, if_neg (fun h => hi h.2)]
  · rw [if_neg h, if_neg (fun h' => h h'.1)]
/-- what a scan's table has of a page -/
theorem goS_look (N : Nand) (L : List Fnd) (n : Int) : ∀ k i : Nat, Tb.look (goS N L n k).tb.at_ (i : Int) = if i < k ∧ (standOf (of L i)).2 = true ∧ Tb.ok (Tb.new n) (standOf (of L i)).1.en = true then some ⟨(standOf (of L i)).1.block, (standOf (of L i)).1.row, (standOf (of L i)).1.slot, (standOf (of L i)).1.mask, (standOf (of L i)).1.en.seq, (standOf (of L i)).1.en.role⟩ else none
  | 0, i => by rw [if_neg (by omega)]; rfl
  | k + 1, i => by
    have ih := goS_look N L n k
    have hlog : (goS N L n k).tb.logical = (Tb.new n).logical := goS_log N L n k
    rw [goS_succ, step_tb']
    by_cases hs : (standOf (of L k)).2 = true
    · have hlpn : (standOf (of L k)).1.en.lpn = k := by
        have := (List.mem_filter.1 (standOf_mem hs)).2
        exact eq_of_beq this
      have hok : (goS N L n k).tb.putB (standOf (of L k)).1.en = Tb.ok (Tb.new n) (standOf (of L k)).1.en := by
        unfold Tb.putB Tb.elder
        rw [hlpn, ih k, if_neg (by omega)]
        unfold Tb.ok
        rw [hlog]
        simp
      rw [if_pos hs, look_put, hok, hlpn, ih i]
      by_cases hik : i = k
      · subst hik
        by_cases ho : Tb.ok (Tb.new n) (standOf (of L i)).1.en = true
        · rw [if_pos ⟨ho, rfl⟩, if_pos ⟨by omega, hs, ho⟩]
        · rw [if_neg (fun h => ho h.1), if_neg (by omega), if_neg (fun h => ho h.2.2)]
      · rw [if_neg (fun h => hik (by omega))]
        by_cases hc : (standOf (of L i)).2 = true ∧ Tb.ok (Tb.new n) (standOf (of L i)).1.en = true
        · by_cases hlt : i < k
          · rw [if_pos ⟨hlt, hc⟩, if_pos ⟨by omega, hc⟩]
          · rw [if_neg (fun h => hlt h.1), if_neg (fun h => by omega)]
        · rw [if_neg (fun h => hc h.2), if_neg (fun h => hc h.2)]
    · rw [if_neg hs, ih i]
      by_cases hik : i = k
      · subst hik
        rw [if_neg (by omega), if_neg (fun h => hs h.2.1)]
      · by_cases hc : (standOf (of L i)).2 = true ∧ Tb.ok (Tb.new n) (standOf (of L i)).1.en = true
        · by_cases hlt : i < k
          · rw [if_pos ⟨hlt, hc⟩, if_pos ⟨by omega, hc⟩]
          · rw [if_neg (fun h => hlt h.1), if_neg (fun h => by omega)]
        · rw [if_neg (fun h => hc h.2), if_neg (fun h => hc h.2)]
/-- where all is whole nothing is torn -/
theorem goS_whole {N : Nand} {L : List Fnd} (h : ∀ f ∈ L, f.whole = true) (n : Int) : ∀ k, (goS N L n k).torn = [] ∧ (goS N L n k).others = []
  | 0 => ⟨rfl, rfl⟩
  | k + 1 => by
    have ih := goS_whole (N := N) h n k
    rw [goS_succ]
    unfold step
    by_cases h2 : (standOf (of L k)).2 = true
    · have hw : (standOf (of L k)).1.whole = true := h _ (List.mem_filter.1 (standOf_mem h2)).1
      rw [if_pos h2, if_pos hw]
      exact ih
    · rw [if_neg h2]
      exact ih
/-- lists of the same entries, no two of one sequence: the same is told of each page -/
theorem same_en {N N' : Nand} {L L' : List Fnd} (he : L.map (·.en) = L'.map (·.en)) (hn : (L.map fun f => f.en.seq).Nodup) (n : Int) (k i : Nat) :
    (Tb.look (goS N L n k).tb.at_ (i : Int)).map (fun a => (a.seq, a.role)) = (Tb.look (goS N' L' n k).tb.at_ (i : Int)).map (fun a => (a.seq, a.role)) := by
  have hof : (of L i).map (·.en) = (of L' i).map (·.en) := by
    have h1 : ∀ M : List Fnd, (of M i).map (·.en) = (M.map (·.en)).filter fun e => e.lpn == (i : Int) := fun M => by
      unfold of
      rw [List.filter_map]; rfl
    rw [h1, h1, he]
  have hn2 : ((of L i).map fun f => f.en.seq).Nodup := List.Nodup.sublist (List.Sublist.map _ List.filter_sublist) hn
  obtain ⟨s1, s2⟩ := standOf_en _ (of L i) (of L' i) rfl hof hn2
  rw [goS_look, goS_look, ← s1, ← s2]
  split <;> simp [s2]
end V
/-- sequences of a row's entries -/
def seqL (i : Nat) : List En → Nat → List En
  | [], _ => []
  | e :: l, k => (if e.role != 3 then { e with seq := 8 * (i : Int) + (k : Int) + 1 } else e) :: seqL i l (k + 1)
theorem seqL_len (i : Nat) : ∀ (l : List En) (k : Nat), (seqL i l k).length = l.length
  | [], _ => rfl
  | e :: l, k => by rw [seqL, List.length_cons, List.length_cons, seqL_len]
theorem seqL_data (i : Nat) : ∀ (l : List En) (k : Nat), (∀ s ∈ l, s.data.length = 16) → ∀ s ∈ seqL i l k, s.data.length = 16
  | [], _, _ => fun s hs => by cases hs
  | e :: l, k, h => fun s hs => by
    rcases List.mem_cons.1 hs with rfl | hs
    · have := h e (List.mem_cons_self ..)
      split <;> exact this
    · exact seqL_data i l (k + 1) (fun s hs => h s (List.mem_cons_of_mem _ hs)) s hs
theorem seqL_get (i : Nat) : ∀ (l : List En) (k j : Nat), j < l.length → ((seqL i l k).getD j En.zero).role ≠ 3 → ((seqL i l k).getD j En.zero).seq = 8 * (i : Int) + ((k + j : Nat) : Int) + 1
  | [], _, j, h, _ => by simp at h
  | e :: l, k, 0, _, hr => by
    rw [seqL, List.getD_cons_zero] at hr ⊢
    by_cases h : (e.role != 3) = true
    · rw [if_pos h]; simp
    · rw [if_neg h] at hr
      simp at h
      exact absurd h hr
  | e :: l, k, j + 1, h, hr => by
    rw [seqL, List.getD_cons_succ] at hr ⊢
    rw [seqL_get i l (k + 1) j (by simpa using h) hr]
    omega
theorem loE_seq (i : Nat) (l : List En) (hl : l.length ≤ 8) : ((loE (seqL i l 0)).map (·.seq)).Pairwise (· < ·) ∧ ∀ s ∈ (loE (seqL i l 0)).map (·.seq), 8 * (i : Int) < s ∧ s ≤ 8 * (i : Int) + 8 := by
  have hmap : (loE (seqL i l 0)).map (·.seq) = ((List.range l.length).filter fun k => ((seqL i l 0).getD k En.zero).role != 3).map fun k : Nat => 8 * (i : Int) + (k : Int) + 1 := by
    unfold loE
    rw [seqL_len, List.map_filterMap, ← List.filterMap_eq_filter, List.map_filterMap]
    refine filterMap_same fun k hk => ?_
    have hk := List.mem_range.1 hk
    by_cases h : (((seqL i l 0).getD k En.zero).role != 3) = true
    · rw [if_pos h]
      simp only [Option.guard, h, if_true, Option.map_some]
      rw [seqL_get i l 0 k hk (by simpa using h), Nat.zero_add]
    · rw [if_neg h]
      simp only [Option.guard, h, if_false, Option.map_none]
      rfl
  rw [hmap]
  constructor
  · rw [List.pairwise_map]
    exact (List.pairwise_lt_range.filter _).imp fun h => by omega
  · intro s hs
    obtain ⟨k, hk, rfl⟩ := List.mem_map.1 hs
    have := List.mem_range.1 (List.mem_filter.1 hk).1
    omega
/-- no two of one sequence -/
theorem lo_nodup (f : Nat → Int × List En) (g : Nat → List En) (hf : ∀ i, (f i).2 = seqL i (g i) 0) (hg : ∀ i, (g i).length ≤ 8) (w : Nat → Bool) (z : Nat → Nat → Bool) (n B : Nat) : (((List.range B).flatMap fun b => if b < n then loF f w z b else []).map fun e => e.en.seq).Nodup := by
  have h1 : ∀ b, (if b < n then loF f w z b else []).map (fun e => e.en.seq) = if b < n then (if W.parB b 0 (f b).1 (f b).2 then (loE (seqL b (g b) 0)).map (·.seq) else []) else [] := fun b => by
    split
    · have := congrArg (List.map (·.seq)) (loF_en f w z b)
      rw [List.map_map] at this
      refine this.trans ?_
      rw [hf b]
      split <;> rfl
    · rfl
  have h2 : ∀ B, ((((List.range B).flatMap fun b => if b < n then loF f w z b else []).map fun e => e.en.seq).Pairwise (· < ·)) ∧ ∀ s ∈ ((List.range B).flatMap fun b => if b < n then loF f w z b else []).map (fun e => e.en.seq), s ≤ 8 * (B : Int) := by
    intro B
    induction B with
    | zero => exact ⟨List.Pairwise.nil, fun s hs => by cases hs⟩
    | succ B ih =>
      have h3 : (if B < n then loF f w z B else []).map (fun e => e.en.seq) = [] ∨ (if B < n then loF f w z B else []).map (fun e => e.en.seq) = (loE (seqL B (g B) 0)).map (·.seq) := by
        rw [h1]
        split
        · split
          · exact .inr rfl
          · exact .inl rfl
        · exact .inl rfl
      rw [List.range_succ, List.flatMap_append, List.map_append, List.flatMap_cons, List.flatMap_nil, List.append_nil]
      obtain ⟨q1, q2⟩ := loE_seq B (g B) (hg B)
      rcases h3 with h3 | h3
      · rw [h3, List.append_nil]
        exact ⟨ih.1, fun s hs => by have := ih.2 s hs; omega⟩
      · rw [h3]
        refine ⟨List.pairwise_append.2 ⟨ih.1, q1, fun a ha b hb => by have := ih.2 a ha; have := q2 b hb; omega⟩, fun s hs => ?_⟩
        rcases List.mem_append.1 hs with hs | hs
        · have := ih.2 s hs; omega
        · have := q2 s hs; omega
  exact (h2 B).1.imp fun h => by omega
/-- the sentence, plain -/
theorem lost_law {N0 : Nand} {f : Nat → Int × List En} {g : Nat → List En} {n : Nat} {N : Nand} (h : LoI N0 f n N) (hp : 0 < N0.pages) (hD : 3 ≤ N0.dies ∧ N0.dies ≤ 6) (hn : n ≤ N0.blocks) (hm : ∀ i, 0 ≤ (f i).1 ∧ (f i).1 < 2 ^ N0.dies) (hd : ∀ i, ∀ s ∈ (f i).2, s.data.length = 16)
    (hf : ∀ i, (f i).2 = seqL i (g i) 0) (hg : ∀ i, (g i).length ≤ 8) (d : Nat) (hdD : d < N0.dies) :
    (V.scan N 30).torn = [] ∧ (V.scan (loDead N d) 30).pages = (V.scan N 30).pages ∧ ∀ i : Nat, (Tb.look (V.scan N 30).tb.at_ (i : Int)).map (fun a => (a.seq, a.role)) = (Tb.look (V.scan (loDead N d) 30).tb.at_ (i : Int)).map (fun a => (a.seq, a.role)) := by
  obtain ⟨w, z, h2⟩ := lo_dead h hp hD hn hm hd d hdD
  have h1 := lo_all h hp
  have he : (V.all N).map (·.en) = (V.all (loDead N d)).map (·.en) := by
    rw [h1, h2]
    refine flat_map_en _ _ _ fun b _ => ?_
    split
    · rw [loF_en, loF_en]
    · rfl
  have hw : ∀ e ∈ V.all N, e.whole = true := fun e he => by
    rw [h1, List.mem_flatMap] at he
    obtain ⟨b, _, he⟩ := he
    split at he
    · unfold loF at he
      split at he
      · obtain ⟨k, _, he⟩ := List.mem_filterMap.1 he
        split at he
        · injection he with he
          subst he
          rfl
        · cases he
      · cases he
    · cases he
  have hnd : ((V.all N).map fun e => e.en.seq).Nodup := by rw [h1]; exact lo_nodup f g hf hg _ _ n _
  have ht := V.goS_whole (N := N) hw 30 (V.size 30)
  refine ⟨?_, ?_, fun i => V.same_en he hnd 30 (V.size 30) i⟩
  · show (V.goS N (V.all N) 30 (V.size 30)).torn ++ (V.goS N (V.all N) 30 (V.size 30)).others = []
    rw [ht.1, ht.2]; rfl
  · have := congrArg List.length he
    simp only [List.length_map] at this
    exact this.symm
end Go.Proofs.YtoideahgjgaddaaGreat
/- What came in: rows with slices that may be cut. No condition. -/
namespace Go.Proofs.YtoideahgjgaddaaGreat
open Go Go.RowKit
open Go.ChangeShapes Go.WideShapes Go.ChangeAt
/-- a row's slice as a slice is -/
structure RowV.Fit (x : RowV) : Prop where
  cap : x.n ≤ x.c
  nil : x.al = none → x.c = 0
section
variable {H : Type} {enc : TypeId × Value → H} {w : World} {base : Nat} {spare : Nat → Bool} {held : Bool}
theorem ens_of2 {fuel : Nat} {cs : List Value} {x : DataW H × List MemPlace} (h : DataW.trod enc Tryz.prog w base spare held fuel 31 cs = some x) :
    ∃ (a : Option Addr) (len cap : Nat) (l : List En), cs = [.slice a len cap] ∧ l.length = len ∧ (∀ e ∈ l, e.data.length = 16) ∧ rdP a 19 len (cellsE l) (hl w) ∧ len ≤ cap ∧ (a = none → cap = 0) := by
  have h0 := h
  rcases Deep.open_slice Tryz.underlying31 h with ⟨hcs, _⟩ | ⟨a', len', cap', m, n, D, Pl, hcs, _⟩
  · subst hcs
    exact ⟨none, 0, 0, [], rfl, rfl, fun _ h => by simp at h, rd_none, Nat.le_refl _, fun _ => rfl⟩
  · subst hcs
    obtain ⟨lc, _, l, e1, e2, e3⟩ := open_ens h0
    exact ⟨_, _, _, l, rfl, e1, e2, e3, lc, fun e => by cases e⟩
theorem row_of2 {fuel : Nat} {cs : List Value} {y : DataW H × List MemPlace} (h : DataW.trod enc Tryz.prog w base spare held fuel 59 cs = some y) : ∃ x : RowV, (x.In w ∧ x.Fit) ∧ cs = x.cells := by
  obtain ⟨y0, y1, y2, n, _, hl, h0, h1, h2⟩ := Deep.trod_struct3 Tryz.underlying59 h
  have hlen : cs.length = 3 := hl.trans (by kernel_rfl)
  have c1 : Tryz.prog.cellsOf 3 = 1 := by kernel_rfl
  have c2 : Tryz.prog.cellsOf 31 = 1 := by kernel_rfl
  simp only [c1, c2] at h0 h1 h2
  obtain ⟨n0, q0⟩ := one_i64 Tryz.underlying3 h0
  obtain ⟨n1, q1⟩ := one_i64 Tryz.underlying3 h1
  obtain ⟨a, len, cap, l, q2, e1, e2, e3, e4, e5⟩ := ens_of2 h2
  refine ⟨⟨n0, n1, a, len, cap, l⟩, ⟨⟨e3, e1, e2⟩, ⟨e4, e5⟩⟩, ?_⟩
  match cs, hlen with
  | [_, _, _], _ =>
    simp at q0 q1 q2
    subst q0 q1 q2
    rfl
theorem open_rows2 {held' : Bool} {fuel : Nat} {a : Option Addr} {len cap : Nat} {x : DataW H × List MemPlace} (h : DataW.trod enc Tryz.prog w base spare held' fuel 24 [.slice a len cap] = some x) :
    ∃ l : List RowV, l.length = len ∧ (∀ e ∈ l, e.In w ∧ e.Fit) ∧ rdP a 3 len (l.flatMap RowV.cells) (hl w) :=
  open_many RowV.cells (fun x => x.In w ∧ x.Fit) Tryz.underlying24 (by kernel_rfl) (by decide) row_of2 h
end
end Go.Proofs.YtoideahgjgaddaaGreat
