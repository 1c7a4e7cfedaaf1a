/- Helpers of the proofs about ostrakonlaw11, proved here: PlF, PlG, PlH, PlI, PlJ, PlK, PlM, PlN, RfD. No condition. -/
import Derived.Test.YtmohcbniepdncaaGreatM09
import Derived.Test.YtmohcbniepdncaaGreatM16
import Derived.Test.YtmohcbniepdncaaGreatM17
import Derived.Test.YtmohcbniepdncaaGreatM20
import Derived.Test.YtmohcbniepdncaaGreatM21
import Derived.Test.YtmohcbniepdncaaGreatM22
set_option linter.unusedVariables false
set_option linter.unusedSimpArgs false
set_option linter.unusedSectionVars false
set_option linter.unnecessarySimpa false
namespace Go.Proofs.YtmohcbniepdncaaGreat
open Go
namespace K
theorem xor_cancel {a b c : Nat} (h : a ^^^ c = b ^^^ c) : a = b := by
  have := congrArg (· ^^^ c) h
  simpa [Nat.xor_assoc] using this
theorem round_inj {s t : Nat} (hs : s < 4294967296) (ht : t < 4294967296) (h : round s = round t) : s = t := by
  have odd : ∀ a : Nat, a % 2 = 0 → (a ^^^ 1947962583) % 2 = 1 := fun a ha => by
    have h0 : (a ^^^ 1947962583).testBit 0 = true := by
      rw [Nat.testBit_xor, Nat.testBit_zero, Nat.testBit_zero, decide_eq_false (by omega)]; rfl
    rw [Nat.testBit_zero] at h0
    exact of_decide_eq_true h0
  unfold round at h
  split at h
  · split at h
    · omega
    · have := odd (t * 2 % 4294967296) (by omega)
      omega
  · split at h
    · have := odd (s * 2 % 4294967296) (by omega)
      omega
    · have := xor_cancel h
      omega
theorem rounds_inj : ∀ (n : Nat) {s t : Nat}, s < 4294967296 → t < 4294967296 → rounds n s = rounds n t → s = t
  | 0, _, _, _, _, h => h
  | n + 1, s, t, hs, ht, h => rounds_inj n hs ht (round_inj (rounds_lt n s hs) (rounds_lt n t ht) h)
theorem step_lt0 {s x : Nat} (hs : s < 4294967296) (hx : x < 256) : s ^^^ (x * 16777216) < 4294967296 := Nat.xor_lt_two_pow (n := 32) (by omega) (by omega)
theorem step_inj {s t x : Nat} (hs : s < 4294967296) (ht : t < 4294967296) (hx : x < 256) (h : step s x = step t x) : s = t :=
  xor_cancel (rounds_inj 8 (step_lt0 hs hx) (step_lt0 ht hx) h)
theorem step_inj2 {s x y : Nat} (hs : s < 4294967296) (hx : x < 256) (hy : y < 256) (h : step s x = step s y) : x = y := by
  have h1 := rounds_inj 8 (step_lt0 hs hx) (step_lt0 hs hy) h
  rw [Nat.xor_comm s, Nat.xor_comm s] at h1
  have := xor_cancel h1
  omega
theorem fold_inj (l : List UInt8) : ∀ s t : Nat, s < 4294967296 → t < 4294967296 → l.foldl (fun s x => step s x.toNat) s = l.foldl (fun s x => step s x.toNat) t → s = t := by
  induction l with
  | nil => intro s t _ _ h; exact h
  | cons x l ih =>
    intro s t hs ht h
    have hx : x.toNat < 256 := x.toNat_lt
    rw [List.foldl_cons, List.foldl_cons] at h
    exact step_inj hs ht hx (ih _ _ (step_lt _ _ hs hx) (step_lt _ _ ht hx) h)
/-- one byte of many is another: so is the sum -/
theorem sum_one (a b : List UInt8) (x y : UInt8) (h : sum (a ++ x :: b) = sum (a ++ y :: b)) : x = y := by
  unfold sum at h
  rw [List.foldl_append, List.foldl_append, List.foldl_cons, List.foldl_cons] at h
  have hs := foldl_lt a 4294967295 (by omega)
  have hx : x.toNat < 256 := x.toNat_lt
  have hy : y.toNat < 256 := y.toNat_lt
  have := step_inj2 hs hx hy (fold_inj b _ _ (step_lt _ _ hs hx) (step_lt _ _ hs hy) h)
  exact UInt8.toNat_inj.1 this
end K
end Go.Proofs.YtmohcbniepdncaaGreat
namespace Go.Proofs.YtmohcbniepdncaaGreat
open Go
namespace Bt
theorem byteAt_congr {a b : List Bool} {i j : Nat} (h : ∀ k, k < 8 → a.getD (i + k) false = b.getD (j + k) false) : byteAt a i = byteAt b j := by
  have h0 := h 0 (by omega)
  rw [Nat.add_zero, Nat.add_zero] at h0
  unfold byteAt
  rw [h0, h 1 (by omega), h 2 (by omega), h 3 (by omega), h 4 (by omega), h 5 (by omega), h 6 (by omega), h 7 (by omega)]
theorem pack_append (A C : List Bool) (q : Nat) (hA : A.length = 8 * q) : pack (A ++ C) = pack A ++ pack C := by
  apply List.ext_getElem?
  intro j
  have hl : (pack A).length = q := by rw [length_pack, hA]; omega
  rw [List.getElem?_append, hl]
  by_cases hj : j < (A.length + C.length + 7) / 8
  · rw [pack_get _ _ (by rw [List.length_append]; exact hj)]
    split
    · rename_i h
      rw [pack_get _ _ (by rw [hA]; omega)]
      congr 2
      refine byteAt_congr fun k hk => ?_
      simp only [List.getD_eq_getElem?_getD]
      rw [List.getElem?_append_left (by omega)]
    · rename_i h
      rw [pack_get _ _ (by omega)]
      congr 2
      refine byteAt_congr fun k hk => ?_
      simp only [List.getD_eq_getElem?_getD]
      rw [List.getElem?_append_right (by omega)]
      congr 2
      omega
  · rw [List.getElem?_eq_none (by rw [length_pack, List.length_append]; omega), if_neg (by omega), List.getElem?_eq_none (by rw [length_pack]; omega)]
theorem bits_inj {u v : Nat} (hu : u < 4294967296) (hv : v < 4294967296) (h : pack (bits u 32) = pack (bits v 32)) : u = v := by
  have h1 := numAt_pack [] [] u 32 0 rfl
  have h2 := numAt_pack [] [] v 32 0 rfl
  simp only [List.nil_append, List.append_nil] at h1 h2
  rw [h, h2] at h1
  omega
end Bt
namespace S
theorem put_tail (s : Sh) (hs : s.data.length = 16) : put s = (put s).take 28 ++ Bt.pack (Bt.bits (K.sum ((put s).take 28)) 32) := by
  have hl : (Bt.pack (head s)).length = 12 := by rw [Bt.length_pack, length_head]
  have h1 : put s = (s.data ++ Bt.pack (head s)) ++ Bt.pack (Bt.bits (K.sum (s.data ++ Bt.pack (head s))) 32) := by
    unfold put
    rw [Bt.pack_append _ _ 12 (length_head s), List.append_assoc]
  have h2 : (put s).take 28 = s.data ++ Bt.pack (head s) := by
    rw [h1]
    exact List.take_left' (by rw [List.length_append, hs, hl])
  rw [h2]; exact h1
theorem turned_none (s : Sh) (hs : s.data.length = 16) (N : Nat) (hN : N < 32) (y : UInt8) (hy : y ≠ (put s).getD N 0) : get ((put s).set N y) = none := by
  have hpl := length_put s hs
  unfold get
  rw [if_neg]
  rintro ⟨_, h2⟩
  have hx : (fields ((put s).set N y)).data.length = 16 := by
    show (((put s).set N y).take 16).length = 16
    rw [List.length_take, List.length_set, hpl]; rfl
  have t1 := put_tail s hs
  have t2 := put_tail (fields ((put s).set N y)) hx
  rw [h2] at t2
  have hd : ∀ l : List UInt8, l.length = 32 → ∀ t, l = l.take 28 ++ t → l.drop 28 = t := fun l hl t h => by
    have := congrArg (List.drop 28) h
    rwa [List.drop_left' (by rw [List.length_take, hl]; rfl)] at this
  have d1 := hd _ hpl _ t1
  have d2 := hd _ (by rw [List.length_set]; exact hpl) _ t2
  have hg : (put s).getD N 0 = (put s)[N]'(by omega) := by rw [List.getD_eq_getElem?_getD, List.getElem?_eq_getElem (by omega), Option.getD_some]
  rcases Nat.lt_or_ge N 28 with h | h
  · have e1 : ((put s).set N y).drop 28 = (put s).drop 28 := by rw [List.drop_set, if_pos h]
    rw [e1, d1] at d2
    have hsum := Bt.bits_inj (K.sum_lt _) (K.sum_lt _) d2
    have hl28 : ((put s).take 28).length = 28 := by rw [List.length_take, hpl]; rfl
    have hN28 : N < ((put s).take 28).length := by omega
    have hel : ((put s).take 28)[N] = (put s)[N]'(by omega) := List.getElem_take
    have ha : (put s).take 28 = ((put s).take 28).take N ++ (put s)[N]'(by omega) :: ((put s).take 28).drop (N + 1) := by
      rw [← hel, ← List.drop_eq_getElem_cons hN28, List.take_append_drop]
    have hb : ((put s).set N y).take 28 = ((put s).take 28).take N ++ y :: ((put s).take 28).drop (N + 1) := by
      rw [List.take_set, List.set_eq_take_append_cons_drop, if_pos (by omega)]
    rw [hb] at hsum
    have hsum := (congrArg K.sum ha).symm.trans hsum
    exact hy ((K.sum_one _ _ _ _ hsum).symm.trans hg.symm)
  · have e1 : ((put s).set N y).take 28 = (put s).take 28 := by rw [List.take_set, List.set_eq_of_length_le (by rw [List.length_take, hpl]; omega)]
    rw [e1] at t2
    have e2 : (put s).set N y = put s := t2.trans t1.symm
    have := congrArg (fun l : List UInt8 => l.getD N 0) e2
    simp only [List.getD_eq_getElem?_getD, List.getElem?_set, hpl, if_pos hN, if_true, Option.getD_some] at this
    rw [List.getD_eq_getElem?_getD] at hy
    exact hy this
end S
end Go.Proofs.YtmohcbniepdncaaGreat
namespace Go.Proofs.YtmohcbniepdncaaGreat
open Go
namespace Xo
/-- sixteen bytes and a number, laid over others -/
def op (a b : List UInt8 × Nat) : List UInt8 × Nat := (List.zipWith (· ^^^ ·) a.1 b.1, a.2 ^^^ b.2)
def z : List UInt8 × Nat := (zeros16, 0)
def Ok (a : List UInt8 × Nat) : Prop := a.1.length = 16
def all (l : List (List UInt8 × Nat)) : List UInt8 × Nat := l.foldl op z
theorem op_ok {a b} (ha : Ok a) (hb : Ok b) : Ok (op a b) := by unfold Ok op at *; simp [ha, hb]
theorem z_ok : Ok z := rfl
theorem op_comm (a b) : op a b = op b a := by
  unfold op
  refine Prod.ext ?_ (Nat.xor_comm _ _)
  apply List.ext_getElem?
  intro i
  simp only [List.getElem?_zipWith]
  cases a.1[i]? <;> cases b.1[i]? <;> simp [UInt8.xor_comm]
theorem op_assoc (a b c) : op (op a b) c = op a (op b c) := by
  unfold op
  refine Prod.ext ?_ (Nat.xor_assoc _ _ _)
  apply List.ext_getElem?
  intro i
  simp only [List.getElem?_zipWith]
  cases a.1[i]? <;> cases b.1[i]? <;> cases c.1[i]? <;> simp [UInt8.xor_assoc]
theorem z_op {a} (ha : Ok a) : op z a = a := by
  obtain ⟨d, n⟩ := a
  unfold op z
  refine Prod.ext ?_ (Nat.zero_xor n)
  apply List.ext_getElem?
  intro i
  have hd : d.length = 16 := ha
  simp only [List.getElem?_zipWith, zeros16, List.getElem?_replicate]
  by_cases hi : i < 16
  · rw [if_pos hi]
    cases d[i]? <;> simp
  · rw [if_neg hi, List.getElem?_eq_none (by omega)]
theorem op_self {a} (ha : Ok a) : op a a = z := by
  obtain ⟨d, n⟩ := a
  unfold op z
  refine Prod.ext ?_ (Nat.xor_self n)
  apply List.ext_getElem?
  intro i
  have hd : d.length = 16 := ha
  simp only [List.getElem?_zipWith, zeros16, List.getElem?_replicate]
  by_cases hi : i < 16
  · rw [if_pos hi, List.getElem?_eq_getElem (by omega)]; simp
  · rw [if_neg hi, List.getElem?_eq_none (by omega)]
theorem fold_ok : ∀ (l : List (List UInt8 × Nat)), (∀ x ∈ l, Ok x) → ∀ a, Ok a → Ok (l.foldl op a)
  | [], _, _, h => h
  | x :: l, hl, a, h => fold_ok l (fun y hy => hl y (by simp [hy])) _ (op_ok h (hl x (by simp)))
theorem fold_from : ∀ (l : List (List UInt8 × Nat)), (∀ x ∈ l, Ok x) → ∀ a, Ok a → l.foldl op a = op a (all l)
  | [], _, a, h => by unfold all; rw [List.foldl_nil, List.foldl_nil, op_comm, z_op h]
  | x :: l, hl, a, h => by
    have hx := hl x (by simp)
    have hl' : ∀ y ∈ l, Ok y := fun y hy => hl y (by simp [hy])
    unfold all
    rw [List.foldl_cons, List.foldl_cons, fold_from l hl' _ (op_ok h hx), z_op hx, fold_from l hl' _ hx, op_assoc]
theorem all_erase : ∀ (l : List (List UInt8 × Nat)) (k : Nat) (x : List UInt8 × Nat), (∀ x ∈ l, Ok x) → l[k]? = some x → op (all (l.eraseIdx k)) x = all l
  | [], _, _, _, h => by simp at h
  | y :: l, 0, x, hl, h => by
    simp at h; subst h
    have hl' : ∀ z ∈ l, Ok z := fun z hz => hl z (by simp [hz])
    have hy := hl y (by simp)
    rw [List.eraseIdx_cons_zero]
    show _ = (y :: l).foldl op z
    rw [List.foldl_cons, z_op hy, fold_from l hl' _ hy, op_comm]
  | y :: l, k + 1, x, hl, h => by
    have hl' : ∀ z ∈ l, Ok z := fun z hz => hl z (by simp [hz])
    have hy := hl y (by simp)
    have he : ∀ z ∈ l.eraseIdx k, Ok z := fun z hz => hl' z (List.mem_of_mem_eraseIdx hz)
    rw [List.eraseIdx_cons_succ]
    show op ((y :: l.eraseIdx k).foldl op z) x = (y :: l).foldl op z
    rw [List.foldl_cons, List.foldl_cons, z_op hy, fold_from _ he _ hy, fold_from l hl' _ hy, op_assoc, all_erase l k x hl' (by simpa using h)]
/-- one of many is what all others leave of the whole -/
theorem all_back (l : List (List UInt8 × Nat)) (k : Nat) (x : List UInt8 × Nat) (hl : ∀ x ∈ l, Ok x) (h : l[k]? = some x) : all (l.eraseIdx k ++ [all l]) = x := by
  have he : ∀ z ∈ l.eraseIdx k, Ok z := fun z hz => hl z (List.mem_of_mem_eraseIdx hz)
  have hx := hl x (List.mem_of_getElem? h)
  have e : all (l.eraseIdx k ++ [all l]) = op (all (l.eraseIdx k)) (all l) := by unfold all; rw [List.foldl_append]; rfl
  have hok : Ok (all (l.eraseIdx k)) := fold_ok _ he _ z_ok
  rw [e, ← all_erase l k x hl h, ← op_assoc, op_self hok, z_op hx]
theorem ovM_nat {a b : Nat} (ha : a < 18446744073709551616) (hb : b < 18446744073709551616) : W.ovM a b = ((a ^^^ b : Nat) : Int) := by
  unfold W.ovM
  have h1 : (BitVec.ofInt 64 (a : Int) ^^^ BitVec.ofInt 64 (b : Int)).toNat = a ^^^ b := by
    rw [BitVec.toNat_xor, BitVec.ofInt_natCast, BitVec.ofInt_natCast, BitVec.toNat_ofNat, BitVec.toNat_ofNat, Nat.mod_eq_of_lt ha, Nat.mod_eq_of_lt hb]
  rw [h1]
  have h2 : a ^^^ b < 18446744073709551616 := Nat.xor_lt_two_pow (n := 64) ha hb
  simp [IntKind.wrap, IntKind.bits, IntKind.signed]
  omega
def toX (s : Sh) : List UInt8 × Nat := (s.data, S.meta_ s.role s.lpn s.seq)
theorem mix_all {x s : List UInt8} (hx : x.length = 16) (hs : s.length = 16) : W.mix x s 16 = List.zipWith (· ^^^ ·) x s := by
  unfold W.mix
  rw [List.take_of_length_le (by simp [hx, hs]), List.drop_of_length_le (by omega), List.append_nil]
theorem over_all : ∀ (l : List Sh) (a : List UInt8 × Nat), (∀ s ∈ l, s.data.length = 16) → Ok a → a.2 < 18446744073709551616 → l.foldl W.over1 (a.1, (a.2 : Int)) = (((l.map toX).foldl op a).1, ((((l.map toX).foldl op a).2 : Nat) : Int)) ∧ ((l.map toX).foldl op a).2 < 18446744073709551616
  | [], a, _, _, h => ⟨rfl, h⟩
  | s :: l, a, hl, ha, h => by
    have hs := hl s (by simp)
    have hm := S.meta_lt s.role s.lpn s.seq
    have hlt : a.2 ^^^ S.meta_ s.role s.lpn s.seq < 18446744073709551616 := Nat.xor_lt_two_pow (n := 64) h hm
    have e : W.over1 (a.1, (a.2 : Int)) s = ((op a (toX s)).1, (((op a (toX s)).2 : Nat) : Int)) := by
      unfold W.over1
      rw [ovM_nat h hm, mix_all ha hs]; rfl
    rw [List.foldl_cons, List.map_cons, List.foldl_cons, e]
    exact over_all l (op a (toX s)) (fun t ht => hl t (by simp [ht])) (op_ok ha hs) hlt
end Xo
end Go.Proofs.YtmohcbniepdncaaGreat
namespace Go.Proofs.YtmohcbniepdncaaGreat
open Go
theorem over_X (l : List Sh) (hl : ∀ s ∈ l, s.data.length = 16) : W.over l = ((Xo.all (l.map Xo.toX)).1, ((Xo.all (l.map Xo.toX)).2 : Int)) ∧ (Xo.all (l.map Xo.toX)).2 < 18446744073709551616 :=
  Xo.over_all l Xo.z hl Xo.z_ok (by decide)
theorem toX_parS {b r m : Int} {l : List En} (hd : ∀ s ∈ l, s.data.length = 16) : Xo.toX (W.parS b r m l) = Xo.all ((l.map (W.sh b r m)).map Xo.toX) := by
  obtain ⟨h1, h2⟩ := over_X (l.map (W.sh b r m)) (fun s hs => by obtain ⟨e, he, rfl⟩ := List.mem_map.1 hs; exact hd e he)
  have e2 : (W.over (l.map (W.sh b r m))).2.toNat = (Xo.all ((l.map (W.sh b r m)).map Xo.toX)).2 := by rw [h1]; rfl
  have e1 : (W.over (l.map (W.sh b r m))).1 = (Xo.all ((l.map (W.sh b r m)).map Xo.toX)).1 := by rw [h1]
  refine Prod.ext e1 ?_
  show S.meta_ ((W.over (l.map (W.sh b r m))).2.toNat / 72057594037927936 : Nat) ((W.over (l.map (W.sh b r m))).2.toNat / 1099511627776 % 65536 : Nat) ((W.over (l.map (W.sh b r m))).2.toNat % 1099511627776 : Nat) = _
  rw [e2]
  generalize (Xo.all ((l.map (W.sh b r m)).map Xo.toX)).2 = x at h2
  unfold S.meta_
  omega
theorem map_erase {α β : Type} (f : α → β) : ∀ (l : List α) (k : Nat), (l.eraseIdx k).map f = (l.map f).eraseIdx k
  | [], _ => rfl
  | _ :: _, 0 => rfl
  | x :: l, k + 1 => by simp only [List.eraseIdx_cons_succ, List.map_cons, map_erase f l k]
/-- all others give the one that is missing -/
theorem back_one {b r m : Int} {l : List En} (hd : ∀ s ∈ l, s.data.length = 16) (hB : W.parB b r m l = true) {k : Nat} {e : En} (hk : l[k]? = some e) : W.backS (W.parS b r m l) ((l.map (W.sh b r m)).eraseIdx k) = e := by
  have hdm : ∀ s ∈ l.map (W.sh b r m), s.data.length = 16 := fun s hs => by obtain ⟨e, he, rfl⟩ := List.mem_map.1 hs; exact hd e he
  have hde : ∀ s ∈ (l.map (W.sh b r m)).eraseIdx k ++ [W.parS b r m l], s.data.length = 16 := fun s hs => by
    rw [List.mem_append, List.mem_singleton] at hs
    rcases hs with hs | rfl
    · exact hdm s (List.mem_of_mem_eraseIdx hs)
    · exact parS_len hd
  obtain ⟨h1, h2⟩ := over_X _ hde
  have hx : Xo.all (((l.map (W.sh b r m)).eraseIdx k ++ [W.parS b r m l]).map Xo.toX) = Xo.toX (W.sh b r m e) := by
    rw [List.map_append, List.map_cons, List.map_nil, toX_parS hd, map_erase]
    exact Xo.all_back _ k _ (fun x hx => by obtain ⟨s, hs, rfl⟩ := List.mem_map.1 hx; exact hdm s hs) (by rw [List.getElem?_map, List.getElem?_map, hk]; rfl)
  rw [hx] at h1
  have hok := (parB_len hB).2.2.2 e (List.mem_of_getElem? hk)
  have hmay : S.may (W.sh b r m e) = true := hok
  have hb := hmay
  simp only [S.may, S.numbers, S.inB, Bool.and_eq_true, decide_eq_true_eq] at hb
  obtain ⟨m1, m2, m3⟩ := S.meta_back e.role e.lpn e.seq hb.1.2.2 hb.1.2.1.2 hb.1.2.1.1
  unfold W.backS
  simp only [h1]
  obtain ⟨el, es, er, ed⟩ := e
  exact (En.mk.injEq ..).mpr ⟨m2, m3, m1, rfl⟩
end Go.Proofs.YtmohcbniepdncaaGreat
namespace Go.Proofs.YtmohcbniepdncaaGreat
open Go
/-- which pages of a row are good -/
structure PartRow (N : Nand) (b m : Int) (l : List En) (g : Nat → Bool) : Prop where
  good : ∀ k x, (R.job b 0 m l)[k]? = some x → g k = true → M.look N x.1 b 0 = (x.2, 1)
  bad : ∀ k x, (R.job b 0 m l)[k]? = some x → g k = false → (M.look N x.1 b 0).2 ≠ 1
  nope : ∀ i : Nat, i < N.dies → (∀ x ∈ R.job b 0 m l, x.1 ≠ i) → (M.look N (i : Nat) b 0).2 ≠ 1
theorem PartRow.one2 {N : Nand} {b m : Int} {l : List En} {g : Nat → Bool} (h : PartRow N b m l g) (hm : ∀ x ∈ R.job b 0 m l, x.2.mask = m) {k : Nat} {x : Int × Sh} (hk : (R.job b 0 m l)[k]? = some x) : (R.one N b 0 m x.1).2 = g k ∧ (g k = true → (R.one N b 0 m x.1).1 = x.2) := by
  unfold R.one
  cases hg : g k with
  | true =>
    rw [h.good k x hk hg]
    refine ⟨?_, fun _ => rfl⟩
    show ((1 : Int) == 1 && x.2.mask == m) = true
    rw [hm x (List.mem_of_getElem? hk)]; simp
  | false =>
    refine ⟨?_, fun h => by cases h⟩
    have := h.bad k x hk hg
    show ((M.look N x.1 b 0).2 == 1 && _) = false
    rw [beq_eq_false_iff_ne.2 this]; rfl
theorem PartRow.masks {N : Nand} {b m : Int} {l : List En} {g : Nat → Bool} (h : PartRow N b m l g) (hm : ∀ x ∈ R.job b 0 m l, x.2.mask = m) (hin : ∀ x ∈ R.job b 0 m l, 0 ≤ x.1 ∧ x.1 < (N.dies : Int)) :
    (M.masks N b 0 = [] ∨ M.masks N b 0 = [m]) ∧ ((∃ k, k ≤ l.length ∧ g k = true) → M.masks N b 0 = [m]) := by
  have hall : ∀ x ∈ (M.rowN N b 0 N.dies).filterMap M.maskOf, x = m := fun y hy => by
    obtain ⟨z, hz, hy⟩ := List.mem_filterMap.1 hy
    unfold M.rowN at hz
    obtain ⟨i, hi, rfl⟩ := List.mem_map.1 hz
    have hi := List.mem_range.1 hi
    unfold M.maskOf at hy
    split at hy
    · rename_i h1
      injection hy with hy
      subst hy
      by_cases hno : ∀ x ∈ R.job b 0 m l, x.1 ≠ (i : Int)
      · exact absurd h1 (h.nope i hi hno)
      · simp only [Classical.not_forall] at hno
        obtain ⟨x, hx, hxi⟩ := hno
        have hxi : x.1 = (i : Int) := by omega
        obtain ⟨k, hk⟩ := List.getElem?_of_mem hx
        cases hg : g k with
        | true =>
          have := h.good k x hk hg
          rw [hxi] at this
          rw [this]
          exact hm x hx
        | false =>
          have := h.bad k x hk hg
          rw [hxi] at this
          exact absurd h1 this
    · cases hy
  have hmk := masks_same _ hall
  refine ⟨?_, fun ⟨k, hk, hg⟩ => ?_⟩
  · unfold M.masks
    rw [hmk]
    split
    · exact .inl rfl
    · exact .inr rfl
  · unfold M.masks
    rw [hmk, if_neg]
    intro hnil
    have hjl : (R.job b 0 m l).length = l.length + 1 := by simp [R.job]
    obtain ⟨x, hx⟩ : ∃ x, (R.job b 0 m l)[k]? = some x := ⟨_, List.getElem?_eq_getElem (by omega)⟩
    have hxm := List.mem_of_getElem? hx
    have hd := hin x hxm
    have : x.2.mask ∈ (M.rowN N b 0 N.dies).filterMap M.maskOf := by
      refine List.mem_filterMap.2 ⟨(x.2, 1), ?_, rfl⟩
      unfold M.rowN
      refine List.mem_map.2 ⟨x.1.toNat, List.mem_range.2 (by omega), ?_⟩
      rw [show ((x.1.toNat : Nat) : Int) = x.1 from by omega]
      exact h.good k x hx hg
    rw [hnil] at this
    cases this
end Go.Proofs.YtmohcbniepdncaaGreat
namespace Go.Proofs.YtmohcbniepdncaaGreat
open Go
theorem backB_one {b r m : Int} {l : List En} (hd : ∀ s ∈ l, s.data.length = 16) (hB : W.parB b r m l = true) {k : Nat} {e : En} (hk : l[k]? = some e) : W.backB (W.parS b r m l) ((l.map (W.sh b r m)).eraseIdx k) = true ∧ W.back (W.parS b r m l) ((l.map (W.sh b r m)).eraseIdx k) = e := by
  obtain ⟨p1, p2, p3, p4⟩ := parB_len hB
  have hb := back_one hd hB hk
  have hkl : k < l.length := (List.getElem?_eq_some_iff.1 hk).1
  have hany : ((l.map (W.sh b r m)).eraseIdx k).any (W.alien (W.parS b r m l)) = false := by
    rw [List.any_eq_false]
    intro s hs
    obtain ⟨x, hx, rfl⟩ := List.mem_map.1 (List.mem_of_mem_eraseIdx hs)
    have hmay : S.may (W.sh b r m x) = true := p4 x hx
    unfold W.alien
    rw [hmay]
    simp [W.sh, W.parS]
  have hlen : decide ((((l.map (W.sh b r m)).eraseIdx k).length : Int) = G.slots (W.parS b r m l).mask - 1) = true := by
    refine decide_eq_true ?_
    rw [List.length_eraseIdx, if_pos (by rw [List.length_map]; exact hkl), List.length_map]
    show ((l.length - 1 : Nat) : Int) = G.slots m - 1
    omega
  have h1 : W.backB (W.parS b r m l) ((l.map (W.sh b r m)).eraseIdx k) = true := by
    unfold W.backB
    rw [parS_may hB, hany, hlen, hb]
    show (((2 : Int) == 2 && true && !false && true) && W.ok b r m e) = true
    rw [p4 e (List.mem_of_getElem? hk)]; rfl
  refine ⟨h1, ?_⟩
  unfold W.back
  rw [if_pos h1, hb]
theorem PartRow.fd {N : Nand} {b m : Int} {l : List En} {g : Nat → Bool} (h : PartRow N b m l g) (hm : ∀ x ∈ R.job b 0 m l, x.2.mask = m) (hl : (l.length : Int) = G.slots m) :
    (∀ k, k < l.length → (R.look N b 0 m).good.getD k false = g k ∧ (g k = true → (R.look N b 0 m).slots.getD k Sh.zero = W.sh b 0 m (l.getD k En.zero))) ∧
    (R.look N b 0 m).slots.length = l.length ∧ (R.look N b 0 m).whole = g l.length ∧ (g l.length = true → (R.look N b 0 m).parity = W.parS b 0 m l) := by
  have hs : (G.slots m).toNat = l.length := by omega
  obtain ⟨w1, w2⟩ := h.one2 hm (job_last b 0 m l)
  refine ⟨fun k hk => ?_, by rw [(look_len N b 0 m).1, hs], w1, w2⟩
  obtain ⟨o1, o2⟩ := h.one2 hm (job_at b 0 m l k hk)
  constructor
  · unfold R.look R.ones
    simp only [hs, List.getD_eq_getElem?_getD, List.getElem?_map, List.getElem?_range hk, Option.map_some, Option.getD_some]
    exact o1
  · intro hg
    have := o2 hg
    unfold R.look R.ones
    simp only [hs, List.getD_eq_getElem?_getD, List.getElem?_map, List.getElem?_range hk, Option.map_some, Option.getD_some] at this ⊢
    exact this
/-- one page is not good: it is mended -/
theorem PartRow.mend {N : Nand} {b m : Int} {l : List En} {j : Nat} (h : PartRow N b m l (fun k => k != j)) (hd : ∀ s ∈ l, s.data.length = 16) (hB : W.parB b 0 m l = true) (hm : ∀ x ∈ R.job b 0 m l, x.2.mask = m) (hj : j < l.length) :
    R.mendB (R.look N b 0 m) j = true ∧ R.mend (R.look N b 0 m) j = l.getD j En.zero := by
  obtain ⟨p1, p2, p3, p4⟩ := parB_len hB
  obtain ⟨f1, f2, f3, f4⟩ := h.fd hm p1
  have hg : (l.length != j) = true := by simp; omega
  have hw := f3.trans hg
  have hpar := f4 hg
  have hrest : R.rest (R.look N b 0 m) j = true := by
    unfold R.rest
    rw [List.all_eq_true]
    intro i hi
    have hi := List.mem_range.1 hi
    rw [f2] at hi
    rw [(f1 i hi).1]
    by_cases e : i = j
    · simp [e]
    · simp [e]
  have her : (R.look N b 0 m).slots.eraseIdx j = (l.map (W.sh b 0 m)).eraseIdx j := by
    apply List.ext_getElem?
    intro i
    rw [List.getElem?_eraseIdx, List.getElem?_eraseIdx]
    have key : ∀ i, i ≠ j → (R.look N b 0 m).slots[i]? = (l.map (W.sh b 0 m))[i]? := fun i hij => by
      rcases Nat.lt_or_ge i l.length with hi | hi
      · have := (f1 i hi).2 (by simp [hij])
        rw [List.getD_eq_getElem?_getD, List.getElem?_eq_getElem (by omega), Option.getD_some] at this
        rw [List.getElem?_eq_getElem (by omega), this, List.getElem?_map, List.getD_eq_getElem?_getD, List.getElem?_eq_getElem hi]; rfl
      · rw [List.getElem?_eq_none (by omega), List.getElem?_eq_none (by rw [List.length_map]; omega)]
    split
    · exact key i (by omega)
    · exact key (i + 1) (by omega)
  have he : l[j]? = some (l.getD j En.zero) := by rw [List.getD_eq_getElem?_getD, List.getElem?_eq_getElem hj, Option.getD_some]
  obtain ⟨b1, b2⟩ := backB_one hd hB he
  unfold R.mendB R.mend
  rw [hrest, hw, hpar, her, b1, b2]
  exact ⟨rfl, rfl⟩
end Go.Proofs.YtmohcbniepdncaaGreat
namespace Go.Proofs.YtmohcbniepdncaaGreat
open Go
variable {N : Nand} {b m : Int} {l : List En} {j : Nat}
theorem PartRow.read (h : PartRow N b m l (fun k => k != j)) (F : DieFacts m b 0) (hd : ∀ s ∈ l, s.data.length = 16) (hB : W.parB b 0 m l = true) (hm : ∀ x ∈ R.job b 0 m l, x.2.mask = m) (hoff : N.off = false) (hg : geoIn N.dies N.blocks N.pages 0 b 0 = true) {i : Nat} (hi : i < l.length) :
    R.read N b 0 (i : Nat) m = (l.getD i En.zero, 0) := by
  obtain ⟨p1, p2, p3, p4⟩ := parB_len hB
  obtain ⟨f1, f2, f3, f4⟩ := h.fd hm p1
  have hf := F.die i (by omega)
  unfold R.read
  rw [if_neg (by rw [hg]; simp; omega), hoff, if_neg (by decide), Int.toNat_natCast, (f1 i hi).1]
  by_cases e : i = j
  · subst e
    obtain ⟨m1, m2⟩ := h.mend hd hB hm hi
    rw [if_neg (by simp), if_pos m1, m2]
  · rw [if_pos (by simp [e]), (f1 i hi).2 (by simp [e])]
    rfl
theorem PartRow.fnd (h : PartRow N b m l (fun k => k != j)) (hd : ∀ s ∈ l, s.data.length = 16) (hB : W.parB b 0 m l = true) (hm : ∀ x ∈ R.job b 0 m l, x.2.mask = m) {k : Nat} (hk : k < l.length) :
    R.fnd (R.look N b 0 m) b 0 m k = if (l.getD k En.zero).role != 3 then some ⟨l.getD k En.zero, b, 0, k, m, l.length != j, !(k != j)⟩ else none := by
  obtain ⟨p1, p2, p3, p4⟩ := parB_len hB
  obtain ⟨f1, f2, f3, f4⟩ := h.fd hm p1
  unfold R.fnd R.okAt R.enAt
  rw [(f1 k hk).1, f3]
  by_cases e : k = j
  · subst e
    obtain ⟨m1, m2⟩ := h.mend hd hB hm hk
    have hf : (k != k) = false := by simp
    rw [m1, m2, hf]; rfl
  · have ht : (k != j) = true := by simp [e]
    rw [(f1 k hk).2 ht, ht]
    rfl
theorem PartRow.allM (h : PartRow N b m l (fun k => k != j)) (hd : ∀ s ∈ l, s.data.length = 16) (hB : W.parB b 0 m l = true) (hm : ∀ x ∈ R.job b 0 m l, x.2.mask = m) :
    R.allM N b 0 m = (List.range l.length).filterMap fun k => if (l.getD k En.zero).role != 3 then some ⟨l.getD k En.zero, b, 0, k, m, l.length != j, !(k != j)⟩ else none := by
  obtain ⟨p1, p2, p3, p4⟩ := parB_len hB
  unfold R.allM
  rw [(look_len N b 0 m).1, show (G.slots m).toNat = l.length from by omega]
  exact filterMap_same fun k hk => h.fnd hd hB hm (List.mem_range.1 hk)
theorem PartRow.all (h : PartRow N b m l (fun k => k != j)) (hd : ∀ s ∈ l, s.data.length = 16) (hB : W.parB b 0 m l = true) (hm : ∀ x ∈ R.job b 0 m l, x.2.mask = m) (hin : ∀ x ∈ R.job b 0 m l, 0 ≤ x.1 ∧ x.1 < (N.dies : Int)) :
    R.all N b 0 = (List.range l.length).filterMap fun k => if (l.getD k En.zero).role != 3 then some ⟨l.getD k En.zero, b, 0, k, m, l.length != j, !(k != j)⟩ else none := by
  obtain ⟨p1, p2, p3, p4⟩ := parB_len hB
  have hmk := (h.masks hm hin).2 (if h0 : j = 0 then ⟨1, by omega, by simp [h0]⟩ else ⟨0, by omega, by simp; omega⟩)
  unfold R.all
  rw [hmk, List.flatMap_cons, List.flatMap_nil, List.append_nil]
  exact h.allM hd hB hm
end Go.Proofs.YtmohcbniepdncaaGreat
namespace Go.Proofs.YtmohcbniepdncaaGreat
open Go
theorem look_err {N : Nand} {d b : Int} (h : N.readE d b 0 ≠ 0) : (M.look N d b 0).2 ≠ 1 := by
  unfold M.look
  simp only
  rw [if_neg h]
  split
  · decide
  · split <;> decide
theorem look_lost {N : Nand} {d b : Int} {p : List UInt8} {t : Bool} (hc : (N.blk d.toNat b.toNat).cells = [⟨p, true, t⟩]) : (M.look N d b 0).2 ≠ 1 := by
  refine look_err ?_
  unfold Nand.readE
  split
  · assumption
  · have : N.pageAt d b 0 = some ⟨p, true, t⟩ := by unfold Nand.pageAt; rw [hc]; rfl
    rw [this]; exact (by decide : (6 : Int) ≠ 0)
theorem look_dead {N : Nand} {d b : Int} (hd : N.dead.getD d.toNat false = true) : (M.look N d b 0).2 ≠ 1 := by
  refine look_err ?_
  have : N.refuses d b 0 ≠ 0 := by
    unfold Nand.refuses
    rw [hd]
    split
    · decide
    · split
      · decide
      · decide
  unfold Nand.readE
  rw [if_pos this]; exact this
theorem look_turned {N : Nand} {d b : Int} {s : Sh} {n : Nat} {y : UInt8} {l t : Bool} (hc : (N.blk d.toNat b.toNat).cells = [⟨Nand.xorAt (putP s) n y, l, t⟩]) (hs : s.data.length = 16) (hm : S.may s = true) (hn : n < 32) (hy : y ≠ 0) : (M.look N d b 0).2 ≠ 1 := by
  by_cases he : N.readE d b 0 = 0
  · have hput : putP s = S.put s := by unfold putP; rw [if_pos hm]
    have hpa : N.pageAt d b 0 = some ⟨Nand.xorAt (putP s) n y, l, t⟩ := by unfold Nand.pageAt; rw [hc]; rfl
    have hv : N.readV d b 0 = (S.put s).set n ((S.put s).getD n 0 ^^^ y) := by
      unfold Nand.readE at he
      split at he
      · contradiction
      · rename_i hr
        rw [hpa] at he
        cases l with
        | true => simp at he
        | false =>
          unfold Nand.readV
          rw [if_neg hr, hpa, hput]
          rfl
    have hg := S.turned_none s hs n hn ((S.put s).getD n 0 ^^^ y) (fun e => hy (by
      have e2 := congrArg (fun z => (S.put s).getD n 0 ^^^ z) e
      simp only [← UInt8.xor_assoc, UInt8.xor_self, UInt8.zero_xor] at e2
      exact e2))
    unfold M.look
    simp only
    rw [if_pos he, hv, if_pos]
    · decide
    · refine .inl ?_
      unfold S.getE
      rw [hg]; decide
  · exact look_err he
/-- a row of which one die's page may be not good -/
theorem part_of {N : Nand} {b d : Nat} {m : Int} {l : List En} (F : DieFacts m b 0) (hl : (l.length : Int) = G.slots m) (hdd : d < 6)
    (hgood : ∀ x ∈ R.job b 0 m l, x.1 ≠ d → M.look N x.1 b 0 = (x.2, 1)) (hbad : (M.look N (d : Nat) b 0).2 ≠ 1) (hno : ∀ i : Nat, i < N.dies → (∀ x ∈ R.job b 0 m l, x.1 ≠ i) → (M.look N (i : Nat) b 0).2 ≠ 1) :
    ∃ j : Nat, PartRow N b m l (fun k => k != j) ∧ (l.length != j) = !(L.has m (d : Nat) && G.parity m b 0 == (d : Nat)) := by
  have hnd := job_nodup F hl
  have hql : (R.job b 0 m l).length = l.length + 1 := by simp [R.job]
  have huniq : ∀ (j k : Nat) (x y : Int × Sh), (R.job b 0 m l)[j]? = some x → (R.job b 0 m l)[k]? = some y → x.1 = y.1 → j = k := fun j k x y hj hk e => by
    have h1 : j < (R.job b 0 m l).length := (List.getElem?_eq_some_iff.1 hj).1
    have h2 : k < (R.job b 0 m l).length := (List.getElem?_eq_some_iff.1 hk).1
    rw [List.nodup_iff_pairwise_ne, List.pairwise_iff_getElem] at hnd
    have gj : ((R.job b 0 m l).map (·.1))[j]'(by simpa using h1) = x.1 := by
      rw [List.getElem_map]; exact congrArg (·.1) (List.getElem?_eq_some_iff.1 hj).2
    have gk : ((R.job b 0 m l).map (·.1))[k]'(by simpa using h2) = y.1 := by
      rw [List.getElem_map]; exact congrArg (·.1) (List.getElem?_eq_some_iff.1 hk).2
    rcases Nat.lt_trichotomy j k with h | h | h
    · exact absurd (gj.trans (e.trans gk.symm)) (hnd j k _ _ h)
    · exact h
    · exact absurd (gk.trans (e.symm.trans gj.symm)) (hnd k j _ _ h)
  have hlast : (R.job b 0 m l)[l.length]? = some (G.parity m b 0, W.parS b 0 m l) := job_last b 0 m l
  by_cases hh : L.has m (d : Nat) = true
  · obtain ⟨s, hs, _⟩ := job_of F hl hdd hh
    obtain ⟨j, hj⟩ := List.getElem?_of_mem hs
    refine ⟨j, ⟨fun k x hk hg => ?_, fun k x hk hg => ?_, hno⟩, ?_⟩
    · refine hgood x (List.mem_of_getElem? hk) fun e => ?_
      rw [huniq k j x _ hk hj e] at hg
      simp at hg
    · have hkj : k = j := by simpa using hg
      subst hkj
      rw [hj] at hk
      injection hk with hk
      subst hk
      exact hbad
    · rw [hh, Bool.true_and]
      by_cases e : l.length = j
      · subst e
        rw [hj] at hlast
        injection hlast with hlast
        have hpd : G.parity m b 0 = (d : Nat) := (congrArg (fun z : Int × Sh => z.1) hlast).symm
        rw [hpd]
        simp
      · have hp : G.parity m b 0 ≠ (d : Nat) := fun hp => e (huniq _ _ _ _ hlast hj hp)
        rw [beq_eq_false_iff_ne.2 hp]
        simpa using e
  · have hnj : ∀ x ∈ R.job b 0 m l, x.1 ≠ d := fun x hx e => by
      obtain ⟨i, ei, _, hi, _⟩ := job_has F hl x hx
      have : i = d := by omega
      subst this
      exact hh hi
    refine ⟨l.length + 1, ⟨fun k x hk _ => hgood x (List.mem_of_getElem? hk) (hnj x (List.mem_of_getElem? hk)), fun k x hk hg => ?_, hno⟩, ?_⟩
    · have hkj : k = l.length + 1 := by simpa using hg
      have := (List.getElem?_eq_some_iff.1 hk).1
      omega
    · rw [Bool.not_eq_true] at hh
      rw [hh]
      simp
def anN0 (D B P b : Nat) (m : Int) (l : List En) : Nand := (R.write (Nand.new D B P) b 0 m l).1
def anF (D B P b : Nat) (m : Int) (l : List En) (kd d n x : Int) : Bool × Nand := (anN0 D B P b m l).fault kd d b 0 n x
theorem any_row {D B P b d n : Nat} {m kd x : Int} {l : List En} (h1 : 3 ≤ D ∧ D ≤ 6) (h2 : 8 ≤ B ∧ B ≤ 16) (h3 : 2 ≤ P ∧ P ≤ 8) (hb : b < B) (hm : 0 ≤ m ∧ m < 2 ^ D) (hd : ∀ s ∈ l, s.data.length = 16) (hB : W.parB b 0 m l = true) (hdD : d < D) (hk : kd = 3 ∨ kd = 4 ∨ kd = 5) (hn : n < 32) (hx : 1 ≤ x ∧ x ≤ 200) :
    (R.write (Nand.new D B P) b 0 m l).2.2 = 0 ∧ (anF D B P b m l kd d n x).1 = true ∧ (anF D B P b m l kd d n x).2.off = false ∧ (anF D B P b m l kd d n x).2.dies = D ∧ (anF D B P b m l kd d n x).2.blocks = B ∧ (anF D B P b m l kd d n x).2.pages = P ∧
      ∃ j : Nat, PartRow (anF D B P b m l kd d n x).2 b m l (fun k => k != j) ∧ (l.length != j) = !(L.has m (d : Nat) && G.parity m b 0 == (d : Nat)) := by
  obtain ⟨p1, p2, p3, p4⟩ := parB_len hB
  have hm64 : m < 64 := by
    have : (2 : Int) ^ D ≤ 2 ^ 6 := by exact_mod_cast Nat.pow_le_pow_right (n := 2) (by omega) h1.2
    omega
  have hcount : 2 ≤ L.count m := by
    unfold G.slots at p1
    split at p1 <;> omega
  have F := dieFacts m b 0 hm.1 hm64 hcount (by omega) (by omega)
  have hsh := job_sh F hd hB
  have hin : ∀ x ∈ R.job b 0 m l, 0 ≤ x.1 ∧ x.1 < (D : Int) := fun x hx => by
    obtain ⟨d, e, h6, hh, _⟩ := job_has F p1 x hx
    have := has_lt_pow hm.2 hh
    omega
  obtain ⟨N1, e1, W1⟩ := write_clean hB (N := Nand.new D B P) ⟨new_calm D B P, job_nodup F p1, hin, ⟨by omega, by show (b : Int) < (B : Int); omega⟩, by show 0 < P; omega, fun x _ => ⟨rfl, rfl⟩⟩
  have hN0 : anN0 D B P b m l = N1 := by unfold anN0; rw [e1]
  have hg : geoIn N1.dies N1.blocks N1.pages d b 0 = true := Nand.geoIn_of (by rw [W1.like.dies]; show _ ∧ (d : Int) < (D : Int); omega) (by rw [W1.like.blocks]; show _ ∧ (b : Int) < (B : Int); omega) (by rw [W1.like.pages]; show _ ∧ (0 : Int) < (P : Int); omega)
  have hd1 : N1.dies = D := W1.like.dies
  have hb1 : N1.blocks = B := W1.like.blocks
  have hp1 : N1.pages = P := W1.like.pages
  have hrest : ∀ i : Nat, (∀ x ∈ R.job b 0 m l, x.1 ≠ i) → (N1.blk i b).cells = [] := fun i hi => by
    have := W1.rest i b (.inr fun x hx e => hi x hx (by have := hin x hx; omega))
    rw [this]; rfl
  have hdie : (∃ s, ((d : Int), s) ∈ R.job b 0 m l) ∨ ∀ x ∈ R.job b 0 m l, x.1 ≠ d := by
    by_cases h : ∃ s, ((d : Int), s) ∈ R.job b 0 m l
    · exact .inl h
    · exact .inr fun x hx e => h ⟨x.2, by rw [← e]; exact hx⟩
  have hpart : ∀ N' : Nand, N'.off = false → N'.dies = D → N'.blocks = B → N'.pages = P → (∀ i, i ≠ d → N'.dead.getD i false = false) → (∀ i, i ≠ d → N'.blk i b = N1.blk i b) → (M.look N' (d : Nat) b 0).2 ≠ 1 →
      ∃ j : Nat, PartRow N' b m l (fun k => k != j) ∧ (l.length != j) = !(L.has m (d : Nat) && G.parity m b 0 == (d : Nat)) := fun N' o1 o2 o3 o4 o5 o6 o7 => by
    refine part_of F p1 (by omega) (fun x hx hne => ?_) o7 fun i hi hno => ?_
    · obtain ⟨s1, s2, s3, s4, s5, s6, s7⟩ := hsh x hx
      have hi := hin x hx
      have hc := W1.cells x hx
      rw [Int.toNat_natCast, ← o6 x.1.toNat (by omega)] at hc
      exact look_good o1 (by rw [o2]; exact hi) (o5 _ (by omega)) ⟨by omega, by rw [o3]; omega⟩ (by rw [o4]; omega) (t := false) (rst := []) (by rw [Int.toNat_natCast]; exact hc) s1 s2 s3 s4 s5 s6
    · by_cases e : i = d
      · subst e; exact o7
      · refine look_empty ?_
        rw [Int.toNat_natCast, Int.toNat_natCast, o6 i e]
        exact hrest i hno
  have hw : (R.write (Nand.new D B P) b 0 m l).2.2 = 0 := by rw [e1]
  refine ⟨hw, ?_⟩
  rcases hk with rfl | rfl | rfl
  · have hF : anF D B P b m l 3 d n x = (true, N1.setCell d b 0 fun c => { c with lost := true }) := by unfold anF; rw [hN0, fault_3 hg]
    rw [hF]
    refine ⟨rfl, W1.calm.off, hd1, hb1, hp1, hpart _ W1.calm.off hd1 hb1 hp1 (fun i _ => W1.calm.dead i) (fun i hi => ?_) ?_⟩
    · show (if i = (d : Int).toNat ∧ b = (b : Int).toNat then _ else _) = _
      rw [if_neg (by omega)]
    · have hc : ((N1.setCell d b 0 fun c => { c with lost := true }).blk (d : Int).toNat (b : Int).toNat).cells = (N1.blk d b).cells.modify 0 fun c => { c with lost := true } := by
        show (if (d : Int).toNat = (d : Int).toNat ∧ (b : Int).toNat = (b : Int).toNat then _ else _ : NBlock).cells = _
        rw [if_pos ⟨rfl, rfl⟩]; rfl
      rcases hdie with ⟨s, hs⟩ | hno
      · have := W1.cells _ hs
        simp only [Int.toNat_natCast] at this
        rw [this] at hc
        exact look_lost (p := putP s) (t := false) hc
      · rw [hrest d hno] at hc
        exact look_empty hc
  · have hF : anF D B P b m l 4 d n x = (true, { N1 with dead := N1.dead.set d true }) := by unfold anF; rw [hN0, fault_4 hg]; rfl
    rw [hF]
    have hgm : geoMay D B P = true := by simp [geoMay]; omega
    have G : (anN0 D B P b m l).Gd 992 0 := write_Gd hd ((Nand.Gd.new D B P hgm 1000 (by decide)).less (by decide) (Nat.le_refl _))
    rw [hN0] at G
    have hdl : N1.dead.length = D := G.ok.dead.trans hd1
    refine ⟨rfl, W1.calm.off, hd1, hb1, hp1, hpart _ W1.calm.off hd1 hb1 hp1 (fun i hi => ?_) (fun i hi => rfl) (look_dead ?_)⟩
    · show (N1.dead.set d true).getD i false = false
      rw [List.getD_eq_getElem?_getD, List.getElem?_set_ne (fun e => hi e.symm), ← List.getD_eq_getElem?_getD]
      exact W1.calm.dead i
    · show (N1.dead.set d true).getD (d : Int).toNat false = true
      rw [Int.toNat_natCast, List.getD_eq_getElem?_getD, List.getElem?_set_self (by omega)]; rfl
  · rcases hdie with ⟨s, hs⟩ | hno
    · have hc1 := W1.cells _ hs
      simp only [Int.toNat_natCast] at hc1
      have hpa : N1.pageAt d b 0 = some ⟨putP s, false, false⟩ := by
        unfold Nand.pageAt
        rw [Int.toNat_natCast, Int.toNat_natCast, hc1]; rfl
      obtain ⟨s1, s2, _⟩ := hsh _ hs
      have hF : anF D B P b m l 5 d n x = (true, N1.setCell d b 0 fun c => { c with p := Nand.xorAt c.p (n : Int).toNat (UInt8.ofNat (x % 256).toNat), turned := true }) := by
        unfold anF
        rw [hN0, fault_5 hg, if_neg (by omega), hpa]; rfl
      rw [hF]
      refine ⟨rfl, W1.calm.off, hd1, hb1, hp1, hpart _ W1.calm.off hd1 hb1 hp1 (fun i _ => W1.calm.dead i) (fun i hi => ?_) ?_⟩
      · show (if i = (d : Int).toNat ∧ b = (b : Int).toNat then _ else _) = _
        rw [if_neg (by omega)]
      · have hc : ((N1.setCell d b 0 fun c => { c with p := Nand.xorAt c.p (n : Int).toNat (UInt8.ofNat (x % 256).toNat), turned := true }).blk (d : Int).toNat (b : Int).toNat).cells = (N1.blk d b).cells.modify 0 fun c => { c with p := Nand.xorAt c.p (n : Int).toNat (UInt8.ofNat (x % 256).toNat), turned := true } := by
          show (if (d : Int).toNat = (d : Int).toNat ∧ (b : Int).toNat = (b : Int).toNat then _ else _ : NBlock).cells = _
          rw [if_pos ⟨rfl, rfl⟩]; rfl
        rw [hc1] at hc
        refine look_turned (s := s) (n := (n : Int).toNat) (y := UInt8.ofNat (x % 256).toNat) (l := false) (t := true) hc s1 s2 (by omega) fun e => ?_
        have := congrArg UInt8.toNat e
        rw [UInt8.toNat_ofNat'] at this
        simp at this
        omega
    · have hpa : N1.pageAt d b 0 = none := by
        unfold Nand.pageAt
        rw [Int.toNat_natCast, Int.toNat_natCast, hrest d hno]; rfl
      have hF : anF D B P b m l 5 d n x = (true, N1) := by
        unfold anF
        rw [hN0, fault_5 hg, if_neg (by omega), hpa]
      rw [hF]
      refine ⟨rfl, W1.calm.off, hd1, hb1, hp1, hpart _ W1.calm.off hd1 hb1 hp1 (fun i _ => W1.calm.dead i) (fun i hi => rfl) (look_empty ?_)⟩
      rw [Int.toNat_natCast, Int.toNat_natCast]
      exact hrest d hno
theorem pads_any (f : Nat → Fnd) (m : List En) : (((List.range m.length).filterMap fun k => if (m.getD k En.zero).role != 3 then some (f k) else none).length + (m.filter fun e => e.role == 3).length) = m.length := by
  have key : ∀ n, n ≤ m.length → ((List.range n).filterMap fun k => if (m.getD k En.zero).role != 3 then some (f k) else none).length + ((m.take n).filter fun e => e.role == 3).length = n := by
    intro n
    induction n with
    | zero => intro _; rfl
    | succ n ih =>
      intro hn
      have hg : m[n]? = some (m.getD n En.zero) := by rw [List.getD_eq_getElem?_getD, List.getElem?_eq_getElem (by omega), Option.getD_some]
      have := ih (by omega)
      rw [List.range_succ, List.filterMap_append, List.length_append, List.take_add_one, hg, Option.toList_some, List.filter_append, List.length_append]
      by_cases h : (m.getD n En.zero).role = 3
      · have h1 : ((m.getD n En.zero).role != 3) = false := bne_eq_false_iff_eq.2 h
        have h2 : ((m.getD n En.zero).role == 3) = true := beq_iff_eq.2 h
        simp only [List.filterMap_cons, List.filterMap_nil, h1, Bool.false_eq_true, if_false, List.filter_cons, List.filter_nil, h2, if_true, List.length_cons, List.length_nil]
        omega
      · have h1 : ((m.getD n En.zero).role != 3) = true := bne_iff_ne.2 h
        have h2 : ((m.getD n En.zero).role == 3) = false := beq_eq_false_iff_ne.2 h
        simp only [List.filterMap_cons, List.filterMap_nil, h1, Bool.false_eq_true, if_false, List.filter_cons, List.filter_nil, h2, if_true, List.length_cons, List.length_nil]
        omega
  have := key m.length (Nat.le_refl _)
  rwa [List.take_length] at this
/-- the sentence, plain -/
theorem any_law {D B P b d n : Nat} {m kd x : Int} {l : List En} (h1 : 3 ≤ D ∧ D ≤ 6) (h2 : 8 ≤ B ∧ B ≤ 16) (h3 : 2 ≤ P ∧ P ≤ 8) (hb : b < B) (hm : 0 ≤ m ∧ m < 2 ^ D) (hd : ∀ s ∈ l, s.data.length = 16) (hB : W.parB b 0 m l = true) (hdD : d < D) (hk : kd = 3 ∨ kd = 4 ∨ kd = 5) (hn : n < 32) (hx : 1 ≤ x ∧ x ≤ 200) :
    (R.write (Nand.new D B P) b 0 m l).2.2 = 0 ∧ (anF D B P b m l kd d n x).1 = true ∧
    (∀ i : Nat, i < l.length → R.read (anF D B P b m l kd d n x).2 b 0 i m = (l.getD i En.zero, 0)) ∧
    (∀ y ∈ R.all (anF D B P b m l kd d n x).2 b 0, y.whole = (!(L.has m (d : Nat) && G.parity m b 0 == (d : Nat))) ∧ y.mask = m) ∧
    (R.all (anF D B P b m l kd d n x).2 b 0).length + (l.filter fun e => e.role == 3).length = l.length := by
  obtain ⟨w, f1, f2, f3, f4, f5, j, hp, hj⟩ := any_row h1 h2 h3 hb hm hd hB hdD hk hn hx
  generalize (anF D B P b m l kd d n x).2 = N2 at f2 f3 f4 f5 hp
  obtain ⟨p1, p2, p3, p4⟩ := parB_len hB
  have hm64 : m < 64 := by
    have : (2 : Int) ^ D ≤ 2 ^ 6 := by exact_mod_cast Nat.pow_le_pow_right (n := 2) (by omega) h1.2
    omega
  have hcount : 2 ≤ L.count m := by
    unfold G.slots at p1
    split at p1 <;> omega
  have F := dieFacts m b 0 hm.1 hm64 hcount (by omega) (by omega)
  have hmm : ∀ x ∈ R.job b 0 m l, x.2.mask = m := fun x hx => (job_sh F hd hB x hx).2.2.2.2.2.2
  have hin : ∀ x ∈ R.job b 0 m l, 0 ≤ x.1 ∧ x.1 < (N2.dies : Int) := fun x hx => by
    obtain ⟨d, e, h6, hh, _⟩ := job_has F p1 x hx
    have := has_lt_pow hm.2 hh
    omega
  have hgi : geoIn N2.dies N2.blocks N2.pages 0 b 0 = true := Nand.geoIn_of (by omega) (by omega) (by omega)
  have hall := hp.all hd hB hmm hin
  refine ⟨w, f1, fun i hi => hp.read F hd hB hmm f2 hgi hi, fun y hy => ?_, ?_⟩
  · rw [hall, List.mem_filterMap] at hy
    obtain ⟨k, hk, hy⟩ := hy
    split at hy
    · injection hy with hy
      subst hy
      exact ⟨hj, rfl⟩
    · cases hy
  · rw [hall]
    exact pads_any (fun k => ⟨l.getD k En.zero, b, 0, k, m, l.length != j, !(k != j)⟩) l
end Go.Proofs.YtmohcbniepdncaaGreat
namespace Go.Proofs.YtmohcbniepdncaaGreat
open Go Go.RowKit
theorem dI_dies (m : Int) : dI m = (L.dies m).map (fun d : Nat => (d : Int)) := by
  unfold dI dsk L.dies
  congr 1
  cases hs : L.set m with
  | false =>
    rw [if_neg (by simp)]
    refine List.filter_eq_nil_iff.2 fun d _ => ?_
    simp [L.has, hs]
  | true =>
    rw [if_pos rfl]
    refine List.filter_congr fun d hd => ?_
    rw [List.mem_range] at hd
    simp [L.has, hs, hd]
    omega
theorem dI_at (m : Int) (i : Nat) (hi : i < L.count m) : (dI m)[i]? = some (L.at_ m i) := by
  have h1 : i < (L.dies m).length := hi
  rw [dI_dies, List.getElem?_map, L.at_, if_pos (by omega), Int.toNat_natCast, List.getElem?_eq_getElem h1]
  rfl
theorem par_idx (b r c : Int) (hb : 0 ≤ b) (hr : 0 ≤ r) (hc : 0 < c) : (b.tmod c + r.tmod c).tmod c = (b + r) % c ∧ (0 ≤ b.tmod c ∧ b.tmod c < c) ∧ (0 ≤ r.tmod c ∧ r.tmod c < c) := by
  rw [Int.tmod_eq_emod_of_nonneg hb, Int.tmod_eq_emod_of_nonneg hr]
  have h1 := Int.emod_nonneg b (show c ≠ 0 by omega)
  have h2 := Int.emod_nonneg r (show c ≠ 0 by omega)
  have h3 := Int.emod_lt_of_pos b hc
  have h4 := Int.emod_lt_of_pos r hc
  refine ⟨?_, ⟨h1, h3⟩, h2, h4⟩
  rw [Int.tmod_eq_emod_of_nonneg (by omega), ← Int.add_emod]
theorem f6_Parity (m b r : Int) : Fn Tryz.prog 27 [.int .i64 m, .int .i64 b, .int .i64 r] [] (fun v As => v = .int .i64 (G.parity m b r) ∧ As = []) := by
  have hcnt := dI_count m
  have hc8 := L.count_le m
  refine Fn.enter [0, 0, 0] Tryz.func27 rfl rfl rfl fun X F hX => ?_
  refine J.r hX tab_ok 400 (fun _ => rfl) fun b1 => ?_
  refine J.r hX tab_ok 400 (fun _ => rfl) fun b2 => ?_
  refine J.ca hX (by kernel_rfl) (f1_Dies m) [] 0 rfl rfl rfl rfl rfl rfl (fun _ => rfl) ?_
  rintro v As ⟨a, c, rfl, rfl⟩
  refine ⟨_, rfl, trivial, ?_⟩
  rw [hcnt]
  refine J.r hX tab_ok 400 (fun _ => rfl) fun b3 => ?_
  refine J.cond rfl (fun h1 => ?_) (fun h1 => ?_)
  · refine J.r hX tab_ok 400 (fun _ => rfl) fun b4 => ?_
    refine J.rt hX tab_ok [] rfl rfl rfl ?_
    refine ⟨?_, rfl⟩
    unfold G.parity
    rw [if_pos]
    simp only [Bool.or_eq_true, decide_eq_true_eq] at h1
    omega
  · simp only [Bool.or_eq_false_iff, decide_eq_false_iff_not] at h1
    obtain ⟨⟨h1, h2⟩, h3⟩ := h1
    have hp : G.parity m b r = L.at_ m ((b + r) % (L.count m : Int)) := by unfold G.parity; rw [if_neg (by omega)]
    obtain ⟨e1, e2, e3⟩ := par_idx b r (L.count m) (by omega) (by omega) (by omega)
    have e4 := Int.emod_nonneg (b + r) (show (L.count m : Int) ≠ 0 by omega)
    have e5 := Int.emod_lt_of_pos (b + r) (show 0 < (L.count m : Int) by omega)
    obtain ⟨i, hi⟩ := Int.eq_ofNat_of_zero_le e4
    rw [hi] at e1 e5 hp
    have hat := dI_at m i (by omega)
    refine J.know (fun h' s => own_some (c := (a, c)) (by omega) (s.get (i := 1) rfl)) fun hg => ?_
    obtain ⟨g1, rfl⟩ := hg
    have e6 := tm_bd b (L.count m) (by omega)
    refine J.r hX tab_ok 400 (fun _ => rfl) fun b5 => ?_
    refine J.plan (.of [0,4,8,12,16,20,24,28,32,36,40,44,48,52,57,60]) [15] [1] (by rw [hX.hP]; kernel_rfl) (by kernel_rfl) ?_
    refine J.r hX tab_ok 13 (fun _ => rfl) fun b6 => ?_
    rw [e1]
    refine J.r hX tab_ok 400 (fun _ => rfl) fun b7 => ?_
    refine J.valT hX (.int .i64 (L.at_ m (i : Nat))) 0 rfl rfl (fun hg a w he hC => own1_run tab_ok rfl rfl he rfl rfl rfl (hC rfl _ (cget_mem (i := 1) rfl)) (by rw [show 0 + (i : Int).toNat * 1 = i from by omega]; exact cellsI_get hat)) rfl ?_
    refine J.r hX tab_ok 400 (fun _ => rfl) fun b8 => ?_
    refine J.rt hX tab_ok [] rfl rfl rfl ?_
    exact ⟨by rw [hp], rfl⟩
end Go.Proofs.YtmohcbniepdncaaGreat
