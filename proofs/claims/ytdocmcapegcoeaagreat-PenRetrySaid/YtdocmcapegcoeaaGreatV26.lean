/- Helpers, proved here. No condition. -/
import Derived.Test.YtdocmcapegcoeaaGreatV06
import Derived.Test.YtdocmcapegcoeaaGreatV08
import Derived.Test.YtdocmcapegcoeaaGreatV16
import Derived.Test.YtdocmcapegcoeaaGreatV17
import Derived.Test.YtdocmcapegcoeaaGreatV23
import Derived.Test.YtdocmcapegcoeaaGreatV25
set_option maxRecDepth 20000
set_option linter.all false
namespace Go.Proofs.YtdocmcapegcoeaaGreat
open Go
theorem xor_mul_add (k : Nat) {a b c d : Nat} (hb : b < 2 ^ k) (hd : d < 2 ^ k) : (2 ^ k * a + b) ^^^ (2 ^ k * c + d) = 2 ^ k * (a ^^^ c) + (b ^^^ d) := by
 apply Nat.eq_of_testBit_eq
 intro j
 have hbd : b ^^^ d < 2 ^ k := Nat.xor_lt_two_pow hb hd
 rw [Nat.testBit_xor, Nat.testBit_two_pow_mul_add _ hb, Nat.testBit_two_pow_mul_add _ hd, Nat.testBit_two_pow_mul_add _ hbd]
 split
 ·rw [Nat.testBit_xor]
 ·rw [Nat.testBit_xor]
theorem xo_nat {a b : Nat} (ha : a < 4611686018427387904) (hb : b < 4611686018427387904) : F9.xo a b = ((a ^^^ b : Nat) : Int) := by
 have h1 : (BitVec.ofInt 64 (a : Int) ^^^ BitVec.ofInt 64 (b : Int)).toNat = a ^^^ b := by
  rw [BitVec.toNat_xor, BitVec.ofInt_natCast, BitVec.ofInt_natCast, BitVec.toNat_ofNat, BitVec.toNat_ofNat, Nat.mod_eq_of_lt (by omega), Nat.mod_eq_of_lt (by omega)]
 have h2 : a ^^^ b < 4611686018427387904 := Nat.xor_lt_two_pow (n := 62) ha hb
 unfold F9.xo
 show IntKind.i64.wrap ((BitVec.ofInt 64 (a : Int) ^^^ BitVec.ofInt 64 (b : Int)).toNat : Int) = _
 rw [h1]
 simp [IntKind.wrap, IntKind.bits, IntKind.signed]
 omega
structure Num9 (s : Sh) : Prop where
 role : 0 ≤ s.role ∧ s.role ≤ 255
 lpn : 0 ≤ s.lpn ∧ s.lpn ≤ 65535
 seq : 0 ≤ s.seq ∧ s.seq ≤ 1099511627775
 data : s.data.length = 16
theorem may_num9 {s : Sh} (h : S.may s = true) (hd : s.data.length = 16) : Num9 s := by
 simp only [S.may, S.numbers, S.inB, Bool.and_eq_true, decide_eq_true_eq] at h
 exact ⟨by omega, by omega, by omega, hd⟩
theorem over_num9 {a b : Sh} (ha : Num9 a) (hb : Num9 b) : Num9 (F9.over a b) ∧ Xo.toX (F9.over a b) = Xo.op (Xo.toX a) (Xo.toX b) := by
 obtain ⟨r1, e1⟩ := Int.eq_ofNat_of_zero_le ha.role.1
 obtain ⟨r2, e2⟩ := Int.eq_ofNat_of_zero_le hb.role.1
 obtain ⟨l1, e3⟩ := Int.eq_ofNat_of_zero_le ha.lpn.1
 obtain ⟨l2, e4⟩ := Int.eq_ofNat_of_zero_le hb.lpn.1
 obtain ⟨s1, e5⟩ := Int.eq_ofNat_of_zero_le ha.seq.1
 obtain ⟨s2, e6⟩ := Int.eq_ofNat_of_zero_le hb.seq.1
 have i1 := ha.role
 have i2 := hb.role
 have i3 := ha.lpn
 have i4 := hb.lpn
 have i5 := ha.seq
 have i6 := hb.seq
 have x1 : F9.xo a.role b.role = ((r1 ^^^ r2 : Nat) : Int) := by rw [e1, e2]; exact xo_nat (by omega) (by omega)
 have x2 : F9.xo a.lpn b.lpn = ((l1 ^^^ l2 : Nat) : Int) := by rw [e3, e4]; exact xo_nat (by omega) (by omega)
 have x3 : F9.xo a.seq b.seq = ((s1 ^^^ s2 : Nat) : Int) := by rw [e5, e6]; exact xo_nat (by omega) (by omega)
 have b1 : r1 ^^^ r2 < 256 := Nat.xor_lt_two_pow (n := 8) (by omega) (by omega)
 have b2 : l1 ^^^ l2 < 65536 := Nat.xor_lt_two_pow (n := 16) (by omega) (by omega)
 have b3 : s1 ^^^ s2 < 1099511627776 := Nat.xor_lt_two_pow (n := 40) (by omega) (by omega)
 refine ⟨⟨?_, ?_, ?_, ?_⟩, ?_⟩
 ·show 0 ≤ F9.xo a.role b.role ∧ F9.xo a.role b.role ≤ 255
  rw [x1]; omega
 ·show 0 ≤ F9.xo a.lpn b.lpn ∧ F9.xo a.lpn b.lpn ≤ 65535
  rw [x2]; omega
 ·show 0 ≤ F9.xo a.seq b.seq ∧ F9.xo a.seq b.seq ≤ 1099511627775
  rw [x3]; omega
 ·exact mix_len ha.data hb.data 16 (by omega)
 ·unfold Xo.toX Xo.op
  refine Prod.ext ?_ ?_
  ·exact Xo.mix_all ha.data hb.data
  ·show S.meta_ (F9.xo a.role b.role) (F9.xo a.lpn b.lpn) (F9.xo a.seq b.seq) = S.meta_ a.role a.lpn a.seq ^^^ S.meta_ b.role b.lpn b.seq
   rw [x1, x2, x3, e1, e2, e3, e4, e5, e6]
   have hm : ∀ r l s : Nat, r < 256 → l < 65536 → s < 1099511627776 → S.meta_ (r : Nat) (l : Nat) (s : Nat) = 2 ^ 40 * (2 ^ 16 * r + l) + s := fun r l s h1 h2 h3 => by
    unfold S.meta_; omega
   rw [hm _ _ _ b1 b2 b3, hm r1 l1 s1 (by omega) (by omega) (by omega), hm r2 l2 s2 (by omega) (by omega) (by omega), xor_mul_add 40 (by omega) (by omega), xor_mul_add 16 (by omega) (by omega)]
theorem fold_num9 : ∀ (l : List Sh) (p : Sh), Num9 p → (∀ s ∈ l, Num9 s) → Num9 (l.foldl F9.over p) ∧ Xo.toX (l.foldl F9.over p) = (l.map Xo.toX).foldl Xo.op (Xo.toX p)
 | [], p, h, _ => ⟨h, rfl⟩
 | s :: l, p, h, hl => by
  obtain ⟨h1, h2⟩ := over_num9 h (hl s (by simp))
  obtain ⟨h3, h4⟩ := fold_num9 l (F9.over p s) h1 (fun t ht => hl t (by simp [ht]))
  rw [List.foldl_cons, List.map_cons, List.foldl_cons, ← h2]
  exact ⟨h3, h4⟩
theorem fold_back (p : Sh) (l : List Sh) (hp : Num9 p) (hl : ∀ s ∈ l, Num9 s) : (l.foldl F9.over p).en = W.backS p l := by
 obtain ⟨h1, h2⟩ := fold_num9 l p hp hl
 generalize l.foldl F9.over p = S9 at h1 h2
 have hd : ∀ s ∈ l ++ [p], s.data.length = 16 := fun s hs => by
  rcases List.mem_append.1 hs with h | h
  ·exact (hl s h).data
  ·rw [List.mem_singleton.1 h]; exact hp.data
 obtain ⟨o1, o2⟩ := Xo.over_all (l ++ [p]) Xo.z hd Xo.z_ok (by decide)
 have hok : ∀ x ∈ l.map Xo.toX, Xo.Ok x := fun x hx => by
  obtain ⟨s, hs, rfl⟩ := List.mem_map.1 hx
  exact (hl s hs).data
 have hpx : Xo.Ok (Xo.toX p) := hp.data
 have e : ((l ++ [p]).map Xo.toX).foldl Xo.op Xo.z = Xo.toX S9 := by
  rw [h2, List.map_append, List.foldl_append, Xo.fold_from (l.map Xo.toX) hok _ hpx]
  exact Xo.op_comm _ _
 rw [e] at o1 o2
 obtain ⟨m1, m2, m3⟩ := S.meta_back S9.role S9.lpn S9.seq h1.role h1.lpn h1.seq
 have ho : W.over (l ++ [p]) = ((Xo.toX S9).1, (((Xo.toX S9).2 : Nat) : Int)) := o1
 unfold W.backS
 simp only [ho, Int.toNat_natCast]
 show (⟨S9.lpn, S9.seq, S9.role, S9.data⟩ : En) = ⟨((S.meta_ S9.role S9.lpn S9.seq / 1099511627776 % 65536 : Nat) : Int), ((S.meta_ S9.role S9.lpn S9.seq % 1099511627776 : Nat) : Int), ((S.meta_ S9.role S9.lpn S9.seq / 72057594037927936 : Nat) : Int), S9.data⟩
 rw [m1, m2, m3]
end Go.Proofs.YtdocmcapegcoeaaGreat
namespace Go.Proofs.YtdocmcapegcoeaaGreat
open Go Go.RowKit
theorem f6_SlotsG (m : Int) : Fn Tryz.prog 124 [.int .i64 m] [] (fun v As => v = .int .i64 (G.slots m) ∧ As = []) := by
 rw [← slots_dI m]; exact f6_Slots m
def b9out (p : Sh) (n : Nat) : Bool := (!S.may p || p.kind != 2) || ((n : Int) != G.slots p.mask - 1)
theorem b9out_back {p : Sh} {l : List Sh} {n : Nat} (hl : l.length = n) (h : b9out p n = true) : W.backB p l = false := by
 unfold W.backB
 simp only [b9out, Bool.or_eq_true, Bool.not_eq_true', bne_iff_ne, ne_eq] at h
 rcases h with (h | h) | h
 ·rw [h]; simp
 ·rw [beq_eq_false_iff_ne.2 h]; simp
 ·rw [decide_eq_false (by rw [hl]; exact h)]; simp
def alien9 (p o : Sh) : Bool := (((!S.may o || o.kind != 1) || o.block != p.block) || o.row != p.row) || o.mask != p.mask
theorem alien9_eq (p o : Sh) : alien9 p o = W.alien p o := by
 unfold alien9 W.alien
 cases S.may o <;> cases o.kind != 1 <;> simp
theorem back_no {p : Sh} {l : List Sh} (h : W.backB p l = false) : W.back p l = En.zero := by unfold W.back; rw [h]; rfl
theorem f9_Back (p : Sh) (hp : p.data.length = 16) (a : Option Nat) (n c : Nat) (l : List Sh) (hl : l.length = n) (hd : ∀ s ∈ l, s.data.length = 16) : Fn Tryz.prog 125 [shV p, slv a n c] [ownA 132 23 a n c (cellsS l)]
  (fun v As => v = .tuple #[enV (W.back p l), .bool (W.backB p l)] ∧ As = [ownA 132 23 a n c (cellsS l)]) := by
 refine Fn.enter [0, 0] Tryz.func125 rfl rfl rfl fun X F hX => ?_
 refine J.q hX fun bb => ?_
 refine J.cb hX (f9_May p hp) [] ?_
 refine cpq ⟨_, rfl, trivial, ?_⟩
 have hG := gslots_bd p.mask
 refine J.q hX fun b2 => ?_
 refine J.join (α := Unit) (fun _ => [⟨28, .bool (b9out p n), 0, .tt⟩, ⟨1, slv a n c, 0, .tt⟩, ⟨2, .pointer (some ⟨bb 0, 0, none⟩), 3, .tt⟩, ⟨4, .pointer (some ⟨bb (0 + 1), 0, none⟩), 4, .tt⟩]) (fun _ => [.hp F, ownA 132 23 a n c (cellsS l), .pt (bb 0) 132 (shL p), .pt (bb (0 + 1)) 38 (enL En.zero)]) (fun hj => ?_) (fun _ => ?_)
 ·refine J.gcase hX rfl rfl rfl trivial (fun hb => ?_) (fun hb => ?_)
  ·have hb2 : (!S.may p || p.kind != 2) = false := by rwa [Bool.not_eq_true'] at hb
   have hC : b9out p n = (false || ((n : Int) != G.slots p.mask - 1)) := by unfold b9out; rw [hb2]
   rw [hb2]
   refine J.q hX fun b3 => ?_
   refine J.cb hX (f6_SlotsG p.mask) [] ?_
   refine cpq ⟨_, rfl, trivial, ?_⟩
   refine J.q hX fun b4 => ?_
   exact J.goto [0, 1, 2, 3] (hj ()) ⟨congrArg (fun b => some (Value.bool b)) hC.symm, rfl, rfl, rfl, trivial⟩ rfl rfl
  ·have hb2 : (!S.may p || p.kind != 2) = true := by rwa [Bool.not_eq_false'] at hb
   have hC : b9out p n = true := by unfold b9out; rw [hb2]; rfl
   rw [hb2]
   refine J.q hX fun b5 => ?_
   refine J.val hX (.int .i64 0) 0 rfl rfl (fun hg a w he hw => by simp [G.on] at hg) rfl trivial ?_
   refine J.q hX fun b6 => ?_
   exact J.goto [0, 1, 2, 3] (hj ()) ⟨congrArg (fun b => some (Value.bool b)) (show _ = b9out p n from by rw [hC]; rfl), rfl, rfl, rfl, trivial⟩ rfl rfl
 refine J.q hX fun b7 => ?_
 refine J.cond rfl (fun h1 => ?_) (fun h1 => ?_)
 ·have hB := b9out_back hl h1
  refine J.q hX fun b8 => ?_
  refine J.ru hX [1] ?_
  rw [back_no hB, hB]
  exact ⟨rfl, rfl⟩
 simp only [b9out, Bool.or_eq_false_iff, Bool.not_eq_false', bne_eq_false_iff_eq] at h1
 obtain ⟨⟨hmp, hkp⟩, hln⟩ := h1
 refine J.q hX fun b5 => ?_
 refine J.lo (α := Nat) (fun k => k ≤ n ∧ ∀ o ∈ l.take k, alien9 p o = false) (fun k => [⟨7, .int .i64 k, 0, .tt⟩, ⟨6, .pointer (some ⟨b5 0, 0, none⟩), 5, .tt⟩, ⟨1, slv a n c, 0, .tt⟩, ⟨2, .pointer (some ⟨bb 0, 0, none⟩), 3, .tt⟩, ⟨4, .pointer (some ⟨bb (0 + 1), 0, none⟩), 4, .tt⟩]) [4] (fun k => [.pt (b5 0) 132 (shL ((l.take k).foldl F9.over p))]) (fun k => n - k) (0) (⟨Nat.zero_le _, by simp⟩) rfl ?_ (fun _ => rfl) fun k hI => ?_
 ·rfl
 obtain ⟨hk, hal⟩ := hI
 refine J.q hX fun b10 => ?_
 refine J.cond rfl (fun h2 => ?_) (fun h2 => ?_)
 ·simp only [decide_eq_true_eq, Int.ofNat_lt] at h2
  obtain ⟨o, ho⟩ : ∃ o, l[k]? = some o := ⟨_, List.getElem?_eq_getElem (by omega)⟩
  have hod := hd o (List.mem_of_getElem? ho)
  refine J.know (fun h' s => own_some (c := (a, c)) (by omega) (s.get (i := 1) rfl)) fun hg => ?_
  obtain ⟨g, rfl⟩ := hg
  have hts : l.take (k + 1) = l.take k ++ [o] := by rw [List.take_add_one, ho]; rfl
  have hfold : (l.take (k + 1)).foldl F9.over p = F9.over ((l.take k).foldl F9.over p) o := by rw [hts, List.foldl_append]; rfl
  have hfl : ((l.take k).foldl F9.over p).data.length = 16 := by
   have : ∀ (l : List Sh) (q : Sh), (∀ s ∈ l, s.data.length = 16) → q.data.length = 16 → (l.foldl F9.over q).data.length = 16 := by
    intro l
    induction l with
    | nil => intro q _ h; exact h
    | cons x l ih => intro q hd h; exact ih _ (fun t ht => hd t (by simp [ht])) (mix_len h (hd x (by simp)) 16 (by omega))
   exact this _ _ (fun s hs => hd s (List.mem_of_mem_take hs)) hp
  generalize (l.take k).foldl F9.over p = q at hfold hfl
  refine J.q hX fun b11 => ?_
  refine J.val hX (shV o) 0 rfl rfl (fun hg a w he hw => ?_) rfl trivial ?_
  ·exact ownN_run tk rfl rfl he rfl rfl rfl (hw.get (i := 1) rfl) (by rw [show 0 + (k : Int).toNat * 23 = k * 23 from by omega]; exact cellsS_get ho) rfl
  refine J.q hX fun b12 => ?_
  refine J.cb hX (f9_May o hod) [] ?_
  refine cpq ⟨_, rfl, trivial, ?_⟩
  refine J.q hX fun b14 => ?_
  refine J.cond rfl (fun h3 => ?_) (fun h3 => ?_)
  ·have hB : W.backB p l = false := by
    have ha : W.alien p o = true := by rw [← alien9_eq]; exact h3
    unfold W.backB
    rw [List.any_eq_true.2 ⟨o, List.mem_of_getElem? ho, ha⟩]; simp
   refine J.q hX fun b15 => ?_
   refine J.ru hX [1] ?_
   rw [back_no hB, hB]
   exact ⟨rfl, rfl⟩
  ·have h3 : alien9 p o = false := h3
   refine J.q hX fun b16 => ?_
   refine J.cb hX (f9_over q o hfl hod) [] ?_
   refine cpq ⟨_, rfl, trivial, ?_⟩
   rw [← hfold]
   refine J.q hX fun b18 => ?_
   refine J.nS (k + 1) (⟨by omega, fun t ht => by
    rw [hts] at ht
    rcases List.mem_append.1 ht with h | h
    ·exact hal t h
    ·rw [List.mem_singleton.1 h]; exact h3⟩) (by omega) [0, 1, 2, 3, 4] rfl rfl
 simp only [decide_eq_false_iff_not, Int.ofNat_lt] at h2
 have htk : l.take k = l := List.take_of_length_le (by omega)
 rw [htk] at hal ⊢
 have hnum : ∀ s ∈ l, Num9 s := fun s hs => may_num9 (by
  have h := hal s hs
  simp only [alien9, Bool.or_eq_false_iff, Bool.not_eq_false'] at h
  exact h.1.1.1.1) (hd s hs)
 have hq := fold_back p l (may_num9 hmp hp) hnum
 have hqd := (fold_num9 l p (may_num9 hmp hp) hnum).1.data
 have hany : l.any (W.alien p) = false := by
  rw [List.any_eq_false]
  intro o ho
  rw [← alien9_eq, hal o ho]; decide
 have hB : W.backB p l = W.ok p.block p.row p.mask (l.foldl F9.over p).en := by
  unfold W.backB
  rw [hkp, hmp, hany, decide_eq_true (by rw [hl]; exact hln), hq]; simp
 generalize l.foldl F9.over p = q at hq hqd hB
 refine J.q hX fun b20 => ?_
 refine J.cb hX (f9_Own p.block p.row p.mask q.en hqd) [] ?_
 refine cpq ⟨_, rfl, trivial, ?_⟩
 rw [← hB]
 refine J.q hX fun b22 => ?_
 refine J.cond rfl (fun h4 => ?_) (fun h4 => ?_)
 ·have h4 : W.backB p l = false := by simpa using h4
  refine J.q hX fun b23 => ?_
  refine J.ru hX [1] ?_
  rw [back_no h4, h4]
  exact ⟨rfl, rfl⟩
 ·have h4 : W.backB p l = true := by simpa using h4
  have hbk : W.back p l = q.en := by unfold W.back; rw [if_pos h4, hq]
  refine J.q hX fun b24 => ?_
  refine J.ru hX [1] ?_
  rw [hbk, h4]
  exact ⟨rfl, rfl⟩
theorem look_slot (N : Nand) (b r m : Int) {i : Nat} (h : i < (G.slots m).toNat) : (R.look N b r m).slots[i]? = some (R.one N b r m (G.die m b r i)).1 ∧ (R.look N b r m).good.getD i false = (R.one N b r m (G.die m b r i)).2 := by
 unfold R.look R.ones
 simp [List.getD_eq_getElem?_getD, h]
theorem f9_mended (p : Nat) (N : Nand) (hN : N.Ok) (hR : N.Room) (b r m : Int) (k : Nat) (hk : k < 1000000) : Fn Tryz.prog 80 [.pointer (some ⟨p, 0, none⟩), .int .i64 b, .int .i64 r, .int .i64 m, .int .i64 k] [NandA p N]
  (fun v As => v = .tuple #[enV (R.mend (R.look N b r m) k), .bool (R.mendB (R.look N b r m) k)] ∧ As = [NandA p N]) := by
 have hG := gslots_bd m
 obtain ⟨hsl, hgl⟩ := look_len N b r m
 obtain ⟨hsd, hpd⟩ := look_data hN b r m
 have hslot := fun i (h : i < (G.slots m).toNat) => look_slot N b r m h
 have hwh : (R.one N b r m (G.parity m b r)) = ((R.look N b r m).parity, (R.look N b r m).whole) := rfl
 obtain ⟨f, hf⟩ : ∃ f, R.look N b r m = f := ⟨_, rfl⟩
 rw [hf] at hsl hgl hsd hpd hslot hwh ⊢
 obtain ⟨n, hn⟩ := Int.eq_ofNat_of_zero_le hG.1
 have hnt : (G.slots m).toNat = n := by omega
 rw [hnt] at hsl hgl hslot
 refine Fn.enter [2, 0, 0, 0, 0] Tryz.func80 rfl rfl rfl fun X F hX => ?_
 refine J.turn1 [] rfl (As := [ownA 132 23 none 0 0 (cellsS (othN f.slots k 0))]) (fun h s => Sep.one ⟨rfl, rfl, rfl⟩) rfl ?_
 refine J.q hX fun bb => ?_
 refine J.cb hX (f6_Parity m b r) [] ?_
 refine cpq ⟨_, rfl, trivial, ?_⟩
 refine J.q hX fun b2 => ?_
 refine J.cb hX (f9_one p N hN hR b r m (G.parity m b r)) [1] ?_
 refine cpq ⟨_, rfl, trivial, ?_⟩
 rw [hwh]
 refine J.q hX fun b12 => ?_
 refine J.lo (α := (Nat × Bool × Option Nat × Nat)) (fun z => z.1 ≤ n ∧ z.2.1 = (f.whole && (List.range z.1).all fun i => i == k || f.good.getD i false)) (fun z => [⟨15, .int .i64 z.1, 0, .tt⟩, ⟨14, slv z.2.2.1 (othN f.slots k z.1).length z.2.2.2, 0, .tt⟩, ⟨13, .bool z.2.1, 0, .tt⟩, ⟨12, .pointer (some ⟨b12 0, 0, none⟩), 5, .tt⟩, ⟨10, .pointer (some ⟨bb 0, 0, none⟩), 4, .tt⟩, ⟨11, .bool false, 0, .tt⟩, ⟨0, .pointer (some ⟨p, 0, none⟩), 2, .tt⟩, ⟨1, .int .i64 b, 0, .tt⟩, ⟨2, .int .i64 r, 0, .tt⟩, ⟨3, .int .i64 m, 0, .tt⟩, ⟨4, .int .i64 k, 0, .tt⟩]) [2] (fun z => [ownA 132 23 z.2.2.1 (othN f.slots k z.1).length z.2.2.2 (cellsS (othN f.slots k z.1))]) (fun z => n - z.1) ((0, f.whole, none, 0)) (⟨Nat.zero_le _, by simp⟩) rfl ?_ (fun _ => rfl) fun z hI => ?_
 ·rfl
 obtain ⟨i, ob, a, c⟩ := z
 dsimp only at hI ⊢
 obtain ⟨hi, hob⟩ := hI
 have hol := othN_len f.slots k i
 refine J.q hX fun b5 => ?_
 refine J.cb hX (f6_SlotsG m) [] ?_
 refine cpq ⟨_, rfl, trivial, ?_⟩
 rw [hn]
 refine J.q hX fun b7 => ?_
 refine J.cond rfl (fun h1 => ?_) (fun h1 => ?_)
 ·simp only [decide_eq_true_eq, Int.ofNat_lt] at h1
  obtain ⟨q1, q2⟩ := hslot i h1
  refine J.q hX fun b8 => ?_
  refine J.cb hX (f6_Die m b r i) [] ?_
  refine cpq ⟨_, rfl, trivial, ?_⟩
  refine J.q hX fun b10 => ?_
  refine J.cb hX (f9_one p N hN hR b r m (G.die m b r i)) [1] ?_
  refine cpq ⟨_, rfl, trivial, ?_⟩
  generalize R.one N b r m (G.die m b r i) = x at q1 q2
  obtain ⟨s, g⟩ := x
  refine J.q hX fun b12 => ?_
  refine J.cond rfl (fun h2 => ?_) (fun h2 => ?_)
  ·simp only [bne_iff_ne, ne_eq, Int.natCast_inj] at h2
   have hsn := othN_ne f.slots k i s q1 h2
   have hob2 : (ob && g) = (f.whole && (List.range (i + 1)).all fun i => i == k || f.good.getD i false) := by
    rw [List.range_succ, List.all_append, ← Bool.and_assoc, ← hob]
    congr 1
    rw [List.all_cons, List.all_nil, Bool.and_true, beq_eq_false_iff_ne.2 h2, Bool.false_or, q2]
   refine J.q hX fun b13 => ?_
   refine J.append hX tk 2 6 0 rfl rfl rfl rfl rfl rfl rfl rfl rfl rfl rfl rfl rfl rfl rfl rfl ?_ ?_ (fun _ => rfl) fun a4 c4 => ⟨_, (congrArg (fun z => lset _ 2 (ownA _ _ _ _ _ z)) ((cellsS_snoc _ _).symm.trans (congrArg cellsS hsn.symm))).trans rfl, trivial, ?_⟩
   ·simp only [maxLen]; omega
   ·omega
   rw [show (othN f.slots k i).length + 1 = (othN f.slots k (i + 1)).length from by rw [hsn]; simp]
   refine J.q hX fun b14 => ?_
   refine J.nS ((i + 1, ob && g, a4, c4)) (⟨by dsimp only; omega, hob2⟩) (by dsimp only; omega) [0, 1, 2, 3, 4] rfl rfl
  ·simp only [bne_eq_false_iff_eq, Int.natCast_inj] at h2
   have hsn : othN f.slots k (i + 1) = othN f.slots k i := by rw [← h2]; exact othN_eq f.slots i (by omega)
   have hob2 : ob = (f.whole && (List.range (i + 1)).all fun i => i == k || f.good.getD i false) := by
    rw [List.range_succ, List.all_append, ← Bool.and_assoc, ← hob, List.all_cons, List.all_nil, Bool.and_true, h2]
    simp
   rw [← hsn]
   refine J.q hX fun b16 => ?_
   refine J.nS ((i + 1, ob, a, c)) (⟨by dsimp only; omega, hob2⟩) (by dsimp only; omega) [0, 1, 2, 3, 4] rfl rfl
 simp only [decide_eq_false_iff_not, Int.ofNat_lt] at h1
 obtain rfl : i = n := by omega
 have hoe : othN f.slots k i = f.slots.eraseIdx k := by unfold othN; rw [List.take_of_length_le (by omega)]
 have hrest : ob = (R.rest f k && f.whole) := by rw [hob, Bool.and_comm]; unfold R.rest; rw [hsl]
 rw [hoe]
 refine J.q hX fun b18 => ?_
 refine J.cond rfl (fun h3 => ?_) (fun h3 => ?_)
 ·have h3 : ob = false := by simpa using h3
  rw [h3] at hrest
  have m1 : R.mendB f k = false := by unfold R.mendB; rw [← hrest]; rfl
  have m2 : R.mend f k = En.zero := by unfold R.mend; rw [← hrest]; rfl
  refine J.q hX fun b19 => ?_
  refine J.ru hX [1] ?_
  rw [m1, m2]
  exact ⟨rfl, rfl⟩
 ·have h3 : ob = true := by simpa using h3
  rw [h3] at hrest
  have m1 : R.mendB f k = W.backB f.parity (f.slots.eraseIdx k) := by unfold R.mendB; rw [← hrest]; rfl
  have m2 : R.mend f k = W.back f.parity (f.slots.eraseIdx k) := by unfold R.mend; rw [← hrest]; rfl
  refine J.q hX fun b20 => ?_
  refine J.cb hX (f9_Back f.parity hpd a (f.slots.eraseIdx k).length c (f.slots.eraseIdx k) rfl (fun s hs => hsd s (List.mem_of_mem_eraseIdx hs))) [2] ?_
  refine cpq ⟨_, rfl, trivial, ?_⟩
  rw [← m1, ← m2]
  refine J.q hX fun b22 => ?_
  exact J.ru hX [1] ⟨rfl, rfl⟩
theorem f9_Read (p : Nat) (N : Nand) (hN : N.Ok) (hR : N.Room) (hoff : N.off = false) (b r s m : Int) : Fn Tryz.prog 34 [.pointer (some ⟨p, 0, none⟩), .agg #[.int .i64 b, .int .i64 r, .int .i64 s], .int .i64 m] [NandA p N]
  (fun v As => v = .tuple #[enV (R.read N b r s m).1, .int .i64 (R.read N b r s m).2] ∧ As = [NandA p N]) := by
 refine Fn.enter [2, 0, 0] Tryz.func34 rfl rfl rfl fun X F hX => ?_
 refine J.q hX fun bb => ?_
 refine J.cb hX (f6_Die m b r s) [] ?_
 refine cpq ⟨_, rfl, trivial, ?_⟩
 refine J.q hX fun b24 => ?_
 refine J.plan (.of [0,4,8,12,20,25,28,33,36,18,42,44,48]) [] [2] (by rw [hX.hP]; kernel_rfl) (by kernel_rfl) ?_
 refine J.q hX fun b25 => ?_
 refine J.gcase hX rfl rfl rfl ⟨rfl, trivial⟩ (fun hb => ?_) (fun hb => ?_)
 ·have hb2 : decide (G.die m b r s < 0) = false := by rwa [Bool.not_eq_true'] at hb
  rw [hb2]
  refine J.q hX fun b26 => ?_
  refine J.cb hX (n_Geo p N) [1] ?_
  refine cpq ⟨_, rfl, ⟨rfl, trivial⟩, ?_⟩
  refine J.q hX fun b27 => ?_
  refine J.cb hX (f6_In N.dies N.blocks N.pages 0 b r) [] ?_
  refine cpq ⟨_, rfl, ⟨rfl, trivial⟩, ?_⟩
  refine J.q hX fun b29 => ?_
  refine J.cond rfl (fun h2 => ?_) (fun h2 => ?_)
  ·refine J.q hX fun b30 => ?_
   refine J.ru hX [1] ?_
   have : G.die m b r s < 0 ∨ geoIn N.dies N.blocks N.pages 0 b r = false := .inr (by simpa using h2)
   rw [R.read, if_pos this]
   exact ⟨rfl, rfl⟩
  have hd0 : ¬ G.die m b r s < 0 := of_decide_eq_false hb2
  have hc : ¬(G.die m b r s < 0 ∨ geoIn N.dies N.blocks N.pages 0 b r = false) := by
   rintro (h | h)
   ·exact hd0 h
   ·rw [h] at h2; simp at h2
  have hd := die_lt (m := m) (b := b) (r := r) (s := s) (by omega)
  have hsb := gslots_bd m
  obtain ⟨k, rfl⟩ := Int.eq_ofNat_of_zero_le hd.1
  have hk : k < (G.slots m).toNat := by omega
  obtain ⟨q1, q2⟩ := look_slot N b r m hk
  have hsl : (R.look N b r m).slots.getD k Sh.zero = (R.one N b r m (G.die m b r k)).1 := by rw [List.getD_eq_getElem?_getD, q1]; rfl
  have hrd : R.read N b r k m = if (R.one N b r m (G.die m b r k)).2 then ((R.one N b r m (G.die m b r k)).1.en, 0) else if R.mendB (R.look N b r m) k then (R.mend (R.look N b r m) k, 0) else (En.zero, 10) := by
   unfold R.read
   rw [if_neg hc, hoff, if_neg (by decide), Int.toNat_natCast, q2, hsl]
  refine J.q hX fun b31 => ?_
  refine J.cb hX (f9_one p N hN hR b r m (G.die m b r k)) [1] ?_
  refine cpq ⟨_, rfl, trivial, ?_⟩
  generalize R.one N b r m (G.die m b r k) = x at hrd
  obtain ⟨sx, gx⟩ := x
  refine J.q hX fun b33 => ?_
  refine J.cond rfl (fun h3 => ?_) (fun h3 => ?_)
  ·have h3 : gx = true := h3
   refine J.q hX fun b34 => ?_
   refine J.cb hX (f9_entry sx) [] ?_
   refine cpq ⟨_, rfl, trivial, ?_⟩
   refine J.q hX fun b36 => ?_
   refine J.ru hX [1] ?_
   rw [hrd, h3]
   exact ⟨rfl, rfl⟩
  have h3 : gx = false := h3
  subst h3
  rw [if_neg (by simp)] at hrd
  refine J.q hX fun b37 => ?_
  refine J.cb hX (f9_mended p N hN hR b r m k (by omega)) [1] ?_
  refine cpq ⟨_, rfl, trivial, ?_⟩
  generalize R.mendB (R.look N b r m) k = mb at hrd
  generalize R.mend (R.look N b r m) k = me at hrd
  refine J.q hX fun b39 => ?_
  refine J.cond rfl (fun h4 => ?_) (fun h4 => ?_)
  ·have h4 : mb = false := by simpa using h4
   subst h4
   refine J.q hX fun b40 => ?_
   refine J.ru hX [1] ?_
   rw [hrd]
   exact ⟨rfl, rfl⟩
  ·have h4 : mb = true := by simpa using h4
   subst h4
   refine J.q hX fun b41 => ?_
   refine J.ru hX [1] ?_
   rw [hrd]
   exact ⟨rfl, rfl⟩
 ·have hb2 : decide (G.die m b r s < 0) = true := by rwa [Bool.not_eq_false'] at hb
  rw [hb2]
  refine J.q hX fun b42 => ?_
  refine J.gcase hX rfl rfl rfl ⟨rfl, trivial⟩ (fun hb => by simp at hb) (fun hb => ?_)
  refine J.q hX fun b43 => ?_
  refine J.valT hX (.bool false) 0 rfl rfl (fun hg a w he hw => by simp [G.on] at hg) rfl ?_
  refine J.q hX fun b44 => ?_
  refine J.cond rfl (fun h2 => ?_) (fun h2 => ?_)
  ·refine J.q hX fun b45 => ?_
   refine J.ru hX [1] ?_
   have : G.die m b r s < 0 ∨ geoIn N.dies N.blocks N.pages 0 b r = false := .inl (of_decide_eq_true hb2)
   rw [R.read, if_pos this]
   exact ⟨rfl, rfl⟩
  ·simp at h2
end Go.Proofs.YtdocmcapegcoeaaGreat
namespace Go.Proofs.YtdocmcapegcoeaaGreat
open Go
theorem over_X (l : List Sh) (hl : ∀ s ∈ l, s.data.length = 16) : W.over l = ((Xo.all (l.map Xo.toX)).1, ((Xo.all (l.map Xo.toX)).2 : Int)) ∧ (Xo.all (l.map Xo.toX)).2 < 18446744073709551616 :=
 Xo.over_all l Xo.z hl Xo.z_ok (by decide)
theorem toX_parS {b r m : Int} {l : List En} (hd : ∀ s ∈ l, s.data.length = 16) : Xo.toX (W.parS b r m l) = Xo.all ((l.map (W.sh b r m)).map Xo.toX) := by
 obtain ⟨h1, h2⟩ := over_X (l.map (W.sh b r m)) (fun s hs => by obtain ⟨e, he, rfl⟩ := List.mem_map.1 hs; exact hd e he)
 have e2 : (W.over (l.map (W.sh b r m))).2.toNat = (Xo.all ((l.map (W.sh b r m)).map Xo.toX)).2 := by rw [h1]; rfl
 have e1 : (W.over (l.map (W.sh b r m))).1 = (Xo.all ((l.map (W.sh b r m)).map Xo.toX)).1 := by rw [h1]
 refine Prod.ext e1 ?_
 show S.meta_ ((W.over (l.map (W.sh b r m))).2.toNat / 72057594037927936 : Nat) ((W.over (l.map (W.sh b r m))).2.toNat / 1099511627776 % 65536 : Nat) ((W.over (l.map (W.sh b r m))).2.toNat % 1099511627776 : Nat) = _
 rw [e2]
 generalize (Xo.all ((l.map (W.sh b r m)).map Xo.toX)).2 = x at h2
 unfold S.meta_
 omega
theorem map_erase {α β : Type} (f : α → β) : ∀ (l : List α) (k : Nat), (l.eraseIdx k).map f = (l.map f).eraseIdx k
 | [], _ => rfl
 | _ :: _, 0 => rfl
 | x :: l, k + 1 => by simp only [List.eraseIdx_cons_succ, List.map_cons, map_erase f l k]
theorem back_one {b r m : Int} {l : List En} (hd : ∀ s ∈ l, s.data.length = 16) (hB : W.parB b r m l = true) {k : Nat} {e : En} (hk : l[k]? = some e) : W.backS (W.parS b r m l) ((l.map (W.sh b r m)).eraseIdx k) = e := by
 have hdm : ∀ s ∈ l.map (W.sh b r m), s.data.length = 16 := fun s hs => by obtain ⟨e, he, rfl⟩ := List.mem_map.1 hs; exact hd e he
 have hde : ∀ s ∈ (l.map (W.sh b r m)).eraseIdx k ++ [W.parS b r m l], s.data.length = 16 := fun s hs => by
  rw [List.mem_append, List.mem_singleton] at hs
  rcases hs with hs | rfl
  ·exact hdm s (List.mem_of_mem_eraseIdx hs)
  ·exact parS_len hd
 obtain ⟨h1, h2⟩ := over_X _ hde
 have hx : Xo.all (((l.map (W.sh b r m)).eraseIdx k ++ [W.parS b r m l]).map Xo.toX) = Xo.toX (W.sh b r m e) := by
  rw [List.map_append, List.map_cons, List.map_nil, toX_parS hd, map_erase]
  exact Xo.all_back _ k _ (fun x hx => by obtain ⟨s, hs, rfl⟩ := List.mem_map.1 hx; exact hdm s hs) (by rw [List.getElem?_map, List.getElem?_map, hk]; rfl)
 rw [hx] at h1
 have hok := (parB_len hB).2.2.2 e (List.mem_of_getElem? hk)
 have hmay : S.may (W.sh b r m e) = true := hok
 have hb := hmay
 simp only [S.may, S.numbers, S.inB, Bool.and_eq_true, decide_eq_true_eq] at hb
 obtain ⟨m1, m2, m3⟩ := S.meta_back e.role e.lpn e.seq hb.1.2.2 hb.1.2.1.2 hb.1.2.1.1
 unfold W.backS
 simp only [h1]
 obtain ⟨el, es, er, ed⟩ := e
 exact (En.mk.injEq ..).mpr ⟨m2, m3, m1, rfl⟩
theorem backB_one {b r m : Int} {l : List En} (hd : ∀ s ∈ l, s.data.length = 16) (hB : W.parB b r m l = true) {k : Nat} {e : En} (hk : l[k]? = some e) : W.backB (W.parS b r m l) ((l.map (W.sh b r m)).eraseIdx k) = true ∧ W.back (W.parS b r m l) ((l.map (W.sh b r m)).eraseIdx k) = e := by
 obtain ⟨p1, p2, p3, p4⟩ := parB_len hB
 have hb := back_one hd hB hk
 have hkl : k < l.length := (List.getElem?_eq_some_iff.1 hk).1
 have hany : ((l.map (W.sh b r m)).eraseIdx k).any (W.alien (W.parS b r m l)) = false := by
  rw [List.any_eq_false]
  intro s hs
  obtain ⟨x, hx, rfl⟩ := List.mem_map.1 (List.mem_of_mem_eraseIdx hs)
  have hmay : S.may (W.sh b r m x) = true := p4 x hx
  unfold W.alien
  rw [hmay]
  simp [W.sh, W.parS]
 have hlen : decide ((((l.map (W.sh b r m)).eraseIdx k).length : Int) = G.slots (W.parS b r m l).mask - 1) = true := by
  refine decide_eq_true ?_
  rw [List.length_eraseIdx, if_pos (by rw [List.length_map]; exact hkl), List.length_map]
  show ((l.length - 1 : Nat) : Int) = G.slots m - 1
  omega
 have h1 : W.backB (W.parS b r m l) ((l.map (W.sh b r m)).eraseIdx k) = true := by
  unfold W.backB
  rw [parS_may hB, hany, hlen, hb]
  show (((2 : Int) == 2 && true && !false && true) && W.ok b r m e) = true
  rw [p4 e (List.mem_of_getElem? hk)]; rfl
 refine ⟨h1, ?_⟩
 unfold W.back
 rw [if_pos h1, hb]
end Go.Proofs.YtdocmcapegcoeaaGreat
namespace Go.Proofs.YtdocmcapegcoeaaGreat
open Go
variable {N : Nand} {b m : Int} {l : List En} {j : Nat}
end Go.Proofs.YtdocmcapegcoeaaGreat
namespace Go.Proofs.YtdocmcapegcoeaaGreat
open Go
def CellOf (s : Sh) (c : NCell) : Prop := c.lost = true ∨ c.p = putP s ∨ (∃ n y, n < 32 ∧ y ≠ 0 ∧ c.p = Nand.xorAt (putP s) n y) ∨ ∃ K, K ≤ 32 ∧ c.p = Nand.fillP K (putP s)
structure ShAt (s : Sh) (d b r : Int) : Prop where
 len : s.data.length = 16
 may : S.may s = true
 blk : s.block = b
 row : s.row = r
 has : L.has s.mask d = true
 par : (G.parity s.mask b r == d) = (s.kind == 2)
theorem lookE {N : Nand} {d b r : Int} (h : N.readE d b r ≠ 0) : (M.look N d b r).2 ≠ 1 := by
 unfold M.look
 simp only
 rw [if_neg h]
 split
 ·decide
 ·split <;> decide
theorem lookE_refuses {N : Nand} {d b r : Int} (h : N.refuses d b r ≠ 0) : (M.look N d b r).2 ≠ 1 := by
 refine lookE ?_
 unfold Nand.readE
 rw [if_pos h]; exact h
theorem lookE_none {N : Nand} {d b r : Int} (h : N.pageAt d b r = none) : (M.look N d b r).2 ≠ 1 := by
 refine lookE ?_
 unfold Nand.readE
 split
 ·assumption
 ·rw [h]; decide
theorem look_is {N : Nand} {d b r : Int} {s : Sh} (hs : ShAt s d b r) {t : Bool} (hr : N.refuses d b r = 0) (hc : N.pageAt d b r = some ⟨putP s, false, t⟩) : M.look N d b r = (s, 1) := by
 have hput : putP s = S.put s := by unfold putP; rw [if_pos hs.may]
 obtain ⟨g1, g2⟩ := S.getV_put s hs.len hs.may
 have e1 : N.readE d b r = 0 := by unfold Nand.readE; rw [if_neg (by simp [hr]), hc]; rfl
 have e2 : N.readV d b r = S.put s := by unfold Nand.readV; rw [if_neg (by simp [hr]), hc]; simpa using hput
 unfold M.look
 simp only
 rw [if_pos e1, e2, g1, g2, if_neg]
 simp only [M.bad, hs.blk, hs.row, hs.has, hs.par]
 simp
theorem look_cell {N : Nand} {d b r : Int} {s : Sh} (hs : ShAt s d b r) {c : NCell} (hc : N.pageAt d b r = some c) (hC : CellOf s c) (h1 : (M.look N d b r).2 = 1) : M.look N d b r = (s, 1) := by
 by_cases hr : N.refuses d b r = 0
 ·have hput : putP s = S.put s := by unfold putP; rw [if_pos hs.may]
  by_cases hl : c.lost = true
  ·refine absurd h1 (lookE ?_)
   unfold Nand.readE
   rw [if_neg (by simp [hr]), hc]
   simp [hl]
  ·have hl : c.lost = false := by simpa using hl
   rcases hC with h | h | ⟨n, y, hn, hy, h⟩ | ⟨K, hK, h⟩
   ·rw [hl] at h; cases h
   ·refine look_is (t := c.turned) hs hr ?_
    rw [hc]; cases c; simp only at h hl; rw [h, hl]
   ·refine absurd h1 ?_
    have e1 : N.readE d b r = 0 := by unfold Nand.readE; rw [if_neg (by simp [hr]), hc]; simp [hl]
    have e2 : N.readV d b r = (S.put s).set n ((S.put s).getD n 0 ^^^ y) := by unfold Nand.readV; rw [if_neg (by simp [hr]), hc]; simp [hl, h, hput, Nand.xorAt]
    have hg := S.turned_none s hs.len n hn ((S.put s).getD n 0 ^^^ y) (fun e => hy (by
     have e2 := congrArg (fun z => (S.put s).getD n 0 ^^^ z) e
     simp only [← UInt8.xor_assoc, UInt8.xor_self, UInt8.zero_xor] at e2
     exact e2))
    unfold M.look
    simp only
    rw [if_pos e1, e2, if_pos]
    ·decide
    ·refine .inl ?_
     unfold S.getE
     rw [hg]; decide
   ·have hpl : (S.put s).length = 32 := S.length_put s hs.len
    have e1 : N.readE d b r = 0 := by unfold Nand.readE; rw [if_neg (by simp [hr]), hc]; simp [hl]
    have e2 : N.readV d b r = Nand.fillP K (S.put s) := by unfold Nand.readV; rw [if_neg (by simp [hr]), hc]; simp [hl, h, hput]
    unfold M.look at h1 ⊢
    simp only at h1 ⊢
    rw [if_pos e1, e2] at h1 ⊢
    split at h1
    ·cases h1
    ·rename_i hcond
     rw [if_neg hcond]
     have hE : S.getE (Nand.fillP K (S.put s)) = 0 := by
      by_cases h : S.getE (Nand.fillP K (S.put s)) = 0
      ·exact h
      ·exact absurd (.inl h) hcond
     have hsome : (S.get (Nand.fillP K (S.put s))).isSome = true := by
      unfold S.getE at hE
      split at hE
      ·assumption
      ·cases hE
     unfold S.get at hsome
     split at hsome
     ·rename_i hmay
      have hk28 : 28 ≤ K := by
       by_cases h : 28 ≤ K
       ·exact h
       ·have h1 := torn_kind K (S.put s) hpl (by omega)
        have h2 := S.may_bounds _ hmay.1
        omega
      have : S.getV (Nand.fillP K (S.put s)) = s := by
       unfold S.getV S.get
       rw [if_pos hmay, torn_fields K _ hpl hk28 hK, S.fields_put s hs.len hs.may]
       rfl
      rw [this]
     ·cases hsome
 ·exact absurd h1 (lookE_refuses hr)
structure RowIs (N : Nand) (b r m : Int) (l : List En) : Prop where
 six : N.dies ≤ 6
 blk : 0 ≤ b ∧ b < N.blocks
 row : 0 ≤ r ∧ r < N.pages
 mask : 0 ≤ m ∧ m < 2 ^ N.dies
 data : ∀ s ∈ l, s.data.length = 16
 par : W.parB b r m l = true
namespace RowIs
variable {N : Nand} {b r m : Int} {l : List En}
theorem like {N' : Nand} (h : RowIs N b r m l) (k : N.Like N') : RowIs N' b r m l := ⟨by rw [k.dies]; exact h.six, by rw [k.blocks]; exact h.blk, by rw [k.pages]; exact h.row, by rw [k.dies]; exact h.mask, h.data, h.par⟩
theorem m64 (h : RowIs N b r m l) : m < 64 := by
 have : (2 : Int) ^ N.dies ≤ 2 ^ 6 := by exact_mod_cast Nat.pow_le_pow_right (n := 2) (by omega) h.six
 have := h.mask
 omega
theorem len (h : RowIs N b r m l) : (l.length : Int) = G.slots m := (parB_len h.par).1
theorem count (h : RowIs N b r m l) : 2 ≤ L.count m := by
 have := parB_len h.par
 unfold G.slots at this
 split at this <;> omega
theorem facts (h : RowIs N b r m l) : DieFacts m b r := dieFacts m b r h.mask.1 h.m64 h.count h.blk.1 h.row.1
theorem nodup (h : RowIs N b r m l) : ((R.job b r m l).map (·.1)).Nodup := job_nodup h.facts h.len
theorem inn (h : RowIs N b r m l) : ∀ x ∈ R.job b r m l, 0 ≤ x.1 ∧ x.1 < (N.dies : Int) ∧ L.has m x.1 = true := by
 have hl := h.len
 intro x hx
 rcases mem_job.1 hx with ⟨k, hk, rfl⟩ | rfl
 ·have hf := h.facts.die k (by omega)
  obtain ⟨d, hd⟩ := Int.eq_ofNat_of_zero_le hf.2.2.1
  dsimp only at hf ⊢
  rw [hd] at hf ⊢
  have := has_lt_pow h.mask.2 hf.1
  exact ⟨by omega, by omega, hf.1⟩
 ·have hf := h.facts.par
  obtain ⟨d, hd⟩ := Int.eq_ofNat_of_zero_le hf.2.1
  dsimp only
  rw [hd] at hf ⊢
  have := has_lt_pow h.mask.2 hf.1
  exact ⟨by omega, by omega, hf.1⟩
theorem sh (h : RowIs N b r m l) : ∀ x ∈ R.job b r m l, ShAt x.2 x.1 b r ∧ x.2.mask = m := by
 obtain ⟨p1, p2, p3, p4⟩ := parB_len h.par
 intro x hx
 rcases mem_job.1 hx with ⟨k, hk, rfl⟩ | rfl
 ·have hmem : l.getD k En.zero ∈ l := by rw [List.getD_eq_getElem?_getD, List.getElem?_eq_getElem hk]; exact List.getElem_mem _
  have hf := h.facts.die k (by omega)
  refine ⟨⟨h.data _ hmem, p4 _ hmem, rfl, rfl, hf.1, ?_⟩, rfl⟩
  have : (G.parity m b r == G.die m b r (k : Nat)) = false := by rw [beq_eq_false_iff_ne]; exact fun e => hf.2.1 e.symm
  show (G.parity m b r == G.die m b r (k : Nat)) = _
  rw [this]; rfl
 ·refine ⟨⟨parS_len h.data, parS_may h.par, rfl, rfl, h.facts.par.1, ?_⟩, rfl⟩
  show (G.parity m b r == G.parity m b r) = _
  rw [beq_self_eq_true]; rfl
theorem on (h : RowIs N b r m l) {d : Nat} (hd : L.has m (d : Nat) = true) : ∃ x ∈ R.job b r m l, x.1 = (d : Nat) := by
 have hlt := has_lt_pow h.mask.2 hd
 have := h.six
 rcases h.facts.all d (by omega) hd with e | ⟨k, hk, e⟩
 ·exact ⟨_, mem_job.2 (.inr rfl), e.symm⟩
 ·have := h.len
  exact ⟨_, mem_job.2 (.inl ⟨k, by omega, rfl⟩), e⟩
end RowIs
structure PartR (N : Nand) (b r m : Int) (l : List En) (g : Nat → Bool) : Prop where
 good : ∀ k x, (R.job b r m l)[k]? = some x → g k = true → M.look N x.1 b r = (x.2, 1)
 bad : ∀ k x, (R.job b r m l)[k]? = some x → g k = false → (M.look N x.1 b r).2 ≠ 1
def othG (g : Nat → Bool) (n k : Nat) : Bool := (List.range (n + 1)).all fun i => i == k || g i
def okG (g : Nat → Bool) (n k : Nat) : Bool := g k || othG g n k
namespace PartR
variable {N : Nand} {b r m : Int} {l : List En} {g : Nat → Bool}
theorem one2 (h : PartR N b r m l g) (hm : ∀ x ∈ R.job b r m l, x.2.mask = m) {k : Nat} {x : Int × Sh} (hk : (R.job b r m l)[k]? = some x) : (R.one N b r m x.1).2 = g k ∧ (g k = true → (R.one N b r m x.1).1 = x.2) := by
 unfold R.one
 cases hg : g k with
 | true =>
  rw [h.good k x hk hg]
  refine ⟨?_, fun _ => rfl⟩
  show ((1 : Int) == 1 && x.2.mask == m) = true
  rw [hm x (List.mem_of_getElem? hk)]; simp
 | false =>
  refine ⟨?_, fun h => by cases h⟩
  have := h.bad k x hk hg
  show ((M.look N x.1 b r).2 == 1 && _) = false
  rw [beq_eq_false_iff_ne.2 this]; rfl
theorem fd (h : PartR N b r m l g) (hm : ∀ x ∈ R.job b r m l, x.2.mask = m) (hl : (l.length : Int) = G.slots m) :
  (∀ k, k < l.length → (R.look N b r m).good.getD k false = g k ∧ (g k = true → (R.look N b r m).slots.getD k Sh.zero = W.sh b r m (l.getD k En.zero))) ∧
  (R.look N b r m).slots.length = l.length ∧ (R.look N b r m).whole = g l.length ∧ (g l.length = true → (R.look N b r m).parity = W.parS b r m l) := by
 have hs : (G.slots m).toNat = l.length := by omega
 obtain ⟨w1, w2⟩ := h.one2 hm (job_last b r m l)
 refine ⟨fun k hk => ?_, by rw [(look_len N b r m).1, hs], w1, w2⟩
 obtain ⟨o1, o2⟩ := h.one2 hm (job_at b r m l k hk)
 constructor
 ·unfold R.look R.ones
  simp only [hs, List.getD_eq_getElem?_getD, List.getElem?_map, List.getElem?_range hk, Option.map_some, Option.getD_some]
  exact o1
 ·intro hg
  have := o2 hg
  unfold R.look R.ones
  simp only [hs, List.getD_eq_getElem?_getD, List.getElem?_map, List.getElem?_range hk, Option.map_some, Option.getD_some] at this ⊢
  exact this
theorem mend (h : PartR N b r m l g) (hR : RowIs N b r m l) {j : Nat} (hj : j < l.length) :
  R.mendB (R.look N b r m) j = othG g l.length j ∧ (othG g l.length j = true → R.mend (R.look N b r m) j = l.getD j En.zero) := by
 have hm : ∀ x ∈ R.job b r m l, x.2.mask = m := fun x hx => (hR.sh x hx).2
 obtain ⟨f1, f2, f3, f4⟩ := h.fd hm hR.len
 have hrest : R.rest (R.look N b r m) j = (List.range l.length).all fun i => i == j || g i := by
  unfold R.rest
  rw [f2]
  rw [Bool.eq_iff_iff, List.all_eq_true, List.all_eq_true]
  constructor
  ·intro hh i hi
   have := hh i hi
   rwa [(f1 i (List.mem_range.1 hi)).1] at this
  ·intro hh i hi
   have := hh i hi
   rwa [(f1 i (List.mem_range.1 hi)).1]
 have hoth : othG g l.length j = ((List.range l.length).all (fun i => i == j || g i) && g l.length) := by
  unfold othG
  rw [List.range_succ, List.all_append]
  have : (l.length == j) = false := by rw [beq_eq_false_iff_ne]; omega
  simp [this]
 cases hO : othG g l.length j with
 | false =>
  refine ⟨?_, fun e => by cases e⟩
  unfold R.mendB
  rw [hrest, f3, ← hoth, hO]; rfl
 | true =>
  rw [hoth, Bool.and_eq_true] at hO
  have hpar := f4 hO.2
  have hall := List.all_eq_true.1 hO.1
  have her : (R.look N b r m).slots.eraseIdx j = (l.map (W.sh b r m)).eraseIdx j := by
   apply List.ext_getElem?
   intro i
   rw [List.getElem?_eraseIdx, List.getElem?_eraseIdx]
   have key : ∀ i, i ≠ j → (R.look N b r m).slots[i]? = (l.map (W.sh b r m))[i]? := fun i hij => by
    rcases Nat.lt_or_ge i l.length with hi | hi
    ·have hgi : g i = true := by have := hall i (List.mem_range.2 hi); simpa [hij] using this
     have := (f1 i hi).2 hgi
     rw [List.getD_eq_getElem?_getD, List.getElem?_eq_getElem (by omega), Option.getD_some] at this
     rw [List.getElem?_eq_getElem (by omega), this, List.getElem?_map, List.getD_eq_getElem?_getD, List.getElem?_eq_getElem hi]; rfl
    ·rw [List.getElem?_eq_none (by omega), List.getElem?_eq_none (by rw [List.length_map]; omega)]
   split
   ·exact key i (by omega)
   ·exact key (i + 1) (by omega)
  have he : l[j]? = some (l.getD j En.zero) := by rw [List.getD_eq_getElem?_getD, List.getElem?_eq_getElem hj, Option.getD_some]
  obtain ⟨b1, b2⟩ := backB_one hR.data hR.par he
  unfold R.mendB R.mend
  rw [hrest, hO.1, f3, hO.2, hpar, her, b1, b2]
  exact ⟨rfl, fun _ => rfl⟩
theorem read (h : PartR N b r m l g) (hR : RowIs N b r m l) (hoff : N.off = false) {i : Nat} (hi : i < l.length) :
  R.read N b r (i : Nat) m = if okG g l.length i then (l.getD i En.zero, 0) else (En.zero, 10) := by
 have hm : ∀ x ∈ R.job b r m l, x.2.mask = m := fun x hx => (hR.sh x hx).2
 have hl := hR.len
 obtain ⟨f1, f2, f3, f4⟩ := h.fd hm hR.len
 obtain ⟨m1, m2⟩ := h.mend hR hi
 have hf := hR.facts.die i (by omega)
 have hg : geoIn N.dies N.blocks N.pages 0 b r = true := by
  have hd := hR.inn _ (job_last b r m l |> List.mem_of_getElem?)
  exact Nand.geoIn_of ⟨by omega, by omega⟩ hR.blk hR.row
 unfold R.read
 rw [if_neg (by rw [hg]; simp; omega), hoff, if_neg (by decide), Int.toNat_natCast, (f1 i hi).1, m1]
 unfold okG
 cases hgi : g i with
 | true =>
  rw [if_pos rfl, (f1 i hi).2 hgi]; rfl
 | false =>
  rw [if_neg (by decide), Bool.false_or]
  cases ho : othG g l.length i with
  | true => rw [if_pos rfl, if_pos rfl, m2 ho]
  | false => rw [if_neg (by decide), if_neg (by decide)]
end PartR
def gOf (N : Nand) (b r m : Int) (l : List En) (k : Nat) : Bool := match (R.job b r m l)[k]? with
 | some x => (M.look N x.1 b r).2 == 1
 | none => false
def RowIn (N : Nand) (b r m : Int) (l : List En) : Prop := ∀ x ∈ R.job b r m l, ∀ c, N.pageAt x.1 b r = some c → CellOf x.2 c
theorem RowIn.part {N : Nand} {b r m : Int} {l : List En} (h : RowIn N b r m l) (hR : RowIs N b r m l) : PartR N b r m l (gOf N b r m l) := by
 refine ⟨fun k x hk hg => ?_, fun k x hk hg => ?_⟩
 ·unfold gOf at hg
  rw [hk] at hg
  have hx := List.mem_of_getElem? hk
  have h1 : (M.look N x.1 b r).2 = 1 := by simpa using hg
  cases hp : N.pageAt x.1 b r with
  | none => exact absurd h1 (lookE_none hp)
  | some c => exact look_cell (hR.sh x hx).1 hp (h x hx c hp) h1
 ·unfold gOf at hg
  rw [hk] at hg
  simpa using hg
namespace Nand
def failB (N : Nand) (b r d : Int) : Bool := N.dead.getD d.toNat false || N.fails d b r
variable {N : Nand}
theorem Lit.refuses (h : N.Lit) {x y z : Int} (hx : 0 ≤ x ∧ x < N.dies) (hy : 0 ≤ y ∧ y < N.blocks) (hz : 0 ≤ z ∧ z < N.pages) : N.refuses x y z = if N.dead.getD x.toNat false then 8 else 0 := by
 unfold Nand.refuses
 rw [h.off, if_neg (by decide), geoIn_of hx hy hz, if_neg (by decide)]
end Nand
structure RdyR (N : Nand) (b r : Int) (q : List (Int × Sh)) : Prop where
 lit : N.Lit
 nodup : (q.map (·.1)).Nodup
 inn : ∀ x ∈ q, 0 ≤ x.1 ∧ x.1 < N.dies
 blk : 0 ≤ b ∧ b < N.blocks
 row : 0 ≤ r ∧ r < N.pages
 cells : ∀ x ∈ q, N.dead.getD x.1.toNat false = false → ((N.blk x.1.toNat b.toNat).cells.length : Int) = r
structure WroteR (N N' : Nand) (b r : Int) (q : List (Int × Sh)) : Prop where
 lit : N'.Lit
 like : N.Like N'
 dead : N'.dead = N.dead
 broken : N'.broken = N.broken
 cells : ∀ x ∈ q, (N'.blk x.1.toNat b.toNat).cells = if N.dead.getD x.1.toNat false then (N.blk x.1.toNat b.toNat).cells else (N.blk x.1.toNat b.toNat).cells ++ [⟨putP x.2, N.fails x.1 b r, false⟩]
 rest : ∀ i j, (j ≠ b.toNat ∨ ∀ x ∈ q, x.1.toNat ≠ i) → N'.blk i j = N.blk i j
 flags : ∀ i j, (N'.blk i j).met = (N.blk i j).met ∧ (N'.blk i j).fails = (N.blk i j).fails ∧ (N'.blk i j).worn = (N.blk i j).worn
 plan : ∀ a ∈ N'.plan, a ∈ N.plan
 ops : N'.ops = N.ops + ((q.filter fun x => !N.dead.getD x.1.toNat false).length : Int)
def failM (N : Nand) (b r : Int) : List (Int × Sh) → Int → Int
 | [], f => f
 | x :: q, f => failM N b r q (if N.failB b r x.1 then L.with_ f x.1 else f)
theorem failM_same {N N' : Nand} {b r : Int} : ∀ (q : List (Int × Sh)) (f : Int), (∀ x ∈ q, N'.failB b r x.1 = N.failB b r x.1) → failM N' b r q f = failM N b r q f
 | [], f, _ => rfl
 | x :: q, f, h => by rw [failM, failM, h x (by simp), failM_same q _ fun y hy => h y (by simp [hy])]
theorem go_R (b r : Int) : ∀ (q : List (Int × Sh)) (N : Nand) (f : Int), RdyR N b r q → (R.go b r q N f).2.1 = failM N b r q f ∧ (R.go b r q N f).2.2 = (if failM N b r q f = 0 then 0 else 7) ∧ WroteR N (R.go b r q N f).1 b r q
 | [], N, f, h => ⟨rfl, rfl, h.lit, Nand.Like.refl N, rfl, rfl, by simp, fun _ _ _ => rfl, fun _ _ => ⟨rfl, rfl, rfl⟩, fun _ h => h, by simp [R.go]⟩
 | (d, s) :: q, N, f, h => by
  have hx := h.inn (d, s) (by simp)
  have hc := h.cells (d, s) (by simp)
  dsimp only at hx hc
  have hr := h.lit.refuses hx h.blk h.row
  have hnd := List.nodup_cons.1 h.nodup
  have hne : ∀ x ∈ q, x.1 ≠ d := fun x hxq e => hnd.1 (List.mem_map.2 ⟨x, hxq, e⟩)
  have hne2 : ∀ x ∈ q, x.1.toNat ≠ d.toNat := fun x hxq e => by
   have := h.inn x (by simp [hxq])
   exact hne x hxq (by omega)
  by_cases hdd : N.dead.getD d.toNat false = true
  ·rw [hdd, if_pos rfl] at hr
   have e1 : N.progE d b r = 8 := by unfold Nand.progE; rw [if_pos (by rw [hr]; decide), hr]
   have e2 : N.progN d b r (putP s) = N := by unfold Nand.progN; rw [if_pos (by rw [hr]; decide)]
   have ef : N.failB b r d = true := by unfold Nand.failB; rw [hdd]; rfl
   have eg : R.go b r ((d, s) :: q) N f = R.go b r q N (L.with_ f d) := by rw [R.go, if_neg (by rw [e1]; decide), if_neg (by rw [e1]; decide), e2]
   obtain ⟨g1, g2, g3⟩ := go_R b r q N (L.with_ f d) ⟨h.lit, hnd.2, fun x hxq => h.inn x (by simp [hxq]), h.blk, h.row, fun x hxq => h.cells x (by simp [hxq])⟩
   have em : failM N b r ((d, s) :: q) f = failM N b r q (L.with_ f d) := by rw [failM]; dsimp only; rw [ef, if_pos rfl]
   rw [eg, em]
   refine ⟨g1, g2, g3.lit, g3.like, g3.dead, g3.broken, fun x hxq => ?_, fun i j hij => g3.rest i j (hij.imp id fun h' x hxq => h' x (by simp [hxq])), g3.flags, g3.plan, ?_⟩
   ·rcases List.mem_cons.1 hxq with rfl | hxq
    ·dsimp only
     rw [g3.rest _ _ (.inr fun y hy => hne2 y hy), hdd, if_pos rfl]
    ·exact g3.cells x hxq
   ·rw [g3.ops, List.filter_cons, if_neg (by dsimp only; rw [hdd]; decide)]
  ·have hdd : N.dead.getD d.toNat false = false := by simpa using hdd
   have hc := hc hdd
   rw [hdd, if_neg (by decide)] at hr
   have e1 := progE_in hr hc.symm h.lit.cutB
   have e2 := progN_in (pg := putP s) hr hc.symm h.lit.cutB
   have ef : N.failB b r d = N.fails d b r := by unfold Nand.failB; rw [hdd]; rfl
   obtain ⟨N1, hN1⟩ : ∃ N1, N.progN d b r (putP s) = N1 := ⟨_, rfl⟩
   rw [hN1] at e2
   have hb : ∀ i j, N1.blk i j = if i = d.toNat ∧ j = b.toNat then { N.blk d.toNat b.toNat with cells := (N.blk d.toNat b.toNat).cells ++ [⟨putP s, N.fails d b r, false⟩] } else N.blk i j := fun i j => by rw [e2]; rfl
   have hlike : N.Like N1 := by rw [e2]; exact ⟨rfl, rfl, rfl⟩
   have hlit : N1.Lit := by rw [← hN1]; exact h.lit.prog _ _ _ _
   have hbr : N1.broken = N.broken := by rw [e2]; rfl
   have hdead : N1.dead = N.dead := by rw [e2]; rfl
   have hops : N1.ops = N.ops + 1 := by rw [e2]; rfl
   have hplan : N1.plan = N.plan.erase (d, b, r) := by rw [e2]; rfl
   have hq : ∀ x ∈ q, N1.blk x.1.toNat b.toNat = N.blk x.1.toNat b.toNat := fun x hxq => by rw [hb, if_neg (by have := hne2 x hxq; omega)]
   have hfl : ∀ x ∈ q, N1.fails x.1 b r = N.fails x.1 b r := fun x hxq => by
    unfold Nand.fails
    rw [hq x hxq, hplan]
    congr 1
    rw [decide_eq_decide]
    exact List.mem_erase_of_ne (fun e => hne x hxq (by injection e))
   have hfb : ∀ x ∈ q, N1.failB b r x.1 = N.failB b r x.1 := fun x hxq => by unfold Nand.failB; rw [hdead, hfl x hxq]
   obtain ⟨f1, hf1⟩ : ∃ f1, (if N.fails d b r then L.with_ f d else f) = f1 := ⟨_, rfl⟩
   have eg : R.go b r ((d, s) :: q) N f = R.go b r q N1 f1 := by
    rw [R.go, e1, hN1, ← hf1]
    cases N.fails d b r with
    | true => rw [if_pos rfl, if_neg (by decide), if_neg (by decide), if_pos rfl]
    | false => rw [if_neg Bool.false_ne_true, if_pos rfl, if_neg Bool.false_ne_true]
   have em : failM N b r ((d, s) :: q) f = failM N b r q f1 := by rw [failM]; dsimp only; rw [ef, hf1]
   obtain ⟨g1, g2, g3⟩ := go_R b r q N1 f1 ⟨hlit, hnd.2, fun x hxq => by rw [hlike.dies]; exact h.inn x (by simp [hxq]), by rw [hlike.blocks]; exact h.blk, by rw [hlike.pages]; exact h.row, fun x hxq hd => by rw [hq x hxq]; exact h.cells x (by simp [hxq]) (by rw [← hdead]; exact hd)⟩
   rw [failM_same q f1 hfb] at g1 g2
   rw [eg, em]
   refine ⟨g1, g2, g3.lit, hlike.trans g3.like, g3.dead.trans hdead, g3.broken.trans hbr, fun x hxq => ?_, fun i j hij => ?_, fun i j => ?_, fun a ha => ?_, ?_⟩
   ·rcases List.mem_cons.1 hxq with rfl | hxq
    ·dsimp only
     rw [g3.rest _ _ (.inr fun y hy => hne2 y hy), hb, if_pos ⟨rfl, rfl⟩, hdd, if_neg (by decide)]
    ·rw [g3.cells x hxq, hdead, hq x hxq, hfl x hxq]
   ·rw [g3.rest i j (hij.imp id fun h' x hxq => h' x (by simp [hxq])), hb, if_neg]
    rintro ⟨rfl, rfl⟩
    rcases hij with h' | h'
    ·exact h' rfl
    ·exact h' (d, s) (by simp) rfl
   ·have := g3.flags i j
    rw [this.1, this.2.1, this.2.2, hb]
    split
    ·rename_i h'; rw [h'.1, h'.2]; exact ⟨rfl, rfl, rfl⟩
    ·exact ⟨rfl, rfl, rfl⟩
   ·have := g3.plan a ha
    rw [hplan] at this
    exact List.mem_of_mem_erase this
   ·rw [g3.ops, hops, hdead, List.filter_cons, if_pos (by dsimp only; rw [hdd]; decide), List.length_cons]
    omega
structure RdyW (N : Nand) (b r m : Int) : Prop where
 lit : N.Lit
 cells : ∀ d : Nat, L.has m (d : Nat) = true → N.dead.getD d false = false → ((N.blk d b.toNat).cells.length : Int) = r
theorem RdyW.rdy {N : Nand} {b r m : Int} {l : List En} (h : RdyW N b r m) (hR : RowIs N b r m l) : RdyR N b r (R.job b r m l) := by
 refine ⟨h.lit, hR.nodup, fun x hx => ⟨(hR.inn x hx).1, (hR.inn x hx).2.1⟩, hR.blk, hR.row, fun x hx hd => ?_⟩
 obtain ⟨h1, h2, h3⟩ := hR.inn x hx
 refine h.cells x.1.toNat ?_ hd
 rwa [show ((x.1.toNat : Nat) : Int) = x.1 from by omega]
theorem write_R {N : Nand} {b r m : Int} {l : List En} (h : RdyW N b r m) (hR : RowIs N b r m l) : (R.write N b r m l).2.1 = failM N b r (R.job b r m l) 0 ∧ (R.write N b r m l).2.2 = (if failM N b r (R.job b r m l) 0 = 0 then 0 else 7) ∧ WroteR N (R.write N b r m l).1 b r (R.job b r m l) := by
 unfold R.write
 rw [if_pos hR.par]
 exact go_R b r _ N 0 (h.rdy hR)
end Go.Proofs.YtdocmcapegcoeaaGreat
namespace Go.Proofs.YtdocmcapegcoeaaGreat
namespace L
theorem with_dec : ∀ f, f < 256 → ∀ d, d < 8 → set (with_ (f : Nat) (d : Nat)) = true ∧ ∀ e, e < 8 → has (with_ (f : Nat) (d : Nat)) (e : Nat) = (has (f : Nat) (e : Nat) || decide (e = d)) := by decide +kernel
theorem without_dec : ∀ f, f < 256 → ∀ d, d < 8 → set (without (f : Nat) (d : Nat)) = true ∧ ∀ e, e < 8 → has (without (f : Nat) (d : Nat)) (e : Nat) = (has (f : Nat) (e : Nat) && !decide (e = d)) := by decide +kernel
theorem all_dec : ∀ n, n ≤ 8 → set (all (n : Nat)) = true ∧ ∀ e, e < 8 → has (all (n : Nat)) (e : Nat) = decide (e < n) := by decide +kernel
theorem set_has {m : Int} (h : set m = true) : ∃ k : Nat, m = k ∧ k < 256 := by
 rw [set_iff] at h
 exact ⟨m.toNat, by omega, by omega⟩
theorem has_rng {m d : Int} (h : has m d = true) : ∃ k : Nat, d = k ∧ k < 8 := by
 have := has_lt m d h
 exact ⟨d.toNat, by omega, by omega⟩
theorem has_out {m d : Int} (h : ¬ (0 ≤ d ∧ d < 8)) : has m d = false := by
 cases hh : has m d with
 | false => rfl
 | true => have := has_lt m d hh; omega
theorem set_with {f d : Int} (hf : set f = true) (hd : 0 ≤ d ∧ d < 8) : set (with_ f d) = true := by
 obtain ⟨F, rfl, hF⟩ := set_has hf
 obtain ⟨D, rfl⟩ := Int.eq_ofNat_of_zero_le hd.1
 exact (with_dec F hF D (by omega)).1
theorem with_has {f d : Int} (hf : set f = true) (hd : 0 ≤ d ∧ d < 8) (e : Int) : has (with_ f d) e = (has f e || decide (e = d)) := by
 obtain ⟨F, rfl, hF⟩ := set_has hf
 obtain ⟨D, rfl⟩ := Int.eq_ofNat_of_zero_le hd.1
 by_cases he : 0 ≤ e ∧ e < 8
 ·obtain ⟨E, rfl⟩ := Int.eq_ofNat_of_zero_le he.1
  rw [(with_dec F hF D (by omega)).2 E (by omega)]
  have e2 : decide (E = D) = decide ((E : Int) = (D : Int)) := by rw [decide_eq_decide]; omega
  rw [e2]
 ·rw [has_out he, has_out he, decide_eq_false (by omega)]; rfl
theorem set_without {f d : Int} (hf : set f = true) (hd : 0 ≤ d ∧ d < 8) : set (without f d) = true := by
 obtain ⟨F, rfl, hF⟩ := set_has hf
 obtain ⟨D, rfl⟩ := Int.eq_ofNat_of_zero_le hd.1
 exact (without_dec F hF D (by omega)).1
theorem without_has {f d : Int} (hf : set f = true) (hd : 0 ≤ d ∧ d < 8) (e : Int) : has (without f d) e = (has f e && !decide (e = d)) := by
 obtain ⟨F, rfl, hF⟩ := set_has hf
 obtain ⟨D, rfl⟩ := Int.eq_ofNat_of_zero_le hd.1
 by_cases he : 0 ≤ e ∧ e < 8
 ·obtain ⟨E, rfl⟩ := Int.eq_ofNat_of_zero_le he.1
  rw [(without_dec F hF D (by omega)).2 E (by omega)]
  have e2 : decide (E = D) = decide ((E : Int) = (D : Int)) := by rw [decide_eq_decide]; omega
  rw [e2]
 ·rw [has_out he, has_out he]; rfl
theorem set_all (n : Nat) (h : n ≤ 8) : set (all n) = true := (all_dec n h).1
theorem all_has (n : Nat) (h : n ≤ 8) (e : Int) : has (all n) e = (decide (0 ≤ e) && decide (e < n)) := by
 by_cases he : 0 ≤ e ∧ e < 8
 ·obtain ⟨E, rfl⟩ := Int.eq_ofNat_of_zero_le he.1
  rw [(all_dec n h).2 E (by omega), decide_eq_true he.1, Bool.true_and, decide_eq_decide]; omega
 ·rw [has_out he]
  by_cases h0 : 0 ≤ e
  ·rw [decide_eq_false (p := e < n) (by omega)]; simp
  ·rw [decide_eq_false h0]; rfl
theorem ext {m k : Int} (hm : set m = true) (hk : set k = true) (h : ∀ d : Nat, d < 8 → has m (d : Nat) = has k (d : Nat)) : m = k := by
 obtain ⟨M, rfl, hM⟩ := set_has hm
 obtain ⟨K, rfl, hK⟩ := set_has hk
 refine congrArg (Nat.cast : Nat → Int) (Nat.eq_of_testBit_eq fun i => ?_)
 by_cases hi : i < 8
 ·have := h i hi
  simp only [has, hm, hk, Bool.true_and, Int.toNat_natCast] at this
  have e1 : decide ((0 : Int) ≤ (i : Int)) = true := decide_eq_true (by omega)
  have e2 : decide ((i : Int) < 8) = true := decide_eq_true (by omega)
  rwa [e1, e2, Bool.true_and, Bool.true_and, Bool.true_and] at this
 ·have h8 : ∀ M, M < 256 → M.testBit i = false := fun M hM => Nat.testBit_lt_two_pow (Nat.lt_of_lt_of_le hM (by
   have : (2 : Nat) ^ 8 ≤ 2 ^ i := Nat.pow_le_pow_right (by omega) (by omega)
   omega))
  rw [h8 M hM, h8 K hK]
theorem has_zero (d : Int) : has 0 d = false := by
 unfold has
 simp
end L
theorem wrap_small (x : Nat) (h : x < 1000000) : Go.IntKind.i64.wrap (x : Int) = x := by
 show (if ((true && decide ((x : Int) % 18446744073709551616 ≥ 9223372036854775808)) = true) then (x : Int) % 18446744073709551616 - 18446744073709551616 else (x : Int) % 18446744073709551616) = x
 rw [if_neg (by rw [Bool.true_and, decide_eq_true_eq]; omega)]
 omega
theorem andN_set {a b : Int} (ha : L.set a = true) (hb : L.set b = true) : L.set (Tl.andN a b) = true ∧ ∀ e : Int, L.has (Tl.andN a b) e = (L.has a e && !L.has b e) := by
 obtain ⟨A, rfl, hA⟩ := L.set_has ha
 obtain ⟨B, rfl, hB⟩ := L.set_has hb
 have e1 : ((BitVec.ofInt 64 (A : Int) &&& ~~~BitVec.ofInt 64 (B : Int)).toNat) < 256 := by
  rw [BitVec.toNat_and]
  refine Nat.lt_of_le_of_lt Nat.and_le_left ?_
  rw [BitVec.toNat_ofInt]
  simp; omega
 have e2 : ∀ i, i < 8 → (BitVec.ofInt 64 (A : Int) &&& ~~~BitVec.ofInt 64 (B : Int)).toNat.testBit i = (A.testBit i && !B.testBit i) := fun i hi => by
  rw [BitVec.testBit_toNat, BitVec.getLsbD_and, BitVec.getLsbD_not]
  have h1 : ∀ C : Nat, C < 256 → (BitVec.ofInt 64 (C : Int)).getLsbD i = C.testBit i := fun C hC => by
   rw [← BitVec.testBit_toNat, BitVec.toNat_ofInt]
   have : ((C : Int) % (((2 ^ 64 : Nat)) : Int)).toNat = C := by omega
   rw [this]
  rw [h1 A hA, h1 B hB, decide_eq_true (by omega), Bool.true_and]
 have e3 : Tl.andN (A : Int) (B : Int) = ((BitVec.ofInt 64 (A : Int) &&& ~~~BitVec.ofInt 64 (B : Int)).toNat : Int) := by
  unfold Tl.andN
  show IntKind.i64.wrap (((BitVec.ofInt 64 (A : Int) &&& ~~~BitVec.ofInt 64 (B : Int)).toNat : Nat) : Int) = _
  generalize (BitVec.ofInt 64 (A : Int) &&& ~~~BitVec.ofInt 64 (B : Int)).toNat = x at e1
  exact wrap_small x (by omega)
 generalize hx : (BitVec.ofInt 64 (A : Int) &&& ~~~BitVec.ofInt 64 (B : Int)).toNat = x at e1 e2 e3
 rw [e3]
 have hs : L.set (x : Int) = true := by rw [L.set_iff]; omega
 refine ⟨hs, fun e => ?_⟩
 by_cases he : 0 ≤ e ∧ e < 8
 ·obtain ⟨E, rfl⟩ := Int.eq_ofNat_of_zero_le he.1
  simp only [L.has, hs, ha, hb, Bool.true_and, Int.toNat_natCast]
  rw [decide_eq_true (p := (0 : Int) ≤ (E : Int)) (by omega), decide_eq_true (p := (E : Int) < 8) (by omega), e2 E (by omega)]
  rfl
 ·rw [L.has_out he, L.has_out he]; rfl
theorem failM_set {N : Nand} {b r : Int} : ∀ (q : List (Int × Sh)) (f : Int), L.set f = true → (∀ x ∈ q, 0 ≤ x.1 ∧ x.1 < 8) → L.set (failM N b r q f) = true ∧ ∀ d : Int, L.has (failM N b r q f) d = (L.has f d || q.any fun x => decide (x.1 = d) && N.failB b r x.1)
 | [], f, hf, _ => ⟨hf, fun d => by simp [failM]⟩
 | x :: q, f, hf, hq => by
  have hx := hq x (by simp)
  rw [failM]
  cases hb : N.failB b r x.1 with
  | false =>
   rw [if_neg Bool.false_ne_true]
   have ih := failM_set (N := N) (b := b) (r := r) q f hf fun y hy => hq y (by simp [hy])
   refine ⟨ih.1, fun d => ?_⟩
   rw [ih.2, List.any_cons, hb, Bool.and_false, Bool.false_or]
  | true =>
   rw [if_pos rfl]
   have ih := failM_set (N := N) (b := b) (r := r) q (L.with_ f x.1) (L.set_with hf hx) fun y hy => hq y (by simp [hy])
   refine ⟨ih.1, fun d => ?_⟩
   rw [ih.2, L.with_has hf hx, List.any_cons, hb, Bool.and_true, Bool.or_assoc]
   congr 2
   rw [decide_eq_decide]; omega
namespace Tl
theorem at_set {t : Tl} (hl : t.l.length = t.b) {k j : Int} (s : Sb) (hk : t.has k = true) (hj : t.has j = true) : (t.set k s).at_ j = if j = k then s else t.at_ j := by
 unfold set
 rw [if_pos hk]
 simp only [has, Bool.and_eq_true, decide_eq_true_eq] at hk hj
 unfold at_
 dsimp only
 by_cases e : j = k
 ·subst e
  rw [if_pos rfl, List.getD_eq_getElem?_getD, List.getElem?_set_self (by omega)]; rfl
 ·rw [if_neg e, List.getD_eq_getElem?_getD, List.getElem?_set_ne (by omega), ← List.getD_eq_getElem?_getD]
theorem has_set (t : Tl) (k j : Int) (s : Sb) : (t.set k s).has j = t.has j := by unfold has; rw [set_b]
theorem has_iff {t : Tl} {k : Int} : t.has k = true ↔ 0 ≤ k ∧ k < t.b := by simp [has]
theorem set_no {t : Tl} {k : Int} (s : Sb) (h : t.has k = false) : t.set k s = t := by unfold set; rw [h]; rfl
end Tl
end Go.Proofs.YtdocmcapegcoeaaGreat
