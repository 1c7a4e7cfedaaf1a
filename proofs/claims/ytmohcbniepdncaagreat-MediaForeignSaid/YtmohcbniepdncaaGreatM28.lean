/- Helpers of the proofs about ostrakonlaw11, proved here: PlV, PlU, RfL, Lf, ClmB. No condition. -/
import Derived.Test.YtmohcbniepdncaaGreatM13
import Derived.Test.YtmohcbniepdncaaGreatM20
import Derived.Test.YtmohcbniepdncaaGreatM23
import Derived.Test.YtmohcbniepdncaaGreatM25
import Derived.Test.YtmohcbniepdncaaGreatM26
set_option linter.unusedVariables false
set_option linter.unusedSimpArgs false
set_option linter.unusedSectionVars false
set_option linter.unnecessarySimpa false
namespace Go.Proofs.YtmohcbniepdncaaGreat
open Go
namespace Nand
variable {N : Nand}
theorem Calm.progEz (h : N.Calm) {x y : Int} {z : Nat} (hx : 0 ≤ x ∧ x < N.dies) (hy : 0 ≤ y ∧ y < N.blocks) (hz : z < N.pages) (hc : (N.blk x.toNat y.toNat).cells.length = z) (hm : (N.blk x.toNat y.toNat).met = false) (pg : List UInt8) :
    N.progE x y z = 0 ∧ N.progN x y z pg = push { N.cutN with plan := [] } x.toNat y.toNat ⟨pg, false, false⟩ := by
  have hr := h.refuses (x := x) (y := y) (z := z) (geoIn_of hx hy ⟨by omega, by omega⟩)
  constructor
  · rw [progE_in hr (by rw [hc]) h.cutB]
    unfold Nand.fails
    rw [h.plan, hm]; rfl
  · rw [progN_in hr (by rw [hc]) h.cutB]
    unfold Nand.fails
    rw [h.plan, hm]; rfl
end Nand
def fpN (N : Nand) (x y : Int) (pg : List UInt8) (k : Nat) : Nand := (List.range k).foldl (fun N i => N.progN x y (i : Nat) pg) N
theorem fpN_succ (N : Nand) (x y : Int) (pg : List UInt8) (k : Nat) : fpN N x y pg (k + 1) = (fpN N x y pg k).progN x y (k : Nat) pg := by simp [fpN, List.range_succ]
theorem fpN_Gd {N : Nand} (x y : Int) (pg : List UInt8) (hp : pg.length = 32) (mm : Nat) : ∀ k j, N.Gd (k + j) mm → (fpN N x y pg k).Gd j mm
  | 0, j, h => h.less (by omega) (Nat.le_refl _)
  | k + 1, j, h => by rw [fpN_succ]; exact (fpN_Gd x y pg hp mm k (j + 1) (h.less (by omega) (Nat.le_refl _))).prog _ _ _ _ hp
structure Filled (N N' : Nand) (x y : Nat) (pg : List UInt8) (k : Nat) : Prop where
  calm : N'.Calm
  like : N.Like N'
  cells : (N'.blk x y).cells = List.replicate k ⟨pg, false, false⟩
  met : (N'.blk x y).met = false
theorem fp_facts {N : Nand} {x y : Nat} (pg : List UInt8) (h : N.Calm) (hx : x < N.dies) (hy : y < N.blocks) (hc : (N.blk x y).cells = []) (hm : (N.blk x y).met = false) : ∀ k, k ≤ N.pages → Filled N (fpN N x y pg k) x y pg k ∧ (k < N.pages → (fpN N x y pg k).progE x y k = 0)
  | 0, _ => by
    have hF : Filled N (fpN N x y pg 0) x y pg 0 := ⟨h, Nand.Like.refl N, hc, hm⟩
    refine ⟨hF, fun hk => ?_⟩
    exact (hF.calm.progEz (x := x) (y := y) (z := 0) (by rw [hF.like.dies]; omega) (by rw [hF.like.blocks]; omega) (by rw [hF.like.pages]; omega) (by rw [Int.toNat_natCast, Int.toNat_natCast, hF.cells]; rfl) hF.met pg).1
  | k + 1, hk => by
    obtain ⟨ih, _⟩ := fp_facts pg h hx hy hc hm k (by omega)
    have hst := (ih.calm.progEz (x := x) (y := y) (z := k) (by rw [ih.like.dies]; omega) (by rw [ih.like.blocks]; omega) (by rw [ih.like.pages]; omega) (by rw [Int.toNat_natCast, Int.toNat_natCast, ih.cells, List.length_replicate]) ih.met pg).2
    have hF : Filled N (fpN N x y pg (k + 1)) x y pg (k + 1) := by
      rw [fpN_succ, hst]
      refine ⟨ih.calm.after _ _ _, ih.like.trans ⟨rfl, rfl, rfl⟩, ?_, ?_⟩
      · have hb : (Nand.push { (fpN N x y pg k).cutN with plan := [] } (x : Int).toNat (y : Int).toNat ⟨pg, false, false⟩).blk x y = { (fpN N x y pg k).blk x y with cells := ((fpN N x y pg k).blk x y).cells ++ [⟨pg, false, false⟩] } := by
          show (if x = (x : Int).toNat ∧ y = (y : Int).toNat then _ else _ : NBlock) = _
          rw [if_pos (by omega)]; rfl
        rw [hb]
        show ((fpN N x y pg k).blk x y).cells ++ [_] = _
        rw [ih.cells, List.replicate_succ']
      · have hb : (Nand.push { (fpN N x y pg k).cutN with plan := [] } (x : Int).toNat (y : Int).toNat ⟨pg, false, false⟩).blk x y = { (fpN N x y pg k).blk x y with cells := ((fpN N x y pg k).blk x y).cells ++ [⟨pg, false, false⟩] } := by
          show (if x = (x : Int).toNat ∧ y = (y : Int).toNat then _ else _ : NBlock) = _
          rw [if_pos (by omega)]; rfl
        rw [hb]
        exact ih.met
    refine ⟨hF, fun hk => ?_⟩
    exact (hF.calm.progEz (x := x) (y := y) (z := k + 1) (by rw [hF.like.dies]; omega) (by rw [hF.like.blocks]; omega) (by rw [hF.like.pages]; omega) (by rw [Int.toNat_natCast, Int.toNat_natCast, hF.cells, List.length_replicate]) hF.met pg).1
/-- a look at a page that has a sherd's page -/
theorem look_any {N : Nand} (hoff : N.off = false) {x y z : Nat} (hx : x < N.dies) (hy : y < N.blocks) (hz : z < N.pages) (hdd : N.dead.getD x false = false) {s : Sh} {t : Bool} (hc : (N.blk x y).cells[z]? = some ⟨putP s, false, t⟩) (hs : s.data.length = 16) (hm : S.may s = true) :
    M.look N x y z = if M.bad s x y z = true then (Sh.zero, 3) else (s, 1) := by
  have hr : N.refuses x y z = 0 := by
    unfold Nand.refuses
    rw [hoff, Nand.geoIn_of (by omega) (by omega) (by omega), Int.toNat_natCast, hdd]; simp
  have hpa : N.pageAt x y z = some ⟨putP s, false, t⟩ := by unfold Nand.pageAt; rw [Int.toNat_natCast, Int.toNat_natCast, Int.toNat_natCast]; exact hc
  have hput : putP s = S.put s := by unfold putP; rw [if_pos hm]
  obtain ⟨g1, g2⟩ := S.getV_put s hs hm
  have e1 : N.readE x y z = 0 := by unfold Nand.readE; rw [if_neg (by simp [hr]), hpa]; rfl
  have e2 : N.readV x y z = S.put s := by unfold Nand.readV; rw [if_neg (by simp [hr]), hpa]; simpa using hput
  unfold M.look
  simp only
  rw [if_pos e1, e2, g1, g2]
  simp
theorem foreign_law {x y z : Nat} {s : Sh} (hx : x < 4) (hy : y < 9) (hz : z < 3) (hs : s.data.length = 16) (hm : S.may s = true) :
    (∀ k, k ≤ z → (fpN (Nand.new 4 9 3) x y (putP s) k).progE x y k = 0) ∧
    ∃ w h, M.look (fpN (Nand.new 4 9 3) x y (putP s) (z + 1)) x y z = (w, h) ∧ w.data.length = 16 ∧ (h = 3 ∨ h = 1 ∧ s.block = y ∧ s.row = z) := by
  have hf := fun k (hk : k ≤ 3) => fp_facts (N := Nand.new 4 9 3) (x := x) (y := y) (putP s) (new_calm 4 9 3) hx hy rfl rfl k hk
  refine ⟨fun k hk => (hf k (by omega)).2 (show k < 3 by omega), ?_⟩
  have hF := (hf (z + 1) (by omega)).1
  generalize fpN (Nand.new 4 9 3) x y (putP s) (z + 1) = N at hF
  have hd : N.dies = 4 := hF.like.dies
  have hb : N.blocks = 9 := hF.like.blocks
  have hp : N.pages = 3 := hF.like.pages
  have hl := look_any (N := N) hF.calm.off (x := x) (y := y) (z := z) (by omega) (by omega) (by omega) (hF.calm.dead x) (s := s) (t := false) (by rw [hF.cells, List.getElem?_replicate, if_pos (by omega)]) hs hm
  rw [hl]
  by_cases hbad : M.bad s x y z = true
  · rw [if_pos hbad]
    exact ⟨Sh.zero, 3, rfl, rfl, .inl rfl⟩
  · rw [if_neg hbad]
    refine ⟨s, 1, rfl, hs, .inr ⟨rfl, ?_⟩⟩
    simp only [M.bad, Bool.or_eq_true, bne_iff_ne, ne_eq, not_or, Classical.not_not] at hbad
    exact ⟨hbad.1.1.1, hbad.1.1.2⟩
end Go.Proofs.YtmohcbniepdncaaGreat
namespace Go.Proofs.YtmohcbniepdncaaGreat
open Go
namespace Bt
theorem bits_add (a b j k : Nat) (hb : b < 2 ^ k) : bits (2 ^ k * a + b) (j + k) = bits a j ++ bits b k := by
  refine ext_bits (j + k) (length_bits _ _) (by rw [List.length_append, length_bits, length_bits]) fun i hi => ?_
  rw [bits_getD _ _ _ hi, Nat.testBit_two_pow_mul_add _ hb, List.getD_eq_getElem?_getD]
  by_cases h : i < j
  · rw [if_neg (by omega), List.getElem?_append_left (by rw [length_bits]; exact h), bits_at _ _ _ h]
    show a.testBit _ = a.testBit _
    congr 1; omega
  · rw [if_pos (by omega), List.getElem?_append_right (by rw [length_bits]; omega), length_bits, bits_at _ _ _ (by omega)]
    show b.testBit _ = b.testBit _
    congr 1; omega
def eight (l : List Bool) (i : Nat) : List Bool := [l.getD i false, l.getD (i + 1) false, l.getD (i + 2) false, l.getD (i + 3) false, l.getD (i + 4) false, l.getD (i + 5) false, l.getD (i + 6) false, l.getD (i + 7) false]
theorem eight_at (l : List Bool) (i k : Nat) (h : k < 8) : (eight l i)[k]? = some (l.getD (i + k) false) := by
  match k, h with
  | 0, _ => rfl
  | 1, _ => rfl
  | 2, _ => rfl
  | 3, _ => rfl
  | 4, _ => rfl
  | 5, _ => rfl
  | 6, _ => rfl
  | 7, _ => rfl
theorem num8 (l : List Bool) (i : Nat) : num (eight l i) = byteAt l i := by
  unfold num eight byteAt
  simp only [List.foldl_cons, List.foldl_nil]
  omega
theorem pack_take (l : List Bool) (j : Nat) (h : j < (l.length + 7) / 8) : (pack l).take (j + 1) = (pack l).take j ++ [UInt8.ofNat (byteAt l (8 * j))] := by
  rw [List.take_add_one, pack_get l j h]; rfl
end Bt
namespace S
theorem meta_bits (role lpn seq : Nat) (h1 : role < 256) (h2 : lpn < 65536) (h3 : seq < 1099511627776) : Bt.bits (meta_ role lpn seq) 64 = (Bt.bits role 8 ++ Bt.bits lpn 16) ++ Bt.bits seq 40 := by
  have e : meta_ role lpn seq = 2 ^ 40 * (2 ^ 16 * role + lpn) + seq := by unfold meta_; omega
  rw [e, show (64 : Nat) = (8 + 16) + 40 from rfl, Bt.bits_add _ _ _ 40 h3, Bt.bits_add _ _ _ 16 h2]
theorem put_lists (s : Sh) (hd : s.data.length = 16) : put s = Bt.pack (Bt.unpack s.data ++ head s) ++ Bt.pack (Bt.bits (K.sum (Bt.pack (Bt.unpack s.data ++ head s))) 32) := by
  have h1 : Bt.pack (Bt.unpack s.data ++ head s) = s.data ++ Bt.pack (head s) := by
    rw [Bt.pack_append _ _ 16 (by rw [Bt.length_unpack, hd]), Bt.pack_unpack]
  rw [h1]
  unfold put
  rw [Bt.pack_append _ _ 12 (length_head s), List.append_assoc]
end S
end Go.Proofs.YtmohcbniepdncaaGreat
namespace Go.Proofs.YtmohcbniepdncaaGreat
open Go Go.RowKit
theorem f1_Bytes (A : Atom) (a : Option Addr) (n cap : Nat) (l : List Bool) (hA : Rd A a 1 n (cellsB l)) (hl : l.length = n) (hn : n ≤ 4096) : Fn Tryz.prog 67 [.slice a n cap] [A] (fun v As => ∃ a' c', v = slv a' (Bt.pack l).length c' ∧ As = [A, ownA 5 1 a' (Bt.pack l).length c' ((Bt.pack l).map bv)]) := by
  have hpl := Bt.length_pack l
  refine Fn.enter [0] Tryz.func67 rfl rfl rfl fun X F hX => ?_
  refine J.turn1 [] rfl (As := [ownA 5 1 none 0 0 (((Bt.pack l).take 0).map bv)]) (fun h s => Sep.one ⟨rfl, rfl, rfl⟩) rfl ?_
  refine J.r hX tab_ok 400 (fun _ => rfl) fun b1 => ?_
  refine J.r hX tab_ok 400 (fun _ => rfl) fun b2 => ?_
  refine J.lo (α := (Nat × Option Nat × Nat)) (fun z => z.1 ≤ (Bt.pack l).length) (fun z => [⟨4, .int .i64 ((z.1 : Int) * 8), 0, .tt⟩, ⟨3, slv z.2.1 z.1 z.2.2, 0, .tt⟩, ⟨0, .slice a n cap, 0, .tt⟩]) [2] (fun z => [ownA 5 1 z.2.1 z.1 z.2.2 (((Bt.pack l).take z.1).map bv)]) (fun z => (Bt.pack l).length - z.1) ((0, none, 0)) (Nat.zero_le _) rfl ?_ (fun _ => rfl) fun z hI => ?_
  · rfl
  obtain ⟨j, b, c⟩ := z
  dsimp only at hI ⊢
  refine J.r hX tab_ok 400 (fun _ => rfl) fun b3 => ?_
  refine J.cond rfl (fun h1 => ?_) (fun h1 => ?_)
  · simp only [decide_eq_true_eq] at h1
    have hj : j < (l.length + 7) / 8 := by omega
    have htk := Bt.pack_take l j hj
    refine J.know (p := ∃ g o, a = some ⟨g, o, none⟩) (fun h' s => Rd.addr (hA _ (s.get (i := 1) rfl)) (by omega)) fun hk => ?_
    obtain ⟨gm, om, rfl⟩ := hk
    refine J.r hX tab_ok 400 (fun _ => rfl) fun b4 => ?_
    refine J.r hX tab_ok 400 (fun _ => rfl) fun b5 => ?_
    refine J.lo (α := Nat) (fun k => k ≤ 8) (fun k => [⟨6, .int .i64 ((j : Int) * 8 + k), 0, .tt⟩, ⟨5, .int .u8 (Bt.num ((Bt.eight l (8 * j)).take k)), 0, .tt⟩, ⟨4, .int .i64 ((j : Int) * 8), 0, .tt⟩, ⟨3, slv b j c, 0, .tt⟩, ⟨0, .slice (some ⟨gm, om, none⟩) n cap, 0, .tt⟩]) [] (fun k => []) (fun k => 8 - k) (0) (Nat.zero_le _) rfl ?_ (fun _ => rfl) fun k hI => ?_
    · rfl
    refine J.r hX tab_ok 400 (fun _ => rfl) fun b6 => ?_
    refine J.cond rfl (fun h2 => ?_) (fun h2 => ?_)
    · simp only [decide_eq_true_eq] at h2
      have h2 : k < 8 := by omega
      have hs := Bt.num_take_succ _ k _ (Bt.eight_at l (8 * j) k h2)
      have hlt := Bt.num_take_lt (Bt.eight l (8 * j)) (k + 1)
      have hp : 2 ^ (k + 1) ≤ 2 ^ 8 := Nat.pow_le_pow_right (by omega) (by omega)
      have hlt2 : Bt.num ((Bt.eight l (8 * j)).take (k + 1)) < 256 := Nat.lt_of_lt_of_le hlt hp
      rw [hs] at hlt2
      have hout : ¬ ((j : Int) * 8 + k < n) → l.getD (8 * j + k) false = false := fun h => by
        rw [List.getD_eq_getElem?_getD, List.getElem?_eq_none (by omega)]; rfl
      refine J.r hX tab_ok 400 (fun _ => rfl) fun b7 => ?_
      refine J.val hX (.bool (l.getD (8 * j + k) false)) 0 rfl rfl (fun hg a w he hw => by
        have hlt : (j : Int) * 8 + k < n := by simpa [G.on] using hg
        exact rd1_run tab_ok rfl rfl he hg rfl rfl (hA _ (hw.get (i := 1) rfl)) (by omega) (j := 8 * j + k) (by omega) (cellsB_get (by rw [List.getD_eq_getElem?_getD, List.getElem?_eq_getElem (by omega)]; rfl))) rfl trivial ?_
      generalize l.getD (8 * j + k) false = x at hs hlt2 hout
      refine J.r hX tab_ok 400 (fun _ => rfl) fun b8 => ?_
      refine J.cond rfl (fun h3 => ?_) (fun h3 => ?_)
      · have hx : x = true := by
          simp only [Bool.and_eq_true] at h3
          exact h3.2
        subst hx
        rw [show (true : Bool).toNat = 1 from rfl] at hs hlt2
        refine J.r hX tab_ok 400 (fun _ => rfl) fun b9 => ?_
        rw [show ((Bt.num ((Bt.eight l (8 * j)).take k) : Nat) : Int) * 2 + 1 = ((Bt.num ((Bt.eight l (8 * j)).take (k + 1)) : Nat) : Int) from by omega]
        refine J.r hX tab_ok 400 (fun _ => rfl) fun b10 => ?_
        refine J.nS (k + 1) (by omega) (by omega) [0, 1, 2] rfl rfl
      · have hx : x = false := by
          by_cases h : (j : Int) * 8 + k < n
          · rw [decide_eq_true h, Bool.true_and] at h3; exact h3
          · exact hout h
        subst hx
        rw [show (false : Bool).toNat = 0 from rfl] at hs hlt2
        rw [show ((Bt.num ((Bt.eight l (8 * j)).take k) : Nat) : Int) * 2 = ((Bt.num ((Bt.eight l (8 * j)).take (k + 1)) : Nat) : Int) from by omega]
        refine J.r hX tab_ok 400 (fun _ => rfl) fun b11 => ?_
        refine J.r hX tab_ok 400 (fun _ => rfl) fun b12 => ?_
        refine J.nS (k + 1) (by omega) (by omega) [0, 1, 2] rfl rfl
    simp only [decide_eq_false_iff_not] at h2
    obtain rfl : k = 8 := by omega
    have hb8 : (Bt.eight l (8 * j)).take 8 = Bt.eight l (8 * j) := rfl
    have hbl := Bt.byteAt_lt l (8 * j)
    have hbv : Value.int IntKind.u8 ((Bt.byteAt l (8 * j) : Nat) : Int) = bv (UInt8.ofNat (Bt.byteAt l (8 * j))) := by
      unfold bv
      rw [UInt8.toNat_ofNat', Nat.mod_eq_of_lt hbl]
    rw [hb8, Bt.num8]
    refine J.r hX tab_ok 400 (fun _ => rfl) fun b13 => ?_
    rw [hbv]
    refine J.append hX tab_ok 2 3 0 rfl rfl rfl rfl rfl rfl rfl rfl rfl rfl rfl rfl rfl rfl rfl rfl ?_ ?_ (fun _ => rfl) fun a4 c4 => ⟨_, (congrArg (fun z => lset _ 2 (ownA _ _ _ _ _ z)) (show ((Bt.pack l).take j).map bv ++ [bv (UInt8.ofNat (Bt.byteAt l (8 * j)))] = ((Bt.pack l).take (j + 1)).map bv from by rw [htk, List.map_append]; rfl)).trans rfl, trivial, ?_⟩
    · simp only [maxLen]; omega
    · omega
    refine J.r hX tab_ok 400 (fun _ => rfl) fun b14 => ?_
    rw [show (j : Int) * 8 + 8 = ((j + 1 : Nat) : Int) * 8 from by omega]
    refine J.r hX tab_ok 400 (fun _ => rfl) fun b15 => ?_
    refine J.nS ((j + 1, a4, c4)) (by dsimp only; omega) (by dsimp only; omega) [0, 1, 2] rfl rfl
  simp only [decide_eq_false_iff_not] at h1
  have hjn : j = (Bt.pack l).length := by omega
  have ht : (Bt.pack l).take j = Bt.pack l := List.take_of_length_le (by omega)
  rw [ht, hjn]
  refine J.r hX tab_ok 400 (fun _ => rfl) fun b16 => ?_
  refine J.rt hX tab_ok [1, 2] rfl rfl rfl ?_
  exact ⟨b, c, rfl, rfl⟩
theorem and_low (r m k : Nat) (hm : m = 2 ^ k - 1) (hr : r < 2 ^ k) (hk : k ≤ 62) : (BitVec.ofInt 64 (r : Int) &&& BitVec.ofInt 64 (m : Int)).toNat = r := by
  have h1 : 2 ^ k ≤ 2 ^ 62 := Nat.pow_le_pow_right (by omega) hk
  rw [BitVec.toNat_and, BitVec.ofInt_natCast, BitVec.ofInt_natCast, BitVec.toNat_ofNat, BitVec.toNat_ofNat, Nat.mod_eq_of_lt (a := r) (by omega), Nat.mod_eq_of_lt (a := m) (by omega), hm, Nat.and_two_pow_sub_one_eq_mod, Nat.mod_eq_of_lt hr]
theorem and_i64 (r m k : Nat) (hm : m = 2 ^ k - 1) (hr : r < 2 ^ k) (hk : k ≤ 62) : IntKind.i64.wrap ((BitVec.ofInt IntKind.i64.bits (r : Int) &&& BitVec.ofInt IntKind.i64.bits (m : Int)).toNat : Int) = r := by
  have h1 : 2 ^ k ≤ 2 ^ 62 := Nat.pow_le_pow_right (by omega) hk
  show IntKind.i64.wrap ((BitVec.ofInt 64 (r : Int) &&& BitVec.ofInt 64 (m : Int)).toNat : Int) = r
  rw [and_low r m k hm hr hk]
  simp [IntKind.wrap, IntKind.bits, IntKind.signed]
  omega
theorem and_u64 (r m k : Nat) (hm : m = 2 ^ k - 1) (hr : r < 2 ^ k) (hk : k ≤ 62) : IntKind.u64.wrap ((BitVec.ofInt IntKind.u64.bits (r : Int) &&& BitVec.ofInt IntKind.u64.bits (m : Int)).toNat : Int) = r := by
  have h1 : 2 ^ k ≤ 2 ^ 62 := Nat.pow_le_pow_right (by omega) hk
  show IntKind.u64.wrap ((BitVec.ofInt 64 (r : Int) &&& BitVec.ofInt 64 (m : Int)).toNat : Int) = r
  rw [and_low r m k hm hr hk]
  simp [IntKind.wrap, IntKind.bits, IntKind.signed]
  omega
theorem f9_Meta (role lpn seq : Nat) (h1 : role < 256) (h2 : lpn < 65536) (h3 : seq < 1099511627776) : Fn Tryz.prog 65 [.int .i64 role, .int .i64 lpn, .int .i64 seq] [] (fun v As => ∃ a c, v = slv a 64 c ∧ As = [ownA 4 1 a 64 c (cellsB (Bt.bits (S.meta_ role lpn seq) 64))]) := by
  have a1 := and_i64 role 255 8 rfl h1 (by decide)
  have a2 := and_i64 lpn 65535 16 rfl h2 (by decide)
  have a3 := and_u64 seq 1099511627775 40 rfl h3 (by decide)
  rw [show ((255 : Nat) : Int) = 255 from rfl] at a1
  rw [show ((65535 : Nat) : Int) = 65535 from rfl] at a2
  rw [show ((1099511627775 : Nat) : Int) = 1099511627775 from rfl] at a3
  rw [S.meta_bits role lpn seq h1 h2 h3]
  refine Fn.enter [0, 0, 0] Tryz.func65 rfl rfl rfl fun X F hX => ?_
  refine J.r hX tab_ok 8 (fun _ => rfl) fun b17 => ?_
  rw [a1]
  refine J.r hX tab_ok 400 (fun _ => rfl) fun b18 => ?_
  refine J.r hX tab_ok 400 (fun _ => rfl) fun b19 => ?_
  refine J.ca hX (by kernel_rfl) (f1_Bits role 8 (by omega) (by decide)) [] 0 rfl rfl rfl rfl rfl rfl (fun _ => rfl) ?_
  rintro v As ⟨c1, d1, rfl, rfl⟩
  refine ⟨_, rfl, trivial, ?_⟩
  refine J.r hX tab_ok 2 (fun _ => rfl) fun b20 => ?_
  rw [a2]
  refine J.r hX tab_ok 400 (fun _ => rfl) fun b21 => ?_
  refine J.r hX tab_ok 400 (fun _ => rfl) fun b22 => ?_
  refine J.ca hX (by kernel_rfl) (f1_Bits lpn 16 (by omega) (by decide)) [] 0 rfl rfl rfl rfl rfl rfl (fun _ => rfl) ?_
  rintro v As ⟨c2, d2, rfl, rfl⟩
  refine ⟨_, rfl, trivial, ?_⟩
  refine J.know (fun h' s => own_some (c := (c2, d2)) (by decide) (s.get (i := 2) rfl)) fun hg => ?_
  obtain ⟨g2, rfl⟩ := hg
  refine J.appendR hX tab_ok 1 2 0 rfl rfl rfl rfl rfl rfl rfl rfl rfl rfl (own_rd _ _ _ _ _ _) rfl rfl rfl rfl (cellsB_one _) ?_ ?_ (fun _ => rfl) fun a4 c4 => ⟨_, (congrArg (fun z => lset _ 1 (ownA _ _ _ _ _ z)) (cellsB_app _ _).symm).trans rfl, trivial, ?_⟩
  · decide
  · decide
  rw [show 8 + 16 = 24 from rfl]
  refine J.r hX tab_ok 8 (fun _ => rfl) fun b23 => ?_
  rw [a3]
  refine J.r hX tab_ok 400 (fun _ => rfl) fun b24 => ?_
  refine J.ca hX (by kernel_rfl) (f1_Bits seq 40 (by omega) (by decide)) [] 0 rfl rfl rfl rfl rfl rfl (fun _ => rfl) ?_
  rintro v As ⟨c5, d5, rfl, rfl⟩
  refine ⟨_, rfl, trivial, ?_⟩
  refine J.know (fun h' s => own_some (c := (c5, d5)) (by decide) (s.get (i := 3) rfl)) fun hg => ?_
  obtain ⟨g5, rfl⟩ := hg
  refine J.r hX tab_ok 400 (fun _ => rfl) fun b25 => ?_
  refine J.appendR hX tab_ok 1 3 0 rfl rfl rfl rfl rfl rfl rfl rfl rfl rfl (own_rd _ _ _ _ _ _) rfl rfl rfl rfl (cellsB_one _) ?_ ?_ (fun _ => rfl) fun a6 c6 => ⟨_, (congrArg (fun z => lset _ 1 (ownA _ _ _ _ _ z)) (cellsB_app _ _).symm).trans rfl, trivial, ?_⟩
  · decide
  · decide
  refine J.r hX tab_ok 400 (fun _ => rfl) fun b26 => ?_
  refine J.rt hX tab_ok [1] rfl rfl rfl ?_
  exact ⟨a6, c6, rfl, rfl⟩
/-- a sherd's numbers that it may have -/
theorem may_nat {s : Sh} (h : S.may s = true) : ∃ r l q k b w m : Nat, s = ⟨s.data, r, l, q, k, b, w, m⟩ ∧ r < 256 ∧ l < 65536 ∧ q < 1099511627776 ∧ k ≤ 2 ∧ b ≤ 15 ∧ w ≤ 7 ∧ m ≤ 255 := by
  have hb := S.may_bounds s h
  simp only [S.may, S.numbers, S.inB, Bool.and_eq_true, decide_eq_true_eq] at h
  obtain ⟨r, hr⟩ := Int.eq_ofNat_of_zero_le (show 0 ≤ s.role by omega)
  obtain ⟨l, hl⟩ := Int.eq_ofNat_of_zero_le (show 0 ≤ s.lpn by omega)
  obtain ⟨q, hq⟩ := Int.eq_ofNat_of_zero_le (show 0 ≤ s.seq by omega)
  obtain ⟨k, hk⟩ := Int.eq_ofNat_of_zero_le (show 0 ≤ s.kind by omega)
  obtain ⟨b, hbb⟩ := Int.eq_ofNat_of_zero_le (show 0 ≤ s.block by omega)
  obtain ⟨w, hw⟩ := Int.eq_ofNat_of_zero_le (show 0 ≤ s.row by omega)
  obtain ⟨m, hm⟩ := Int.eq_ofNat_of_zero_le (show 0 ≤ s.mask by omega)
  refine ⟨r, l, q, k, b, w, m, ?_, by omega, by omega, by omega, by omega, by omega, by omega, by omega⟩
  rw [← hr, ← hl, ← hq, ← hk, ← hbb, ← hw, ← hm]
set_option maxRecDepth 20000 in
theorem f9_Put (s : Sh) (hs : s.data.length = 16) : Fn Tryz.prog 30 [shV s] [] (fun v As => v = .tuple #[pgV (putP s), .bool (S.may s)] ∧ As = []) := by
  refine Fn.enter [0] Tryz.func30 rfl rfl rfl fun X F hX => ?_
  refine J.r hX tab_ok 400 (fun _ => rfl) fun bb => ?_
  refine J.r hX tab_ok 400 (fun _ => rfl) fun b27 => ?_
  refine J.ca hX (by kernel_rfl) (f9_May s hs) [] 0 rfl rfl rfl rfl rfl rfl (fun _ => rfl) ?_
  rintro v As ⟨rfl, rfl⟩
  refine ⟨_, rfl, trivial, ?_⟩
  cases hm : S.may s with
  | false =>
    have hp : putP s = zeros32 := by unfold putP; rw [hm]; rfl
    refine J.r hX tab_ok 400 (fun _ => rfl) fun b28 => ?_
    refine J.cond rfl (fun _ => ?_) (fun h => absurd h (by decide))
    refine J.r hX tab_ok 400 (fun _ => rfl) fun b29 => ?_
    refine J.rt hX tab_ok [] rfl rfl rfl ?_
    rw [hp, hm]
    exact ⟨rfl, rfl⟩
  | true =>
    have hp : putP s = S.put s := by unfold putP; rw [hm]; rfl
    have hpl := S.put_lists s hs
    obtain ⟨r, l, q, k, b, w, m, hse, h1, h2, h3, h4, h5, h6, h7⟩ := may_nat hm
    obtain ⟨dt, hdt⟩ : ∃ dt, s.data = dt := ⟨_, rfl⟩
    rw [hdt] at hs hpl hse
    subst hse
    refine J.r hX tab_ok 400 (fun _ => rfl) fun b30 => ?_
    refine J.cond rfl (fun h => absurd h (by decide)) (fun _ => ?_)
    refine J.r hX tab_ok 400 (fun _ => rfl) fun b31 => ?_
    refine J.plan (.of [0,4,12,17,20,25,28,33,10,39,43,44]) [9,10,11] [1] (by rw [hX.hP]; kernel_rfl) (by kernel_rfl) ?_
    refine J.r hX tab_ok 400 (fun _ => rfl) fun b32 => ?_
    have hRd : Rd (.pt (bb 0) 43 (shL ⟨dt, r, l, q, k, b, w, m⟩)) (some ⟨bb 0, 0 + 0 + 0 * 1, none⟩) 1 16 (dt.map bv) := by
      have := (pt_rd (bb 0) 43 (shL ⟨dt, r, l, q, k, b, w, m⟩) 1 23 rfl).take 16 (by decide)
      rw [← dataC_eq dt hs]
      exact this
    refine J.r hX tab_ok 400 (fun _ => rfl) fun b33 => ?_
    refine J.ca hX (by kernel_rfl) (f1_Of (.pt (bb 0) 43 (shL ⟨dt, r, l, q, k, b, w, m⟩)) (some ⟨bb 0, 0 + 0 + 0 * 1, none⟩) 16 16 dt hRd hs (by decide)) [1] 0 rfl rfl rfl rfl rfl rfl (fun _ => rfl) ?_
    rintro v As ⟨c1, d1, rfl, rfl⟩
    refine ⟨_, rfl, ⟨rfl, trivial⟩, ?_⟩
    refine J.r hX tab_ok 400 (fun _ => rfl) fun b34 => ?_
    refine J.r hX tab_ok 400 (fun _ => rfl) fun b35 => ?_
    refine J.ca hX (by kernel_rfl) (f9_Meta r l q h1 h2 h3) [] 0 rfl rfl rfl rfl rfl rfl (fun _ => rfl) ?_
    rintro v As ⟨c2, d2, rfl, rfl⟩
    refine ⟨_, rfl, trivial, ?_⟩
    refine J.know (fun h' s => own_some (c := (c2, d2)) (by decide) (s.get (i := 4) rfl)) fun hg => ?_
    obtain ⟨g2, rfl⟩ := hg
    refine J.appendR hX tab_ok 3 4 0 rfl rfl rfl rfl rfl rfl rfl rfl rfl rfl (own_rd _ _ _ _ _ _) rfl rfl rfl rfl (cellsB_one _) ?_ ?_ (fun _ => rfl) fun a4 c4 => ⟨_, (congrArg (fun z => lset _ 3 (ownA _ _ _ _ _ z)) (cellsB_app _ _).symm).trans rfl, trivial, ?_⟩
    · decide
    · decide
    rw [show 16 * 8 + 64 = 192 from rfl]
    obtain ⟨L0, hL0⟩ : ∃ L0, Bt.unpack dt ++ Bt.bits (S.meta_ r l q) 64 = L0 := ⟨_, rfl⟩
    have hL0l : L0.length = 192 := by rw [← hL0, List.length_append, Bt.length_unpack, Bt.length_bits, hs]
    rw [hL0]
    refine J.r hX tab_ok 400 (fun _ => rfl) fun b9 => ?_
    refine J.r hX tab_ok 400 (fun _ => rfl) fun b36 => ?_
    refine J.lo (α := (Nat × Option Nat × Nat)) (fun z => z.1 ≤ 4) (fun z => [⟨34, .int .i64 z.1, 0, .tt⟩, ⟨33, .int .i64 4, 0, .tt⟩, ⟨32, .slice (some ⟨b9 0, 0, none⟩) 4 4, 6, .tt⟩, ⟨4, slv z.2.1 (192 + 8 * z.1) z.2.2, 0, .tt⟩, ⟨2, .pointer (some ⟨bb (0 + 1), 0, none⟩), 3, .tt⟩]) [3] (fun z => [ownA 4 1 z.2.1 (192 + 8 * z.1) z.2.2 (cellsB (L0 ++ ([b, w, m, k].take z.1).flatMap fun x => Bt.bits x 8))]) (fun z => 4 - z.1) ((0, a4, c4)) (Nat.zero_le _) rfl ?_ (fun _ => rfl) fun z hI => ?_
    · simp only [List.take_zero, List.flatMap_nil, List.append_nil]; rfl
    obtain ⟨i, a5, c5⟩ := z
    dsimp only at hI ⊢
    refine J.r hX tab_ok 400 (fun _ => rfl) fun b37 => ?_
    refine J.cond rfl (fun h8 => ?_) (fun h8 => ?_)
    · simp only [decide_eq_true_eq] at h8
      have hi : i = 0 ∨ i = 1 ∨ i = 2 ∨ i = 3 := by omega
      obtain ⟨x, hx, hx8⟩ : ∃ x : Nat, [b, w, m, k][i]? = some x ∧ x < 256 := by
        rcases hi with rfl | rfl | rfl | rfl
        · exact ⟨b, rfl, by omega⟩
        · exact ⟨w, rfl, by omega⟩
        · exact ⟨m, rfl, by omega⟩
        · exact ⟨k, rfl, by omega⟩
      have hs9 : L0 ++ ([b, w, m, k].take (i + 1)).flatMap (fun x => Bt.bits x 8) = (L0 ++ ([b, w, m, k].take i).flatMap fun x => Bt.bits x 8) ++ Bt.bits x 8 := by
        rw [List.take_add_one, hx, Option.toList_some, List.flatMap_append, List.append_assoc]; simp
      refine J.r hX tab_ok 400 (fun _ => rfl) fun b38 => ?_
      refine J.val hX (.int .i64 x) 0 rfl rfl (fun hg a w he hw => load1_run tab_ok rfl rfl he rfl rfl rfl (hw.get (i := 5) rfl) (by
        rcases hi with rfl | rfl | rfl | rfl
        all_goals (simp only [List.getElem?_cons_zero, List.getElem?_cons_succ, Option.some.injEq] at hx; subst hx; rfl))) rfl trivial ?_
      refine J.r hX tab_ok 400 (fun _ => rfl) fun b39 => ?_
      refine J.r hX tab_ok 400 (fun _ => rfl) fun b40 => ?_
      refine J.ca hX (by kernel_rfl) (f1_Bits x 8 (by omega) (by decide)) [] 0 rfl rfl rfl rfl rfl rfl (fun _ => rfl) ?_
      rintro v As ⟨c6, d6, rfl, rfl⟩
      refine ⟨_, rfl, trivial, ?_⟩
      refine J.know (fun h' s => own_some (c := (c6, d6)) (by decide) (s.get (i := 6) rfl)) fun hg => ?_
      obtain ⟨g6, rfl⟩ := hg
      refine J.r hX tab_ok 400 (fun _ => rfl) fun b41 => ?_
      refine J.appendR hX tab_ok 3 6 0 rfl rfl rfl rfl rfl rfl rfl rfl rfl rfl (own_rd _ _ _ _ _ _) rfl rfl rfl rfl (cellsB_one _) ?_ ?_ (fun _ => rfl) fun a7 c7 => ⟨_, (congrArg (fun z => lset _ 3 (ownA _ _ _ _ _ z)) ((cellsB_app _ _).symm.trans (congrArg cellsB hs9.symm))).trans rfl, trivial, ?_⟩
      · simp only [maxLen]; omega
      · omega
      rw [show 192 + 8 * i + 8 = 192 + 8 * (i + 1) from by omega]
      refine J.r hX tab_ok 400 (fun _ => rfl) fun b42 => ?_
      refine J.r hX tab_ok 400 (fun _ => rfl) fun b43 => ?_
      refine J.nS ((i + 1, a7, c7)) (by dsimp only; omega) (by dsimp only; omega) [0, 1, 2, 3, 4, 5] rfl rfl
    simp only [decide_eq_false_iff_not] at h8
    obtain rfl : i = 4 := by omega
    have hL : L0 ++ ([b, w, m, k].take 4).flatMap (fun x => Bt.bits x 8) = Bt.unpack dt ++ S.head ⟨dt, r, l, q, k, b, w, m⟩ := by
      rw [← hL0]
      unfold S.head
      simp only [Int.toNat_natCast, List.append_assoc]
      rfl
    rw [hL]
    obtain ⟨L, hLe⟩ : ∃ L, Bt.unpack dt ++ S.head ⟨dt, r, l, q, k, b, w, m⟩ = L := ⟨_, rfl⟩
    have hLl : L.length = 224 := by rw [← hLe, List.length_append, Bt.length_unpack, S.length_head, hs]
    have hpk : (Bt.pack L).length = 28 := by rw [Bt.length_pack, hLl]
    rw [hLe] at hpl ⊢
    refine J.know (fun h' s => own_some (c := (a5, c5)) (by decide) (s.get (i := 3) rfl)) fun hg => ?_
    obtain ⟨g5, rfl⟩ := hg
    refine J.r hX tab_ok 400 (fun _ => rfl) fun b44 => ?_
    refine J.r hX tab_ok 400 (fun _ => rfl) fun b45 => ?_
    refine J.ca hX (by kernel_rfl) (f1_Bytes (ownA 4 1 (some g5) 224 c5 (cellsB L)) (some ⟨g5, 0, none⟩) 224 c5 L (own_rd _ _ _ _ _ _) hLl (by decide)) [3] 0 rfl rfl rfl rfl rfl rfl (fun _ => rfl) ?_
    rintro v As ⟨a8, c8, rfl, rfl⟩
    refine ⟨_, rfl, trivial, ?_⟩
    rw [hpk]
    refine J.know (fun h' s => own_some (c := (a8, c8)) (by decide) (s.get (i := 6) rfl)) fun hg => ?_
    obtain ⟨g8, rfl⟩ := hg
    have hsum := K.sum_lt (Bt.pack L)
    refine J.r hX tab_ok 400 (fun _ => rfl) fun b46 => ?_
    refine J.r hX tab_ok 400 (fun _ => rfl) fun b47 => ?_
    refine J.ca hX (by kernel_rfl) (f1_Sum (ownA 5 1 (some g8) 28 c8 ((Bt.pack L).map bv)) (some ⟨g8, 0, none⟩) 28 c8 (Bt.pack L) (own_rd _ _ _ _ _ _) hpk (by decide)) [6] 0 rfl rfl rfl rfl rfl rfl (fun _ => rfl) ?_
    rintro v As ⟨rfl, rfl⟩
    refine ⟨_, rfl, trivial, ?_⟩
    refine J.r hX tab_ok 400 (fun _ => rfl) fun b48 => ?_
    refine J.r hX tab_ok 400 (fun _ => rfl) fun b49 => ?_
    refine J.ca hX (by kernel_rfl) (f1_Bits (K.sum (Bt.pack L)) 32 (by omega) (by decide)) [] 0 rfl rfl rfl rfl rfl rfl (fun _ => rfl) ?_
    rintro v As ⟨a9, c9, rfl, rfl⟩
    refine ⟨_, rfl, trivial, ?_⟩
    refine J.know (fun h' s => own_some (c := (a9, c9)) (by decide) (s.get (i := 7) rfl)) fun hg => ?_
    obtain ⟨g9, rfl⟩ := hg
    refine J.r hX tab_ok 400 (fun _ => rfl) fun b50 => ?_
    refine J.r hX tab_ok 400 (fun _ => rfl) fun b51 => ?_
    refine J.ca hX (by kernel_rfl) (f1_Bytes (ownA 4 1 (some g9) 32 c9 (cellsB (Bt.bits (K.sum (Bt.pack L)) 32))) (some ⟨g9, 0, none⟩) 32 c9 (Bt.bits (K.sum (Bt.pack L)) 32) (own_rd _ _ _ _ _ _) (Bt.length_bits _ _) (by decide)) [7] 0 rfl rfl rfl rfl rfl rfl (fun _ => rfl) ?_
    rintro v As ⟨a10, c10, rfl, rfl⟩
    refine ⟨_, rfl, trivial, ?_⟩
    have hp4 : (Bt.pack (Bt.bits (K.sum (Bt.pack L)) 32)).length = 4 := by rw [Bt.length_pack, Bt.length_bits]
    rw [hp4]
    refine J.know (fun h' s => own_some (c := (a10, c10)) (by decide) (s.get (i := 8) rfl)) fun hg => ?_
    obtain ⟨g10, rfl⟩ := hg
    have hbv1 : ∀ (l : List UInt8), ∀ u ∈ l.map bv, u.oneCell' = true := fun l u hu => by
      obtain ⟨x, _, rfl⟩ := List.mem_map.1 hu
      rfl
    refine J.r hX tab_ok 400 (fun _ => rfl) fun b52 => ?_
    refine J.appendR hX tab_ok 6 8 0 rfl rfl rfl rfl rfl rfl rfl rfl rfl rfl (own_rd _ _ _ _ _ _) rfl rfl rfl rfl (hbv1 _) ?_ ?_ (fun _ => rfl) fun a11 c11 => ⟨_, (congrArg (fun z => lset _ 6 (ownA _ _ _ _ _ z)) (show (Bt.pack L).map bv ++ (Bt.pack (Bt.bits (K.sum (Bt.pack L)) 32)).map bv = (S.put ⟨dt, r, l, q, k, b, w, m⟩).map bv from by rw [hpl, List.map_append])).trans rfl, trivial, ?_⟩
    · decide
    · decide
    rw [show 28 + 4 = 32 from rfl]
    have hpl32 := S.length_put ⟨dt, r, l, q, k, b, w, m⟩ hs
    generalize S.put ⟨dt, r, l, q, k, b, w, m⟩ = pg at hpl32 hp
    refine J.know (fun h' s => own_some (c := (a11, c11)) (by decide) (s.get (i := 6) rfl)) fun hg => ?_
    obtain ⟨g11, rfl⟩ := hg
    refine J.r hX tab_ok 400 (fun _ => rfl) fun b12 => ?_
    refine J.copy hX tab_ok 9 6 rfl rfl rfl rfl rfl rfl rfl rfl rfl rfl (own_rd _ _ _ _ _ _) rfl rfl (pg.map bv) (List.take_of_length_le (by rw [List.length_map, hpl32]; exact Nat.le_refl _)) (by rw [List.length_map, hpl32]; decide) (hbv1 _) (pageC pg) (by rw [pageC_eq pg hpl32, List.length_map, hpl32]; simp) rfl (fun _ => rfl) ⟨trivial, ?_⟩
    refine J.r hX tab_ok 400 (fun _ => rfl) fun b53 => ?_
    refine J.rt hX tab_ok [] rfl rfl rfl ?_
    rw [hp, hm]
    exact ⟨rfl, rfl⟩
end Go.Proofs.YtmohcbniepdncaaGreat
namespace Go.Proofs.YtmohcbniepdncaaGreat
open Go Go.RowKit
set_option maxRecDepth 20000 in
theorem s_MediaForeign (s : Sh) (hs : s.data.length = 16) (di bl pa : Int) (A : Atom) : Fn Tryz.prog 6 [shV s, .int .i64 di, .int .i64 bl, .int .i64 pa] [A] (fun v As => v = .bool true ∧ As = [A]) := by
  refine Fn.enter [0, 0, 0, 0] Tryz.func6 rfl rfl rfl fun X F hX => ?_
  refine J.r hX tab_ok 400 (fun _ => rfl) fun bb => ?_
  refine J.r hX tab_ok 400 (fun _ => rfl) fun b1 => ?_
  refine J.ca hX (by kernel_rfl) (l11_begun) [] 0 rfl rfl rfl rfl rfl rfl (fun _ => rfl) ?_
  rintro v As ⟨rfl, rfl⟩
  refine ⟨_, rfl, trivial, ?_⟩
  refine J.r hX tab_ok 400 (fun _ => rfl) fun b2 => ?_
  refine J.cond rfl (fun h => absurd h (by decide)) (fun _ => ?_)
  have hd1 := tm_bd di 4 (by decide)
  have hd2 := tm_2 di 4 (by decide)
  have hb1 := tm_bd bl 9 (by decide)
  have hb2 := tm_2 bl 9 (by decide)
  have hp1 := tm_bd pa 3 (by decide)
  have hp2 := tm_2 pa 3 (by decide)
  obtain ⟨x, hx⟩ := Int.eq_ofNat_of_zero_le hd2.1
  obtain ⟨y, hy⟩ := Int.eq_ofNat_of_zero_le hb2.1
  obtain ⟨z, hz⟩ := Int.eq_ofNat_of_zero_le hp2.1
  refine J.r hX tab_ok 400 (fun _ => rfl) fun bq => ?_
  rw [hx, hy, hz]
  rw [hx] at hd2
  rw [hy] at hb2
  rw [hz] at hp2
  refine J.r hX tab_ok 400 (fun _ => rfl) fun b3 => ?_
  refine J.ca hX (by kernel_rfl) (f9_Put s hs) [] 0 rfl rfl rfl rfl rfl rfl (fun _ => rfl) ?_
  rintro v As ⟨rfl, rfl⟩
  refine ⟨_, rfl, trivial, ?_⟩
  refine J.r hX tab_ok 400 (fun _ => rfl) fun bp => ?_
  refine J.r hX tab_ok 400 (fun _ => rfl) fun b4 => ?_
  refine J.cond rfl (fun h1 => ?_) (fun h1 => ?_)
  · refine J.r hX tab_ok 400 (fun _ => rfl) fun b5 => ?_
    refine J.rt hX tab_ok [1] rfl rfl rfl ?_
    exact ⟨rfl, rfl⟩
  have hm : S.may s = true := by simpa using h1
  obtain ⟨law1, w, h, law2, hwl, law3⟩ := foreign_law (x := x) (y := y) (z := z) (by omega) (by omega) (by omega) hs hm
  have hgm : geoMay 4 9 3 = true := by decide
  refine J.r hX tab_ok 400 (fun _ => rfl) fun b6 => ?_
  refine J.r hX tab_ok 400 (fun _ => rfl) fun b7 => ?_
  refine J.ca hX (by kernel_rfl) (n_New 4 9 3 hgm) [] 0 rfl rfl rfl rfl rfl rfl (fun _ => rfl) ?_
  rintro v As ⟨q, rfl, rfl⟩
  refine ⟨_, rfl, trivial, ?_⟩
  have hpl := putP_len s hs
  have G0 : ∀ k, k ≤ 3 → (fpN (Nand.new 4 9 3) x y (putP s) k).Gd 10 0 := fun k hk => fpN_Gd x y (putP s) hpl 0 k 10 ((Nand.Gd.new 4 9 3 hgm 1000 (by decide)).less (by omega) (Nat.le_refl _))
  refine J.r hX tab_ok 400 (fun _ => rfl) fun b8 => ?_
  refine J.r hX tab_ok 400 (fun _ => rfl) fun b9 => ?_
  refine J.lo (α := Nat) (fun i => i ≤ z + 1) (fun i => [⟨15, .int .i64 i, 0, .tt⟩, ⟨14, .pointer (some ⟨q, 0, none⟩), 0, .tt⟩, ⟨11, .pointer (some ⟨bq (0 + 1), 0, none⟩), 5, .tt⟩, ⟨12, .pointer (some ⟨bp 0, 0, none⟩), 6, .tt⟩, ⟨4, .pointer (some ⟨bb 0, 0, none⟩), 3, .tt⟩]) [6] (fun i => [NandA q (fpN (Nand.new 4 9 3) x y (putP s) i)]) (fun i => z + 1 - i) (0) (Nat.zero_le _) rfl ?_ (fun _ => rfl) fun i hI => ?_
  · rfl
  refine J.r hX tab_ok 400 (fun _ => rfl) fun b10 => ?_
  refine J.cond rfl (fun h2 => ?_) (fun h2 => ?_)
  · simp only [decide_eq_true_eq] at h2
    have h2 : i ≤ z := by omega
    have Gi := G0 i (by omega)
    refine J.r hX tab_ok 400 (fun _ => rfl) fun b11 => ?_
    refine J.r hX tab_ok 400 (fun _ => rfl) fun b12 => ?_
    refine J.ca hX (by kernel_rfl) (n_Program q (fpN (Nand.new 4 9 3) x y (putP s) i) Gi.ok Gi.room x y i (putP s) hpl) [6] 0 rfl rfl rfl rfl rfl rfl (fun _ => rfl) ?_
    rintro v As ⟨rfl, rfl⟩
    refine ⟨_, rfl, trivial, ?_⟩
    rw [law1 i h2, ← fpN_succ]
    refine J.r hX tab_ok 400 (fun _ => rfl) fun b13 => ?_
    refine J.cond rfl (fun h => absurd h (by decide)) (fun _ => ?_)
    refine J.r hX tab_ok 400 (fun _ => rfl) fun b14 => ?_
    refine J.r hX tab_ok 400 (fun _ => rfl) fun b15 => ?_
    refine J.nS (i + 1) (by omega) (by omega) [0, 1, 2, 3, 4, 5, 6] rfl rfl
  simp only [decide_eq_false_iff_not] at h2
  obtain rfl : i = z + 1 := by omega
  have Gi := G0 (z + 1) (by omega)
  refine J.r hX tab_ok 400 (fun _ => rfl) fun b16 => ?_
  refine J.r hX tab_ok 400 (fun _ => rfl) fun b17 => ?_
  refine J.ca hX (by kernel_rfl) (m_Look q (fpN (Nand.new 4 9 3) x y (putP s) (z + 1)) Gi.ok Gi.room x y z) [6] 0 rfl rfl rfl rfl rfl rfl (fun _ => rfl) ?_
  rintro v As ⟨rfl, rfl⟩
  refine ⟨_, rfl, trivial, ?_⟩
  refine J.r hX tab_ok 400 (fun _ => rfl) fun b18 => ?_
  refine J.r hX tab_ok 400 (fun _ => rfl) fun b19 => ?_
  refine J.ca hX (by kernel_rfl) (f9_Look q (fpN (Nand.new 4 9 3) x y (putP s) (z + 1)) Gi.ok Gi.room x y z) [6] 0 rfl rfl rfl rfl rfl rfl (fun _ => rfl) ?_
  rintro v As ⟨rfl, rfl⟩
  refine ⟨_, rfl, trivial, ?_⟩
  rw [law2]
  refine J.r hX tab_ok 400 (fun _ => rfl) fun b20 => ?_
  refine J.val hX (.bool true) 0 rfl rfl (fun hg a w' he hw => (eqAgg_run (xs := shL w) (ys := shL w) rfl rfl rfl he rfl rfl leavesSh (fitsSh _) (fitsSh _) mkSh gdSh).trans (by rw [eqSh _ _ hwl hwl, decide_eq_true rfl])) rfl trivial ?_
  rcases law3 with rfl | ⟨rfl, e1, e2⟩
  · refine J.r hX tab_ok 400 (fun _ => rfl) fun b21 => ?_
    refine J.rt hX tab_ok [1] rfl rfl rfl ?_
    exact ⟨rfl, rfl⟩
  · obtain ⟨sd, sr, sl, sq, sk, sb, sw, sm⟩ := s
    dsimp only at e1 e2
    subst e1 e2
    refine J.r hX tab_ok 400 (fun _ => rfl) fun b22 => ?_
    refine J.rt hX tab_ok [1] rfl rfl rfl ?_
    exact ⟨congrArg Value.bool (by simp), rfl⟩
end Go.Proofs.YtmohcbniepdncaaGreat
namespace Go.Proofs.YtmohcbniepdncaaGreat
open Go Go.RowKit
open Go.ChangeShapes Go.WideShapes Go.ChangeAt
section
variable {H : Type} {enc : TypeId × Value → H} {w : World} {base : Nat} {spare : Nat → Bool} {held : Bool}
set_option maxRecDepth 100000 in
theorem sh_of {fuel : Nat} {cs : List Value} {y : DataW H × List MemPlace} (h : DataW.trod enc Tryz.prog w base spare held fuel 43 cs = some y) : ∃ s : Sh, s.data.length = 16 ∧ cs = shL s := by
  obtain ⟨xs, n, _, _, hl, hlen, hf⟩ := DataW.trod_struct Tryz.underlying43 h
  have hlen2 : cs.length = 23 := hl.trans (by kernel_rfl)
  have hx : xs.length = 8 := hlen
  have c1 : Tryz.prog.cellsOf 3 = 1 := by kernel_rfl
  have c2 : Tryz.prog.cellsOf 2 = 1 := by kernel_rfl
  have c3 : Tryz.prog.cellsOf 41 = 16 := by kernel_rfl
  match xs, hx with
  | [y0, y1, y2, y3, y4, y5, y6, y7], _ =>
    have h0 : DataW.trod enc Tryz.prog w base spare held n 41 ((cs.drop 0).take (Tryz.prog.cellsOf 41)) = some y0 := hf 0 _ rfl
    have h1 : DataW.trod enc Tryz.prog w base spare held n 3 ((cs.drop 16).take (Tryz.prog.cellsOf 3)) = some y1 := hf 1 _ rfl
    have h2 : DataW.trod enc Tryz.prog w base spare held n 3 ((cs.drop 17).take (Tryz.prog.cellsOf 3)) = some y2 := hf 2 _ rfl
    have h3 : DataW.trod enc Tryz.prog w base spare held n 2 ((cs.drop 18).take (Tryz.prog.cellsOf 2)) = some y3 := hf 3 _ rfl
    have h4 : DataW.trod enc Tryz.prog w base spare held n 3 ((cs.drop 19).take (Tryz.prog.cellsOf 3)) = some y4 := hf 4 _ rfl
    have h5 : DataW.trod enc Tryz.prog w base spare held n 3 ((cs.drop 20).take (Tryz.prog.cellsOf 3)) = some y5 := hf 5 _ rfl
    have h6 : DataW.trod enc Tryz.prog w base spare held n 3 ((cs.drop 21).take (Tryz.prog.cellsOf 3)) = some y6 := hf 6 _ rfl
    have h7 : DataW.trod enc Tryz.prog w base spare held n 3 ((cs.drop 22).take (Tryz.prog.cellsOf 3)) = some y7 := hf 7 _ rfl
    rw [c1] at h1 h2 h4 h5 h6 h7
    rw [c2] at h3
    rw [c3] at h0
    obtain ⟨d, hd, q0⟩ := data_of h0
    obtain ⟨n1, q1⟩ := one_i64 Tryz.underlying3 h1
    obtain ⟨n2, q2⟩ := one_i64 Tryz.underlying3 h2
    obtain ⟨n3, q3⟩ := one_i64 Tryz.underlying2 h3
    obtain ⟨n4, q4⟩ := one_i64 Tryz.underlying3 h4
    obtain ⟨n5, q5⟩ := one_i64 Tryz.underlying3 h5
    obtain ⟨n6, q6⟩ := one_i64 Tryz.underlying3 h6
    obtain ⟨n7, q7⟩ := one_i64 Tryz.underlying3 h7
    refine ⟨⟨d, n1, n2, n3, n4, n5, n6, n7⟩, hd, ?_⟩
    match cs, hlen2 with
    | [_, _, _, _, _, _, _, _, _, _, _, _, _, _, _, _, _, _, _, _, _, _, _], _ =>
      simp at q1 q2 q3 q4 q5 q6 q7
      simp only [List.drop_zero, List.take_succ_cons, List.take_zero, dataC] at q0
      subst q1 q2 q3 q4 q5 q6 q7
      simp only [shL, List.cons.injEq] at q0 ⊢
      obtain ⟨e0, e1, e2, e3, e4, e5, e6, e7, e8, e9, e10, e11, e12, e13, e14, e15, _⟩ := q0
      exact ⟨e0, e1, e2, e3, e4, e5, e6, e7, e8, e9, e10, e11, e12, e13, e14, e15, trivial⟩
end
end Go.Proofs.YtmohcbniepdncaaGreat
