/- Helpers of the proofs about ostrakonlaw11, proved here: RfK, Lt. No condition. -/
import Derived.Test.YtmohcbniepdncaaGreatM16
import Derived.Test.YtmohcbniepdncaaGreatM22
import Derived.Test.YtmohcbniepdncaaGreatM25
import Derived.Test.YtmohcbniepdncaaGreatM26
set_option linter.unusedVariables false
set_option linter.unusedSimpArgs false
set_option linter.unusedSectionVars false
set_option linter.unnecessarySimpa false
namespace Go.Proofs.YtmohcbniepdncaaGreat
open Go Go.RowKit
theorem look_slot (N : Nand) (b r m : Int) {i : Nat} (h : i < (G.slots m).toNat) : (R.look N b r m).slots[i]? = some (R.one N b r m (G.die m b r i)).1 ∧ (R.look N b r m).good.getD i false = (R.one N b r m (G.die m b r i)).2 := by
  unfold R.look R.ones
  simp [List.getD_eq_getElem?_getD, h]
set_option maxRecDepth 20000 in
theorem f9_mended (p : Nat) (N : Nand) (hN : N.Ok) (hR : N.Room) (b r m : Int) (k : Nat) (hk : k < 1000000) : Fn Tryz.prog 77 [.pointer (some ⟨p, 0, none⟩), .int .i64 b, .int .i64 r, .int .i64 m, .int .i64 k] [NandA p N]
    (fun v As => v = .tuple #[enV (R.mend (R.look N b r m) k), .bool (R.mendB (R.look N b r m) k)] ∧ As = [NandA p N]) := by
  have hG := gslots_bd m
  obtain ⟨hsl, hgl⟩ := look_len N b r m
  obtain ⟨hsd, hpd⟩ := look_data hN b r m
  have hslot := fun i (h : i < (G.slots m).toNat) => look_slot N b r m h
  have hwh : (R.one N b r m (G.parity m b r)) = ((R.look N b r m).parity, (R.look N b r m).whole) := rfl
  obtain ⟨f, hf⟩ : ∃ f, R.look N b r m = f := ⟨_, rfl⟩
  rw [hf] at hsl hgl hsd hpd hslot hwh ⊢
  obtain ⟨n, hn⟩ := Int.eq_ofNat_of_zero_le hG.1
  have hnt : (G.slots m).toNat = n := by omega
  rw [hnt] at hsl hgl hslot
  refine Fn.enter [2, 0, 0, 0, 0] Tryz.func77 rfl rfl rfl fun X F hX => ?_
  refine J.turn1 [] rfl (As := [ownA 43 23 none 0 0 (cellsS (othN f.slots k 0))]) (fun h s => Sep.one ⟨rfl, rfl, rfl⟩) rfl ?_
  refine J.r hX tab_ok 400 (fun _ => rfl) fun bb => ?_
  refine J.r hX tab_ok 400 (fun _ => rfl) fun b1 => ?_
  refine J.ca hX (by kernel_rfl) (f6_Parity m b r) [] 0 rfl rfl rfl rfl rfl rfl (fun _ => rfl) ?_
  rintro v As ⟨rfl, rfl⟩
  refine ⟨_, rfl, trivial, ?_⟩
  refine J.r hX tab_ok 400 (fun _ => rfl) fun b2 => ?_
  refine J.r hX tab_ok 400 (fun _ => rfl) fun b3 => ?_
  refine J.ca hX (by kernel_rfl) (f9_one p N hN hR b r m (G.parity m b r)) [1] 0 rfl rfl rfl rfl rfl rfl (fun _ => rfl) ?_
  rintro v As ⟨rfl, rfl⟩
  refine ⟨_, rfl, trivial, ?_⟩
  rw [hwh]
  refine J.r hX tab_ok 400 (fun _ => rfl) fun b12 => ?_
  refine J.r hX tab_ok 400 (fun _ => rfl) fun b4 => ?_
  refine J.lo (α := (Nat × Bool × Option Nat × Nat)) (fun z => z.1 ≤ n ∧ z.2.1 = (f.whole && (List.range z.1).all fun i => i == k || f.good.getD i false)) (fun z => [⟨15, .int .i64 z.1, 0, .tt⟩, ⟨14, slv z.2.2.1 (othN f.slots k z.1).length z.2.2.2, 0, .tt⟩, ⟨13, .bool z.2.1, 0, .tt⟩, ⟨12, .pointer (some ⟨b12 0, 0, none⟩), 5, .tt⟩, ⟨10, .pointer (some ⟨bb 0, 0, none⟩), 4, .tt⟩, ⟨11, .bool false, 0, .tt⟩, ⟨0, .pointer (some ⟨p, 0, none⟩), 2, .tt⟩, ⟨1, .int .i64 b, 0, .tt⟩, ⟨2, .int .i64 r, 0, .tt⟩, ⟨3, .int .i64 m, 0, .tt⟩, ⟨4, .int .i64 k, 0, .tt⟩]) [2] (fun z => [ownA 43 23 z.2.2.1 (othN f.slots k z.1).length z.2.2.2 (cellsS (othN f.slots k z.1))]) (fun z => n - z.1) ((0, f.whole, none, 0)) (⟨Nat.zero_le _, by simp⟩) rfl ?_ (fun _ => rfl) fun z hI => ?_
  · rfl
  obtain ⟨i, ob, a, c⟩ := z
  dsimp only at hI ⊢
  obtain ⟨hi, hob⟩ := hI
  have hol := othN_len f.slots k i
  refine J.r hX tab_ok 400 (fun _ => rfl) fun b5 => ?_
  refine J.r hX tab_ok 400 (fun _ => rfl) fun b6 => ?_
  refine J.ca hX (by kernel_rfl) (f6_SlotsG m) [] 0 rfl rfl rfl rfl rfl rfl (fun _ => rfl) ?_
  rintro v As ⟨rfl, rfl⟩
  refine ⟨_, rfl, trivial, ?_⟩
  rw [hn]
  refine J.r hX tab_ok 400 (fun _ => rfl) fun b7 => ?_
  refine J.cond rfl (fun h1 => ?_) (fun h1 => ?_)
  · simp only [decide_eq_true_eq, Int.ofNat_lt] at h1
    obtain ⟨q1, q2⟩ := hslot i h1
    refine J.r hX tab_ok 400 (fun _ => rfl) fun b8 => ?_
    refine J.r hX tab_ok 400 (fun _ => rfl) fun b9 => ?_
    refine J.ca hX (by kernel_rfl) (f6_Die m b r i) [] 0 rfl rfl rfl rfl rfl rfl (fun _ => rfl) ?_
    rintro v As ⟨rfl, rfl⟩
    refine ⟨_, rfl, trivial, ?_⟩
    refine J.r hX tab_ok 400 (fun _ => rfl) fun b10 => ?_
    refine J.r hX tab_ok 400 (fun _ => rfl) fun b11 => ?_
    refine J.ca hX (by kernel_rfl) (f9_one p N hN hR b r m (G.die m b r i)) [1] 0 rfl rfl rfl rfl rfl rfl (fun _ => rfl) ?_
    rintro v As ⟨rfl, rfl⟩
    refine ⟨_, rfl, trivial, ?_⟩
    generalize R.one N b r m (G.die m b r i) = x at q1 q2
    obtain ⟨s, g⟩ := x
    refine J.r hX tab_ok 400 (fun _ => rfl) fun b12 => ?_
    refine J.cond rfl (fun h2 => ?_) (fun h2 => ?_)
    · simp only [bne_iff_ne, ne_eq, Int.natCast_inj] at h2
      have hsn := othN_ne f.slots k i s q1 h2
      have hob2 : (ob && g) = (f.whole && (List.range (i + 1)).all fun i => i == k || f.good.getD i false) := by
        rw [List.range_succ, List.all_append, ← Bool.and_assoc, ← hob]
        congr 1
        rw [List.all_cons, List.all_nil, Bool.and_true, beq_eq_false_iff_ne.2 h2, Bool.false_or, q2]
      refine J.r hX tab_ok 400 (fun _ => rfl) fun b13 => ?_
      refine J.append hX tab_ok 2 6 0 rfl rfl rfl rfl rfl rfl rfl rfl rfl rfl rfl rfl rfl rfl rfl rfl ?_ ?_ (fun _ => rfl) fun a4 c4 => ⟨_, (congrArg (fun z => lset _ 2 (ownA _ _ _ _ _ z)) ((cellsS_snoc _ _).symm.trans (congrArg cellsS hsn.symm))).trans rfl, trivial, ?_⟩
      · simp only [maxLen]; omega
      · omega
      rw [show (othN f.slots k i).length + 1 = (othN f.slots k (i + 1)).length from by rw [hsn]; simp]
      refine J.r hX tab_ok 400 (fun _ => rfl) fun b14 => ?_
      refine J.r hX tab_ok 400 (fun _ => rfl) fun b15 => ?_
      refine J.nS ((i + 1, ob && g, a4, c4)) (⟨by dsimp only; omega, hob2⟩) (by dsimp only; omega) [0, 1, 2, 3, 4] rfl rfl
    · simp only [bne_eq_false_iff_eq, Int.natCast_inj] at h2
      have hsn : othN f.slots k (i + 1) = othN f.slots k i := by rw [← h2]; exact othN_eq f.slots i (by omega)
      have hob2 : ob = (f.whole && (List.range (i + 1)).all fun i => i == k || f.good.getD i false) := by
        rw [List.range_succ, List.all_append, ← Bool.and_assoc, ← hob, List.all_cons, List.all_nil, Bool.and_true, h2]
        simp
      rw [← hsn]
      refine J.r hX tab_ok 400 (fun _ => rfl) fun b16 => ?_
      refine J.r hX tab_ok 400 (fun _ => rfl) fun b17 => ?_
      refine J.nS ((i + 1, ob, a, c)) (⟨by dsimp only; omega, hob2⟩) (by dsimp only; omega) [0, 1, 2, 3, 4] rfl rfl
  simp only [decide_eq_false_iff_not, Int.ofNat_lt] at h1
  obtain rfl : i = n := by omega
  have hoe : othN f.slots k i = f.slots.eraseIdx k := by unfold othN; rw [List.take_of_length_le (by omega)]
  have hrest : ob = (R.rest f k && f.whole) := by rw [hob, Bool.and_comm]; unfold R.rest; rw [hsl]
  rw [hoe]
  refine J.r hX tab_ok 400 (fun _ => rfl) fun b18 => ?_
  refine J.cond rfl (fun h3 => ?_) (fun h3 => ?_)
  · have h3 : ob = false := by simpa using h3
    rw [h3] at hrest
    have m1 : R.mendB f k = false := by unfold R.mendB; rw [← hrest]; rfl
    have m2 : R.mend f k = En.zero := by unfold R.mend; rw [← hrest]; rfl
    refine J.r hX tab_ok 400 (fun _ => rfl) fun b19 => ?_
    refine J.rt hX tab_ok [1] rfl rfl rfl ?_
    rw [m1, m2]
    exact ⟨rfl, rfl⟩
  · have h3 : ob = true := by simpa using h3
    rw [h3] at hrest
    have m1 : R.mendB f k = W.backB f.parity (f.slots.eraseIdx k) := by unfold R.mendB; rw [← hrest]; rfl
    have m2 : R.mend f k = W.back f.parity (f.slots.eraseIdx k) := by unfold R.mend; rw [← hrest]; rfl
    refine J.r hX tab_ok 400 (fun _ => rfl) fun b20 => ?_
    refine J.r hX tab_ok 400 (fun _ => rfl) fun b21 => ?_
    refine J.ca hX (by kernel_rfl) (f9_Back f.parity hpd a (f.slots.eraseIdx k).length c (f.slots.eraseIdx k) rfl (fun s hs => hsd s (List.mem_of_mem_eraseIdx hs))) [2] 0 rfl rfl rfl rfl rfl rfl (fun _ => rfl) ?_
    rintro v As ⟨rfl, rfl⟩
    refine ⟨_, rfl, trivial, ?_⟩
    rw [← m1, ← m2]
    refine J.r hX tab_ok 400 (fun _ => rfl) fun b22 => ?_
    refine J.rt hX tab_ok [1] rfl rfl rfl ?_
    exact ⟨rfl, rfl⟩
set_option maxRecDepth 20000 in
theorem f9_Read (p : Nat) (N : Nand) (hN : N.Ok) (hR : N.Room) (hoff : N.off = false) (b r s m : Int) : Fn Tryz.prog 32 [.pointer (some ⟨p, 0, none⟩), .agg #[.int .i64 b, .int .i64 r, .int .i64 s], .int .i64 m] [NandA p N]
    (fun v As => v = .tuple #[enV (R.read N b r s m).1, .int .i64 (R.read N b r s m).2] ∧ As = [NandA p N]) := by
  refine Fn.enter [2, 0, 0] Tryz.func32 rfl rfl rfl fun X F hX => ?_
  refine J.r hX tab_ok 400 (fun _ => rfl) fun bb => ?_
  refine J.r hX tab_ok 400 (fun _ => rfl) fun b23 => ?_
  refine J.ca hX (by kernel_rfl) (f6_Die m b r s) [] 0 rfl rfl rfl rfl rfl rfl (fun _ => rfl) ?_
  rintro v As ⟨rfl, rfl⟩
  refine ⟨_, rfl, trivial, ?_⟩
  refine J.r hX tab_ok 400 (fun _ => rfl) fun b24 => ?_
  refine J.plan (.of [0,4,8,12,20,25,28,33,36,18,42,44,48]) [] [2] (by rw [hX.hP]; kernel_rfl) (by kernel_rfl) ?_
  refine J.r hX tab_ok 400 (fun _ => rfl) fun b25 => ?_
  refine J.gcase hX rfl rfl rfl ⟨rfl, trivial⟩ (fun hb => ?_) (fun hb => ?_)
  · have hb2 : decide (G.die m b r s < 0) = false := by rwa [Bool.not_eq_true'] at hb
    rw [hb2]
    refine J.r hX tab_ok 400 (fun _ => rfl) fun b26 => ?_
    refine J.ca hX (by kernel_rfl) (n_Geo p N) [1] 0 rfl rfl rfl rfl rfl rfl (fun _ => rfl) ?_
    rintro v As ⟨rfl, rfl⟩
    refine ⟨_, rfl, ⟨rfl, trivial⟩, ?_⟩
    refine J.r hX tab_ok 400 (fun _ => rfl) fun b27 => ?_
    refine J.r hX tab_ok 400 (fun _ => rfl) fun b28 => ?_
    refine J.ca hX (by kernel_rfl) (f6_In N.dies N.blocks N.pages 0 b r) [] 0 rfl rfl rfl rfl rfl rfl (fun _ => rfl) ?_
    rintro v As ⟨rfl, rfl⟩
    refine ⟨_, rfl, ⟨rfl, trivial⟩, ?_⟩
    refine J.r hX tab_ok 400 (fun _ => rfl) fun b29 => ?_
    refine J.cond rfl (fun h2 => ?_) (fun h2 => ?_)
    · refine J.r hX tab_ok 400 (fun _ => rfl) fun b30 => ?_
      refine J.rt hX tab_ok [1] rfl rfl rfl ?_
      have : G.die m b r s < 0 ∨ geoIn N.dies N.blocks N.pages 0 b r = false := .inr (by simpa using h2)
      rw [R.read, if_pos this]
      exact ⟨rfl, rfl⟩
    have hd0 : ¬ G.die m b r s < 0 := of_decide_eq_false hb2
    have hc : ¬(G.die m b r s < 0 ∨ geoIn N.dies N.blocks N.pages 0 b r = false) := by
      rintro (h | h)
      · exact hd0 h
      · rw [h] at h2; simp at h2
    have hd := die_lt (m := m) (b := b) (r := r) (s := s) (by omega)
    have hsb := gslots_bd m
    obtain ⟨k, rfl⟩ := Int.eq_ofNat_of_zero_le hd.1
    have hk : k < (G.slots m).toNat := by omega
    obtain ⟨q1, q2⟩ := look_slot N b r m hk
    have hsl : (R.look N b r m).slots.getD k Sh.zero = (R.one N b r m (G.die m b r k)).1 := by rw [List.getD_eq_getElem?_getD, q1]; rfl
    have hrd : R.read N b r k m = if (R.one N b r m (G.die m b r k)).2 then ((R.one N b r m (G.die m b r k)).1.en, 0) else if R.mendB (R.look N b r m) k then (R.mend (R.look N b r m) k, 0) else (En.zero, 10) := by
      unfold R.read
      rw [if_neg hc, hoff, if_neg (by decide), Int.toNat_natCast, q2, hsl]
    refine J.r hX tab_ok 400 (fun _ => rfl) fun b31 => ?_
    refine J.r hX tab_ok 400 (fun _ => rfl) fun b32 => ?_
    refine J.ca hX (by kernel_rfl) (f9_one p N hN hR b r m (G.die m b r k)) [1] 0 rfl rfl rfl rfl rfl rfl (fun _ => rfl) ?_
    rintro v As ⟨rfl, rfl⟩
    refine ⟨_, rfl, trivial, ?_⟩
    generalize R.one N b r m (G.die m b r k) = x at hrd
    obtain ⟨sx, gx⟩ := x
    refine J.r hX tab_ok 400 (fun _ => rfl) fun b33 => ?_
    refine J.cond rfl (fun h3 => ?_) (fun h3 => ?_)
    · have h3 : gx = true := h3
      refine J.r hX tab_ok 400 (fun _ => rfl) fun b34 => ?_
      refine J.r hX tab_ok 400 (fun _ => rfl) fun b35 => ?_
      refine J.ca hX (by kernel_rfl) (f9_entry sx) [] 0 rfl rfl rfl rfl rfl rfl (fun _ => rfl) ?_
      rintro v As ⟨rfl, rfl⟩
      refine ⟨_, rfl, trivial, ?_⟩
      refine J.r hX tab_ok 400 (fun _ => rfl) fun b36 => ?_
      refine J.rt hX tab_ok [1] rfl rfl rfl ?_
      rw [hrd, h3]
      exact ⟨rfl, rfl⟩
    have h3 : gx = false := h3
    subst h3
    rw [if_neg (by simp)] at hrd
    refine J.r hX tab_ok 400 (fun _ => rfl) fun b37 => ?_
    refine J.r hX tab_ok 400 (fun _ => rfl) fun b38 => ?_
    refine J.ca hX (by kernel_rfl) (f9_mended p N hN hR b r m k (by omega)) [1] 0 rfl rfl rfl rfl rfl rfl (fun _ => rfl) ?_
    rintro v As ⟨rfl, rfl⟩
    refine ⟨_, rfl, trivial, ?_⟩
    generalize R.mendB (R.look N b r m) k = mb at hrd
    generalize R.mend (R.look N b r m) k = me at hrd
    refine J.r hX tab_ok 400 (fun _ => rfl) fun b39 => ?_
    refine J.cond rfl (fun h4 => ?_) (fun h4 => ?_)
    · have h4 : mb = false := by simpa using h4
      subst h4
      refine J.r hX tab_ok 400 (fun _ => rfl) fun b40 => ?_
      refine J.rt hX tab_ok [1] rfl rfl rfl ?_
      rw [hrd]
      exact ⟨rfl, rfl⟩
    · have h4 : mb = true := by simpa using h4
      subst h4
      refine J.r hX tab_ok 400 (fun _ => rfl) fun b41 => ?_
      refine J.rt hX tab_ok [1] rfl rfl rfl ?_
      rw [hrd]
      exact ⟨rfl, rfl⟩
  · have hb2 : decide (G.die m b r s < 0) = true := by rwa [Bool.not_eq_false'] at hb
    rw [hb2]
    refine J.r hX tab_ok 400 (fun _ => rfl) fun b42 => ?_
    refine J.gcase hX rfl rfl rfl ⟨rfl, trivial⟩ (fun hb => by simp at hb) (fun hb => ?_)
    refine J.r hX tab_ok 400 (fun _ => rfl) fun b43 => ?_
    refine J.valT hX (.bool false) 0 rfl rfl (fun hg a w he hw => by simp [G.on] at hg) rfl ?_
    refine J.r hX tab_ok 400 (fun _ => rfl) fun b44 => ?_
    refine J.cond rfl (fun h2 => ?_) (fun h2 => ?_)
    · refine J.r hX tab_ok 400 (fun _ => rfl) fun b45 => ?_
      refine J.rt hX tab_ok [1] rfl rfl rfl ?_
      have : G.die m b r s < 0 ∨ geoIn N.dies N.blocks N.pages 0 b r = false := .inl (of_decide_eq_true hb2)
      rw [R.read, if_pos this]
      exact ⟨rfl, rfl⟩
    · simp at h2
end Go.Proofs.YtmohcbniepdncaaGreat
namespace Go.Proofs.YtmohcbniepdncaaGreat
open Go Go.RowKit
set_option maxRecDepth 20000 in
theorem s_RowTwo (g0 g1 g2 bl mk da db : Int) (A : Atom) (al : Option Addr) (nl cl : Nat) (l : List En) (hAl : Rd A al 19 nl (cellsE l)) (hll : l.length = nl) (hcl : nl ≤ cl) (hdl : ∀ s ∈ l, s.data.length = 16) :
    Fn Tryz.prog 7 [.agg #[.int .i64 g0, .int .i64 g1, .int .i64 g2], .int .i64 bl, .int .i64 mk, .slice al nl cl, .int .i64 da, .int .i64 db] [A] (fun v As => v = .bool true ∧ As = [A]) := by
  refine Fn.enter [0, 0, 0, 0, 0, 0] Tryz.func7 rfl rfl rfl fun X F hX => ?_
  refine J.r hX tab_ok 400 (fun _ => rfl) fun bb => ?_
  refine J.r hX tab_ok 400 (fun _ => rfl) fun b1 => ?_
  refine J.ca hX (by kernel_rfl) (l11_begun) [] 0 rfl rfl rfl rfl rfl rfl (fun _ => rfl) ?_
  rintro v As ⟨rfl, rfl⟩
  refine ⟨_, rfl, trivial, ?_⟩
  refine J.r hX tab_ok 400 (fun _ => rfl) fun b2 => ?_
  refine J.cond rfl (fun h => absurd h (by decide)) (fun _ => ?_)
  refine J.r hX tab_ok 400 (fun _ => rfl) fun b3 => ?_
  refine J.r hX tab_ok 400 (fun _ => rfl) fun b4 => ?_
  refine J.ca hX (by kernel_rfl) (l6_Geo g0 g1 g2) [] 0 rfl rfl rfl rfl rfl rfl (fun _ => rfl) ?_
  rintro v As ⟨D, B, P, rfl, hD, hB, hP, rfl⟩
  refine ⟨_, rfl, trivial, ?_⟩
  have hgm : geoMay D B P = true := by simp [geoMay]; omega
  refine J.r hX tab_ok 400 (fun _ => rfl) fun b5 => ?_
  refine J.r hX tab_ok 400 (fun _ => rfl) fun b6 => ?_
  refine J.ca hX (by kernel_rfl) (n_New D B P hgm) [] 0 rfl rfl rfl rfl rfl rfl (fun _ => rfl) ?_
  rintro v As ⟨q, rfl, rfl⟩
  refine ⟨_, rfl, trivial, ?_⟩
  have hb1 := tm_bd bl B (by omega)
  have hb2 := tm_2 bl B (by omega)
  have hpw := pow_bd D hD.2
  refine J.r hX tab_ok 400 (fun _ => rfl) fun b7 => ?_
  refine J.plan (.of [0,4,9,12,16,21,24,28,33,36,40]) [9,10] [2] (by rw [hX.hP]; kernel_rfl) (by kernel_rfl) ?_
  refine J.r hX tab_ok 22 (fun _ => rfl) fun b8 => ?_
  obtain ⟨b, hbe⟩ := Int.eq_ofNat_of_zero_le hb2.1
  rw [hbe] at hb2
  have hbB : b < B := by omega
  have hone : 1 ≤ 2 ^ D := Nat.one_le_two_pow
  have eall : (1 * 2 ^ min (D : Int).toNat IntKind.i64.bits - 1 : Int) = mAll D := by rw [hpw.1]; unfold mAll; omega
  obtain ⟨mm, hM1, hM2⟩ := and_mask hD.2 mk
  have hM3 : 0 ≤ (mm : Int) ∧ (mm : Int) < 2 ^ D := ⟨by omega, by exact_mod_cast hM2⟩
  rw [hbe, eall, hM1]
  have e8 : ∀ n : Nat, (if (8 : Int) < (n : Int) then 8 else (n : Int)) = ((min n 8 : Nat) : Int) := fun n => by split <;> omega
  obtain ⟨n8, hn8⟩ : ∃ x, min nl 8 = x := ⟨_, rfl⟩
  obtain ⟨l8, hl8⟩ : ∃ x, l.take n8 = x := ⟨_, rfl⟩
  have R1 : Rd A al 19 n8 (cellsE l8) := by rw [← hl8, ← cellsE_take]; exact hAl.take n8 (by omega)
  have L1 : l8.length = n8 := by rw [← hl8, List.length_take]; omega
  have D1 : ∀ s ∈ l8, s.data.length = 16 := fun s hs => hdl s (by rw [← hl8] at hs; exact List.mem_of_mem_take hs)
  refine J.r hX tab_ok 7 (fun _ => rfl) fun b9 => ?_
  rw [e8, hn8]
  refine J.val hX (.slice al n8 cl) 0 rfl rfl (fun _ a w he hC => cut_run rfl rfl rfl he rfl rfl (by omega)) rfl trivial ?_
  have G0 : (Nand.new D B P).Gd 1000 0 := Nand.Gd.new D B P hgm 1000 (by decide)
  refine J.r hX tab_ok 400 (fun _ => rfl) fun b10 => ?_
  refine J.r hX tab_ok 400 (fun _ => rfl) fun b11 => ?_
  refine J.ca hX (by kernel_rfl) (r_Write q (Nand.new D B P) A b 0 mm al n8 cl 0 l8 R1 L1 D1 (G0.less (by decide) (Nat.le_refl _))) [3, 1] 0 rfl rfl rfl rfl rfl rfl (fun _ => rfl) ?_
  rintro v As ⟨rfl, rfl⟩
  refine ⟨_, rfl, trivial, ?_⟩
  refine J.r hX tab_ok 400 (fun _ => rfl) fun b12 => ?_
  refine J.cond rfl (fun w1 => ?_) (fun w1 => ?_)
  · refine J.r hX tab_ok 400 (fun _ => rfl) fun b13 => ?_
    refine J.rt hX tab_ok [1] rfl rfl rfl ?_
    exact ⟨rfl, rfl⟩
  simp only [bne_eq_false_iff_eq] at w1
  have hd1 := tm_bd da D (by omega)
  have hd2 := tm_2 da D (by omega)
  have he1 := tm_bd db D (by omega)
  have he2 := tm_2 db D (by omega)
  obtain ⟨d, hde⟩ := Int.eq_ofNat_of_zero_le hd2.1
  obtain ⟨e, hee⟩ := Int.eq_ofNat_of_zero_le he2.1
  rw [hde] at hd2
  rw [hee] at he2
  obtain ⟨lawo, law⟩ := two_law (d := d) (e := e) hD hB hP hbB hM3 D1 w1 (by omega) (by omega)
  have G1 : (anN0 D B P b mm l8).Gd 992 0 := write_Gd D1 (G0.less (by decide) (Nat.le_refl _))
  have G2 : (twF1 D B P b mm l8 d).Gd 992 0 := G1.fault0 4 d 0 0 0 0 (by decide)
  have G3 : (twF2 D B P b mm l8 d e).Gd 992 0 := G2.fault0 4 e 0 0 0 0 (by decide)
  refine J.r hX tab_ok 400 (fun _ => rfl) fun b14 => ?_
  refine J.plan (.of [0,4,8,13,16,20,25,28,32,37,40,44,48,54]) [] [2] (by rw [hX.hP]; kernel_rfl) (by kernel_rfl) ?_
  refine J.r hX tab_ok 400 (fun _ => rfl) fun b15 => ?_
  rw [hde]
  refine J.r hX tab_ok 400 (fun _ => rfl) fun b16 => ?_
  refine J.ca hX (by kernel_rfl) (n_Fault q (anN0 D B P b mm l8) G1.ok 0 4 d 0 0 0 0) [3] 0 rfl rfl rfl rfl rfl rfl (fun _ => rfl) ?_
  rintro v As ⟨rfl, rfl⟩
  refine ⟨_, rfl, ⟨rfl, trivial⟩, ?_⟩
  refine J.r hX tab_ok 400 (fun _ => rfl) fun b17 => ?_
  refine J.plan (.of [0,4,8,13,16,20,25,28,32,37,40,44,48,54]) [] [2] (by rw [hX.hP]; kernel_rfl) (by kernel_rfl) ?_
  refine J.r hX tab_ok 400 (fun _ => rfl) fun b18 => ?_
  rw [hee]
  refine J.r hX tab_ok 400 (fun _ => rfl) fun b19 => ?_
  refine J.ca hX (by kernel_rfl) (n_Fault q (twF1 D B P b mm l8 d) G2.ok 0 4 e 0 0 0 0) [3] 0 rfl rfl rfl rfl rfl rfl (fun _ => rfl) ?_
  rintro v As ⟨rfl, rfl⟩
  refine ⟨_, rfl, ⟨rfl, trivial⟩, ?_⟩
  refine J.r hX tab_ok 400 (fun _ => rfl) fun b20 => ?_
  refine J.r hX tab_ok 400 (fun _ => rfl) fun b21 => ?_
  refine J.lo (α := Nat) (fun i => i ≤ n8) (fun i => [⟨17, .int .i64 i, 0, .tt⟩, ⟨14, .pointer (some ⟨q, 0, none⟩), 0, .tt⟩, ⟨1, .int .i64 b, 0, .tt⟩, ⟨2, .int .i64 mm, 0, .tt⟩, ⟨3, .slice al n8 cl, 0, .tt⟩]) [] (fun i => []) (fun i => n8 - i) (0) (Nat.zero_le _) rfl ?_ (fun _ => rfl) fun i hI => ?_
  · rfl
  refine J.r hX tab_ok 400 (fun _ => rfl) fun b22 => ?_
  refine J.cond rfl (fun h2 => ?_) (fun h2 => ?_)
  · simp only [decide_eq_true_eq, Int.ofNat_lt] at h2
    obtain ⟨x, hx⟩ : ∃ x, l8[i]? = some x := ⟨_, List.getElem?_eq_getElem (by omega)⟩
    have hxd : x.data.length = 16 := D1 _ (List.mem_of_getElem? hx)
    have hge : l8.getD i En.zero = x := by rw [List.getD_eq_getElem?_getD, hx]; rfl
    have hlaw := law i (by omega)
    rw [hge] at hlaw
    refine J.know (p := ∃ g o, al = some ⟨g, o, none⟩) (fun h' s => Rd.addr (R1 _ (s.get (i := 1) rfl)) (by omega)) fun hk => ?_
    obtain ⟨gm, om, rfl⟩ := hk
    refine J.r hX tab_ok 400 (fun _ => rfl) fun b23 => ?_
    refine J.r hX tab_ok 400 (fun _ => rfl) fun b24 => ?_
    refine J.ca hX (by kernel_rfl) (r_Read q (twF2 D B P b mm l8 d e) G3.ok G3.room b 0 i mm (by omega) (by omega)) [3] 0 rfl rfl rfl rfl rfl rfl (fun _ => rfl) ?_
    rintro v As ⟨rfl, rfl⟩
    refine ⟨_, rfl, trivial, ?_⟩
    refine J.r hX tab_ok 400 (fun _ => rfl) fun b25 => ?_
    refine J.r hX tab_ok 400 (fun _ => rfl) fun b26 => ?_
    refine J.ca hX (by kernel_rfl) (f9_Read q (twF2 D B P b mm l8 d e) G3.ok G3.room lawo b 0 i mm) [3] 0 rfl rfl rfl rfl rfl rfl (fun _ => rfl) ?_
    rintro v As ⟨rfl, rfl⟩
    refine ⟨_, rfl, trivial, ?_⟩
    rcases hlaw with hlaw | hlaw
    · rw [hlaw]
      refine J.r hX tab_ok 400 (fun _ => rfl) fun b27 => ?_
      refine J.plan (.of [1,5,8,12,16,20,24,28,32,36,40,44,49,52,56,60,65,68,72,76,80,84,88,92,96,100,104,109,112,116,120,124,128]) [] [1,5,6] (by rw [hX.hP]; kernel_rfl) (by kernel_rfl) ?_
      refine J.r hX tab_ok 2 (fun _ => rfl) fun b28 => ?_
      refine J.valT hX (.bool false) 0 rfl rfl (fun hg a w he hC => (neAgg_run (xs := enL x) (ys := enL x) rfl rfl rfl he rfl rfl leavesEn (fitsEn _) (fitsEn _) mkEn gdEn).trans (by rw [(eqEn _ _ hxd hxd).2 rfl]; rfl)) rfl ?_
      refine J.r hX tab_ok 400 (fun _ => rfl) fun b29 => ?_
      refine J.valT hX (enV x) 0 rfl rfl (fun hg a w he hC => rdN_run tab_ok rfl rfl he rfl rfl rfl (R1 _ (hC rfl _ (cget_mem (i := 1) rfl))) (by omega) (j := i * 19) (by omega) (cellsE_get hx) rfl) rfl ?_
      refine J.valT hX (.bool false) 0 rfl rfl (fun hg a w he hC => (neAgg_run (xs := enL x) (ys := enL x) rfl rfl rfl he rfl rfl leavesEn (fitsEn _) (fitsEn _) mkEn gdEn).trans (by rw [(eqEn _ _ hxd hxd).2 rfl]; rfl)) rfl ?_
      refine J.r hX tab_ok 400 (fun _ => rfl) fun b30 => ?_
      refine J.valT hX (.bool false) 0 rfl rfl (fun hg a w he hC => by simp [G.on] at hg) rfl ?_
      refine J.r hX tab_ok 400 (fun _ => rfl) fun b31 => ?_
      refine J.cond rfl (fun h3 => ?_) (fun h3 => ?_)
      · simp at h3
      refine J.r hX tab_ok 400 (fun _ => rfl) fun b32 => ?_
      refine J.r hX tab_ok 400 (fun _ => rfl) fun b33 => ?_
      refine J.nS (i + 1) (by omega) (by omega) [0, 1, 2, 3] rfl rfl
    · rw [hlaw]
      refine J.r hX tab_ok 400 (fun _ => rfl) fun b34 => ?_
      refine J.plan (.of [1,5,8,12,16,20,24,28,32,36,40,44,49,52,56,60,65,68,72,76,80,84,88,92,96,100,104,109,112,116,120,124,128]) [] [1,5,6] (by rw [hX.hP]; kernel_rfl) (by kernel_rfl) ?_
      refine J.r hX tab_ok 2 (fun _ => rfl) fun b35 => ?_
      refine J.valT hX (.bool false) 0 rfl rfl (fun hg a w he hC => (neAgg_run (xs := enL En.zero) (ys := enL En.zero) rfl rfl rfl he rfl rfl leavesEn (fitsEn _) (fitsEn _) mkEn gdEn).trans (by rw [(eqEn _ _ rfl rfl).2 rfl]; rfl)) rfl ?_
      refine J.r hX tab_ok 400 (fun _ => rfl) fun b36 => ?_
      refine J.valT hX (enV x) 0 rfl rfl (fun hg a w he hC => by simp [G.on] at hg) rfl ?_
      refine J.valT hX (.bool false) 0 rfl rfl (fun hg a w he hC => by simp [G.on] at hg) rfl ?_
      refine J.r hX tab_ok 400 (fun _ => rfl) fun b37 => ?_
      refine J.valT hX (.bool false) 0 rfl rfl (fun hg a w he hC => (neAgg_run (xs := enL En.zero) (ys := enL En.zero) rfl rfl rfl he rfl rfl leavesEn (fitsEn _) (fitsEn _) mkEn gdEn).trans (by rw [(eqEn _ _ rfl rfl).2 rfl]; rfl)) rfl ?_
      refine J.r hX tab_ok 400 (fun _ => rfl) fun b38 => ?_
      refine J.cond rfl (fun h3 => ?_) (fun h3 => ?_)
      · simp at h3
      refine J.r hX tab_ok 400 (fun _ => rfl) fun b39 => ?_
      refine J.r hX tab_ok 400 (fun _ => rfl) fun b40 => ?_
      refine J.nS (i + 1) (by omega) (by omega) [0, 1, 2, 3] rfl rfl
  simp only [decide_eq_false_iff_not, Int.ofNat_lt] at h2
  refine J.r hX tab_ok 400 (fun _ => rfl) fun b41 => ?_
  refine J.rt hX tab_ok [1] rfl rfl rfl ?_
  exact ⟨rfl, rfl⟩
end Go.Proofs.YtmohcbniepdncaaGreat
