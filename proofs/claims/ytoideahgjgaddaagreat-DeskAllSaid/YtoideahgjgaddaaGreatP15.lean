/- Helpers of the proofs about ostrakonlaw11, proved here: Mks, Keep, Wr, Bk. No condition. -/
import Derived.Test.YtoideahgjgaddaaGreatP07
import Derived.Test.YtoideahgjgaddaaGreatP10
import Derived.Test.YtoideahgjgaddaaGreatP13
import Derived.Test.YtoideahgjgaddaaGreatP14
set_option linter.unusedVariables false
set_option linter.unusedSimpArgs false
set_option linter.unusedSectionVars false
set_option linter.unnecessarySimpa false
/- Walks: media.Masks. -/
namespace Go.Proofs.YtoideahgjgaddaaGreat
open Go Go.RowKit
def mk0 (N : Nand) (b r : Int) (k : Nat) : List Int := ((M.rowN N b r N.dies).take k).filterMap M.maskOf
theorem rowN_at (N : Nand) (b r : Int) (n k : Nat) (h : k < n) : (M.rowN N b r n)[k]? = some (M.look N (k : Nat) b r) := by simp [M.rowN, h]
theorem mk0_succ (N : Nand) (b r : Int) (k : Nat) (h : k < N.dies) : mk0 N b r (k + 1) = mk0 N b r k ++ (M.maskOf (M.look N (k : Nat) b r)).toList := by
  unfold mk0
  rw [List.take_add_one, rowN_at N b r _ k h, List.filterMap_append]
  congr 1
theorem mk0_len (N : Nand) (b r : Int) (k : Nat) : (mk0 N b r k).length ≤ k := by
  refine Nat.le_trans (List.length_filterMap_le _ _) ?_
  rw [List.length_take]; omega
theorem cellsI_get {l : List Int} {k : Nat} {x : Int} (h : l[k]? = some x) : (cellsI l)[k]? = some (.int .i64 x) := by simp [cellsI, h]
theorem cellsS_get {l : List Sh} {k : Nat} {x : Sh} (h : l[k]? = some x) : ((cellsS l).drop (k * 23)).take 23 = shL x := by
  have := cellsS_at l [] k x h; rwa [List.append_nil] at this
theorem m_Masks (p : Nat) (N : Nand) (hN : N.Ok) (hR : N.Room) (b r : Int) : Fn Tryz.prog 84 [.pointer (some ⟨p, 0, none⟩), .int .i64 b, .int .i64 r] [NandA p N]
    (fun v As => ∃ a c, v = slv a (M.masks N b r).length c ∧ As = [NandA p N, ownA 3 1 a (M.masks N b r).length c (cellsI (M.masks N b r))]) := by
  have hbd := hN.bd
  refine Fn.enter [2, 0, 0] Tryz.func84 rfl rfl rfl fun X F hX => ?_
  refine J.r hX tab_ok 400 (fun _ => rfl) fun b1 => ?_
  refine J.r hX tab_ok 400 (fun _ => rfl) fun b2 => ?_
  refine J.ca hX (by kernel_rfl) (m_Row p N hN hR b r) [1] 0 rfl rfl rfl rfl rfl rfl (fun _ => rfl) ?_
  rintro v As ⟨a1, c1, a2, c2, rfl, rfl⟩
  refine ⟨_, rfl, trivial, ?_⟩
  refine J.turn1 [] rfl (As := [ownA 3 1 none 0 0 (cellsI (mk0 N b r 0))]) (fun h s => Sep.one ⟨rfl, rfl, rfl⟩) rfl ?_
  refine J.r hX tab_ok 400 (fun _ => rfl) fun b3 => ?_
  refine J.r hX tab_ok 400 (fun _ => rfl) fun b4 => ?_
  refine J.lo (α := (Nat × Option Nat × Nat)) (fun z => z.1 ≤ N.dies) (fun z => [⟨21, .int .i64 z.1, 0, .tt⟩, ⟨20, .int .i64 N.dies, 0, .tt⟩, ⟨19, slv a1 N.dies c1, 0, .tt⟩, ⟨9, slv a2 N.dies c2, 0, .tt⟩, ⟨7, slv z.2.1 (mk0 N b r z.1).length z.2.2, 0, .tt⟩]) [4] (fun z => [ownA 3 1 z.2.1 (mk0 N b r z.1).length z.2.2 (cellsI (mk0 N b r z.1))]) (fun z => N.dies - z.1) ((0, none, 0)) (Nat.zero_le _) rfl ?_ (fun _ => rfl) fun z hI => ?_
  · rfl
  obtain ⟨k, a3, c3⟩ := z
  dsimp only at hI ⊢
  have hml := mk0_len N b r k
  refine J.r hX tab_ok 400 (fun _ => rfl) fun b5 => ?_
  refine J.cond rfl (fun h1 => ?_) (fun h1 => ?_)
  · simp only [decide_eq_true_eq, Int.ofNat_lt] at h1
    refine J.know (fun h' s => own_some (c := (a1, c1)) (by omega) (s.get (i := 2) rfl)) fun hg => ?_
    obtain ⟨g1, rfl⟩ := hg
    refine J.know (fun h' s => own_some (c := (a2, c2)) (by omega) (s.get (i := 3) rfl)) fun hg => ?_
    obtain ⟨g2, rfl⟩ := hg
    have hat := rowN_at N b r _ k h1
    refine J.r hX tab_ok 400 (fun _ => rfl) fun b6 => ?_
    refine J.val hX (shV (M.look N (k : Nat) b r).1) 0 rfl rfl (fun hg a w he hs => ?_) rfl trivial ?_
    · exact ownN_run tab_ok rfl rfl he rfl rfl rfl (hs.get (i := 2) rfl) (by rw [show 0 + (k : Int).toNat * 23 = k * 23 from by omega]; exact cellsS_get (by rw [List.getElem?_map, hat]; rfl)) rfl
    refine J.r hX tab_ok 400 (fun _ => rfl) fun b7 => ?_
    refine J.val hX (.int .i64 (M.look N (k : Nat) b r).2) 0 rfl rfl (fun hg a w he hs => ?_) rfl trivial ?_
    · exact own1_run tab_ok rfl rfl he rfl rfl rfl (hs.get (i := 3) rfl) (by rw [show 0 + (k : Int).toNat * 1 = k from by omega]; exact cellsI_get (by rw [List.getElem?_map, hat]; rfl))
    refine J.r hX tab_ok 400 (fun _ => rfl) fun b8 => ?_
    refine J.cond rfl (fun h2 => ?_) (fun h2 => ?_)
    · simp only [beq_iff_eq] at h2
      have hs : mk0 N b r (k + 1) = mk0 N b r k ++ [(M.look N (k : Nat) b r).1.mask] := by rw [mk0_succ N b r k h1, M.maskOf, if_pos h2]; rfl
      have hl : (mk0 N b r k).length + 1 = (mk0 N b r (k + 1)).length := by rw [hs]; simp
      refine J.r hX tab_ok 400 (fun _ => rfl) fun b9 => ?_
      refine J.append hX tab_ok 4 6 0 rfl rfl rfl rfl rfl rfl rfl rfl rfl rfl rfl rfl rfl rfl rfl rfl ?_ ?_ (fun _ => rfl) fun a4 c4 => ⟨_, (congrArg (fun z => lset _ 4 (ownA _ _ _ _ _ z)) ((cellsI_snoc _ _).symm.trans (congrArg cellsI hs.symm))).trans rfl, trivial, ?_⟩
      · simp only [maxLen]; omega
      · omega
      rw [hl]
      refine J.r hX tab_ok 400 (fun _ => rfl) fun b10 => ?_
      refine J.nS ((k + 1, a4, c4)) (by dsimp only; omega) (by dsimp only; omega) [0, 1, 2, 3, 4] rfl rfl
    · simp only [beq_eq_false_iff_ne, ne_eq] at h2
      have hs : mk0 N b r k = mk0 N b r (k + 1) := by rw [mk0_succ N b r k h1, M.maskOf, if_neg h2]; simp
      rw [hs]
      refine J.r hX tab_ok 400 (fun _ => rfl) fun b11 => ?_
      refine J.nS ((k + 1, a3, c3)) (by dsimp only; omega) (by dsimp only; omega) [0, 1, 2, 3, 4] rfl rfl
  · simp only [decide_eq_false_iff_not, Int.ofNat_lt] at h1
    obtain rfl : k = N.dies := by omega
    have hall : mk0 N b r N.dies = (M.rowN N b r N.dies).filterMap M.maskOf := by
      unfold mk0; rw [List.take_of_length_le (by simp [M.rowN])]
    refine J.r hX tab_ok 400 (fun _ => rfl) fun b12 => ?_
    refine J.r hX tab_ok 400 (fun _ => rfl) fun b13 => ?_
    refine J.ca hX (by kernel_rfl) (s_SortInts a3 (mk0 N b r N.dies).length c3 (mk0 N b r N.dies) rfl (by omega)) [4] 0 rfl rfl rfl rfl rfl rfl (fun _ => rfl) ?_
    rintro v As ⟨rfl, rfl⟩
    refine ⟨_, rfl, trivial, ?_⟩
    refine J.r hX tab_ok 400 (fun _ => rfl) fun b14 => ?_
    refine J.r hX tab_ok 400 (fun _ => rfl) fun b15 => ?_
    refine J.ca hX (by kernel_rfl) (x_Compact a3 (mk0 N b r N.dies).length c3 (isortL (mk0 N b r N.dies)) (isortL_len _) (by omega)) [4] 0 rfl rfl rfl rfl rfl rfl (fun _ => rfl) ?_
    rintro v As ⟨l', hl', rfl, rfl⟩
    refine ⟨_, rfl, trivial, ?_⟩
    have he : l' = M.masks N b r := by rw [hl', hall]; rfl
    subst he
    refine J.r hX tab_ok 400 (fun _ => rfl) fun b16 => ?_
    refine J.rt hX tab_ok [1, 4] rfl rfl rfl ?_
    exact ⟨a3, c3, rfl, rfl⟩
end Go.Proofs.YtoideahgjgaddaaGreat
/- Plain laws: a flash stays a flash. No program in sight. -/
namespace Go.Proofs.YtoideahgjgaddaaGreat
/-- well formed, with room for k operations more; at most m programs are to fail -/
structure Nand.Gd (N : Nand) (k m : Nat) : Prop where
  ok : N.Ok
  ops : N.ops + k < 4611686018427387904
  broken : N.broken + k < 4611686018427387904
  nodup : N.plan.Nodup
  few : N.plan.length ≤ m
namespace Nand
variable {N : Nand} {k m : Nat}
theorem Gd.room (h : N.Gd k m) : N.Room := ⟨by have := h.ops; omega, by have := h.broken; omega⟩
theorem Gd.less (h : N.Gd k m) {k' m' : Nat} (hk : k' ≤ k) (hm : m ≤ m') : N.Gd k' m' := ⟨h.ok, by have := h.ops; omega, by have := h.broken; omega, h.nodup, by have := h.few; omega⟩
theorem Ok.setBlk (h : N.Ok) (i j : Nat) (B : NBlock) (h1 : B.cells.length ≤ N.pages) (h2 : ∀ c ∈ B.cells, c.p.length = 32) (h3 : 0 ≤ B.worn ∧ B.worn ≤ N.ops) : (N.setBlk i j B).Ok := by
  refine ⟨h.geo, h.dead, fun a b ha hb => ?_, ⟨h.num.1, h.num.2.1, fun a b => ?_⟩, h.lft, h.lf2, h.kp⟩
  · show (if a = i ∧ b = j then B else N.blk a b).cells.length ≤ N.pages ∧ ∀ c ∈ (if a = i ∧ b = j then B else N.blk a b).cells, c.p.length = 32
    split
    · exact ⟨h1, h2⟩
    · exact h.cells a b ha hb
  · show 0 ≤ (if a = i ∧ b = j then B else N.blk a b).worn ∧ (if a = i ∧ b = j then B else N.blk a b).worn ≤ N.ops
    split
    · exact h3
    · exact h.num.2.2 a b
theorem Ok.cutN (h : N.Ok) : N.cutN.Ok := by
  have h1 := h.num
  have h2 := h.lft
  have h3 := h.lf2
  refine ⟨h.geo, h.dead, h.cells, ⟨by show 0 ≤ N.ops + 1; omega, h1.2.1, fun a b => ⟨(h1.2.2 a b).1, by show _ ≤ N.ops + 1; have := (h1.2.2 a b).2; exact Int.le_trans this (by omega)⟩⟩, fun hc => ?_, ?_, h.kp⟩
  · have hc : (if N.cutB then false else N.cuts) = true := hc
    show 0 ≤ (if N.cuts then N.left - 1 else N.left) ∧ (if N.cuts then N.left - 1 else N.left) ≤ 9223372036854775807
    split at hc
    · cases hc
    · rename_i hb
      simp [cutB, hc] at hb
      have := h2 hc
      rw [if_pos hc]; omega
  · show -9223372036854775807 ≤ (if N.cuts then N.left - 1 else N.left) ∧ (if N.cuts then N.left - 1 else N.left) ≤ 9223372036854775807
    split
    · rename_i hc; have := h2 hc; omega
    · exact h3
theorem Ok.push (h : N.Ok) (i j : Nat) (c : NCell) (h1 : (N.blk i j).cells.length < N.pages) (h2 : c.p.length = 32) (hi : i < N.dies) (hj : j < N.blocks) : (N.push i j c).Ok := by
  refine h.setBlk i j _ ?_ ?_ (h.num.2.2 i j)
  · simp; omega
  · intro x hx
    simp only [List.mem_append, List.mem_singleton] at hx
    rcases hx with hx | hx
    · exact (h.cells i j hi hj).2 x hx
    · rw [hx]; exact h2
theorem Ok.plan (h : N.Ok) (l : List A3') : Ok { N with plan := l } := ⟨h.geo, h.dead, h.cells, h.num, h.lft, h.lf2, h.kp⟩
theorem fillP_len (k : Nat) (p : List UInt8) (h : p.length = 32) (hk : k ≤ 32) : (fillP k p).length = 32 := by simp [fillP, h]; omega
theorem Ok.prog (h : N.Ok) (x y z : Int) (pg : List UInt8) (hp : pg.length = 32) : (N.progN x y z pg).Ok := by
  unfold progN
  split
  · exact h
  · rename_i h0
    simp only [ne_eq, Decidable.not_not] at h0
    obtain ⟨_, _, hr⟩ := refuses_zero h0
    split
    · exact ⟨h.geo, h.dead, h.cells, ⟨h.num.1, by show 0 ≤ N.broken + 1; have := h.num.2.1; omega, h.num.2.2⟩, h.lft, h.lf2, h.kp⟩
    · rename_i h1
      simp only [ne_eq, Decidable.not_not] at h1
      have hlt : (N.blk x.toNat y.toNat).cells.length < N.pages := by omega
      have hi : x.toNat < N.dies := by omega
      have hj : y.toNat < N.blocks := by omega
      split
      · exact h.cutN.push _ _ _ hlt (fillP_len _ _ hp (by have := h.kp; omega)) hi hj
      · exact (h.cutN.plan _).push _ _ _ hlt hp hi hj
theorem Gd.prog (h : N.Gd (k + 1) m) (x y z : Int) (pg : List UInt8) (hp : pg.length = 32) : (N.progN x y z pg).Gd k m := by
  have h1 := h.ops
  have h2 := h.broken
  refine ⟨h.ok.prog x y z pg hp, ?_, ?_, ?_, ?_⟩
  · unfold progN
    split
    · omega
    · split
      · show N.ops + _ < _; omega
      · split <;> (show N.ops + 1 + (k : Int) < _; omega)
  · unfold progN
    split
    · omega
    · split
      · show N.broken + 1 + (k : Int) < _; omega
      · split <;> (show N.broken + (k : Int) < _; omega)
  · unfold progN
    split
    · exact h.nodup
    · split
      · exact h.nodup
      · split
        · exact h.nodup
        · exact h.nodup.erase _
  · have h3 := h.few
    unfold progN
    split
    · exact h3
    · split
      · exact h3
      · split
        · exact h3
        · show (N.plan.erase _).length ≤ m
          rw [List.length_erase]; split <;> omega
theorem Ok.erase (h : N.Ok) (x y : Int) : (N.eraseN x y).Ok := by
  unfold eraseN
  dsimp only
  split
  · exact h
  · rename_i h0
    simp only [ne_eq, Decidable.not_not] at h0
    obtain ⟨_, _, hr⟩ := refuses_zero h0
    have hi : x.toNat < N.dies := by omega
    have hj : y.toNat < N.blocks := by omega
    have hc := h.cells _ _ hi hj
    split
    · refine h.cutN.setBlk _ _ _ ?_ ?_ (h.cutN.num.2.2 _ _)
      · show _ ≤ N.pages
        simp; omega
      · intro c hcm
        simp only [List.mem_map, List.mem_append, List.mem_replicate] at hcm
        obtain ⟨a, ha, rfl⟩ := hcm
        rcases ha with ha | ha
        · exact hc.2 a ha
        · rw [ha.2]; rfl
    · split
      · exact h.cutN.setBlk _ _ _ hc.1 hc.2 (h.cutN.num.2.2 _ _)
      · refine (h.cutN.setBlk _ _ _ (by simp) (by simp) ?_).plan _
        show 0 ≤ (N.blk x.toNat y.toNat).worn + 1 ∧ (N.blk x.toNat y.toNat).worn + 1 ≤ N.ops + 1
        have := h.num.2.2 x.toNat y.toNat
        omega
theorem Gd.erase (h : N.Gd (k + 1) m) (x y : Int) : (N.eraseN x y).Gd k m := by
  have h1 := h.ops
  have h2 := h.broken
  refine ⟨h.ok.erase x y, ?_, ?_, ?_, ?_⟩
  · unfold eraseN
    dsimp only
    split
    · omega
    · (repeat' split) <;> (show N.ops + 1 + (k : Int) < _; omega)
  · unfold eraseN
    dsimp only
    split
    · omega
    · (repeat' split) <;> (show N.broken + (k : Int) < _; omega)
  · unfold eraseN
    dsimp only
    (repeat' split) <;> first | exact h.nodup | exact h.nodup.filter _
  · have h3 := h.few
    unfold eraseN
    dsimp only
    (repeat' split) <;> first | exact h3 | exact Nat.le_trans (List.length_filter_le _ _) h3
theorem xorAt_len (p : List UInt8) (n : Nat) (x : UInt8) : (xorAt p n x).length = p.length := by simp [xorAt]
theorem Ok.setCell (h : N.Ok) (x y z : Int) (f : NCell → NCell) (hf : ∀ c, (f c).p.length = c.p.length) (hi : x.toNat < N.dies) (hj : y.toNat < N.blocks) : (N.setCell x y z f).Ok := by
  have hc := h.cells _ _ hi hj
  refine h.setBlk _ _ _ (by simpa using hc.1) ?_ (h.num.2.2 _ _)
  intro c hm
  obtain ⟨i, hi', rfl⟩ := List.mem_iff_getElem.1 hm
  simp only [List.length_modify] at hi'
  rw [List.getElem_modify]
  split
  · rw [hf]; exact hc.2 _ (List.getElem_mem _)
  · exact hc.2 _ (List.getElem_mem _)
theorem Ok.fault (h : N.Ok) (kind x y z n xx : Int) : (N.fault kind x y z n xx).2.Ok := by
  unfold Nand.fault
  split
  · exact h
  · rename_i h0
    have hr : 0 ≤ x ∧ x < N.dies ∧ 0 ≤ y ∧ y < N.blocks := by simp [geoIn] at h0; omega
    have hi : x.toNat < N.dies := by omega
    have hj : y.toNat < N.blocks := by omega
    have hc := h.cells _ _ hi hj
    split
    · exact h.plan _
    · split
      · exact h.setBlk _ _ _ hc.1 hc.2 (h.num.2.2 _ _)
      · split
        · exact h.setCell _ _ _ _ (fun _ => rfl) hi hj
        · split
          · exact ⟨h.geo, by show (N.dead.set _ _).length = _; rw [List.length_set]; exact h.dead, h.cells, h.num, h.lft, h.lf2, h.kp⟩
          · split
            · split
              · exact h
              · split
                · exact h
                · split
                  · exact h
                  · split
                    · exact h
                    · exact h.setCell _ _ _ _ (fun c => xorAt_len _ _ _) hi hj
            · exact h
theorem Gd.fault (h : N.Gd k m) (kind x y z n xx : Int) : (N.fault kind x y z n xx).2.Gd k (m + 1) := by
  refine ⟨h.ok.fault .., ?_, ?_, ?_, ?_⟩
  · unfold Nand.fault
    (repeat' split) <;> exact h.ops
  · unfold Nand.fault
    (repeat' split) <;> exact h.broken
  · unfold Nand.fault
    have h1 : ∀ a, (addP N.plan a).Nodup := fun a => by
      unfold addP; split
      · exact h.nodup
      · rename_i hn
        rw [List.nodup_append]
        exact ⟨h.nodup, by simp, fun b hb c hc => by simp at hc; subst hc; rintro rfl; exact hn hb⟩
    (repeat' split) <;> first | exact h.nodup | exact h1 _
  · unfold Nand.fault
    have h3 := h.few
    have h1 : ∀ a, (addP N.plan a).length ≤ m + 1 := fun a => by
      unfold addP; split
      · omega
      · simp; omega
    (repeat' split) <;> first | exact h1 _ | exact Nat.le_succ_of_le h3
/-- faults that plan nothing -/
theorem Gd.fault0 (h : N.Gd k m) (kind x y z n xx : Int) (hk : kind ≠ 1) : (N.fault kind x y z n xx).2.Gd k m := by
  have h1 := h.fault kind x y z n xx
  refine ⟨h1.ok, h1.ops, h1.broken, h1.nodup, ?_⟩
  unfold Nand.fault
  rw [if_neg hk]
  (repeat' split) <;> exact h.few
theorem Gd.cut (h : N.Gd k m) (x kk : Int) (h1 : -9223372036854775807 ≤ x) (h2 : x ≤ 9223372036854775807) : (N.setCut x kk).Gd k m := by
  unfold setCut
  split
  · exact h
  · exact ⟨⟨h.ok.geo, h.ok.dead, h.ok.cells, h.ok.num, fun hc => by simp at hc; exact ⟨hc, h2⟩, ⟨h1, h2⟩, by show 0 ≤ min (max kk 0) 32 ∧ min (max kk 0) 32 ≤ 32; omega⟩, h.ops, h.broken, h.nodup, h.few⟩
theorem Gd.on (h : N.Gd k m) : N.onN.Gd k m := ⟨⟨h.ok.geo, h.ok.dead, h.ok.cells, h.ok.num, fun hc => (by cases hc), h.ok.lf2, h.ok.kp⟩, h.ops, h.broken, h.nodup, h.few⟩
theorem Gd.new (d b p : Nat) (h : geoMay d b p = true) (k : Nat) (hk : k ≤ 1000000) : (Nand.new d b p).Gd k 0 :=
  ⟨⟨h, by simp [Nand.new], fun i j _ _ => by simp [Nand.new], ⟨by simp [Nand.new], by simp [Nand.new], fun i j => by simp [Nand.new]⟩, fun hc => (by cases hc), by simp [Nand.new], by simp [Nand.new]⟩, by simp [Nand.new]; omega, by simp [Nand.new]; omega, by simp [Nand.new], by simp [Nand.new]⟩
/-- its measure stays -/
structure Like (N N' : Nand) : Prop where
  dies : N'.dies = N.dies
  blocks : N'.blocks = N.blocks
  pages : N'.pages = N.pages
theorem Like.refl (N : Nand) : Like N N := ⟨rfl, rfl, rfl⟩
theorem Like.trans {A B C : Nand} (h : Like A B) (h' : Like B C) : Like A C := ⟨h'.dies.trans h.dies, h'.blocks.trans h.blocks, h'.pages.trans h.pages⟩
end Nand
end Go.Proofs.YtoideahgjgaddaaGreat
/- Walks: row.Write. -/
namespace Go.Proofs.YtoideahgjgaddaaGreat
open Go Go.RowKit
theorem job_len (b r m : Int) (l : List En) : (R.job b r m l).length = l.length + 1 := by simp [R.job]
theorem job_at (b r m : Int) (l : List En) (k : Nat) (h : k < l.length) : (R.job b r m l)[k]? = some (G.die m b r (k : Nat), W.sh b r m (l.getD k En.zero)) := by
  rw [R.job, List.getElem?_append_left (by simpa using h)]; simp [h]
theorem job_last (b r m : Int) (l : List En) : (R.job b r m l)[l.length]? = some (G.parity m b r, W.parS b r m l) := by
  rw [R.job, List.getElem?_append_right (by simp)]; simp
theorem job_drop {b r m : Int} {l : List En} {k : Nat} {x : Int × Sh} (h : (R.job b r m l)[k]? = some x) : (R.job b r m l).drop k = x :: (R.job b r m l).drop (k + 1) := by
  obtain ⟨h1, h2⟩ := List.getElem?_eq_some_iff.1 h
  rw [List.drop_eq_getElem_cons h1, h2]
theorem r_Write (p : Nat) (N : Nand) (A : Atom) (b r m : Int) (a : Option Addr) (n cap mm : Nat) (l : List En) (hA : Rd A a 19 n (cellsE l)) (hl : l.length = n) (hd : ∀ s ∈ l, s.data.length = 16) (hG : N.Gd 8 mm) :
    Fn Tryz.prog 23 [.pointer (some ⟨p, 0, none⟩), .int .i64 b, .int .i64 r, .int .i64 m, .slice a n cap] [NandA p N, A]
    (fun v As => v = .tuple #[.int .i64 (R.write N b r m l).2.1, .int .i64 (R.write N b r m l).2.2] ∧ As = [NandA p (R.write N b r m l).1, A]) := by
  have hsb := gslots_bd m
  refine Fn.enter [2, 0, 0, 0, 0] Tryz.func23 rfl rfl rfl fun X F hX => ?_
  refine J.r hX tab_ok 400 (fun _ => rfl) fun b1 => ?_
  refine J.r hX tab_ok 400 (fun _ => rfl) fun b2 => ?_
  refine J.ca hX (by kernel_rfl) (w_Parity b r m A a n cap l hA hl hd) [2] 0 rfl rfl rfl rfl rfl rfl (fun _ => rfl) ?_
  rintro v As ⟨rfl, rfl⟩
  refine ⟨_, rfl, trivial, ?_⟩
  refine J.r hX tab_ok 400 (fun _ => rfl) fun bb => ?_
  refine J.r hX tab_ok 400 (fun _ => rfl) fun b3 => ?_
  refine J.cond rfl (fun h0 => ?_) (fun h0 => ?_)
  · simp only [Bool.not_eq_true'] at h0
    refine J.r hX tab_ok 400 (fun _ => rfl) fun b4 => ?_
    refine J.rt hX tab_ok [1, 2] rfl rfl rfl ?_
    simp only [R.write, h0]
    exact ⟨rfl, rfl⟩
  simp only [Bool.not_eq_false'] at h0
  have hw : R.write N b r m l = R.go b r (R.job b r m l) N 0 := by rw [R.write, if_pos h0]
  have hB := h0
  simp only [W.parB, Bool.and_eq_true, decide_eq_true_eq, List.all_eq_true] at hB
  have hn : n ≤ 7 := by have := hB.1.1; omega
  refine J.r hX tab_ok 400 (fun _ => rfl) fun b5 => ?_
  refine J.r hX tab_ok 400 (fun _ => rfl) fun b6 => ?_
  refine J.lo (α := (Nat × Nand × Int)) (fun z => z.1 ≤ n + 1 ∧ z.2.1.Gd (n + 1 - z.1) mm ∧ R.go b r ((R.job b r m l).drop z.1) z.2.1 z.2.2 = R.write N b r m l) (fun z => [⟨33, .int .i64 z.1, 0, .tt⟩, ⟨32, .int .i64 ((n : Int) + 1), 0, .tt⟩, ⟨14, .int .i64 z.2.2, 0, .tt⟩, ⟨12, .pointer (some ⟨bb 0, 0, none⟩), 4, .tt⟩, ⟨0, .pointer (some ⟨p, 0, none⟩), 2, .tt⟩, ⟨1, .int .i64 b, 0, .tt⟩, ⟨2, .int .i64 r, 0, .tt⟩, ⟨3, .int .i64 m, 0, .tt⟩, ⟨4, .slice a n cap, 0, .tt⟩]) [1] (fun z => [NandA p z.2.1]) (fun z => n + 1 - z.1) ((0, N, 0)) (⟨Nat.zero_le _, hG.less (by dsimp only; omega) (Nat.le_refl _), hw.symm⟩) rfl ?_ (fun _ => rfl) fun z hI => ?_
  · rfl
  obtain ⟨k, Nk, f⟩ := z
  dsimp only at hI ⊢
  obtain ⟨hI1, hI2, hI3⟩ := hI
  refine J.r hX tab_ok 400 (fun _ => rfl) fun b7 => ?_
  refine J.cond rfl (fun h1 => ?_) (fun h1 => ?_)
  · simp only [decide_eq_true_eq] at h1
    have h1 : k < n + 1 := by omega
    refine J.r hX tab_ok 400 (fun _ => rfl) fun b8 => ?_
    refine J.plan (.take true 0 (.take true 1 (.take true 2 (.take false 4 (.alt false 3 ((.of [22,24,31])) (.alt false 5 ((.of [14,24,31])) .non)))))) [7] [3] (by rw [hX.hP]; kernel_rfl) (by kernel_rfl) ?_
    refine J.join (α := Nat) (fun x => [⟨16, .int .i64 (G.parity m b r), 0, .tt⟩, ⟨17, .pointer (some ⟨x, 0, none⟩), 5, .tt⟩, ⟨15, .int .i64 k, 0, .tt⟩, ⟨33, .int .i64 k, 0, .tt⟩, ⟨32, .int .i64 ((n : Int) + 1), 0, .tt⟩, ⟨14, .int .i64 f, 0, .tt⟩, ⟨12, .pointer (some ⟨bb 0, 0, none⟩), 4, .tt⟩, ⟨0, .pointer (some ⟨p, 0, none⟩), 2, .tt⟩, ⟨1, .int .i64 b, 0, .tt⟩, ⟨2, .int .i64 r, 0, .tt⟩, ⟨3, .int .i64 m, 0, .tt⟩, ⟨4, .slice a n cap, 0, .tt⟩]) (fun x => [.hp F, NandA p Nk, A, .pt (bb 0) 137 (shL (W.par b r m l)), .pt x 137 (shL (W.par b r m l))]) (fun hj => ?_) (fun x => ?_)
    · skip
      refine J.r hX tab_ok 4 (fun _ => rfl) fun b9 => ?_
      refine J.alts ?_ ?_
      · skip
        refine J.r hX tab_ok 400 (fun _ => rfl) fun b10 => ?_
        refine J.ca hX (by kernel_rfl) (g_Parity m b r) [] 0 rfl rfl rfl rfl rfl rfl (fun _ => rfl) ?_
        rintro v As ⟨rfl, rfl⟩
        refine ⟨_, rfl, ⟨rfl, trivial⟩, ?_⟩
        refine J.r hX tab_ok 1 (fun _ => rfl) fun b5 => ?_
        refine J.r hX tab_ok 3 (fun _ => rfl) fun b11 => ?_
        exact J.goto [0, 1, 2, 3, 4] (hj (b5 0)) ⟨rfl, rfl, rfl, rfl, rfl, rfl, rfl, rfl, rfl, rfl, rfl, rfl, trivial⟩ rfl rfl
      · skip
        refine J.r hX tab_ok 1 (fun _ => rfl) fun b5 => ?_
        refine J.r hX tab_ok 400 (fun _ => rfl) fun b12 => ?_
        refine J.ca hX (by kernel_rfl) (g_Parity m b r) [] 0 rfl rfl rfl rfl rfl rfl (fun _ => rfl) ?_
        rintro v As ⟨rfl, rfl⟩
        refine ⟨_, rfl, ⟨rfl, trivial⟩, ?_⟩
        refine J.r hX tab_ok 3 (fun _ => rfl) fun b13 => ?_
        exact J.goto [0, 1, 2, 3, 4] (hj (b5 0)) ⟨rfl, rfl, rfl, rfl, rfl, rfl, rfl, rfl, rfl, rfl, rfl, rfl, trivial⟩ rfl rfl
    obtain ⟨⟨d, s⟩, hjob⟩ : ∃ x, (R.job b r m l)[k]? = some x := ⟨_, List.getElem?_eq_getElem (by rw [job_len]; omega)⟩
    have hsl : s.data.length = 16 := by
      by_cases hk : k < l.length
      · rw [job_at b r m l k hk] at hjob
        injection hjob with hjob; injection hjob with _ hjob
        rw [← hjob]
        refine hd _ ?_
        rw [List.getD_eq_getElem?_getD, List.getElem?_eq_getElem hk]; exact List.getElem_mem _
      · rw [show k = l.length by omega, job_last] at hjob
        injection hjob with hjob; injection hjob with _ hjob
        rw [← hjob]
        exact fold_len (fun t ht => by obtain ⟨e, he, rfl⟩ := List.mem_map.1 ht; exact hd e he) _ rfl
    refine J.r hX tab_ok 400 (fun _ => rfl) fun b14 => ?_
    refine J.join (α := Unit) (fun _ => [⟨16, .int .i64 d, 0, .tt⟩, ⟨17, .pointer (some ⟨x, 0, none⟩), 5, .tt⟩, ⟨33, .int .i64 k, 0, .tt⟩, ⟨32, .int .i64 ((n : Int) + 1), 0, .tt⟩, ⟨14, .int .i64 f, 0, .tt⟩, ⟨12, .pointer (some ⟨bb 0, 0, none⟩), 4, .tt⟩, ⟨0, .pointer (some ⟨p, 0, none⟩), 2, .tt⟩, ⟨1, .int .i64 b, 0, .tt⟩, ⟨2, .int .i64 r, 0, .tt⟩, ⟨3, .int .i64 m, 0, .tt⟩, ⟨4, .slice a n cap, 0, .tt⟩]) (fun _ => [.hp F, NandA p Nk, A, .pt (bb 0) 137 (shL (W.par b r m l)), .pt x 137 (shL s)]) (fun hj => ?_) (fun _ => ?_)
    · refine J.r hX tab_ok 400 (fun _ => rfl) fun b15 => ?_
      refine J.cond rfl (fun h2 => ?_) (fun h2 => ?_)
      · simp only [decide_eq_true_eq, Int.ofNat_lt] at h2
        have hkl : k < l.length := by omega
        rw [job_at b r m l k hkl] at hjob
        simp only [Option.some.injEq, Prod.mk.injEq] at hjob
        obtain ⟨hd1, hs1⟩ := hjob
        have hget : l[k]? = some (l.getD k En.zero) := by rw [List.getD_eq_getElem?_getD, List.getElem?_eq_getElem hkl, Option.getD_some]
        have hel : (l.getD k En.zero).data.length = 16 := hd _ (List.mem_of_getElem? hget)
        have hok : W.ok b r m (l.getD k En.zero) = true := hB.2 _ (List.mem_of_getElem? hget)
        refine J.r hX tab_ok 400 (fun _ => rfl) fun b16 => ?_
        refine J.r hX tab_ok 400 (fun _ => rfl) fun b17 => ?_
        refine J.ca hX (by kernel_rfl) (g_Die m b r k (by omega) (by omega)) [] 0 rfl rfl rfl rfl rfl rfl (fun _ => rfl) ?_
        rintro v As ⟨rfl, rfl⟩
        refine ⟨_, rfl, trivial, ?_⟩
        refine J.know (p := ∃ g o, a = some ⟨g, o, none⟩) (fun h' s => Rd.addr (hA _ (s.get (i := 2) rfl)) (by omega)) fun hk => ?_
        obtain ⟨g, o, rfl⟩ := hk
        refine J.r hX tab_ok 400 (fun _ => rfl) fun b18 => ?_
        refine J.val hX (enV (l.getD k En.zero)) 0 rfl rfl (fun hg a w he hw => ?_) rfl trivial ?_
        · exact rdN_run tab_ok rfl rfl he rfl rfl rfl (hA _ (hw.get (i := 2) rfl)) (by omega) (j := k * 19) (by omega) (by have := cellsE_at l [] k _ hget; rwa [List.append_nil] at this) rfl
        refine J.r hX tab_ok 400 (fun _ => rfl) fun b19 => ?_
        refine J.r hX tab_ok 400 (fun _ => rfl) fun b20 => ?_
        refine J.ca hX (by kernel_rfl) (w_Own b r m (l.getD k En.zero) hel) [] 0 rfl rfl rfl rfl rfl rfl (fun _ => rfl) ?_
        rintro v As ⟨rfl, rfl⟩
        refine ⟨_, rfl, trivial, ?_⟩
        rw [show W.own b r m (l.getD k En.zero) = s from by rw [W.own, if_pos hok, hs1], hd1]
        refine J.r hX tab_ok 5 (fun _ => rfl) fun b21 => ?_
        exact J.goto [0, 1, 2, 3, 4] (hj ()) ⟨rfl, rfl, rfl, rfl, rfl, rfl, rfl, rfl, rfl, rfl, rfl, trivial⟩ rfl rfl
      · simp only [decide_eq_false_iff_not, Int.ofNat_lt] at h2
        have hkl : k = l.length := by omega
        rw [hkl, job_last] at hjob
        simp only [Option.some.injEq, Prod.mk.injEq] at hjob
        obtain ⟨hd1, hs1⟩ := hjob
        rw [hd1, show W.par b r m l = s from by rw [W.par, if_pos h0, hs1]] at *
        refine J.r hX tab_ok 1 (fun _ => rfl) fun b22 => ?_
        exact J.goto [0, 1, 2, 3, 4] (hj ()) ⟨rfl, rfl, rfl, rfl, rfl, rfl, rfl, rfl, rfl, rfl, rfl, trivial⟩ rfl rfl
    have hj2 := job_drop hjob
    rw [hj2] at hI3
    rw [R.go] at hI3
    have hG0 : Nk.Gd (n - k + 1) mm := hI2.less (by omega) (Nat.le_refl _)
    have hG1 : (Nk.progN d b r (putP s)).Gd (n + 1 - (k + 1)) mm := (hG0.prog d b r _ (putP_len s hsl)).less (by omega) (Nat.le_refl _)
    refine J.r hX tab_ok 400 (fun _ => rfl) fun b23 => ?_
    refine J.r hX tab_ok 400 (fun _ => rfl) fun b24 => ?_
    refine J.ca hX (by kernel_rfl) (h_Put s hsl) [] 0 rfl rfl rfl rfl rfl rfl (fun _ => rfl) ?_
    rintro v As ⟨rfl, rfl⟩
    refine ⟨_, rfl, trivial, ?_⟩
    refine J.r hX tab_ok 400 (fun _ => rfl) fun b25 => ?_
    refine J.r hX tab_ok 400 (fun _ => rfl) fun b26 => ?_
    refine J.ca hX (by kernel_rfl) (n_Program p Nk hI2.ok hI2.room d b r (putP s) (putP_len s hsl)) [1] 0 rfl rfl rfl rfl rfl rfl (fun _ => rfl) ?_
    rintro v As ⟨rfl, rfl⟩
    refine ⟨_, rfl, trivial, ?_⟩
    refine J.r hX tab_ok 400 (fun _ => rfl) fun b27 => ?_
    refine J.cond rfl (fun h3 => ?_) (fun h3 => ?_)
    · simp only [beq_iff_eq] at h3
      rw [if_pos h3] at hI3
      refine J.r hX tab_ok 400 (fun _ => rfl) fun b28 => ?_
      refine J.r hX tab_ok 400 (fun _ => rfl) fun b29 => ?_
      refine J.nS ((k + 1, Nk.progN d b r (putP s), f)) (⟨by dsimp only; omega, hG1, hI3⟩) (by dsimp only; omega) [0, 1, 2, 3] rfl rfl
    · simp only [beq_eq_false_iff_ne, ne_eq] at h3
      rw [if_neg h3] at hI3
      refine J.r hX tab_ok 400 (fun _ => rfl) fun b30 => ?_
      refine J.cond rfl (fun h4 => ?_) (fun h4 => ?_)
      · simp only [beq_iff_eq] at h4
        rw [if_pos h4] at hI3
        refine J.r hX tab_ok 400 (fun _ => rfl) fun b31 => ?_
        refine J.rt hX tab_ok [1, 2] rfl rfl rfl ?_
        rw [← hI3]
        exact ⟨rfl, rfl⟩
      · simp only [beq_eq_false_iff_ne, ne_eq] at h4
        rw [if_neg h4] at hI3
        refine J.r hX tab_ok 400 (fun _ => rfl) fun b32 => ?_
        refine J.r hX tab_ok 400 (fun _ => rfl) fun b33 => ?_
        refine J.ca hX (by kernel_rfl) (l_With f d) [] 0 rfl rfl rfl rfl rfl rfl (fun _ => rfl) ?_
        rintro v As ⟨rfl, rfl⟩
        refine ⟨_, rfl, trivial, ?_⟩
        refine J.r hX tab_ok 400 (fun _ => rfl) fun b34 => ?_
        refine J.r hX tab_ok 400 (fun _ => rfl) fun b35 => ?_
        refine J.nS ((k + 1, Nk.progN d b r (putP s), L.with_ f d)) (⟨by dsimp only; omega, hG1, hI3⟩) (by dsimp only; omega) [0, 1, 2, 3] rfl rfl
  · simp only [decide_eq_false_iff_not] at h1
    have : k = n + 1 := by omega
    subst this
    rw [List.drop_of_length_le (by rw [job_len]; omega), R.go] at hI3
    refine J.r hX tab_ok 400 (fun _ => rfl) fun b36 => ?_
    refine J.cond rfl (fun h5 => ?_) (fun h5 => ?_)
    · simp only [bne_iff_ne, ne_eq] at h5
      rw [if_neg h5] at hI3
      refine J.r hX tab_ok 400 (fun _ => rfl) fun b37 => ?_
      refine J.rt hX tab_ok [1, 2] rfl rfl rfl ?_
      rw [← hI3]
      exact ⟨rfl, rfl⟩
    · simp only [bne_eq_false_iff_eq] at h5
      rw [if_pos h5] at hI3
      refine J.r hX tab_ok 400 (fun _ => rfl) fun b38 => ?_
      refine J.rt hX tab_ok [1, 2] rfl rfl rfl ?_
      rw [← hI3, h5]
      exact ⟨rfl, rfl⟩
end Go.Proofs.YtoideahgjgaddaaGreat
/- Walks: weave.Back. -/
namespace Go.Proofs.YtoideahgjgaddaaGreat
open Go Go.RowKit
/-- what stands ahead of the sum -/
def W.backC (p : Sh) (l : List Sh) : Bool := p.kind == 2 && S.may p && !l.any (alien p) && decide ((l.length : Int) = G.slots p.mask - 1)
def idxS (p : Sh → Bool) (l : List Sh) : Int := match l.findIdx? p with
  | some k => k
  | none => -1
theorem idxS_step {p : Sh → Bool} {l : List Sh} {k : Nat} {x : Sh} (h : l[k]? = some x) (h0 : ∀ i < k, p (l.getD i Sh.zero) = false) (hp : p x = true) : l.findIdx? p = some k := by
  rw [List.findIdx?_eq_some_iff_getElem]
  obtain ⟨h1, h2⟩ := List.getElem?_eq_some_iff.1 h
  refine ⟨h1, by rw [h2]; exact hp, fun j hj => ?_⟩
  have := h0 j hj
  rw [List.getD_eq_getElem?_getD, List.getElem?_eq_getElem (by omega), Option.getD_some] at this
  simp [this]
theorem idxS_none {p : Sh → Bool} {l : List Sh} (h0 : ∀ i < l.length, p (l.getD i Sh.zero) = false) : l.findIdx? p = none := by
  rw [List.findIdx?_eq_none_iff]
  intro x hx
  obtain ⟨i, hi, rfl⟩ := List.mem_iff_getElem.1 hx
  have := h0 i hi
  rwa [List.getD_eq_getElem?_getD, List.getElem?_eq_getElem hi, Option.getD_some] at this
theorem idxS_any (p : Sh → Bool) (l : List Sh) : decide (idxS p l ≥ 0) = l.any p := by
  unfold idxS
  cases h : l.findIdx? p with
  | none =>
    rw [List.findIdx?_eq_none_iff] at h
    have : l.any p = false := by rw [List.any_eq_false]; exact fun x hx => by simp [h x hx]
    rw [this]; rfl
  | some k =>
    rw [List.findIdx?_eq_some_iff_getElem] at h
    obtain ⟨h1, h2, _⟩ := h
    have : l.any p = true := List.any_eq_true.2 ⟨l[k], List.getElem_mem _, h2⟩
    rw [this]; simp
theorem x_IndexS (c : Nat) (cs : List Value) (p : Sh → Bool) (A : Atom) (hcal : callable Tryz.prog c = true) (l : List Sh) (hf : ∀ x ∈ l, Fn Tryz.prog c (shV x :: cs) [A] (fun v As => v = .bool (p x) ∧ As = [A]))
    (a : Option Nat) (n cap : Nat) (hl : l.length = n) (hn : n ≤ 4611686018427387904) : Fn Tryz.prog 216 [slv a n cap, fnC c cs] [ownA 137 23 a n cap (cellsS l), A]
    (fun v As => v = .int .i64 (idxS p l) ∧ As = [ownA 137 23 a n cap (cellsS l), A]) := by
  refine Fn.enter [0, 0] Tryz.func216 rfl rfl rfl fun X F hX => ?_
  refine J.r hX tab_ok 400 (fun _ => rfl) fun b1 => ?_
  refine J.r hX tab_ok 400 (fun _ => rfl) fun b2 => ?_
  refine J.lo (α := Nat) (fun k => k ≤ n ∧ ∀ i < k, p (l.getD i Sh.zero) = false) (fun k => [⟨8, .int .i64 k, 0, .tt⟩, ⟨7, .int .i64 n, 0, .tt⟩, ⟨0, slv a n cap, 0, .tt⟩, ⟨1, fnC c cs, 0, .tt⟩]) [] (fun k => []) (fun k => n - k) (0) (⟨by omega, by omega⟩) rfl ?_ (fun _ => rfl) fun k hI => ?_
  · rfl
  refine J.r hX tab_ok 400 (fun _ => rfl) fun b3 => ?_
  refine J.cond rfl (fun h1 => ?_) (fun h1 => ?_)
  · simp only [decide_eq_true_eq, Int.ofNat_lt] at h1
    cases a with
    | none =>
      refine J.know (fun h' s => (s.get (i := 1) rfl).2.1) fun hn0 => ?_
      omega
    | some g =>
      have hk : l[k]? = some (l.getD k Sh.zero) := by rw [List.getD_eq_getElem?_getD, List.getElem?_eq_getElem (by omega), Option.getD_some]
      refine J.r hX tab_ok 400 (fun _ => rfl) fun b4 => ?_
      refine J.val hX (shV (l.getD k Sh.zero)) 0 rfl rfl (fun hg a w he hs => ?_) rfl trivial ?_
      · exact ownN_run tab_ok rfl rfl he rfl rfl rfl (hs.get (i := 1) rfl) (by rw [show 0 + (k : Int).toNat * 23 = k * 23 from by omega]; have := cellsS_at l [] k _ hk; rwa [List.append_nil] at this) rfl
      refine J.r hX tab_ok 400 (fun _ => rfl) fun b5 => ?_
      refine J.call hX hcal (hf (l.getD k Sh.zero) (List.mem_of_getElem? hk)) [2] 0 rfl rfl rfl rfl (by (repeat' (first | exact Conj.nil | refine Conj.cons ?_ ?_ | omega | exact hq0 | (simpa using hq0) | (exact fun h => h) | exact rfl | (intro hq; have hq0 := hq; try simp only [Bool.and_eq_true, Bool.or_eq_true, decide_eq_true_eq, Bool.not_eq_true', decide_eq_false_iff_not] at hq) | (simp; done) | (simp; omega) | decide))) rfl rfl (fun _ => rfl) ?_
      rintro v As ⟨rfl, rfl⟩
      refine ⟨_, rfl, trivial, ?_⟩
      refine J.r hX tab_ok 400 (fun _ => rfl) fun b6 => ?_
      refine J.cond rfl (fun h2 => ?_) (fun h2 => ?_)
      · refine J.r hX tab_ok 400 (fun _ => rfl) fun b7 => ?_
        refine J.rt hX tab_ok [1, 2] rfl rfl rfl ?_
        exact ⟨by rw [idxS, idxS_step hk hI.2 h2], rfl⟩
      · refine J.r hX tab_ok 400 (fun _ => rfl) fun b8 => ?_
        refine J.nx (k + 1) (⟨by omega, fun i hi => by
          rcases Nat.lt_succ_iff_lt_or_eq.1 hi with h3 | h3
          · exact hI.2 i h3
          · rw [h3]; exact h2⟩) (by omega) (fun _ s => s)
  · simp only [decide_eq_false_iff_not, Int.ofNat_lt] at h1
    refine J.r hX tab_ok 400 (fun _ => rfl) fun b9 => ?_
    refine J.rt hX tab_ok [1, 2] rfl rfl rfl ?_
    exact ⟨by rw [idxS, idxS_none (fun i hi => hI.2 i (by omega))], rfl⟩
theorem x_ContainsS (c : Nat) (cs : List Value) (p : Sh → Bool) (A : Atom) (hcal : callable Tryz.prog c = true) (l : List Sh) (hf : ∀ x ∈ l, Fn Tryz.prog c (shV x :: cs) [A] (fun v As => v = .bool (p x) ∧ As = [A]))
    (a : Option Nat) (n cap : Nat) (hl : l.length = n) (hn : n ≤ 4611686018427387904) : Fn Tryz.prog 184 [slv a n cap, fnC c cs] [ownA 137 23 a n cap (cellsS l), A]
    (fun v As => v = .bool (l.any p) ∧ As = [ownA 137 23 a n cap (cellsS l), A]) := by
  refine Fn.enter [0, 0] Tryz.func184 rfl rfl rfl fun X F hX => ?_
  refine J.r hX tab_ok 400 (fun _ => rfl) fun b10 => ?_
  refine J.r hX tab_ok 400 (fun _ => rfl) fun b11 => ?_
  refine J.ca hX (by kernel_rfl) (x_IndexS c cs p A hcal l hf a n cap hl hn) [1, 2] 0 rfl rfl rfl rfl rfl rfl (fun _ => rfl) ?_
  rintro v As ⟨rfl, rfl⟩
  refine ⟨_, rfl, trivial, ?_⟩
  refine J.r hX tab_ok 400 (fun _ => rfl) fun b12 => ?_
  refine J.rt hX tab_ok [1, 2] rfl rfl rfl ?_
  exact ⟨by rw [← idxS_any], rfl⟩
theorem cellsS_one (l : List Sh) : ∀ u ∈ cellsS l, u.oneCell' = true := by
  intro u hu
  simp only [cellsS, List.mem_flatMap] at hu
  obtain ⟨s, _, hu⟩ := hu
  simp only [shL, List.mem_cons, List.not_mem_nil, or_false] at hu
  rcases hu with rfl | rfl | rfl | rfl | rfl | rfl | rfl | rfl | rfl | rfl | rfl | rfl | rfl | rfl | rfl | rfl | rfl | rfl | rfl | rfl | rfl | rfl | rfl <;> rfl
theorem x_CloneS (a : Option Nat) (n cap : Nat) (l : List Sh) (hl : l.length = n) (hn : n ≤ 1000000) : Fn Tryz.prog 186 [slv a n cap] [ownA 137 23 a n cap (cellsS l)]
    (fun v As => ∃ a' c', v = slv a' n c' ∧ As = [ownA 137 23 a n cap (cellsS l), ownA 137 23 a' n c' (cellsS l)]) := by
  refine Fn.enter [0] Tryz.func186 rfl rfl rfl fun X F hX => ?_
  cases a with
  | none =>
    refine J.know (fun h' s => (s.get (i := 1) rfl).2) fun hn0 => ?_
    obtain ⟨rfl, rfl⟩ := hn0
    have : l = [] := List.eq_nil_of_length_eq_zero hl
    subst this
    refine J.r hX tab_ok 400 (fun _ => rfl) fun b13 => ?_
    refine J.cond rfl (fun _ => ?_) (fun h => by simp at h)
    refine J.turn1 [] rfl (As := [ownA 137 23 none 0 0 (cellsS [])]) (fun h s => Sep.one ⟨rfl, rfl, rfl⟩) rfl ?_
    refine J.r hX tab_ok 400 (fun _ => rfl) fun b14 => ?_
    refine J.rt hX tab_ok [1, 2] rfl rfl rfl ?_
    exact ⟨none, 0, rfl, rfl⟩
  | some g =>
    refine J.r hX tab_ok 400 (fun _ => rfl) fun b15 => ?_
    refine J.cond rfl (fun h => by simp at h) (fun _ => ?_)
    refine J.r hX tab_ok 5 (fun _ => rfl) fun bb => ?_
    refine J.closeOwn (e := 137) (size := 23) (n := 0) (cap := 0) (xs := []) 2 rfl rfl rfl (Nat.le_refl _) (Nat.zero_le _) rfl rfl rfl ?_
    refine J.r hX tab_ok 400 (fun _ => rfl) fun b16 => ?_
    refine J.appendR hX tab_ok (a := some (bb 0)) (n := 0) (cap := 0) (xs := []) (oo := 0) (Ay := ownA 137 23 (some g) n cap (cellsS l)) 2 1 0 rfl rfl rfl rfl rfl rfl rfl rfl rfl rfl (own_rd _ _ (some g) _ _ _) rfl rfl rfl rfl (cellsS_one l) ?_ ?_ (fun _ => rfl) fun a' c' => ⟨_, rfl, trivial, ?_⟩
    · simp only [maxLen]; omega
    · omega
    rw [Nat.zero_add n, List.nil_append]
    refine J.r hX tab_ok 400 (fun _ => rfl) fun b17 => ?_
    refine J.rt hX tab_ok [1, 2] rfl rfl rfl ?_
    exact ⟨a', c', rfl, rfl⟩
theorem w_Back1 (b2 : Nat) (p s : Sh) (h : s.data.length = 16) : Fn Tryz.prog 185 [shV s, .pointer (some ⟨b2, 0, none⟩)] [.pt b2 137 (shL p)] (fun v As => v = .bool (W.alien p s) ∧ As = [.pt b2 137 (shL p)]) := by
  refine Fn.enter [0, 2] Tryz.func185 rfl rfl rfl fun X F hX => ?_
  refine J.r hX tab_ok 400 (fun _ => rfl) fun b18 => ?_
  refine J.gcase hX rfl rfl rfl trivial (fun hb => ?_) (fun hb => ?_)
  · have hb2 : (s.kind != 1) = false := by rwa [Bool.not_eq_true'] at hb
    rw [hb2]
    refine J.r hX tab_ok 400 (fun _ => rfl) fun b19 => ?_
    refine J.ca hX (by kernel_rfl) (h_May s h) [] 0 rfl rfl rfl rfl rfl rfl (fun _ => rfl) ?_
    rintro v As ⟨rfl, rfl⟩
    refine ⟨_, rfl, trivial, ?_⟩
    refine J.r hX tab_ok 400 (fun _ => rfl) fun b20 => ?_
    refine J.rt hX tab_ok [1] rfl rfl rfl ?_
    exact ⟨by simp only [W.alien]; rw [hb2], rfl⟩
  · have hb2 : (s.kind != 1) = true := by rwa [Bool.not_eq_false'] at hb
    rw [hb2]
    refine J.r hX tab_ok 400 (fun _ => rfl) fun b21 => ?_
    refine J.val hX (.bool false) 0 rfl rfl (fun hg a w he hw => by simp [G.on] at hg) rfl trivial ?_
    refine J.r hX tab_ok 400 (fun _ => rfl) fun b22 => ?_
    refine J.rt hX tab_ok [1] rfl rfl rfl ?_
    exact ⟨by simp only [W.alien]; rw [hb2]; simp, rfl⟩
theorem over_len {l : List Sh} (hd : ∀ s ∈ l, s.data.length = 16) : (W.over l).1.length = 16 := fold_len hd _ rfl
theorem w_Back (p : Sh) (hp : p.data.length = 16) (a : Option Nat) (n cap : Nat) (l : List Sh) (hl : l.length = n) (hn : n ≤ 100) (hd : ∀ s ∈ l, s.data.length = 16) : Fn Tryz.prog 134 [shV p, slv a n cap] [ownA 137 23 a n cap (cellsS l)]
    (fun v As => v = .tuple #[enV (W.back p l), .bool (W.backB p l)] ∧ As = [ownA 137 23 a n cap (cellsS l)]) := by
  have hsb := gslots_bd p.mask
  have hdp : ∀ s ∈ l ++ [p], s.data.length = 16 := fun s hs => by
    rw [List.mem_append, List.mem_singleton] at hs
    rcases hs with hs | rfl
    · exact hd s hs
    · exact hp
  have key : ∀ (b : Bool), W.backB p l = b → W.back p l = if b then W.backS p l else En.zero := fun b hb => by rw [W.back, hb]
  refine Fn.enter [0, 0] Tryz.func134 rfl rfl rfl fun X F hX => ?_
  refine J.r hX tab_ok 400 (fun _ => rfl) fun bb => ?_
  refine J.r hX tab_ok 400 (fun _ => rfl) fun b23 => ?_
  refine J.ca hX (by kernel_rfl) (x_ContainsS 185 [.pointer (some ⟨bb 0, 0, none⟩)] (W.alien p) _ (by kernel_rfl) l (fun x hx => w_Back1 (bb 0) p x (hd x hx)) a n cap hl (by omega)) [1, 2] 0 rfl rfl rfl rfl rfl rfl (fun _ => rfl) ?_
  rintro v As ⟨rfl, rfl⟩
  refine ⟨_, rfl, trivial, ?_⟩
  refine J.r hX tab_ok 400 (fun _ => rfl) fun b24 => ?_
  refine J.join (α := Unit) (fun _ => [⟨34, .bool (!W.backC p l), 0, .tt⟩, ⟨1, slv a n cap, 0, .tt⟩, ⟨5, .bool false, 0, .tt⟩, ⟨2, .pointer (some ⟨bb 0, 0, none⟩), 3, .tt⟩, ⟨4, .pointer (some ⟨bb (0 + 1), 0, none⟩), 4, .tt⟩]) (fun _ => [.hp F, ownA 137 23 a n cap (cellsS l), .pt (bb 0) 137 (shL p), .pt (bb (0 + 1)) 45 (enL En.zero)]) (fun hj => ?_) (fun _ => ?_)
  · have hnil : ∀ b : Bool, (!W.backC p l) = b → ∀ x : Bool, b = x → (!W.backC p l) = x := fun b h x e => h.trans e
    have hC : (!W.backC p l) = ((p.kind != 2) || !S.may p || l.any (W.alien p) || ((n : Int) != G.slots p.mask - 1)) := by
      simp only [W.backC, Bool.not_and, Bool.not_not, hl, bne]
      congr 1
    refine J.gcase hX rfl rfl rfl trivial (fun hb => ?_) (fun hb => ?_)
    · have hb2 : (p.kind != 2) = false := by rwa [Bool.not_eq_true'] at hb
      rw [hb2] at hC ⊢
      refine J.r hX tab_ok 400 (fun _ => rfl) fun b25 => ?_
      refine J.ca hX (by kernel_rfl) (h_May p hp) [] 0 rfl rfl rfl rfl rfl rfl (fun _ => rfl) ?_
      rintro v As ⟨rfl, rfl⟩
      refine ⟨_, rfl, trivial, ?_⟩
      refine J.r hX tab_ok 400 (fun _ => rfl) fun b26 => ?_
      refine J.gcase hX rfl rfl rfl trivial (fun hb => ?_) (fun hb => ?_)
      · have hb3 : (false || !S.may p || l.any (W.alien p)) = false := by rwa [Bool.not_eq_true'] at hb
        rw [hb3] at hC ⊢
        refine J.r hX tab_ok 400 (fun _ => rfl) fun b27 => ?_
        refine J.ca hX (by kernel_rfl) (g_Slots p.mask) [] 0 rfl rfl rfl rfl rfl rfl (fun _ => rfl) ?_
        rintro v As ⟨rfl, rfl⟩
        refine ⟨_, rfl, trivial, ?_⟩
        refine J.r hX tab_ok 400 (fun _ => rfl) fun b28 => ?_
        exact J.goto [0, 1, 2, 3] (hj ()) ⟨congrArg (fun b => some (Value.bool b)) hC.symm, rfl, rfl, rfl, rfl, trivial⟩ rfl rfl
      · have hb3 : (false || !S.may p || l.any (W.alien p)) = true := by rwa [Bool.not_eq_false'] at hb
        rw [hb3] at hC ⊢
        refine J.r hX tab_ok 400 (fun _ => rfl) fun b29 => ?_
        refine J.val hX (.int .i64 0) 0 rfl rfl (fun hg a w he hw => by simp [G.on] at hg) rfl trivial ?_
        refine J.r hX tab_ok 400 (fun _ => rfl) fun b30 => ?_
        exact J.goto [0, 1, 2, 3] (hj ()) ⟨congrArg (fun b => some (Value.bool b)) (show _ = !W.backC p l from by rw [hC]; rfl), rfl, rfl, rfl, rfl, trivial⟩ rfl rfl
    · have hb2 : (p.kind != 2) = true := by rwa [Bool.not_eq_false'] at hb
      rw [hb2] at hC ⊢
      refine J.r hX tab_ok 400 (fun _ => rfl) fun b31 => ?_
      refine J.val hX (.bool false) 0 rfl rfl (fun hg a w he hw => by simp [G.on] at hg) rfl trivial ?_
      refine J.r hX tab_ok 400 (fun _ => rfl) fun b32 => ?_
      refine J.gcase hX rfl rfl rfl trivial (fun hb => by simp at hb) (fun hb => ?_)
      refine J.r hX tab_ok 400 (fun _ => rfl) fun b33 => ?_
      refine J.val hX (.int .i64 0) 0 rfl rfl (fun hg a w he hw => by simp [G.on] at hg) rfl trivial ?_
      refine J.r hX tab_ok 400 (fun _ => rfl) fun b34 => ?_
      exact J.goto [0, 1, 2, 3] (hj ()) ⟨congrArg (fun b => some (Value.bool b)) (show _ = !W.backC p l from by rw [hC]; rfl), rfl, rfl, rfl, rfl, trivial⟩ rfl rfl
  refine J.r hX tab_ok 400 (fun _ => rfl) fun b35 => ?_
  refine J.cond rfl (fun h1 => ?_) (fun h1 => ?_)
  · have hB : W.backB p l = false := by
      have : W.backB p l = (W.backC p l && W.ok p.block p.row p.mask (W.backS p l)) := rfl
      rw [this, show W.backC p l = false from by simpa using h1]; rfl
    refine J.r hX tab_ok 400 (fun _ => rfl) fun b36 => ?_
    refine J.rt hX tab_ok [1] rfl rfl rfl ?_
    exact ⟨by rw [key _ hB, hB]; rfl, rfl⟩
  have h2 : W.backC p l = true := by simpa using h1
  have hB : W.backB p l = W.ok p.block p.row p.mask (W.backS p l) := by
    have : W.backB p l = (W.backC p l && W.ok p.block p.row p.mask (W.backS p l)) := rfl
    rw [this, h2]; rfl
  refine J.r hX tab_ok 400 (fun _ => rfl) fun b37 => ?_
  refine J.plan (.take true 0 (.take false 2 (.alt false 1 ((.alt false 3 ((.alt false 4 ((.alt false 5 ((.of [24,28,32,38,42,44])) (.alt false 9 ((.of [22,24,28,32,42,44])) .non))) (.alt false 9 ((.of [18,22,24,28,32,42,44])) .non))) (.alt false 9 ((.of [14,18,22,24,28,32,42,44])) .non))) (.alt false 3 ((.alt false 1 ((.alt false 4 ((.alt false 5 ((.of [24,28,32,38,42,44])) (.alt false 9 ((.of [22,24,28,32,42,44])) .non))) (.alt false 9 ((.of [18,22,24,28,32,42,44])) .non))) (.alt false 9 ((.of [6,18,22,24,28,32,42,44])) .non))) (.alt false 9 ((.alt false 1 ((.of [14,18,22,24,28,32,42,44])) (.alt false 3 ((.of [6,18,22,24,28,32,42,44])) .non))) .non))))) [11] [2] (by rw [hX.hP]; kernel_rfl) (by kernel_rfl) ?_
  refine J.join (α := Nat) (fun x => [⟨7, .pointer (some ⟨x, 0, none⟩), 5, .tt⟩, ⟨8, .int .u64 (W.over (l ++ [p])).2, 0, .tt⟩, ⟨2, .pointer (some ⟨bb 0, 0, none⟩), 3, .tt⟩, ⟨4, .pointer (some ⟨bb (0 + 1), 0, none⟩), 4, .tt⟩]) (fun x => [.hp F, ownA 137 23 a n cap (cellsS l), .pt (bb 0) 137 (shL p), .pt (bb (0 + 1)) 45 (enL En.zero), .pt x 43 (dataC (W.over (l ++ [p])).1)]) (fun hj => ?_) (fun x => ?_)
  · skip
    refine J.r hX tab_ok 2 (fun _ => rfl) fun b38 => ?_
    refine J.alts ?_ (J.alts ?_ ?_)
    · skip
      refine J.r hX tab_ok 400 (fun _ => rfl) fun b39 => ?_
      refine J.ca hX (by kernel_rfl) (x_CloneS a n cap l hl (by omega)) [1] 0 rfl rfl rfl rfl rfl rfl (fun _ => rfl) ?_
      rintro v As ⟨a1, c1, rfl, rfl⟩
      refine ⟨_, rfl, ⟨rfl, trivial⟩, ?_⟩
      refine J.alts ?_ ?_
      · skip
        refine J.r hX tab_ok 1 (fun _ => rfl) fun b3 => ?_
        refine J.alts ?_ ?_
        · skip
          refine J.append hX tab_ok 4 5 0 rfl rfl rfl rfl rfl rfl rfl rfl rfl rfl rfl rfl rfl rfl rfl rfl ?_ ?_ (fun _ => rfl) fun a2 c2 => ⟨_, (congrArg (fun z => lset _ 4 (ownA _ _ _ _ _ z)) (cellsS_snoc l p).symm).trans rfl, ⟨rfl, trivial⟩, ?_⟩
          · simp only [maxLen]; omega
          · omega
          refine J.alts ?_ ?_
          · skip
            refine J.r hX tab_ok 400 (fun _ => rfl) fun b40 => ?_
            refine J.ca hX (by kernel_rfl) (w_Over a2 (n + 1) c2 (l ++ [p]) (by simp [hl]) (by omega) hdp) [4] 0 rfl rfl rfl rfl rfl rfl (fun _ => rfl) ?_
            rintro v As ⟨rfl, rfl⟩
            refine ⟨_, rfl, ⟨rfl, trivial⟩, ?_⟩
            refine J.r hX tab_ok 3 (fun _ => rfl) fun b41 => ?_
            refine J.r hX tab_ok 1 (fun _ => rfl) fun b9 => ?_
            refine J.r hX tab_ok 3 (fun _ => rfl) fun b42 => ?_
            exact J.goto [0, 1, 2, 3, 6] (hj (b9 0)) ⟨rfl, rfl, rfl, rfl, trivial⟩ rfl rfl
          · skip
            refine J.r hX tab_ok 1 (fun _ => rfl) fun b9 => ?_
            refine J.r hX tab_ok 400 (fun _ => rfl) fun b43 => ?_
            refine J.ca hX (by kernel_rfl) (w_Over a2 (n + 1) c2 (l ++ [p]) (by simp [hl]) (by omega) hdp) [4] 0 rfl rfl rfl rfl rfl rfl (fun _ => rfl) ?_
            rintro v As ⟨rfl, rfl⟩
            refine ⟨_, rfl, ⟨rfl, trivial⟩, ?_⟩
            refine J.r hX tab_ok 6 (fun _ => rfl) fun b44 => ?_
            exact J.goto [0, 1, 2, 3, 6] (hj (b9 0)) ⟨rfl, rfl, rfl, rfl, trivial⟩ rfl rfl
        · skip
          refine J.r hX tab_ok 1 (fun _ => rfl) fun b9 => ?_
          refine J.append hX tab_ok 4 5 0 rfl rfl rfl rfl rfl rfl rfl rfl rfl rfl rfl rfl rfl rfl rfl rfl ?_ ?_ (fun _ => rfl) fun a2 c2 => ⟨_, (congrArg (fun z => lset _ 4 (ownA _ _ _ _ _ z)) (cellsS_snoc l p).symm).trans rfl, ⟨rfl, trivial⟩, ?_⟩
          · simp only [maxLen]; omega
          · omega
          refine J.r hX tab_ok 400 (fun _ => rfl) fun b45 => ?_
          refine J.ca hX (by kernel_rfl) (w_Over a2 (n + 1) c2 (l ++ [p]) (by simp [hl]) (by omega) hdp) [4] 0 rfl rfl rfl rfl rfl rfl (fun _ => rfl) ?_
          rintro v As ⟨rfl, rfl⟩
          refine ⟨_, rfl, ⟨rfl, trivial⟩, ?_⟩
          refine J.r hX tab_ok 6 (fun _ => rfl) fun b46 => ?_
          exact J.goto [0, 1, 2, 3, 6] (hj (b9 0)) ⟨rfl, rfl, rfl, rfl, trivial⟩ rfl rfl
      · skip
        refine J.r hX tab_ok 1 (fun _ => rfl) fun b9 => ?_
        refine J.r hX tab_ok 1 (fun _ => rfl) fun b3 => ?_
        refine J.append hX tab_ok 4 6 0 rfl rfl rfl rfl rfl rfl rfl rfl rfl rfl rfl rfl rfl rfl rfl rfl ?_ ?_ (fun _ => rfl) fun a2 c2 => ⟨_, (congrArg (fun z => lset _ 4 (ownA _ _ _ _ _ z)) (cellsS_snoc l p).symm).trans rfl, ⟨rfl, trivial⟩, ?_⟩
        · simp only [maxLen]; omega
        · omega
        refine J.r hX tab_ok 400 (fun _ => rfl) fun b47 => ?_
        refine J.ca hX (by kernel_rfl) (w_Over a2 (n + 1) c2 (l ++ [p]) (by simp [hl]) (by omega) hdp) [4] 0 rfl rfl rfl rfl rfl rfl (fun _ => rfl) ?_
        rintro v As ⟨rfl, rfl⟩
        refine ⟨_, rfl, ⟨rfl, trivial⟩, ?_⟩
        refine J.r hX tab_ok 6 (fun _ => rfl) fun b48 => ?_
        exact J.goto [0, 1, 2, 3, 5] (hj (b9 0)) ⟨rfl, rfl, rfl, rfl, trivial⟩ rfl rfl
    · skip
      refine J.r hX tab_ok 1 (fun _ => rfl) fun b3 => ?_
      refine J.alts ?_ ?_
      · skip
        refine J.r hX tab_ok 400 (fun _ => rfl) fun b49 => ?_
        refine J.ca hX (by kernel_rfl) (x_CloneS a n cap l hl (by omega)) [1] 0 rfl rfl rfl rfl rfl rfl (fun _ => rfl) ?_
        rintro v As ⟨a1, c1, rfl, rfl⟩
        refine ⟨_, rfl, ⟨rfl, trivial⟩, ?_⟩
        refine J.alts ?_ ?_
        · skip
          refine J.append hX tab_ok 5 4 0 rfl rfl rfl rfl rfl rfl rfl rfl rfl rfl rfl rfl rfl rfl rfl rfl ?_ ?_ (fun _ => rfl) fun a2 c2 => ⟨_, (congrArg (fun z => lset _ 5 (ownA _ _ _ _ _ z)) (cellsS_snoc l p).symm).trans rfl, ⟨rfl, trivial⟩, ?_⟩
          · simp only [maxLen]; omega
          · omega
          refine J.alts ?_ ?_
          · skip
            refine J.r hX tab_ok 400 (fun _ => rfl) fun b50 => ?_
            refine J.ca hX (by kernel_rfl) (w_Over a2 (n + 1) c2 (l ++ [p]) (by simp [hl]) (by omega) hdp) [5] 0 rfl rfl rfl rfl rfl rfl (fun _ => rfl) ?_
            rintro v As ⟨rfl, rfl⟩
            refine ⟨_, rfl, ⟨rfl, trivial⟩, ?_⟩
            refine J.r hX tab_ok 3 (fun _ => rfl) fun b51 => ?_
            refine J.r hX tab_ok 1 (fun _ => rfl) fun b9 => ?_
            refine J.r hX tab_ok 3 (fun _ => rfl) fun b52 => ?_
            exact J.goto [0, 1, 2, 3, 6] (hj (b9 0)) ⟨rfl, rfl, rfl, rfl, trivial⟩ rfl rfl
          · skip
            refine J.r hX tab_ok 1 (fun _ => rfl) fun b9 => ?_
            refine J.r hX tab_ok 400 (fun _ => rfl) fun b53 => ?_
            refine J.ca hX (by kernel_rfl) (w_Over a2 (n + 1) c2 (l ++ [p]) (by simp [hl]) (by omega) hdp) [5] 0 rfl rfl rfl rfl rfl rfl (fun _ => rfl) ?_
            rintro v As ⟨rfl, rfl⟩
            refine ⟨_, rfl, ⟨rfl, trivial⟩, ?_⟩
            refine J.r hX tab_ok 6 (fun _ => rfl) fun b54 => ?_
            exact J.goto [0, 1, 2, 3, 6] (hj (b9 0)) ⟨rfl, rfl, rfl, rfl, trivial⟩ rfl rfl
        · skip
          refine J.r hX tab_ok 1 (fun _ => rfl) fun b9 => ?_
          refine J.append hX tab_ok 5 4 0 rfl rfl rfl rfl rfl rfl rfl rfl rfl rfl rfl rfl rfl rfl rfl rfl ?_ ?_ (fun _ => rfl) fun a2 c2 => ⟨_, (congrArg (fun z => lset _ 5 (ownA _ _ _ _ _ z)) (cellsS_snoc l p).symm).trans rfl, ⟨rfl, trivial⟩, ?_⟩
          · simp only [maxLen]; omega
          · omega
          refine J.r hX tab_ok 400 (fun _ => rfl) fun b55 => ?_
          refine J.ca hX (by kernel_rfl) (w_Over a2 (n + 1) c2 (l ++ [p]) (by simp [hl]) (by omega) hdp) [5] 0 rfl rfl rfl rfl rfl rfl (fun _ => rfl) ?_
          rintro v As ⟨rfl, rfl⟩
          refine ⟨_, rfl, ⟨rfl, trivial⟩, ?_⟩
          refine J.r hX tab_ok 6 (fun _ => rfl) fun b56 => ?_
          exact J.goto [0, 1, 2, 3, 6] (hj (b9 0)) ⟨rfl, rfl, rfl, rfl, trivial⟩ rfl rfl
      · skip
        refine J.r hX tab_ok 1 (fun _ => rfl) fun b9 => ?_
        refine J.r hX tab_ok 400 (fun _ => rfl) fun b57 => ?_
        refine J.ca hX (by kernel_rfl) (x_CloneS a n cap l hl (by omega)) [1] 0 rfl rfl rfl rfl rfl rfl (fun _ => rfl) ?_
        rintro v As ⟨a1, c1, rfl, rfl⟩
        refine ⟨_, rfl, ⟨rfl, trivial⟩, ?_⟩
        refine J.append hX tab_ok 6 4 0 rfl rfl rfl rfl rfl rfl rfl rfl rfl rfl rfl rfl rfl rfl rfl rfl ?_ ?_ (fun _ => rfl) fun a2 c2 => ⟨_, (congrArg (fun z => lset _ 6 (ownA _ _ _ _ _ z)) (cellsS_snoc l p).symm).trans rfl, ⟨rfl, trivial⟩, ?_⟩
        · simp only [maxLen]; omega
        · omega
        refine J.r hX tab_ok 400 (fun _ => rfl) fun b58 => ?_
        refine J.ca hX (by kernel_rfl) (w_Over a2 (n + 1) c2 (l ++ [p]) (by simp [hl]) (by omega) hdp) [6] 0 rfl rfl rfl rfl rfl rfl (fun _ => rfl) ?_
        rintro v As ⟨rfl, rfl⟩
        refine ⟨_, rfl, ⟨rfl, trivial⟩, ?_⟩
        refine J.r hX tab_ok 6 (fun _ => rfl) fun b59 => ?_
        exact J.goto [0, 1, 2, 3, 5] (hj (b9 0)) ⟨rfl, rfl, rfl, rfl, trivial⟩ rfl rfl
    · skip
      refine J.r hX tab_ok 1 (fun _ => rfl) fun b9 => ?_
      refine J.alts ?_ ?_
      · skip
        refine J.r hX tab_ok 400 (fun _ => rfl) fun b60 => ?_
        refine J.ca hX (by kernel_rfl) (x_CloneS a n cap l hl (by omega)) [1] 0 rfl rfl rfl rfl rfl rfl (fun _ => rfl) ?_
        rintro v As ⟨a1, c1, rfl, rfl⟩
        refine ⟨_, rfl, ⟨rfl, trivial⟩, ?_⟩
        refine J.r hX tab_ok 1 (fun _ => rfl) fun b3 => ?_
        refine J.append hX tab_ok 5 6 0 rfl rfl rfl rfl rfl rfl rfl rfl rfl rfl rfl rfl rfl rfl rfl rfl ?_ ?_ (fun _ => rfl) fun a2 c2 => ⟨_, (congrArg (fun z => lset _ 5 (ownA _ _ _ _ _ z)) (cellsS_snoc l p).symm).trans rfl, ⟨rfl, trivial⟩, ?_⟩
        · simp only [maxLen]; omega
        · omega
        refine J.r hX tab_ok 400 (fun _ => rfl) fun b61 => ?_
        refine J.ca hX (by kernel_rfl) (w_Over a2 (n + 1) c2 (l ++ [p]) (by simp [hl]) (by omega) hdp) [5] 0 rfl rfl rfl rfl rfl rfl (fun _ => rfl) ?_
        rintro v As ⟨rfl, rfl⟩
        refine ⟨_, rfl, ⟨rfl, trivial⟩, ?_⟩
        refine J.r hX tab_ok 6 (fun _ => rfl) fun b62 => ?_
        exact J.goto [0, 1, 2, 3, 4] (hj (b9 0)) ⟨rfl, rfl, rfl, rfl, trivial⟩ rfl rfl
      · skip
        refine J.r hX tab_ok 1 (fun _ => rfl) fun b3 => ?_
        refine J.r hX tab_ok 400 (fun _ => rfl) fun b63 => ?_
        refine J.ca hX (by kernel_rfl) (x_CloneS a n cap l hl (by omega)) [1] 0 rfl rfl rfl rfl rfl rfl (fun _ => rfl) ?_
        rintro v As ⟨a1, c1, rfl, rfl⟩
        refine ⟨_, rfl, ⟨rfl, trivial⟩, ?_⟩
        refine J.append hX tab_ok 6 5 0 rfl rfl rfl rfl rfl rfl rfl rfl rfl rfl rfl rfl rfl rfl rfl rfl ?_ ?_ (fun _ => rfl) fun a2 c2 => ⟨_, (congrArg (fun z => lset _ 6 (ownA _ _ _ _ _ z)) (cellsS_snoc l p).symm).trans rfl, ⟨rfl, trivial⟩, ?_⟩
        · simp only [maxLen]; omega
        · omega
        refine J.r hX tab_ok 400 (fun _ => rfl) fun b64 => ?_
        refine J.ca hX (by kernel_rfl) (w_Over a2 (n + 1) c2 (l ++ [p]) (by simp [hl]) (by omega) hdp) [6] 0 rfl rfl rfl rfl rfl rfl (fun _ => rfl) ?_
        rintro v As ⟨rfl, rfl⟩
        refine ⟨_, rfl, ⟨rfl, trivial⟩, ?_⟩
        refine J.r hX tab_ok 6 (fun _ => rfl) fun b65 => ?_
        exact J.goto [0, 1, 2, 3, 4] (hj (b9 0)) ⟨rfl, rfl, rfl, rfl, trivial⟩ rfl rfl

  obtain ⟨mm, hm1, hm2⟩ := over_nat (l ++ [p]) (zeros16, 0) ⟨by decide, by decide⟩
  have hm1 : (W.over (l ++ [p])).2 = (mm : Int) := hm1
  have hS : W.backS p l = ⟨(mm / 1099511627776 % 65536 : Nat), (mm % 1099511627776 : Nat), (mm / 72057594037927936 : Nat), (W.over (l ++ [p])).1⟩ := by
    have hx : mm = (W.over (l ++ [p])).2.toNat := by rw [hm1]; rfl
    rw [W.backS, ← hx]
  rw [hm1]
  refine J.r hX tab_ok 400 (fun _ => rfl) fun b66 => ?_
  refine J.r hX tab_ok 400 (fun _ => rfl) fun b67 => ?_
  refine J.ca hX (by kernel_rfl) (h_Of mm hm2) [] 0 rfl rfl rfl rfl rfl rfl (fun _ => rfl) ?_
  rintro v As ⟨rfl, rfl⟩
  refine ⟨_, rfl, trivial, ?_⟩
  refine J.r hX tab_ok 400 (fun _ => rfl) fun b68 => ?_
  refine J.r hX tab_ok 400 (fun _ => rfl) fun b69 => ?_
  refine J.ca hX (by kernel_rfl) (w_Own p.block p.row p.mask ⟨(mm / 1099511627776 % 65536 : Nat), (mm % 1099511627776 : Nat), (mm / 72057594037927936 : Nat), (W.over (l ++ [p])).1⟩ (over_len hdp)) [] 0 rfl rfl rfl rfl rfl rfl (fun _ => rfl) ?_
  rintro v As ⟨rfl, rfl⟩
  refine ⟨_, rfl, trivial, ?_⟩
  rw [← hS, ← hB]
  refine J.r hX tab_ok 400 (fun _ => rfl) fun b70 => ?_
  refine J.cond rfl (fun h3 => ?_) (fun h3 => ?_)
  · simp only [Bool.not_eq_true'] at h3
    refine J.r hX tab_ok 400 (fun _ => rfl) fun b71 => ?_
    refine J.rt hX tab_ok [1] rfl rfl rfl ?_
    exact ⟨by rw [key _ h3, h3]; rfl, rfl⟩
  · simp only [Bool.not_eq_false'] at h3
    refine J.r hX tab_ok 400 (fun _ => rfl) fun b72 => ?_
    refine J.rt hX tab_ok [1] rfl rfl rfl ?_
    exact ⟨by rw [key _ h3, h3, if_pos rfl, hS]; rfl, rfl⟩
end Go.Proofs.YtoideahgjgaddaaGreat
