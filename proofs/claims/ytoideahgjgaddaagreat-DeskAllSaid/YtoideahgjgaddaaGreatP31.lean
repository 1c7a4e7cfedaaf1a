/- Helpers of the proofs about ostrakonlaw11, proved here: Ldk. No condition. -/
import Derived.Test.YtoideahgjgaddaaGreatP25
set_option linter.unusedVariables false
set_option linter.unusedSimpArgs false
set_option linter.unusedSectionVars false
set_option linter.unnecessarySimpa false
/- Walks: the sentence DeskAll. -/
namespace Go.Proofs.YtoideahgjgaddaaGreat
open Go Go.RowKit
set_option maxRecDepth 20000 in
theorem s_DeskAll (A : Atom) (ao : Option Addr) (no co : Nat) (ops : List OpV) (hA : Rd A ao 27 no (ops.flatMap OpV.cells)) (hlo : ops.length = no) (hdo : ∀ o ∈ ops, o.en.data.length = 16) :
    Fn Tryz.prog 6 [.slice ao no co] [A] (fun v As => v = .bool true ∧ As = [A]) := by
  refine Fn.enter [0] Tryz.func6 rfl rfl rfl fun X F hX => ?_
  refine J.r hX tab_ok 400 (fun _ => rfl) fun b1 => ?_
  refine J.r hX tab_ok 400 (fun _ => rfl) fun b2 => ?_
  refine J.ca hX (by kernel_rfl) (l16_begun) [] 0 rfl rfl rfl rfl rfl rfl (fun _ => rfl) ?_
  rintro v As ⟨rfl, rfl⟩
  refine ⟨_, rfl, trivial, ?_⟩
  refine J.r hX tab_ok 400 (fun _ => rfl) fun b3 => ?_
  refine J.cond rfl (fun h => absurd h (by decide)) (fun _ => ?_)
  refine J.r hX tab_ok 400 (fun _ => rfl) fun b4 => ?_
  refine J.r hX tab_ok 400 (fun _ => rfl) fun b5 => ?_
  refine J.ca hX (by kernel_rfl) (d_New) [] 0 rfl rfl rfl rfl rfl rfl (fun _ => rfl) ?_
  rintro v As ⟨d, rfl, rfl⟩
  refine ⟨_, rfl, trivial, ?_⟩
  refine J.turn1 [] rfl (As := [rdA none 19 0 []]) (fun h s => Sep.one ⟨rfl, fun h => absurd h (Nat.lt_irrefl 0)⟩) rfl ?_
  refine J.r hX tab_ok 400 (fun _ => rfl) fun b6 => ?_
  refine J.r hX tab_ok 400 (fun _ => rfl) fun b7 => ?_
  refine J.lo (α := DkS) (fun z => z.i ≤ 50 ∧ DkJ z.i z) (fun z => [⟨6, .int .i64 z.i, 0, .tt⟩, ⟨0, .slice ao no co, 0, .tt⟩, ⟨4, .pointer (some ⟨d, 0, none⟩), 0, .tt⟩, ⟨5, .slice (oad2 z.a) z.L.length z.c, 0, .tt⟩]) [2, 3] (fun z => [DeskA d z.L, rdA (oad2 z.a) 19 z.L.length (cellsE z.L)]) (fun z => 50 - z.i) (⟨0, [], none, 0⟩) (⟨Nat.zero_le _, rfl, dkOne.nil, Nat.le_refl _, Nat.le_refl _, fun _ => rfl, fun e he => by cases he⟩) rfl ?_ (fun _ => rfl) fun z hI => ?_
  · rfl
  obtain ⟨i, L, a, c⟩ := z
  dsimp only at hI ⊢
  obtain ⟨hi, _, hone, hLi, hLc, hLz, hLd⟩ := hI
  dsimp only at hone hLi hLc hLz hLd
  refine J.r hX tab_ok 400 (fun _ => rfl) fun b8 => ?_
  refine J.cond rfl (fun h1 => ?_) (fun h1 => ?_)
  · simp only [Bool.and_eq_true, decide_eq_true_eq, Int.ofNat_lt] at h1
    obtain ⟨h1, h2⟩ := h1
    have h2 : i < 50 := by omega
    obtain ⟨x, hx⟩ : ∃ x, ops[i]? = some x := ⟨_, List.getElem?_eq_getElem (by omega)⟩
    have hxd := hdo x (List.mem_of_getElem? hx)
    refine J.know (p := ∃ g o, ao = some ⟨g, o, none⟩) (fun h' s => Rd.addr (hA _ (s.get (i := 1) rfl)) (by omega)) fun hk => ?_
    obtain ⟨gm, om, rfl⟩ := hk
    refine J.r hX tab_ok 400 (fun _ => rfl) fun b9 => ?_
    refine J.val hX (.agg x.lit.toArray) 0 rfl rfl (fun hg aa w he hw => rdN_run tab_ok rfl rfl he rfl rfl rfl (hA _ (hw.get (i := 1) rfl)) (by omega) (j := i * 27) (by omega) (flat_get OpV.cells 27 (fun _ => rfl) ops i x hx) rfl) rfl trivial ?_
    refine J.r hX tab_ok 400 (fun _ => rfl) fun bo => ?_
    refine J.join (α := {z : DkS // dkOne z.L ∧ z.L.length ≤ i + 1 ∧ z.L.length ≤ z.c ∧ (z.a = none → z.c = 0) ∧ ∀ e ∈ z.L, e.data.length = 16}) (fun z => [⟨6, .int .i64 i, 0, .tt⟩, ⟨0, .slice (some ⟨gm, om, none⟩) no co, 0, .tt⟩, ⟨4, .pointer (some ⟨d, 0, none⟩), 0, .tt⟩, ⟨5, .slice (oad2 z.1.a) z.1.L.length z.1.c, 0, .tt⟩]) (fun z => [.hp F, A, DeskA d z.1.L, rdA (oad2 z.1.a) 19 z.1.L.length (cellsE z.1.L)]) (fun hj => ?_) (fun z => ?_)
    · refine J.r hX tab_ok 400 (fun _ => rfl) fun b10 => ?_
      refine J.cond rfl (fun k1 => ?_) (fun k1 => ?_)
      · refine J.r hX tab_ok 400 (fun _ => rfl) fun b11 => ?_
        refine J.r hX tab_ok 400 (fun _ => rfl) fun b12 => ?_
        refine J.ca hX (by kernel_rfl) (d_First d L (by omega) (x.n.tmod 9)) [2] 0 rfl rfl rfl rfl rfl rfl (fun _ => rfl) ?_
        rintro v As ⟨a', c', rfl, rfl⟩
        refine ⟨_, rfl, trivial, ?_⟩
        have hk := dkN_eq L (x.n.tmod 9)
        have hkL : dkN L (x.n.tmod 9) ≤ L.length := Nat.min_le_right _ _
        generalize dkN L (x.n.tmod 9) = k at hk hkL
        refine J.r hX tab_ok 400 (fun _ => rfl) fun b13 => ?_
        rw [hk, ne_selfI (k : Int)]
        refine J.r hX tab_ok 400 (fun _ => rfl) fun b14 => ?_
        refine J.cond rfl (fun h => absurd h (by decide)) (fun _ => ?_)
        refine J.r hX tab_ok 400 (fun _ => rfl) fun b15 => ?_
        refine J.r hX tab_ok 400 (fun _ => rfl) fun b16 => ?_
        refine J.lo (α := Nat) (fun j => j ≤ k) (fun j => [⟨11, .int .i64 j, 0, .tt⟩, ⟨9, slv a' k c', 0, .tt⟩, ⟨10, .int .i64 k, 0, .tt⟩, ⟨6, .int .i64 i, 0, .tt⟩, ⟨0, .slice (some ⟨gm, om, none⟩) no co, 0, .tt⟩, ⟨4, .pointer (some ⟨d, 0, none⟩), 0, .tt⟩, ⟨5, .slice (oad2 a) L.length c, 0, .tt⟩]) [] (fun j => []) (fun j => k - j) (0) (Nat.zero_le _) rfl ?_ (fun _ => rfl) fun j hI => ?_
        · rfl
        refine J.r hX tab_ok 400 (fun _ => rfl) fun b17 => ?_
        refine J.cond rfl (fun h3 => ?_) (fun h3 => ?_)
        · simp only [decide_eq_true_eq, Int.ofNat_lt] at h3
          obtain ⟨y, hy⟩ : ∃ y, L[j]? = some y := ⟨_, List.getElem?_eq_getElem (by omega)⟩
          have hyk : (L.take k)[j]? = some y := by rw [List.getElem?_take, if_pos h3]; exact hy
          have hyd := hLd y (List.mem_of_getElem? hy)
          refine J.know (p := ∃ g, a' = some g) (fun h' s => own_some (c := (a', c')) (by omega) (s.get (i := 5) rfl)) fun hg => ?_
          obtain ⟨gf, rfl⟩ := hg
          refine J.know (p := ∃ y, a = some y) (fun h' s => oad2_some (s.get (i := 3) rfl) (by omega)) fun hk => ?_
          obtain ⟨⟨gl, ol⟩, rfl⟩ := hk
          refine J.r hX tab_ok 400 (fun _ => rfl) fun b18 => ?_
          refine J.plan (.of [0,4,8,13,16,20,24,29,32]) [] [3,5] (by rw [hX.hP]; kernel_rfl) (by kernel_rfl) ?_
          refine J.r hX tab_ok 400 (fun _ => rfl) fun b19 => ?_
          refine J.valT hX (enV y) 0 rfl rfl (fun hg aa w he hC => ownN_run tab_ok rfl rfl he rfl rfl rfl (hC rfl _ (cget_mem (i := 5) rfl)) (by rw [show 0 + (j : Int).toNat * 19 = j * 19 from by omega]; exact cellsE_get hyk) rfl) rfl ?_
          refine J.r hX tab_ok 400 (fun _ => rfl) fun b20 => ?_
          refine J.valT hX (enV y) 0 rfl rfl (fun hg aa w he hC => rdN_run tab_ok rfl rfl he rfl rfl rfl (hC rfl _ (cget_mem (i := 3) rfl)) (by omega) (j := j * 19) (by omega) (cellsE_get hy) rfl) rfl ?_
          refine J.valT hX (.bool false) 0 rfl rfl (fun hg aa w he hC => (neAgg_run (xs := enL y) (ys := enL y) rfl rfl rfl he rfl rfl leavesEn (fitsEn _) (fitsEn _) mkEn gdEn).trans (by rw [(eqEn _ _ hyd hyd).2 rfl]; rfl)) rfl ?_
          refine J.r hX tab_ok 400 (fun _ => rfl) fun b21 => ?_
          refine J.cond rfl (fun h => absurd h (by decide)) (fun _ => ?_)
          refine J.r hX tab_ok 400 (fun _ => rfl) fun b22 => ?_
          refine J.r hX tab_ok 400 (fun _ => rfl) fun b23 => ?_
          refine J.nS (j + 1) (by omega) (by omega) [0, 1, 2, 3, 4, 5] rfl rfl
        refine J.r hX tab_ok 1 (fun _ => rfl) fun b24 => ?_
        exact J.goto [0, 1, 2, 3] (hj ⟨⟨0, L, a, c⟩, hone, by dsimp only; omega, hLc, hLz, hLd⟩) ⟨rfl, rfl, rfl, rfl, trivial⟩ rfl rfl
      refine J.r hX tab_ok 400 (fun _ => rfl) fun b25 => ?_
      refine J.cond rfl (fun k2 => ?_) (fun k2 => ?_)
      · refine J.r hX tab_ok 12 (fun _ => rfl) fun b26 => ?_
        have hk := dkN_eq L (x.n.tmod 9)
        have hkL : dkN L (x.n.tmod 9) ≤ L.length := Nat.min_le_right _ _
        rw [hk]
        generalize dkN L (x.n.tmod 9) = k at hk hkL
        refine J.r hX tab_ok 3 (fun _ => rfl) fun b27 => ?_
        refine J.val hX (.slice (oad2 a) k c) 0 rfl rfl (fun hg aa w he hw => cut_run rfl rfl rfl he rfl rfl (by omega)) rfl trivial ?_
        refine J.turn1 [] rfl (As := [ownA 45 19 none 0 0 (cellsE [])]) (fun h s => Sep.one ⟨rfl, rfl, rfl⟩) rfl ?_
        refine J.r hX tab_ok 400 (fun _ => rfl) fun b28 => ?_
        have hRd : Rd (rdA (oad2 a) 19 L.length (cellsE L)) (oad2 a) 19 k (cellsE (L.take k)) := by
          have := (rdA_rd (oad2 a) 19 L.length (cellsE L)).take k hkL
          rwa [cellsE_take] at this
        refine J.appendRO hX tab_ok (a := none) (n := 0) (cap := 0) (xs := []) (Ay := rdA (oad2 a) 19 L.length (cellsE L)) 5 3 hLz rfl rfl rfl rfl rfl rfl rfl rfl rfl hRd rfl rfl rfl rfl (cellsE_one _) ?_ ?_ (fun _ => rfl) fun a2 c2 => ⟨_, rfl, trivial, ?_⟩
        · simp only [maxLen]; omega
        · omega
        rw [Nat.zero_add k, List.nil_append]
        refine J.r hX tab_ok 400 (fun _ => rfl) fun b29 => ?_
        refine J.cond rfl (fun k4 => ?_) (fun k4 => ?_)
        · simp only [decide_eq_true_eq] at k4
          obtain ⟨k', rfl⟩ : ∃ k', k = k' + 1 := ⟨k - 1, by omega⟩
          cases L with
          | nil => simp at hkL
          | cons e0 L' =>
            refine J.know (p := ∃ g, a2 = some g) (fun h' s => own_some (c := (a2, c2)) (by omega) (s.get (i := 5) rfl)) fun hg => ?_
            obtain ⟨g2, rfl⟩ := hg
            rw [List.take_succ_cons]
            refine J.r hX tab_ok 4 (fun _ => rfl) fun b30 => ?_
            refine J.val hX (.int .i64 e0.seq) 0 rfl rfl (fun hg aa w he hw => own1_run tab_ok rfl rfl he rfl rfl rfl (hw.get (i := 5) rfl) rfl) rfl trivial ?_
            have hws := wrap_ne e0.seq
            refine J.val hX (.int .i64 (IntKind.i64.wrap (e0.seq + 1))) 0 rfl rfl (fun hg aa w he hw => inc_run rfl rfl rfl he rfl rfl) rfl trivial ?_
            generalize IntKind.i64.wrap (e0.seq + 1) = s1 at hws
            refine J.r hX tab_ok 2 (fun _ => rfl) fun b31 => ?_
            refine J.openOwn 5 rfl rfl (fun _ => rfl) fun r q1 q2 q3 q4 => ?_
            have hlen : (e0 :: L'.take k').length = k' + 1 := by rw [List.length_cons, List.length_take]; simp at hkL; omega
            refine J.storeN hX tab_ok 5 rfl rfl rfl rfl rfl rfl rfl rfl rfl rfl rfl rfl rfl ?_ (cellsE ({ e0 with seq := s1 } :: L'.take k') ++ r) ?_ rfl (fun _ => rfl) ⟨trivial, ?_⟩
            · rw [List.length_append, q1]
              show 0 + 0 * 19 + 1 + 1 ≤ (k' + 1) * 19 + r.length
              omega
            · rfl
            have hlen1 : (cellsE ({ e0 with seq := s1 } :: L'.take k')).length = (k' + 1) * 19 := by rw [cellsE_len, List.length_cons]; rw [List.length_cons] at hlen; rw [hlen]
            refine J.closeOwn (e := 45) (size := 19) (n := k' + 1) (cap := c2) (xs := cellsE ({ e0 with seq := s1 } :: L'.take k')) 5 rfl rfl hlen1 q2 q3 (by rw [List.length_append, hlen1, ← q1]; exact q4) (by rw [← hlen1, List.take_left']; rfl) rfl ?_
            have hdn : dkDone (e0 :: L') ({ e0 with seq := s1 } :: L'.take k') = e0 :: L'.drop k' := by
              have := dk_app2 (e := e0) (A := L'.take k') (B := L'.drop k') hws (by rwa [List.take_append_drop])
              rwa [List.take_append_drop] at this
            refine J.know (p := ∃ y, a = some y) (fun h' s => oad2_some (s.get (i := 3) rfl) (by simp)) fun hk => ?_
            obtain ⟨⟨gl, ol⟩, rfl⟩ := hk
            refine J.r hX tab_ok 400 (fun _ => rfl) fun b32 => ?_
            refine J.cond rfl (fun k5 => ?_) (fun k5 => ?_)
            · refine J.r hX tab_ok 400 (fun _ => rfl) fun b33 => ?_
              refine J.r hX tab_ok 400 (fun _ => rfl) fun b34 => ?_
              refine J.ca hX (by kernel_rfl) (d_Done d (e0 :: L') (by omega) (ownA 45 19 (some g2) (k' + 1) c2 (cellsE ({ e0 with seq := s1 } :: L'.take k'))) (some ⟨g2, 0, none⟩) (k' + 1) c2 ({ e0 with seq := s1 } :: L'.take k') (own_rd _ _ (some g2) _ _ _) hlen (by omega)) [2, 5] 0 rfl rfl rfl rfl rfl rfl (fun _ => rfl) ?_
              rintro v As ⟨rfl, rfl⟩
              refine ⟨_, rfl, trivial, ?_⟩
              rw [hdn]
              have hd2 : ((((e0 :: L').length : Int) - ((e0 :: L'.drop k').length : Int)) != ((k' + 1 : Nat) : Int) - 1) = false := by
                rw [bne_eq_false_iff_eq]
                simp only [List.length_cons, List.length_drop] at hkL ⊢
                omega
              refine J.r hX tab_ok 400 (fun _ => rfl) fun b35 => ?_
              rw [hd2]
              refine J.r hX tab_ok 400 (fun _ => rfl) fun b36 => ?_
              refine J.cond rfl (fun h => absurd h (by decide)) (fun _ => ?_)
              refine J.r hX tab_ok 400 (fun _ => rfl) fun b37 => ?_
              refine J.cond rfl (fun k6 => ?_) (fun k6 => ?_)
              · refine J.r hX tab_ok 400 (fun _ => rfl) fun b38 => ?_
                refine J.plan (.of [0,4,9,16,20,24,14,31,32]) [7,8] [3] (by rw [hX.hP]; kernel_rfl) (by kernel_rfl) ?_
                refine J.r hX tab_ok 400 (fun _ => rfl) fun b39 => ?_
                refine J.valT hX (enV e0) 0 rfl rfl (fun hg aa w he hC => rdN_run tab_ok rfl rfl he rfl rfl rfl (hC rfl _ (cget_mem (i := 3) rfl)) (by simp) (j := 0) rfl rfl rfl) rfl ?_
                refine J.r hX tab_ok 2 (fun _ => rfl) fun b40 => ?_
                refine J.valT hX (.slice (oad2 (cutA (some (gl, ol)) 19 (k' + 1) c)) ((e0 :: L').length - (k' + 1)) (c - (k' + 1))) 0 rfl rfl (fun hg aa w he hC => cutlo2_run tab_ok rfl rfl rfl he rfl rfl rfl rfl rfl hkL) rfl ?_
                refine J.r hX tab_ok 1 (fun _ => rfl) fun bx => ?_
                refine J.closeOwn (e := 45) (size := 19) (n := 1) (cap := 1) (xs := cellsE [e0]) 6 rfl rfl rfl (Nat.le_refl _) (by decide) rfl rfl rfl ?_
                have hRd2 : Rd (rdA (oad2 (some (gl, ol))) 19 (e0 :: L').length (cellsE (e0 :: L'))) (oad2 (cutA (some (gl, ol)) 19 (k' + 1) c)) 19 ((e0 :: L').length - (k' + 1)) (cellsE (L'.drop k')) := fun _ s => by
                  have := rd_drop s rfl hkL hLc
                  rw [List.length_drop] at this
                  exact this
                refine J.appendRO hX tab_ok (a := some (bx 0)) (n := 1) (cap := 1) (xs := cellsE [e0]) (Ay := rdA (oad2 (some (gl, ol))) 19 (e0 :: L').length (cellsE (e0 :: L'))) 6 3 (cutA_none hLz) rfl rfl rfl rfl rfl rfl rfl rfl rfl hRd2 rfl rfl rfl rfl (cellsE_one _) ?_ ?_ (fun _ => rfl) fun a3 c3 => ⟨_, rfl, (by first | exact trivial | (repeat' (first | exact trivial | refine ⟨rfl, ?_⟩))), ?_⟩
                · simp only [maxLen, List.length_cons] at hLi ⊢; omega
                · simp only [List.length_cons] at hLi ⊢; omega
                have happ : cellsE [e0] ++ cellsE (L'.drop k') = cellsE (e0 :: L'.drop k') := rfl
                rw [happ, show 1 + ((e0 :: L').length - (k' + 1)) = (e0 :: L'.drop k').length from by simp only [List.length_cons, List.length_drop]; omega]
                refine J.know (fun h' s => ownP_cap (s.get (i := 6) rfl)) fun hcap => ?_
                refine J.know (fun h' s => ownP_nil (s.get (i := 6) rfl)) fun hnil => ?_
                refine J.turn1 [6] rfl (As := [rdA (oad a3) 19 (e0 :: L'.drop k').length (cellsE (e0 :: L'.drop k'))]) (fun h s => Sep.one (own_rd _ _ _ _ _ _ _ (s.get (i := 0) rfl))) rfl ?_
                have hsub : (e0 :: L'.drop k').Sublist (e0 :: L') := List.Sublist.cons_cons _ (List.drop_sublist ..)
                refine J.r hX tab_ok 2 (fun _ => rfl) fun b41 => ?_

                cases a3 with
                | none => exact J.goto [0, 1, 2, 6] (hj ⟨⟨0, e0 :: L'.drop k', none, c3⟩, hone.sub hsub, by have := hsub.length_le; dsimp only; omega, hcap, fun _ => hnil rfl, fun e he => hLd e (hsub.subset he)⟩) ⟨rfl, rfl, rfl, rfl, trivial⟩ rfl rfl
                | some g => exact J.goto [0, 1, 2, 6] (hj ⟨⟨0, e0 :: L'.drop k', some (g, 0), c3⟩, hone.sub hsub, by have := hsub.length_le; dsimp only; omega, hcap, fun e => (by cases e), fun e he => hLd e (hsub.subset he)⟩) ⟨rfl, rfl, rfl, rfl, trivial⟩ rfl rfl
              · simp only [decide_eq_false_iff_not] at k6
                omega
            · simp only [decide_eq_false_iff_not] at k5
              omega
        · simp only [decide_eq_false_iff_not] at k4
          refine J.r hX tab_ok 400 (fun _ => rfl) fun b42 => ?_
          refine J.cond rfl (fun k5 => ?_) (fun k5 => ?_)
          · exact absurd (of_decide_eq_true k5) k4
          refine J.r hX tab_ok 400 (fun _ => rfl) fun b43 => ?_
          refine J.r hX tab_ok 400 (fun _ => rfl) fun b44 => ?_
          refine J.ca hX (by kernel_rfl) (d_Done d L (by omega) (ownA 45 19 a2 k c2 (cellsE (L.take k))) (oad a2) k c2 (L.take k) (own_rd _ _ a2 _ _ _) (by rw [List.length_take]; omega) (by omega)) [2, 5] 0 rfl rfl rfl rfl rfl rfl (fun _ => rfl) ?_
          rintro v As ⟨rfl, rfl⟩
          refine ⟨_, rfl, trivial, ?_⟩
          rw [dk_take hone k]
          have hd2 : (((L.length : Int) - ((L.drop k).length : Int)) != (k : Int)) = false := by
            rw [bne_eq_false_iff_eq, List.length_drop]
            omega
          refine J.r hX tab_ok 400 (fun _ => rfl) fun b45 => ?_
          rw [hd2]
          refine J.r hX tab_ok 400 (fun _ => rfl) fun b46 => ?_
          refine J.cond rfl (fun h => absurd h (by decide)) (fun _ => ?_)
          refine J.r hX tab_ok 400 (fun _ => rfl) fun b47 => ?_
          refine J.cond rfl (fun k6 => ?_) (fun k6 => ?_)
          · exact absurd (of_decide_eq_true k6) k4
          refine J.r hX tab_ok 3 (fun _ => rfl) fun b48 => ?_
          refine J.val hX (.slice (oad2 (cutA a 19 k c)) (L.length - k) (c - k)) 0 rfl rfl (fun hg aa w he hw => cutlo2_run tab_ok rfl rfl rfl he rfl rfl rfl rfl rfl hkL) rfl trivial ?_
          refine J.turn1 [3] rfl (As := [rdA (oad2 (cutA a 19 k c)) 19 (L.drop k).length (cellsE (L.drop k))]) (fun h s => Sep.one (rd_drop (s.get (i := 0) rfl) rfl hkL hLc)) rfl ?_
          rw [show L.length - k = (L.drop k).length from (List.length_drop ..).symm]
          refine J.r hX tab_ok 2 (fun _ => rfl) fun b49 => ?_

          exact J.goto [0, 1, 2, 3] (hj ⟨⟨0, L.drop k, cutA a 19 k c, c - k⟩, hone.sub (List.drop_sublist ..), by dsimp only; rw [List.length_drop]; omega, by dsimp only; rw [List.length_drop]; omega, cutA_none hLz, fun e he => hLd e (List.mem_of_mem_drop he)⟩) ⟨rfl, rfl, rfl, rfl, trivial⟩ rfl rfl
      refine J.r hX tab_ok 400 (fun _ => rfl) fun b50 => ?_
      refine J.cond rfl (fun k3 => ?_) (fun k3 => ?_)
      · refine J.r hX tab_ok 400 (fun _ => rfl) fun b51 => ?_
        refine J.r hX tab_ok 400 (fun _ => rfl) fun b52 => ?_
        refine J.ca hX (by kernel_rfl) (d_Get d L (by omega) x.en.lpn) [2] 0 rfl rfl rfl rfl rfl rfl (fun _ => rfl) ?_
        rintro v As ⟨rfl, rfl⟩
        refine ⟨_, rfl, trivial, ?_⟩
        refine J.r hX tab_ok 400 (fun _ => rfl) fun be => ?_
        refine J.r hX tab_ok 400 (fun _ => rfl) fun b53 => ?_
        refine J.lo (α := (Nat × Bool)) (fun z => z.1 ≤ L.length ∧ z.2 = (L.take z.1).any fun y => y.lpn == x.en.lpn) (fun z => [⟨18, .int .i64 z.1, 0, .tt⟩, ⟨17, .bool z.2, 0, .tt⟩, ⟨16, .bool (dkGet L x.en.lpn).2, 0, .tt⟩, ⟨15, .pointer (some ⟨be 0, 0, none⟩), 6, .tt⟩, ⟨7, .pointer (some ⟨bo 0, 0, none⟩), 5, .tt⟩, ⟨6, .int .i64 i, 0, .tt⟩, ⟨0, .slice (some ⟨gm, om, none⟩) no co, 0, .tt⟩, ⟨4, .pointer (some ⟨d, 0, none⟩), 0, .tt⟩, ⟨5, .slice (oad2 a) L.length c, 0, .tt⟩]) [] (fun z => []) (fun z => L.length - z.1) ((0, false)) (⟨Nat.zero_le _, rfl⟩) rfl ?_ (fun _ => rfl) fun z hI => ?_
        · rfl
        obtain ⟨j, bb⟩ := z
        dsimp only at hI ⊢
        obtain ⟨hI, hbb⟩ := hI
        refine J.r hX tab_ok 400 (fun _ => rfl) fun b54 => ?_
        refine J.cond rfl (fun h3 => ?_) (fun h3 => ?_)
        · simp only [decide_eq_true_eq, Int.ofNat_lt] at h3
          obtain ⟨y, hy⟩ : ∃ y, L[j]? = some y := ⟨_, List.getElem?_eq_getElem (by omega)⟩
          have hyd := hLd y (List.mem_of_getElem? hy)
          have has := any_succ x.en.lpn L j y hy
          refine J.know (p := ∃ y, a = some y) (fun h' s => oad2_some (s.get (i := 3) rfl) (by omega)) fun hk => ?_
          obtain ⟨⟨gl, ol⟩, rfl⟩ := hk
          refine J.r hX tab_ok 400 (fun _ => rfl) fun b55 => ?_
          refine J.plan (.of [0,4,8,12,17,20,24,29,32]) [] [3,4] (by rw [hX.hP]; kernel_rfl) (by kernel_rfl) ?_
          refine J.r hX tab_ok 400 (fun _ => rfl) fun b56 => ?_
          refine J.valT hX (.int .i64 y.lpn) 0 rfl rfl (fun hg aa w he hC => rd1_run tab_ok rfl rfl he rfl rfl rfl (hC rfl _ (cget_mem (i := 3) rfl)) (by omega) (j := j * 19 + 0) (by omega) (by rw [cellsE_cell hy 0 (by decide)]; rfl)) rfl ?_
          refine J.r hX tab_ok 400 (fun _ => rfl) fun b57 => ?_
          refine J.cond rfl (fun h4 => ?_) (fun h4 => ?_)
          · simp only [beq_iff_eq] at h4
            have hget := dk_get_in hone hy
            rw [h4] at hget
            refine J.r hX tab_ok 400 (fun _ => rfl) fun b58 => ?_
            refine J.r hX tab_ok 400 (fun _ => rfl) fun b59 => ?_
            refine J.plan (.of [1,4,8,12,17,20]) [] [3,5] (by rw [hX.hP]; kernel_rfl) (by kernel_rfl) ?_
            refine J.r hX tab_ok 400 (fun _ => rfl) fun b60 => ?_
            refine J.valT hX (enV y) 0 rfl rfl (fun hg aa w he hC => rdN_run tab_ok rfl rfl he rfl rfl rfl (hC rfl _ (cget_mem (i := 3) rfl)) (by omega) (j := j * 19) (by omega) (cellsE_get hy) rfl) rfl ?_
            refine J.valT hX (.bool false) 0 rfl rfl (fun hg aa w he hC => (neAgg_run (xs := enL (dkGet L x.en.lpn).1) (ys := enL y) rfl rfl rfl he rfl rfl leavesEn (fitsEn _) (fitsEn _) mkEn gdEn).trans (by rw [hget, (eqEn _ _ hyd hyd).2 rfl]; rfl)) rfl ?_
            refine J.r hX tab_ok 400 (fun _ => rfl) fun b61 => ?_
            refine J.cond rfl (fun h => absurd h (by decide)) (fun _ => ?_)
            refine J.r hX tab_ok 400 (fun _ => rfl) fun b62 => ?_
            refine J.r hX tab_ok 400 (fun _ => rfl) fun b63 => ?_
            refine J.nS ((j + 1, true)) (⟨by dsimp only; omega, by rw [has, h4]; simp⟩) (by dsimp only; omega) [0, 1, 2, 3, 4, 5] rfl rfl
          · simp only [beq_eq_false_iff_ne, ne_eq] at h4
            refine J.r hX tab_ok 400 (fun _ => rfl) fun b64 => ?_
            refine J.r hX tab_ok 400 (fun _ => rfl) fun b65 => ?_
            refine J.nS ((j + 1, bb)) (⟨by dsimp only; omega, by rw [has, beq_eq_false_iff_ne.2 h4, Bool.or_false]; exact hbb⟩) (by dsimp only; omega) [0, 1, 2, 3, 4, 5] rfl rfl
        simp only [decide_eq_false_iff_not, Int.ofNat_lt] at h3
        obtain rfl : j = L.length := by omega
        rw [List.take_length] at hbb
        obtain ⟨g1, g2⟩ := dkGet_any L x.en.lpn
        rw [← hbb] at g1 g2
        generalize dkGet L x.en.lpn = pp at g1 g2
        obtain ⟨e0, b0⟩ := pp
        dsimp only at g1 g2
        obtain rfl : b0 = bb := g1
        cases b0 with
        | true =>
          refine J.r hX tab_ok 400 (fun _ => rfl) fun b66 => ?_
          refine J.val hX (.bool false) 0 rfl rfl (fun hg a w he hw => by simp [G.on] at hg) rfl trivial ?_
          refine J.r hX tab_ok 400 (fun _ => rfl) fun b67 => ?_
          refine J.cond rfl (fun h => by simp at h) (fun _ => ?_)
          refine J.r hX tab_ok 1 (fun _ => rfl) fun b68 => ?_
          exact J.goto [0, 1, 2, 3] (hj ⟨⟨0, L, a, c⟩, hone, by dsimp only; omega, hLc, hLz, hLd⟩) ⟨rfl, rfl, rfl, rfl, trivial⟩ rfl rfl
        | false =>
          obtain rfl := g2 rfl
          refine J.r hX tab_ok 400 (fun _ => rfl) fun b69 => ?_
          refine J.val hX (.bool false) 0 rfl rfl (fun hg aa w he hw => (neAgg_run (xs := enL En.zero) (ys := enL En.zero) rfl rfl rfl he rfl rfl leavesEn (fitsEn _) (fitsEn _) mkEn gdEn).trans (by rw [(eqEn _ _ rfl rfl).2 rfl]; rfl)) rfl trivial ?_
          refine J.r hX tab_ok 400 (fun _ => rfl) fun b70 => ?_
          refine J.cond rfl (fun h => absurd h (by decide)) (fun _ => ?_)
          refine J.r hX tab_ok 1 (fun _ => rfl) fun b71 => ?_
          exact J.goto [0, 1, 2, 3] (hj ⟨⟨0, L, a, c⟩, hone, by dsimp only; omega, hLc, hLz, hLd⟩) ⟨rfl, rfl, rfl, rfl, trivial⟩ rfl rfl
      refine J.r hX tab_ok 400 (fun _ => rfl) fun b72 => ?_
      refine J.r hX tab_ok 400 (fun _ => rfl) fun b73 => ?_
      refine J.ca hX (by kernel_rfl) (d_Put d L (by omega) x.en) [2] 0 rfl rfl rfl rfl rfl rfl (fun _ => rfl) ?_
      rintro v As ⟨rfl, rfl⟩
      refine ⟨_, rfl, trivial, ?_⟩
      refine J.turn1 [] rfl (As := [ownA 45 19 none 0 0 (cellsE [])]) (fun h s => Sep.one ⟨rfl, rfl, rfl⟩) rfl ?_
      refine J.r hX tab_ok 400 (fun _ => rfl) fun b74 => ?_
      refine J.r hX tab_ok 400 (fun _ => rfl) fun b75 => ?_
      refine J.lo (α := (Nat × Option Nat × Nat)) (fun z => z.1 ≤ L.length) (fun z => [⟨20, .int .i64 z.1, 0, .tt⟩, ⟨19, slv z.2.1 ((L.take z.1).filter fun y => !(y.lpn == x.en.lpn)).length z.2.2, 0, .tt⟩, ⟨7, .pointer (some ⟨bo 0, 0, none⟩), 5, .tt⟩, ⟨6, .int .i64 i, 0, .tt⟩, ⟨0, .slice (some ⟨gm, om, none⟩) no co, 0, .tt⟩, ⟨4, .pointer (some ⟨d, 0, none⟩), 0, .tt⟩, ⟨5, .slice (oad2 a) L.length c, 0, .tt⟩]) [5] (fun z => [ownA 45 19 z.2.1 ((L.take z.1).filter fun y => !(y.lpn == x.en.lpn)).length z.2.2 (cellsE ((L.take z.1).filter fun y => !(y.lpn == x.en.lpn)))]) (fun z => L.length - z.1) ((0, none, 0)) (Nat.zero_le _) rfl ?_ (fun _ => rfl) fun z hI => ?_
      · rfl
      obtain ⟨j, am, cm⟩ := z
      dsimp only at hI ⊢
      refine J.r hX tab_ok 400 (fun _ => rfl) fun b76 => ?_
      refine J.cond rfl (fun h3 => ?_) (fun h3 => ?_)
      · simp only [decide_eq_true_eq, Int.ofNat_lt] at h3
        obtain ⟨y, hy⟩ : ∃ y, L[j]? = some y := ⟨_, List.getElem?_eq_getElem h3⟩
        have hfs := fl_succ x.en.lpn L j y hy
        have hfl : ((L.take j).filter fun y => !(y.lpn == x.en.lpn)).length ≤ j := Nat.le_trans (List.length_filter_le _ _) (by rw [List.length_take]; omega)
        refine J.know (p := ∃ y, a = some y) (fun h' s => oad2_some (s.get (i := 3) rfl) (by omega)) fun hk => ?_
        obtain ⟨⟨gl, ol⟩, rfl⟩ := hk
        refine J.r hX tab_ok 400 (fun _ => rfl) fun b77 => ?_
        refine J.plan (.of [0,4,8,12,17,20,24,29,32]) [] [3,4] (by rw [hX.hP]; kernel_rfl) (by kernel_rfl) ?_
        refine J.r hX tab_ok 400 (fun _ => rfl) fun b78 => ?_
        refine J.valT hX (.int .i64 y.lpn) 0 rfl rfl (fun hg aa w he hC => rd1_run tab_ok rfl rfl he rfl rfl rfl (hC rfl _ (cget_mem (i := 3) rfl)) (by omega) (j := j * 19 + 0) (by omega) (by rw [cellsE_cell hy 0 (by decide)]; rfl)) rfl ?_
        refine J.r hX tab_ok 400 (fun _ => rfl) fun b79 => ?_
        refine J.cond rfl (fun h4 => ?_) (fun h4 => ?_)
        · simp only [bne_iff_ne, ne_eq] at h4
          rw [if_neg h4] at hfs
          refine J.r hX tab_ok 400 (fun _ => rfl) fun b80 => ?_
          refine J.val hX (enV y) 0 rfl rfl (fun hg aa w he hw => rdN_run tab_ok rfl rfl he rfl rfl rfl (hw.get (i := 3) rfl) (by omega) (j := j * 19) (by omega) (cellsE_get hy) rfl) rfl trivial ?_
          refine J.r hX tab_ok 400 (fun _ => rfl) fun b81 => ?_
          refine J.append hX tab_ok 5 6 0 rfl rfl rfl rfl rfl rfl rfl rfl rfl rfl rfl rfl rfl rfl rfl rfl ?_ ?_ (fun _ => rfl) fun a2 c2 => ⟨_, (congrArg (fun y => lset _ 5 (ownA _ _ _ _ _ y)) (cellsE_snoc _ y)).trans rfl, trivial, ?_⟩
          · simp only [maxLen]; omega
          · omega
          rw [show ((L.take j).filter fun y => !(y.lpn == x.en.lpn)).length + 1 = ((L.take (j + 1)).filter fun y => !(y.lpn == x.en.lpn)).length from by rw [hfs]; simp, ← hfs]
          refine J.r hX tab_ok 400 (fun _ => rfl) fun b82 => ?_
          refine J.r hX tab_ok 400 (fun _ => rfl) fun b83 => ?_
          refine J.nS ((j + 1, a2, c2)) (by dsimp only; omega) (by dsimp only; omega) [0, 1, 2, 3, 4, 5] rfl rfl
        · simp only [bne_eq_false_iff_eq] at h4
          rw [if_pos h4] at hfs
          rw [← hfs]
          refine J.r hX tab_ok 400 (fun _ => rfl) fun b84 => ?_
          refine J.r hX tab_ok 400 (fun _ => rfl) fun b85 => ?_
          refine J.nS ((j + 1, am, cm)) (by dsimp only; omega) (by dsimp only; omega) [0, 1, 2, 3, 4, 5] rfl rfl
      simp only [decide_eq_false_iff_not, Int.ofNat_lt] at h3
      obtain rfl : j = L.length := by omega
      rw [List.take_length]
      have hfl := List.length_filter_le (fun y : En => !(y.lpn == x.en.lpn)) L
      refine J.r hX tab_ok 400 (fun _ => rfl) fun b86 => ?_
      refine J.append hX tab_ok 5 6 0 rfl rfl rfl rfl rfl rfl rfl rfl rfl rfl rfl rfl rfl rfl rfl rfl ?_ ?_ (fun _ => rfl) fun a2 c2 => ⟨_, (congrArg (fun y => lset _ 5 (ownA _ _ _ _ _ y)) (cellsE_snoc _ x.en)).trans rfl, trivial, ?_⟩
      · simp only [maxLen]; omega
      · omega
      have hput : (L.filter fun y => !(y.lpn == x.en.lpn)) ++ [x.en] = dkPut L x.en := rfl
      rw [show (L.filter fun y => !(y.lpn == x.en.lpn)).length + 1 = (dkPut L x.en).length from by rw [← hput]; simp, hput]
      have hpl := dkPut_len L x.en
      refine J.know (fun h' s => ownP_cap (s.get (i := 5) rfl)) fun hcap => ?_
      refine J.know (fun h' s => ownP_nil (s.get (i := 5) rfl)) fun hnil => ?_
      refine J.turn1 [5] rfl (As := [rdA (oad a2) 19 (dkPut L x.en).length (cellsE (dkPut L x.en))]) (fun h s => Sep.one (own_rd _ _ _ _ _ _ _ (s.get (i := 0) rfl))) rfl ?_
      refine J.r hX tab_ok 2 (fun _ => rfl) fun b87 => ?_
      cases a2 with
      | none => exact J.goto [0, 1, 2, 5] (hj ⟨⟨0, dkPut L x.en, none, c2⟩, hone.put x.en, by dsimp only; omega, hcap, fun _ => hnil rfl, dkPut_data hLd hxd⟩) ⟨rfl, rfl, rfl, rfl, trivial⟩ rfl rfl
      | some g => exact J.goto [0, 1, 2, 5] (hj ⟨⟨0, dkPut L x.en, some (g, 0), c2⟩, hone.put x.en, by dsimp only; omega, hcap, fun e => (by cases e), dkPut_data hLd hxd⟩) ⟨rfl, rfl, rfl, rfl, trivial⟩ rfl rfl
    obtain ⟨⟨_, L1, a1, c1⟩, z1, z2, z3, z5, z4⟩ := z
    dsimp only at z1 z2 z3 z5 z4 ⊢
    refine J.r hX tab_ok 400 (fun _ => rfl) fun b88 => ?_
    refine J.r hX tab_ok 400 (fun _ => rfl) fun b89 => ?_
    refine J.ca hX (by kernel_rfl) (d_Len d L1) [2] 0 rfl rfl rfl rfl rfl rfl (fun _ => rfl) ?_
    rintro v As ⟨rfl, rfl⟩
    refine ⟨_, rfl, trivial, ?_⟩
    refine J.r hX tab_ok 3 (fun _ => rfl) fun b90 => ?_
    rw [ne_selfI (L1.length : Int)]
    refine J.r hX tab_ok 400 (fun _ => rfl) fun b91 => ?_
    refine J.cond rfl (fun h => absurd h (by decide)) (fun _ => ?_)
    refine J.r hX tab_ok 400 (fun _ => rfl) fun b92 => ?_
    refine J.r hX tab_ok 400 (fun _ => rfl) fun b93 => ?_
    refine J.nS (⟨i + 1, L1, a1, c1⟩) (⟨by dsimp only; omega, rfl, z1, z2, z3, z5, z4⟩) (by dsimp only; omega) [0, 1, 2, 3] rfl rfl
  refine J.r hX tab_ok 400 (fun _ => rfl) fun b94 => ?_
  refine J.rt hX tab_ok [1] rfl rfl rfl ?_
  exact ⟨rfl, rfl⟩
end Go.Proofs.YtoideahgjgaddaaGreat
