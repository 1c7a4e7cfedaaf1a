/- Helpers of the proofs about ostrakonlaw11, proved here: Rng, Types, Lane, Geo, Spot, SpotB, Spt. No condition. -/
import Derived.Test.YtoideahgjgaddaaGreatP01
import Derived.Test.YtoideahgjgaddaaGreatP04
import Derived.Test.YtoideahgjgaddaaGreatP05
import Derived.Maps.RangeRun
set_option linter.unusedVariables false
set_option linter.unusedSimpArgs false
set_option linter.unusedSectionVars false
set_option linter.unnecessarySimpa false
/- A range over a map. No program in sight. -/
namespace Go.Proofs.YtoideahgjgaddaaGreat
open Go Go.RowKit
def itP {K : Type} (bm r : Nat) (kv : K → Value) (l : List (K × Value)) (is : List Nat) (h : Hl) : Prop :=
  ∃ es clock seen, h bm = some (.map es clock) ∧ h r = some (.mapIter (some bm) clock seen clock) ∧ es.toList.map (fun e => (e.key, e.val)) = l.map (fun x => (kv x.1, x.2)) ∧ (es.toList.map (·.born)).Nodup ∧ (∀ e ∈ es.toList, e.born < clock) ∧
    is.Nodup ∧ (∀ i ∈ is, i < l.length) ∧ seen.toList = is.map (fun i => (es.toList.map (·.born)).getD i 0)
def itA {K : Type} (bm r : Nat) (kv : K → Value) (l : List (K × Value)) (is : List Nat) : Atom := .hp ⟨itP bm r kv l is, fun _ _ u ⟨es, c, s, h1, h2, h3⟩ => ⟨es, c, s, u _ _ h1, u _ _ h2, h3⟩⟩
theorem it_map {K : Type} {bm r : Nat} {kv : K → Value} {l : List (K × Value)} {is : List Nat} {h : Hl} (s : Sep [itA bm r kv l is] h) : Sep [mapA bm kv l] h := by
  obtain ⟨es, c, sn, h1, h2, h3, h4, h5, _⟩ := s.get (i := 0) rfl
  exact Sep.one ⟨es, c, h1, h3, h4, h5⟩
theorem nodup_inj {α : Type} {l : List α} (h : l.Nodup) {i j : Nat} (hi : i < l.length) (hj : j < l.length) (e : l[i] = l[j]) : i = j := by
  have h' := List.pairwise_iff_getElem.1 h
  rcases Nat.lt_trichotomy i j with h1 | h1 | h1
  · exact absurd e (h' i j hi hj h1)
  · exact h1
  · exact absurd e.symm (h' j i hj hi h1)
theorem all_perm {n : Nat} {is : List Nat} (hn : is.Nodup) (hl : ∀ i ∈ is, i < n) (hall : ∀ i, i < n → i ∈ is) : is.Perm (List.range n) := by
  rw [List.perm_iff_count]
  intro a
  rw [List.Nodup.count hn, List.Nodup.count List.nodup_range]
  by_cases h : a ∈ is
  · rw [if_pos h, if_pos (List.mem_range.2 (hl a h))]
  · rw [if_neg h, if_neg (fun h2 => h (hall a (List.mem_range.1 h2)))]
/-- a part's block is changed, with the part's other blocks in sight -/
theorem Sep.part {L : List Atom} {h : Hl} (s : Sep L h) {i b : Nat} {o' : Obj} {A A' : Atom} (hA : L[i]? = some A) (hs : ∀ h', A.sat h' → ∃ o, h' b = some o) (hs' : ∀ h', Hle h' h → A.sat h' → A'.sat (hset h' b o')) : Sep (L.set i A') (hset h b o') := by
  obtain ⟨own, hw⟩ := s
  obtain ⟨o, ho⟩ := hs _ (hw i A hA)
  have hb := res_some.1 ho
  have hi : i < L.length := (List.getElem?_eq_some_iff.1 hA).1
  refine ⟨own, fun j B hB => ?_⟩
  rw [List.getElem?_set] at hB
  split at hB
  · rename_i e
    injection hB with hB
    subst hB; subst e
    refine Atom.up (fun x u hx => ?_) (hs' _ (fun b o hb => (res_some.1 hb).2) (hw _ A hA))
    rw [res_some]
    unfold hset at hx ⊢
    split at hx
    · rename_i e; subst e; exact ⟨hb.1, by simpa using hx⟩
    · rename_i e; rw [res_some] at hx; exact ⟨hx.1, by rw [if_neg e]; exact hx.2⟩
  · rename_i e
    refine Atom.up (fun x u hx => ?_) (hw j B hB)
    rw [res_some] at hx ⊢
    refine ⟨hx.1, ?_⟩
    unfold hset
    rw [if_neg]
    · exact hx.2
    · rintro rfl; exact e (hb.1.symm.trans hx.1)
/-- a part gets a new block -/
theorem Sep.grow {L : List Atom} {h : Hl} (s : Sep L h) {i b : Nat} {o' : Obj} {A A' : Atom} (hA : L[i]? = some A) (hn : h b = none) (hs' : ∀ h', Hle h' h → h' b = none → A.sat h' → A'.sat (hset h' b o')) : Sep (L.set i A') (hset h b o') := by
  obtain ⟨own, hw⟩ := s
  have hi : i < L.length := (List.getElem?_eq_some_iff.1 hA).1
  have hres : ∀ k, res h own k b = none := fun k => by unfold res; split <;> first | exact hn | rfl
  refine ⟨fun x => if x = b then i else own x, fun j B hB => ?_⟩
  rw [List.getElem?_set] at hB
  split at hB
  · rename_i e
    injection hB with hB
    subst hB; subst e
    refine Atom.up (fun x u hx => ?_) (hs' _ (fun b o hb => (res_some.1 hb).2) (hres _) (hw _ A hA))
    rw [res_some]
    unfold hset at hx ⊢
    split at hx
    · rename_i e; subst e; exact ⟨by simp, by simpa using hx⟩
    · rename_i e; rw [res_some] at hx; exact ⟨by rw [if_neg e]; exact hx.1, by rw [if_neg e]; exact hx.2⟩
  · rename_i e
    refine Atom.up (fun x u hx => ?_) (hw j B hB)
    rw [res_some] at hx ⊢
    have hxb : x ≠ b := by rintro rfl; rw [hn] at hx; cases hx.2
    refine ⟨by rw [if_neg hxb]; exact hx.1, ?_⟩
    unfold hset
    rw [if_neg hxb]
    exact hx.2
theorem hl_setBlock {w : World} {r : Nat} {o o' : Obj} (h : hl w r = some o) : hl (Go.ChangeMaps.setBlock w r o') = hset (hl w) r o' := by
  funext x
  unfold hl hset Go.ChangeMaps.setBlock
  simp only [Array.getElem?_setIfInBounds]
  by_cases e : x = r
  · subst e
    have hlt : x < w.heap.size := by
      rcases Nat.lt_or_ge x w.heap.size with h1 | h1
      · exact h1
      · simp only [hl] at h; rw [Array.getElem?_eq_none h1] at h; cases h
    simp [hlt]
  · rw [if_neg (Ne.symm e), if_neg e]
section
variable {X : Cx} {P : Program} {T : Tab} {K : List KI} {E : Env} {L : List Atom} {N : Nat} {F : HP} {Post : Value → List Atom → Prop} {rs : List ResultVar} {KK : Type} {kv : KK → Value}
theorem J.rangeMap (hX : IsCx X P rs N F Post) {ops : Array Oper} {C : Cl} {lt : Bool} {i : Nat} {t : PT} {o : Oper} {g : G} {MT KT ET : TypeId} {x : Operand} {k1 t1 bm : Nat} {g1 : G} {l : List (KK × Value)} {E' : Value → Env} {L2 : Nat → List Atom} (im : Nat)
    (hm : P.underlying MT = some (.map KT ET)) (ho : lget ops.toList i = some o) (hg : gd ops.toList E o = some g) (hgo : g.on = true) (hop : o.op = .range MT x) (hx : ev E x = some ⟨k1, .map (some bm), t1, g1⟩) (v1 : g1.on = true)
    (hL : lget L im = some (mapA bm kv l)) (hL2 : ∀ r, lset L im (itA bm r kv l []) = some (L2 r)) (hd : ∀ v, putE N o.dst v 0 .tt E = some (E' v))
    (hJ : ∀ r, Conj (staysL lt C (L2 r)) ∧ J X (.reg ops C t :: K) (E' (.pointer (some ⟨r, 0, none⟩))) (L2 r)) : J X (.reg ops C (.alt lt i t .non) :: K) E L := by
  refine J.op hX (S := fun v' L' => ∃ r, v' = .pointer (some ⟨r, 0, none⟩) ∧ L' = L.set im (itA bm r kv l [])) 0 ho hg hgo (fun a0 w hen hs => ?_) hd (fun v L' ⟨r, e1, e2⟩ => by subst e1; subst e2; rw [← lset_eq (hL2 r)]; exact hJ r)
  rw [lget_eq] at hL
  have ex := ev_spec hen hx
  simp only [Slot.val, v1] at ex
  obtain ⟨es, clock, h1, h2, h3, h4⟩ : mapP bm kv l (hl w) := hs.get hL
  have hr := run_range_map (P := P) w MT KT ET bm es clock hm h1
  have hbm : bm ≠ w.heap.size := fun e => by
    have := h1; simp only [hl] at this; rw [e, Array.getElem?_eq_none (Nat.le_refl _)] at this; cases this
  refine ⟨_, _, .value (.pointer (some ⟨w.heap.size, 0, none⟩)), w.alloc (.mapIter (some bm) clock #[] clock), ⟨w.heap.size, rfl, rfl⟩, ?_, .inl rfl, ?_, ⟨rfl, rfl, rfl, by show w.heap.size ≤ (w.heap.push _).size; simp⟩⟩
  · simp only [execOp, hop, ex, hr, Sem.run_bind, Result.andThen_ok, Sem.run_pure]
  · show Sep _ (hl { w with heap := w.heap.push (Obj.mapIter (some bm) clock #[] clock) })
    rw [hl_push]
    refine Sep.grow hs hL (hl_none w) (fun h' hle hn ⟨es', c', q1, q2, q3, q4⟩ => ?_)
    have e1 := (hle _ _ q1).symm.trans h1
    simp only [Option.some.injEq, Obj.map.injEq] at e1
    obtain ⟨rfl, rfl⟩ := e1
    exact ⟨es', c', #[], by unfold hset; rw [if_neg hbm]; exact q1, by unfold hset; rw [if_pos rfl], q2, q3, q4, List.nodup_nil, by simp, rfl⟩
/-- one step of the range -/
theorem J.rangeNext (hX : IsCx X P rs N F Post) {ops : Array Oper} {C : Cl} {lt : Bool} {i : Nat} {t : PT} {o : Oper} {g : G} {x : Operand} {k1 t1 bm r : Nat} {g1 : G} {l : List (KK × Value)} {is : List Nat} {E' : Value → Env} {L2 : Nat → List Atom} (im : Nat)
    (ho : lget ops.toList i = some o) (hg : gd ops.toList E o = some g) (hgo : g.on = true) (hop : o.op = .next x false) (hx : ev E x = some ⟨k1, .pointer (some ⟨r, 0, none⟩), t1, g1⟩) (v1 : g1.on = true)
    (hL : lget L im = some (itA bm r kv l is)) (hL2 : ∀ j, lset L im (itA bm r kv l (is ++ [j])) = some (L2 j)) (hd : ∀ v, putE N o.dst v 0 .tt E = some (E' v))
    (h0 : is.Perm (List.range l.length) → Conj (staysL lt C L) ∧ J X (.reg ops C t :: K) (E' (.tuple #[.bool false])) L)
    (h1 : ∀ j y, j ∉ is → l[j]? = some y → Conj (staysL lt C (L2 j)) ∧ J X (.reg ops C t :: K) (E' (.tuple #[.bool true, kv y.1, y.2])) (L2 j)) : J X (.reg ops C (.alt lt i t .non) :: K) E L := by
  refine J.op hX (S := fun v' L' => (is.Perm (List.range l.length) ∧ v' = .tuple #[.bool false] ∧ L' = L) ∨ ∃ j y, j ∉ is ∧ l[j]? = some y ∧ v' = .tuple #[.bool true, kv y.1, y.2] ∧ L' = L.set im (itA bm r kv l (is ++ [j]))) 0 ho hg hgo (fun a0 w hen hs => ?_) hd (fun v L' hS => by
    rcases hS with ⟨e0, e1, e2⟩ | ⟨j, y, e0, e1, e2, e3⟩
    · subst e1; subst e2; exact h0 e0
    · subst e2; subst e3; rw [← lset_eq (hL2 j)]; exact h1 j y e0 e1)
  rw [lget_eq] at hL
  have ex := ev_spec hen hx
  simp only [Slot.val, v1] at ex
  obtain ⟨es, clock, seen, q1, q2, q3, q4, q5, q6, q7, q8⟩ : itP bm r kv l is (hl w) := hs.get hL
  have hlen : es.toList.length = l.length := by have := congrArg List.length q3; simpa using this
  rcases run_next_at (P := P) w o.type r bm clock clock seen es clock q2 q1 q5 (Nat.le_refl _) with ⟨z1, z2⟩ | ⟨e, z1, w1, z2, z3⟩
  · refine ⟨.tuple #[.bool false], L, .value (.tuple #[.bool false]), w, .inl ⟨?_, rfl, rfl⟩, ?_, .inl rfl, hs, Ext.refl _⟩
    · refine all_perm q6 q7 (fun j hj => ?_)
      have hj' : j < es.toList.length := by omega
      have h0 : leftOf es seen = #[] := Array.eq_empty_of_size_eq_zero z1
      have hm : es.toList[j] ∈ es.toList := List.getElem_mem hj'
      have hs1 : seen.contains (es.toList[j]).born = true := by
        cases hc : seen.contains (es.toList[j]).born with
        | true => rfl
        | false =>
          exfalso
          have : es.toList[j] ∈ leftOf es seen := by
            unfold leftOf
            rw [Array.mem_filter]
            exact ⟨by simpa using hm, by rw [hc]; rfl⟩
          rw [h0] at this; simp at this
      have hs2 : (es.toList[j]).born ∈ seen.toList := by simpa using hs1
      rw [q8, List.mem_map] at hs2
      obtain ⟨i', hi', e⟩ := hs2
      have hi2 : i' < es.toList.length := by have := q7 i' hi'; omega
      have e2 : (es.toList.map (·.born))[i']'(by simpa using hi2) = (es.toList.map (·.born))[j]'(by simpa using hj') := by
        rw [List.getD_eq_getElem?_getD, List.getElem?_eq_getElem (by simpa using hi2), Option.getD_some] at e
        rw [e, List.getElem_map]
      have := nodup_inj q4 _ _ e2
      subst this
      exact hi'
    · simp only [execOp, hop, ex, z2, Sem.run_bind, Result.andThen_ok, Sem.run_pure]
  · have hle : e ∈ es.toList ∧ seen.contains e.born = false := by
      have : e ∈ leftOf es seen := by simpa using z1
      unfold leftOf at this
      rw [Array.mem_filter] at this
      exact ⟨by simpa using this.1, by simpa using this.2⟩
    obtain ⟨j, hj, hje⟩ := List.mem_iff_getElem.1 hle.1
    have hjl : j < l.length := by omega
    have hkv : (e.key, e.val) = (kv l[j].1, l[j].2) := by
      have h2 : (es.toList.map fun e => (e.key, e.val))[j]'(by simpa using hj) = (l.map fun x => (kv x.1, x.2))[j]'(by simpa using hjl) := by simp only [q3]
      rw [List.getElem_map, List.getElem_map, hje] at h2
      exact h2
    simp only [Prod.mk.injEq] at hkv
    have hbj : (es.toList.map (·.born)).getD j 0 = e.born := by
      rw [List.getD_eq_getElem?_getD, List.getElem?_eq_getElem (by simpa using hj), Option.getD_some, List.getElem_map, hje]
    have hnj : j ∉ is := fun hm => by
      have : e.born ∈ seen.toList := by rw [q8, List.mem_map]; exact ⟨j, hm, hbj⟩
      have h2 : seen.contains e.born = true := by simpa using this
      rw [hle.2] at h2; cases h2
    have hw1 : hl w1 = hl w := by rcases z2 with rfl | rfl <;> rfl
    have hx1 : Ext w w1 := by rcases z2 with rfl | rfl <;> exact ⟨rfl, rfl, rfl, Nat.le_refl _⟩
    refine ⟨.tuple #[.bool true, kv l[j].1, l[j].2], L.set im (itA bm r kv l (is ++ [j])), .value (.tuple #[.bool true, e.key, e.val]), Go.ChangeMaps.setBlock w1 r (.mapIter (some bm) clock (seen.push e.born) clock), .inr ⟨j, l[j], hnj, List.getElem?_eq_getElem hjl, rfl, rfl⟩, ?_, .inl (by rw [hkv.1, hkv.2]), ?_, ?_⟩
    · simp only [execOp, hop, ex, z3, Sem.run_bind, Result.andThen_ok, Sem.run_pure]
    · rw [hl_setBlock (by rw [hw1]; exact q2), hw1]
      refine Sep.part hs hL (fun h' ⟨_, _, _, _, u, _⟩ => ⟨_, u⟩) (fun h' hh ⟨es', c', sn', u1, u2, u3⟩ => ?_)
      have e1 := (hh _ _ u1).symm.trans q1
      have e2 := (hh _ _ u2).symm.trans q2
      simp only [Option.some.injEq, Obj.map.injEq] at e1
      simp only [Option.some.injEq, Obj.mapIter.injEq] at e2
      obtain ⟨rfl, rfl⟩ := e1
      obtain ⟨-, -, rfl, -⟩ := e2
      have hne : bm ≠ r := by rintro rfl; rw [q1] at q2; cases q2
      refine ⟨es', c', sn'.push e.born, by unfold hset; rw [if_neg hne]; exact u1, by unfold hset; rw [if_pos rfl], q3, q4, q5, ?_, ?_, ?_⟩
      · rw [List.nodup_append]
        exact ⟨q6, by simp, fun a ha b hb => by simp at hb; subst hb; rintro rfl; exact hnj ha⟩
      · intro a ha
        rw [List.mem_append] at ha
        rcases ha with ha | ha
        · exact q7 a ha
        · simp at ha; subst ha; exact hjl
      · rw [Array.toList_push, q8, List.map_append, List.map_cons, List.map_nil, hbj]
    · exact ⟨hx1.os, hx1.tape, hx1.output, Nat.le_trans hx1.size (by simp [Go.ChangeMaps.setBlock])⟩
/-- what the step gave -/
theorem J.rangeEntry (hX : IsCx X P rs N F Post) {ops : Array Oper} {C : Cl} {lt : Bool} {i : Nat} {t : PT} {o : Oper} {g : G} {x : Operand} {k1 t1 bm r : Nat} {g1 : G} {l : List (KK × Value)} {is : List Nat} {j : Nat} {y : KK × Value} {E' : Env} (im : Nat)
    (ho : lget ops.toList i = some o) (hg : gd ops.toList E o = some g) (hgo : g.on = true) (hop : o.op = .entry x) (hx : ev E x = some ⟨k1, .pointer (some ⟨r, 0, none⟩), t1, g1⟩) (v1 : g1.on = true)
    (hL : lget L im = some (itA bm r kv l (is ++ [j]))) (hy : l[j]? = some y) (hd : putE N o.dst (.tuple #[kv y.1, y.2]) 0 g E = some E')
    (hJ : Conj (staysL lt C L) ∧ J X (.reg ops C t :: K) E' L) : J X (.reg ops C (.alt lt i t .non) :: K) E L := by
  refine J.val hX _ 0 ho hg (fun _ a w hen hs => ?_) hd hJ.1 hJ.2
  rw [lget_eq] at hL
  have ex := ev_spec hen hx
  simp only [Slot.val, v1] at ex
  obtain ⟨es, clock, seen, q1, q2, q3, q4, q5, q6, q7, q8⟩ : itP bm r kv l (is ++ [j]) (hl w) := hs.get hL
  have hjl : j < l.length := (List.getElem?_eq_some_iff.1 hy).1
  have hlen : es.toList.length = l.length := by have := congrArg List.length q3; simpa using this
  have hj : j < es.toList.length := by omega
  have hkv : ((es.toList[j]).key, (es.toList[j]).val) = (kv y.1, y.2) := by
    have h2 : (es.toList.map fun e => (e.key, e.val))[j]'(by simpa using hj) = (l.map fun x => (kv x.1, x.2))[j]'(by simpa using hjl) := by simp only [q3]
    rw [List.getElem_map, List.getElem_map, (List.getElem?_eq_some_iff.1 hy).2] at h2
    exact h2
  simp only [Prod.mk.injEq] at hkv
  have hs : seen = (is.map (fun i => (es.toList.map (·.born)).getD i 0)).toArray.push (es.toList[j]).born := by
    apply Array.toList_inj.1
    rw [q8, Array.toList_push, List.map_append, List.map_cons, List.map_nil, List.getD_eq_getElem?_getD, List.getElem?_eq_getElem (by simpa using hj), Option.getD_some, List.getElem_map]
  have hr := run_entry_at (P := P) w r bm clock (is.map (fun i => (es.toList.map (·.born)).getD i 0)).toArray es clock (es.toList[j]) (by rw [← hs]; exact q2) q1 (List.getElem_mem hj) q4
  simp only [execOp, hop, ex, hr, Sem.run_bind, Result.andThen_ok, Sem.run_pure, hkv.1, hkv.2]
end
end Go.Proofs.YtoideahgjgaddaaGreat
/- What is known of the types. Printed by mktab.py. -/
namespace Go.Proofs.YtoideahgjgaddaaGreat
open Go
def tab : Tab := [
  (3, ⟨(.int .i64), 1, [.int .i64 0], 8⟩),
  (1, ⟨.other, 1, [.nilFunc], 8⟩),
  (137, ⟨(.row [(0, 16, true), (16, 1, false), (17, 1, false), (18, 1, false), (19, 1, false), (20, 1, false), (21, 1, false), (22, 1, false)]), 23, [.int .u8 0, .int .u8 0, .int .u8 0, .int .u8 0, .int .u8 0, .int .u8 0, .int .u8 0, .int .u8 0, .int .u8 0, .int .u8 0, .int .u8 0, .int .u8 0, .int .u8 0, .int .u8 0, .int .u8 0, .int .u8 0, .int .i64 0, .int .i64 0, .int .i64 0, .int .i64 0, .int .i64 0, .int .i64 0, .int .i64 0], 72⟩),
  (2, ⟨(.int .i64), 1, [.int .i64 0], 8⟩),
  (66, ⟨(.row [(0, 1, false), (1, 1, false), (2, 1, false)]), 3, [.int .i64 0, .int .i64 0, .int .i64 0], 24⟩),
  (45, ⟨(.row [(0, 1, false), (1, 1, false), (2, 1, false), (3, 16, true)]), 19, [.int .i64 0, .int .i64 0, .int .i64 0, .int .u8 0, .int .u8 0, .int .u8 0, .int .u8 0, .int .u8 0, .int .u8 0, .int .u8 0, .int .u8 0, .int .u8 0, .int .u8 0, .int .u8 0, .int .u8 0, .int .u8 0, .int .u8 0, .int .u8 0, .int .u8 0], 40⟩),
  (32, ⟨(.slice 3 1), 1, [.slice none 0 0], 24⟩),
  (4, ⟨.bool, 1, [.bool false], 1⟩),
  (31, ⟨(.slice 45 19), 1, [.slice none 0 0], 24⟩),
  (23, ⟨(.row [(0, 1, false), (1, 1, false), (2, 1, false)]), 3, [.int .i64 0, .int .i64 0, .int .i64 0], 24⟩),
  (28, ⟨.ptr, 1, [.pointer none], 8⟩),
  (272, ⟨(.slice 66 3), 1, [.slice none 0 0], 24⟩),
  (181, ⟨(.int .u64), 1, [.int .u64 0], 8⟩),
  (103, ⟨(.row [(0, 19, true), (19, 3, true), (22, 1, false), (23, 1, false), (24, 1, false)]), 25, [.int .i64 0, .int .i64 0, .int .i64 0, .int .u8 0, .int .u8 0, .int .u8 0, .int .u8 0, .int .u8 0, .int .u8 0, .int .u8 0, .int .u8 0, .int .u8 0, .int .u8 0, .int .u8 0, .int .u8 0, .int .u8 0, .int .u8 0, .int .u8 0, .int .u8 0, .int .i64 0, .int .i64 0, .int .i64 0, .int .i64 0, .bool false, .bool false], 80⟩),
  (94, ⟨(.arr 32 1), 32, [.int .u8 0, .int .u8 0, .int .u8 0, .int .u8 0, .int .u8 0, .int .u8 0, .int .u8 0, .int .u8 0, .int .u8 0, .int .u8 0, .int .u8 0, .int .u8 0, .int .u8 0, .int .u8 0, .int .u8 0, .int .u8 0, .int .u8 0, .int .u8 0, .int .u8 0, .int .u8 0, .int .u8 0, .int .u8 0, .int .u8 0, .int .u8 0, .int .u8 0, .int .u8 0, .int .u8 0, .int .u8 0, .int .u8 0, .int .u8 0, .int .u8 0, .int .u8 0], 32⟩),
  (34, ⟨(.row [(0, 1, false), (1, 1, false), (2, 1, false), (3, 1, false), (4, 1, false), (5, 1, false)]), 6, [.pointer none, .slice none 0 0, .int .i64 0, .slice none 0 0, .int .i64 0, .int .i64 0], 80⟩),
  (30, ⟨.ptr, 1, [.pointer none], 8⟩),
  (35, ⟨(.int .i64), 1, [.int .i64 0], 8⟩),
  (5, ⟨(.int .u8), 1, [.int .u8 0], 1⟩),
  (68, ⟨(.row [(0, 1, false), (1, 1, false), (2, 3, true), (5, 1, false), (6, 1, false)]), 7, [.int .i64 0, .int .i64 0, .int .i64 0, .int .i64 0, .int .i64 0, .int .i64 0, .int .i64 0], 56⟩),
  (100, ⟨(.slice 103 25), 1, [.slice none 0 0], 24⟩),
  (62, ⟨(.int .u64), 1, [.int .u64 0], 8⟩),
  (25, ⟨(.slice 68 7), 1, [.slice none 0 0], 24⟩),
  (52, ⟨(.row [(0, 3, true), (3, 1, false), (4, 1, false), (5, 1, false)]), 6, [.int .i64 0, .int .i64 0, .int .i64 0, .int .i64 0, .int .i64 0, .int .i64 0], 48⟩),
  (199, ⟨.ptr, 1, [.pointer none], 8⟩),
  (50, ⟨(.row [(0, 1, false), (1, 1, false), (2, 1, false)]), 3, [.int .i64 0, .int .i64 0, .int .i64 0], 24⟩),
  (161, ⟨(.slice 137 23), 1, [.slice none 0 0], 24⟩),
  (195, ⟨(.int .u32), 1, [.int .u32 0], 4⟩),
  (86, ⟨(.slice 4 1), 1, [.slice none 0 0], 24⟩),
  (188, ⟨(.slice 5 1), 1, [.slice none 0 0], 24⟩),
  (124, ⟨(.row [(0, 3, true), (3, 1, false), (4, 1, false), (5, 1, false), (6, 1, false), (7, 1, false), (8, 1, false), (9, 1, false), (10, 1, false), (11, 1, false)]), 12, [.int .i64 0, .int .i64 0, .int .i64 0, .map none, .pointer none, .slice none 0 0, .bool false, .int .i64 0, .int .i64 0, .bool false, .int .i64 0, .int .i64 0], 112⟩),
  (132, ⟨(.slice 148 34), 1, [.slice none 0 0], 24⟩),
  (43, ⟨(.arr 16 1), 16, [.int .u8 0, .int .u8 0, .int .u8 0, .int .u8 0, .int .u8 0, .int .u8 0, .int .u8 0, .int .u8 0, .int .u8 0, .int .u8 0, .int .u8 0, .int .u8 0, .int .u8 0, .int .u8 0, .int .u8 0, .int .u8 0], 16⟩),
  (40, ⟨(.row [(0, 1, false), (1, 1, false), (2, 1, false), (3, 1, false), (4, 1, false), (5, 1, false)]), 6, [.pointer none, .slice none 0 0, .int .i64 0, .slice none 0 0, .int .i64 0, .int .i64 0], 80⟩),
  (71, ⟨.ptr, 1, [.pointer none], 8⟩),
  (134, ⟨(.row [(0, 1, false), (1, 1, false), (2, 1, false), (3, 1, false)]), 4, [.slice none 0 0, .int .i64 0, .bool false, .bool false], 40⟩),
  (163, ⟨(.row [(0, 1, false), (1, 1, false), (2, 23, true), (25, 1, false)]), 26, [.slice none 0 0, .slice none 0 0, .int .u8 0, .int .u8 0, .int .u8 0, .int .u8 0, .int .u8 0, .int .u8 0, .int .u8 0, .int .u8 0, .int .u8 0, .int .u8 0, .int .u8 0, .int .u8 0, .int .u8 0, .int .u8 0, .int .u8 0, .int .u8 0, .int .i64 0, .int .i64 0, .int .i64 0, .int .i64 0, .int .i64 0, .int .i64 0, .int .i64 0, .bool false], 128⟩),
  (7, ⟨(.row [(0, 1, false), (1, 1, false), (2, 1, false), (3, 1, false)]), 4, [.int .i64 0, .int .i64 0, .bool false, .int .u8 0], 24⟩),
  (249, ⟨(.int .u64), 1, [.int .u64 0], 8⟩),
  (112, ⟨(.slice 119 7), 1, [.slice none 0 0], 24⟩),
  (298, ⟨.other, 1, [.nilFunc], 8⟩),
  (6, ⟨(.int .u8), 1, [.int .u8 0], 1⟩),
  (286, ⟨.ptr, 1, [.pointer none], 8⟩),
  (121, ⟨.map, 1, [.map none], 8⟩),
  (122, ⟨.ptr, 1, [.pointer none], 8⟩),
  (114, ⟨(.row [(0, 1, false), (1, 1, false)]), 2, [.slice none 0 0, .int .i64 0], 32⟩),
  (247, ⟨.ptr, 1, [.pointer none], 8⟩),
  (128, ⟨(.row [(0, 1, false), (1, 1, false), (2, 1, false), (3, 1, false)]), 4, [.int .i64 0, .map none, .map none, .int .i64 0], 32⟩),
  (150, ⟨(.row [(0, 1, false)]), 1, [.slice none 0 0], 24⟩),
  (190, ⟨(.row [(0, 1, false), (1, 1, false)]), 2, [.slice none 0 0, .int .i64 0], 32⟩),
  (187, ⟨.ptr, 1, [.pointer none], 8⟩),
  (59, ⟨(.row [(0, 1, false), (1, 1, false), (2, 1, false)]), 3, [.int .i64 0, .int .i64 0, .slice none 0 0], 40⟩),
  (119, ⟨(.row [(0, 1, false), (1, 3, true), (4, 1, false), (5, 1, false), (6, 1, false)]), 7, [.bool false, .int .i64 0, .int .i64 0, .int .i64 0, .int .i64 0, .int .i64 0, .int .i64 0], 56⟩),
  (97, ⟨(.slice 100 1), 1, [.slice none 0 0], 24⟩),
  (9, ⟨.other, 1, [.string ⟨#[]⟩], 16⟩),
  (148, ⟨(.row [(0, 32, true), (32, 1, false), (33, 1, false)]), 34, [.int .u8 0, .int .u8 0, .int .u8 0, .int .u8 0, .int .u8 0, .int .u8 0, .int .u8 0, .int .u8 0, .int .u8 0, .int .u8 0, .int .u8 0, .int .u8 0, .int .u8 0, .int .u8 0, .int .u8 0, .int .u8 0, .int .u8 0, .int .u8 0, .int .u8 0, .int .u8 0, .int .u8 0, .int .u8 0, .int .u8 0, .int .u8 0, .int .u8 0, .int .u8 0, .int .u8 0, .int .u8 0, .int .u8 0, .int .u8 0, .int .u8 0, .int .u8 0, .bool false, .bool false], 34⟩),
  (234, ⟨.ptr, 1, [.pointer none], 8⟩),
  (278, ⟨.other, 1, [.nilFunc], 8⟩),
  (74, ⟨(.row [(0, 1, false), (1, 19, true), (20, 3, true), (23, 1, false), (24, 1, false), (25, 1, false), (26, 1, false)]), 27, [.int .i64 0, .int .i64 0, .int .i64 0, .int .i64 0, .int .u8 0, .int .u8 0, .int .u8 0, .int .u8 0, .int .u8 0, .int .u8 0, .int .u8 0, .int .u8 0, .int .u8 0, .int .u8 0, .int .u8 0, .int .u8 0, .int .u8 0, .int .u8 0, .int .u8 0, .int .u8 0, .int .i64 0, .int .i64 0, .int .i64 0, .int .i64 0, .int .i64 0, .int .i64 0, .int .i64 0], 104⟩),
  (99, ⟨(.row [(0, 1, false), (1, 1, false)]), 2, [.pointer none, .slice none 0 0], 32⟩),
  (125, ⟨.map, 1, [.map none], 8⟩),
  (265, ⟨(.row [(0, 1, false), (1, 1, false)]), 2, [.slice none 0 0, .int .i64 0], 32⟩),
  (275, ⟨(.row [(0, 1, false)]), 1, [.slice none 0 0], 24⟩),
  (301, ⟨.map, 1, [.map none], 8⟩),
  (26, ⟨(.slice 94 32), 1, [.slice none 0 0], 24⟩),
  (126, ⟨.map, 1, [.map none], 8⟩),
  (178, ⟨.map, 1, [.map none], 8⟩),
  (24, ⟨(.slice 59 3), 1, [.slice none 0 0], 24⟩),
  (215, ⟨(.int .i64), 1, [.int .i64 0], 8⟩),
  (233, ⟨(.row [(0, 3, true), (3, 1, false), (4, 1, false)]), 5, [.int .i64 0, .int .i64 0, .int .i64 0, .slice none 0 0, .int .i64 0], 56⟩),
  (237, ⟨(.row [(0, 1, false), (1, 1, false), (2, 1, false), (3, 1, false)]), 4, [.int .i64 0, .int .i64 0, .bool false, .bool false], 24⟩),
  (243, ⟨.ptr, 1, [.pointer none], 8⟩),
  (38, ⟨.ptr, 1, [.pointer none], 8⟩),
  (170, ⟨.other, 1, [.nilFunc], 8⟩),
  (258, ⟨.ptr, 1, [.pointer none], 8⟩),
  (303, ⟨(.row [(0, 1, false)]), 1, [.map none], 8⟩),
  (154, ⟨.other, 1, [.nilFunc], 8⟩),
  (180, ⟨(.row [(0, 1, false)]), 1, [.map none], 8⟩),
  (291, ⟨(.slice 32 1), 1, [.slice none 0 0], 24⟩),
  (231, ⟨(.slice 237 4), 1, [.slice none 0 0], 24⟩),
  (8, ⟨(.row [(0, 1, false), (1, 1, false), (2, 1, false), (3, 1, false)]), 4, [.int .i64 0, .int .i64 0, .bool false, .int .u8 0], 24⟩),
  (131, ⟨.ptr, 1, [.pointer none], 8⟩),
  (304, ⟨.map, 1, [.map none], 8⟩),
  (96, ⟨.ptr, 1, [.pointer none], 8⟩),
  (91, ⟨.other, 1, [.nilFunc], 8⟩),
  (159, ⟨.other, 1, [.nilFunc], 8⟩),
  (70, ⟨(.slice 74 27), 1, [.slice none 0 0], 24⟩),
  (107, ⟨.other, 1, [.nilFunc], 8⟩),
  (193, ⟨(.arr 4 1), 4, [.int .i64 0, .int .i64 0, .int .i64 0, .int .i64 0], 32⟩),
  (186, ⟨.other, 1, [.nilFunc], 8⟩),
  (248, ⟨(.arr 4 1), 4, [.pointer none, .pointer none, .pointer none, .pointer none], 32⟩),
  (281, ⟨.other, 1, [.nilFunc], 8⟩)]
theorem tab_ok : TabOK Tryz.prog tab := TabOK.mk (by kernel_rfl)
end Go.Proofs.YtoideahgjgaddaaGreat
namespace Go.Proofs.YtoideahgjgaddaaGreat
open Go.RowKit

theorem has_bits (m d : Int) (h0 : 0 ≤ m) (h1 : m < 256) : (!(bits .and .i64 m (L.one d) == 0)) = L.has m d := by
  obtain ⟨m, rfl⟩ := Int.eq_ofNat_of_zero_le h0
  by_cases hd : 0 ≤ d ∧ d < 8
  · obtain ⟨d, rfl⟩ := Int.eq_ofNat_of_zero_le hd.1
    have h2 : d < 8 := by omega
    simp only [L.one, hd, and_self, if_true, Int.toNat_natCast]
    have h3 : (2 : Nat) ^ d < 9223372036854775808 := Nat.lt_of_le_of_lt (Nat.pow_le_pow_right (by omega) (by omega : d ≤ 8)) (by decide)
    rw [i64_and_nat _ _ (by omega) h3, nat_bit]
    have h4 : L.has (m : Int) (d : Int) = m.testBit d := by simp [L.has, L.set, h1]; omega
    have h5 : 0 < 2 ^ d := Nat.pow_pos (by omega)
    have h6 : ¬ (((2 ^ d : Nat) : Int) = 0) := by omega
    rw [h4, Nat.testBit_eq_decide_div_mod_eq]
    rcases Nat.mod_two_eq_zero_or_one (m / 2 ^ d) with h | h
    · simp [h]
    · rw [h, Nat.one_mul, beq_eq_false_iff_ne.2 h6]; rfl
  · have : L.one d = 0 := by simp [L.one, hd]
    rw [this]
    have h4 : L.has (m : Int) d = false := by
      simp only [L.has, Bool.and_eq_false_iff, decide_eq_false_iff_not]; omega
    rw [h4, show (0 : Int) = ((0 : Nat) : Int) from rfl, i64_and_nat _ _ (by omega) (by omega)]; simp

theorem one_cases (d : Int) : L.one d = 0 ∨ ∃ k : Nat, k < 8 ∧ d = k ∧ L.one d = ((2 ^ k : Nat) : Int) := by
  by_cases hd : 0 ≤ d ∧ d < 8
  · obtain ⟨d, rfl⟩ := Int.eq_ofNat_of_zero_le hd.1
    exact .inr ⟨d, by omega, rfl, by simp only [L.one, hd, and_self, if_true, Int.toNat_natCast]⟩
  · exact .inl (by simp [L.one, hd])
theorem one_bd (d : Int) : 0 ≤ L.one d ∧ L.one d < 256 := by
  rcases one_cases d with h | ⟨k, hk, _, h⟩
  · omega
  · have := Nat.pow_le_pow_right (n := 2) (by omega) (by omega : k ≤ 7)
    rw [h]
    generalize 2 ^ k = q at *
    omega
theorem with_bits (m d : Int) (h0 : 0 ≤ m) (h1 : m < 256) : bits .or .i64 m (L.one d) = L.with_ m d := by
  obtain ⟨m, rfl⟩ := Int.eq_ofNat_of_zero_le h0
  obtain ⟨k, hk⟩ := Int.eq_ofNat_of_zero_le (one_bd d).1
  have := (one_bd d).2
  rw [hk] at this ⊢
  rw [i64_or_nat _ _ (by omega) (by omega)]
  simp [L.with_, L.set, hk, h1]
theorem without_dec : ∀ m, m < 256 → ∀ k, k < 8 → bits .andNot .i64 ((m : Nat) : Int) ((2 ^ k : Nat) : Int) = ((m &&& (255 - 2 ^ k) : Nat) : Int) := by decide +kernel
theorem without_dec0 : ∀ m, m < 256 → bits .andNot .i64 ((m : Nat) : Int) 0 = ((m &&& 255 : Nat) : Int) := by decide +kernel
theorem without_bits (m d : Int) (h0 : 0 ≤ m) (h1 : m < 256) : bits .andNot .i64 m (L.one d) = L.without m d := by
  obtain ⟨m, rfl⟩ := Int.eq_ofNat_of_zero_le h0
  have hs : L.set (m : Int) = true := by simp [L.set]; omega
  rcases one_cases d with h | ⟨k, hk, _, h⟩
  · rw [h, without_dec0 _ (by omega)]; simp only [L.without, hs, h, if_true, Int.toNat_natCast]; rfl
  · rw [h, without_dec _ (by omega) _ hk]; simp only [L.without, hs, h, if_true, Int.toNat_natCast]

set_option maxHeartbeats 400000 in
theorem lane_set (m : Int) (w : World) :
    Calls Tryz.prog 114 #[.int .i64 m] w fun e w' => e = .returned (.bool (L.set m)) ∧ w = w' := by
  by_cases h0 : 0 ≤ m
  · go_enter Tryz.func114, Tryz.ntmps114
    go_wp2
    go_ret
    exact ⟨retB (by simp [L.set, h0]), rfl⟩
  · go_enter Tryz.func114, Tryz.ntmps114
    go_wp2
    go_ret
    exact ⟨retB (by simp [L.set]; omega), rfl⟩

set_option maxHeartbeats 400000 in
theorem lane_one (d : Int) (w : World) :
    Calls Tryz.prog 115 #[.int .i64 d] w fun e w' => e = .returned (.int .i64 (L.one d)) ∧ w = w' := by
  by_cases h0 : d < 0
  · go_enter Tryz.func115, Tryz.ntmps115
    go_wp2
    go_ret
    exact ⟨retI (by simp [L.one]; omega), rfl⟩
  · by_cases h8 : 8 ≤ d
    · go_enter Tryz.func115, Tryz.ntmps115
      go_wp2
      go_ret
      exact ⟨retI (by simp [L.one]; omega), rfl⟩
    · obtain ⟨d, rfl⟩ := Int.eq_ofNat_of_zero_le (by omega : 0 ≤ d)
      have : d < 8 := by omega
      match d, this with
      | 0, _ | 1, _ | 2, _ | 3, _ | 4, _ | 5, _ | 6, _ | 7, _ =>
        go_enter Tryz.func115, Tryz.ntmps115
        go_wp2
        go_ret
        exact ⟨rfl, rfl⟩

set_option maxHeartbeats 400000 in
theorem lane_All (n : Int) (w : World) :
    Calls Tryz.prog 170 #[.int .i64 n] w fun e w' => e = .returned (.int .i64 (L.all n)) ∧ w = w' := by
  by_cases h0 : n < 0
  · go_enter Tryz.func170, Tryz.ntmps170
    go_wp2
    go_ret
    exact ⟨retI (by simp [L.all]; omega), rfl⟩
  · by_cases h8 : 8 < n
    · go_enter Tryz.func170, Tryz.ntmps170
      go_wp2
      go_ret
      exact ⟨retI (by simp [L.all]; omega), rfl⟩
    · obtain ⟨d, rfl⟩ := Int.eq_ofNat_of_zero_le (by omega : 0 ≤ n)
      have : d < 9 := by omega
      match d, this with
      | 0, _ | 1, _ | 2, _ | 3, _ | 4, _ | 5, _ | 6, _ | 7, _ | 8, _ =>
        go_enter Tryz.func170, Tryz.ntmps170
        go_wp2
        go_ret
        exact ⟨rfl, rfl⟩

set_option maxHeartbeats 400000 in
theorem lane_Has (m d : Int) (w : World) :
    Calls Tryz.prog 139 #[.int .i64 m, .int .i64 d] w fun e w' => e = .returned (.bool (L.has m d)) ∧ w = w' := by
  by_cases h : 0 ≤ m ∧ m < 256
  · have hs : L.set m = true := by simp [L.set, h]
    have hb := Lib.hid (has_bits m d h.1 h.2)
    go_enter Tryz.func139, Tryz.ntmps139
    go_wp2_with (first | (go_at_call 114; refine (lane_set _ _).mono ?_; rintro e w' ⟨rfl, rfl⟩) | (go_at_call 115; refine (lane_one _ _).mono ?_; rintro e w' ⟨rfl, rfl⟩))
    go_ret
    exact ⟨retB hb.out, rfl⟩
  · have hs : L.set m = false := by simp [L.set]; omega
    have hb := Lib.hid (show L.has m d = false by simp [L.has, hs])
    go_enter Tryz.func139, Tryz.ntmps139
    go_wp2_with (first | (go_at_call 114; refine (lane_set _ _).mono ?_; rintro e w' ⟨rfl, rfl⟩) | (go_at_call 115; refine (lane_one _ _).mono ?_; rintro e w' ⟨rfl, rfl⟩))
    go_ret
    exact ⟨retB hb.out.symm, rfl⟩

set_option maxHeartbeats 400000 in
theorem lane_With (m d : Int) (w : World) :
    Calls Tryz.prog 67 #[.int .i64 m, .int .i64 d] w fun e w' => e = .returned (.int .i64 (L.with_ m d)) ∧ w = w' := by
  by_cases h : 0 ≤ m ∧ m < 256
  · have hs : L.set m = true := by simp [L.set, h]
    have hb := Lib.hid (with_bits m d h.1 h.2)
    go_enter Tryz.func67, Tryz.ntmps67
    go_wp2_with (first | (go_at_call 114; refine (lane_set _ _).mono ?_; rintro e w' ⟨rfl, rfl⟩) | (go_at_call 115; refine (lane_one _ _).mono ?_; rintro e w' ⟨rfl, rfl⟩))
    go_ret
    exact ⟨retI hb.out, rfl⟩
  · have hs : L.set m = false := by simp [L.set]; omega
    have hb := Lib.hid (show L.with_ m d = 0 by simp [L.with_, hs])
    go_enter Tryz.func67, Tryz.ntmps67
    go_wp2_with (first | (go_at_call 114; refine (lane_set _ _).mono ?_; rintro e w' ⟨rfl, rfl⟩) | (go_at_call 115; refine (lane_one _ _).mono ?_; rintro e w' ⟨rfl, rfl⟩))
    go_ret
    exact ⟨retI hb.out.symm, rfl⟩

set_option maxHeartbeats 400000 in
theorem lane_Without (m d : Int) (w : World) :
    Calls Tryz.prog 108 #[.int .i64 m, .int .i64 d] w fun e w' => e = .returned (.int .i64 (L.without m d)) ∧ w = w' := by
  by_cases h : 0 ≤ m ∧ m < 256
  · have hs : L.set m = true := by simp [L.set, h]
    have hb := Lib.hid (without_bits m d h.1 h.2)
    go_enter Tryz.func108, Tryz.ntmps108
    go_wp2_with (first | (go_at_call 114; refine (lane_set _ _).mono ?_; rintro e w' ⟨rfl, rfl⟩) | (go_at_call 115; refine (lane_one _ _).mono ?_; rintro e w' ⟨rfl, rfl⟩))
    go_ret
    exact ⟨retI hb.out, rfl⟩
  · have hs : L.set m = false := by simp [L.set]; omega
    have hb := Lib.hid (show L.without m d = 0 by simp [L.without, hs])
    go_enter Tryz.func108, Tryz.ntmps108
    go_wp2_with (first | (go_at_call 114; refine (lane_set _ _).mono ?_; rintro e w' ⟨rfl, rfl⟩) | (go_at_call 115; refine (lane_one _ _).mono ?_; rintro e w' ⟨rfl, rfl⟩))
    go_ret
    exact ⟨retI hb.out.symm, rfl⟩

def oc1 (m : Int) : Int := IntKind.u64.wrap (bits BinOp.and IntKind.u64 (m / 2) 6148914691236517205 + bits BinOp.and IntKind.u64 m 6148914691236517205)
def oc2 (x : Int) : Int := IntKind.u64.wrap (bits BinOp.and IntKind.u64 (x / 4) 3689348814741910323 + bits BinOp.and IntKind.u64 x 3689348814741910323)
def oc3 (x : Int) : Int := bits BinOp.and IntKind.u64 (IntKind.u64.wrap (x / 16 + x)) 1085102592571150095
def oc4 (x : Int) : Int := IntKind.u64.wrap (x + x / 256)
def oc5 (x : Int) : Int := IntKind.u64.wrap (x + x / 65536)
def oc6 (x : Int) : Int := IntKind.u64.wrap (x + x / 4294967296)
def oc (m : Int) : Int := bits BinOp.and IntKind.i64 (wrap64 (oc6 (oc5 (oc4 (oc3 (oc2 (oc1 m))))))) 127
theorem oc_dec : ∀ m, m < 256 → oc ((m : Nat) : Int) = (L.count (m : Int) : Int) := by decide +kernel
theorem oc_eq (m : Int) (h0 : 0 ≤ m) (h1 : m < 256) : oc m = (L.count m : Int) := by
  obtain ⟨m, rfl⟩ := Int.eq_ofNat_of_zero_le h0
  exact oc_dec m (by omega)
set_option maxHeartbeats 400000 in
theorem ones64 (m : Int) (h0 : 0 ≤ m) (h1 : m < 256) (w : World) :
    Calls Tryz.prog 202 #[.int .u64 m] w fun e w' => e = .returned (.int .i64 (L.count m)) ∧ w = w' := by
  have hoc := Lib.hid (oc_eq m h0 h1)
  go_enter Tryz.func202, Tryz.ntmps202
  go_wp2
  go_ret
  exact ⟨retI hoc.out, rfl⟩
set_option maxHeartbeats 400000 in
theorem ones (m : Int) (h0 : 0 ≤ m) (h1 : m < 256) (w : World) :
    Calls Tryz.prog 160 #[.int .u64 m] w fun e w' => e = .returned (.int .i64 (L.count m)) ∧ w = w' := by
  go_enter Tryz.func160, Tryz.ntmps160
  go_wp2_with (go_at_call 202; refine (ones64 _ h0 h1 _).mono ?_; rintro e w' ⟨rfl, rfl⟩)
  go_ret
  exact ⟨rfl, rfl⟩
set_option maxHeartbeats 400000 in
theorem lane_Count (m : Int) (w : World) :
    Calls Tryz.prog 106 #[.int .i64 m] w fun e w' => e = .returned (.int .i64 (L.count m)) ∧ w = w' := by
  by_cases h : 0 ≤ m ∧ m < 256
  · have hs : L.set m = true := by simp [L.set, h]
    obtain ⟨h0, h1⟩ := h
    go_enter Tryz.func106, Tryz.ntmps106
    go_wp2_with (first | (go_at_call 114; refine (lane_set _ _).mono ?_; rintro e w' ⟨rfl, rfl⟩) | (go_at_call 160; refine (ones _ h0 h1 _).mono ?_; rintro e w' ⟨rfl, rfl⟩))
    go_ret
    exact ⟨rfl, rfl⟩
  · have hs : L.set m = false := by simp [L.set]; omega
    have hb := Lib.hid (show (L.count m : Int) = 0 by simp [L.count, L.dies, hs])
    go_enter Tryz.func106, Tryz.ntmps106
    go_wp2_with (first | (go_at_call 114; refine (lane_set _ _).mono ?_; rintro e w' ⟨rfl, rfl⟩))
    go_ret
    exact ⟨retI hb.out.symm, rfl⟩

set_option maxHeartbeats 400000 in
theorem lane_At (m i : Int) (hi0 : -1000000 ≤ i) (hi1 : i ≤ 1000000) (w : World) :
    Calls Tryz.prog 107 #[.int .i64 m, .int .i64 i] w fun e w' => e = .returned (.int .i64 (L.at_ m i)) ∧ w = w' := by
  go_enter Tryz.func107, Tryz.ntmps107
  go_wp2
  go_loop [1, 6] (fun j c => ∃ k : Nat, k ≤ 8 ∧ c = .int .i64 k ∧ j = .int .i64 (i - L.below m k) ∧ (0 ≤ i → (L.below m k : Int) ≤ i)) (fun _ c => 8 - (intOf c).toNat)
  case atStart => exact ⟨0, by omega, rfl, by rw [L.below_zero]; simp, fun h => by rw [L.below_zero]; exact h⟩
  case round =>
    obtain ⟨k, hk, rfl, rfl, hlow⟩ := hrel
    have hbl : L.below m k ≤ 8 := Nat.le_trans (List.length_filter_le _ _) (by simp)
    by_cases hlt : k < 8
    · have hs := L.below_succ m k hlt
      have ha := L.at_below m k hlt
      cases hh : L.has m k
      · rw [hh] at hs
        have hs := Lib.hid hs
        clear ha
        go_wp2_with (go_at_call 139; refine (lane_Has _ _ _).mono ?_; rintro e w' ⟨rfl, rfl⟩)
        go_round
        case rel => exact ⟨k + 1, by omega, by go_num, by rw [hs.out]; rfl, by rw [hs.out]; exact hlow⟩
        case measure => simp [intOf]; omega
      · have ha := Lib.hid (ha hh)
        rw [hh] at hs
        have hs := Lib.hid hs
        by_cases he : i = L.below m k
        · have he' : (i - (L.below m k : Int) == 0) = true := by simp; omega
          have ha : Hid (L.at_ m i = k) := by rw [he]; exact ha
          clear he
          go_wp2_with (go_at_call 139; refine (lane_Has _ _ _).mono ?_; rintro e w' ⟨rfl, rfl⟩)
          go_ret
          exact ⟨retI ha.out.symm, rfl⟩
        · have he' : (i - (L.below m k : Int) == 0) = false := by simp; omega
          have hlow' : 0 ≤ i → (L.below m k : Int) + 1 ≤ i := fun h => by have := hlow h; omega
          clear he hlow
          go_wp2_with (go_at_call 139; refine (lane_Has _ _ _).mono ?_; rintro e w' ⟨rfl, rfl⟩)
          go_round
          case rel => exact ⟨k + 1, by omega, by go_num, by rw [hs.out]; simp; omega, by rw [hs.out]; simpa using hlow'⟩
          case measure => simp [intOf]; omega
    · have : k = 8 := by omega
      subst this
      rw [L.below_eight] at hlow
      have ha := Lib.hid (L.at_ge m i (by omega))
      clear hlow
      go_wp2
      go_ret
      exact ⟨retI ha.out.symm, rfl⟩

theorem all_and (m : Int) (d : Int) (hh : L.has m d = true) : (L.count (bits .and .i64 m (L.all d)) : Int) = L.spot m d := by
  obtain ⟨h1, h2, h3, h4⟩ := L.has_lt m d hh
  rw [← L.spot_eq m d hh]
  obtain ⟨m, rfl⟩ := Int.eq_ofNat_of_zero_le h3
  obtain ⟨d, rfl⟩ := Int.eq_ofNat_of_zero_le h1
  have h5 : (2 : Nat) ^ d - 1 < 9223372036854775808 := Nat.lt_of_le_of_lt (Nat.le_trans (Nat.sub_le _ _) (Nat.pow_le_pow_right (by omega) (by omega : d ≤ 8))) (by decide)
  rw [L.all, if_pos (by omega), i64_and_nat _ _ (by omega) (by simpa using h5)]
  simp only [Int.toNat_natCast]

set_option maxHeartbeats 400000 in
theorem lane_Spot (m d : Int) (w : World) :
    Calls Tryz.prog 258 #[.int .i64 m, .int .i64 d] w fun e w' => e = .returned (.int .i64 (L.spot m d)) ∧ w = w' := by
  cases hh : L.has m d
  · have hb := Lib.hid (show L.spot m d = -1 by simp [L.spot, hh])
    go_enter Tryz.func258, Tryz.ntmps258
    go_wp2_with (first | (go_at_call 139; refine (lane_Has _ _ _).mono ?_; rintro e w' ⟨rfl, rfl⟩))
    go_ret
    exact ⟨retI hb.out.symm, rfl⟩
  · have hb := Lib.hid (all_and m d hh)
    go_enter Tryz.func258, Tryz.ntmps258
    go_wp2_with (first | (go_at_call 139; refine (lane_Has _ _ _).mono ?_; rintro e w' ⟨rfl, rfl⟩) | (go_at_call 170; refine (lane_All _ _).mono ?_; rintro e w' ⟨rfl, rfl⟩) | (go_at_call 106; refine (lane_Count _ _).mono ?_; rintro e w' ⟨rfl, rfl⟩))
    go_ret
    exact ⟨retI hb.out, rfl⟩
end Go.Proofs.YtoideahgjgaddaaGreat
namespace Go.Proofs.YtoideahgjgaddaaGreat
open Go.RowKit

set_option maxHeartbeats 400000 in
theorem geo_within (n a b : Int) (w : World) :
    Calls Tryz.prog 102 #[.int .i64 n, .int .i64 a, .int .i64 b] w fun e w' => e = .returned (.bool (decide (a ≤ n) && decide (n ≤ b))) ∧ w = w' := by
  by_cases h0 : a ≤ n
  · go_enter Tryz.func102, Tryz.ntmps102
    go_wp2
    go_ret
    exact ⟨retB (by simp [h0]), rfl⟩
  · go_enter Tryz.func102, Tryz.ntmps102
    go_wp2
    go_ret
    exact ⟨retB (by simp; omega), rfl⟩

set_option maxHeartbeats 400000 in
theorem geo_Slots (m : Int) (w : World) :
    Calls Tryz.prog 103 #[.int .i64 m] w fun e w' => e = .returned (.int .i64 (G.slots m)) ∧ w = w' := by
  have hc := L.count_le m
  by_cases h : L.count m < 2
  · have hs := Lib.hid (show G.slots m = 0 by simp [G.slots, h])
    go_enter Tryz.func103, Tryz.ntmps103
    go_wp2_with (go_at_call 106; refine (lane_Count _ _).mono ?_; rintro e w' ⟨rfl, rfl⟩)
    go_ret
    exact ⟨retI hs.out.symm, rfl⟩
  · have hs := Lib.hid (show G.slots m = (L.count m : Int) - 1 by simp [G.slots, h])
    go_enter Tryz.func103, Tryz.ntmps103
    go_wp2_with (go_at_call 106; refine (lane_Count _ _).mono ?_; rintro e w' ⟨rfl, rfl⟩)
    go_ret
    exact ⟨retI hs.out.symm, rfl⟩

set_option maxHeartbeats 400000 in
theorem geo_Parity (m b r : Int) (w : World) :
    Calls Tryz.prog 63 #[.int .i64 m, .int .i64 b, .int .i64 r] w fun e w' => e = .returned (.int .i64 (G.parity m b r)) ∧ ∃ n, w' = w.drewN n := by
  have hc := L.count_le m
  by_cases h : L.count m < 2
  · have hs := Lib.hid (show G.parity m b r = -1 by simp [G.parity, h])
    go_enter Tryz.func63, Tryz.ntmps63
    go_wp2_with (go_at_call 106; refine (lane_Count _ _).mono ?_; rintro e w' ⟨rfl, rfl⟩)
    go_ret
    exact ⟨retI hs.out.symm, 0, rfl⟩
  · by_cases hb : b < 0
    · have hs := Lib.hid (show G.parity m b r = -1 by simp [G.parity, hb])
      go_enter Tryz.func63, Tryz.ntmps63
      go_wp2_with (go_at_call 106; refine (lane_Count _ _).mono ?_; rintro e w' ⟨rfl, rfl⟩)
      go_ret
      exact ⟨retI hs.out.symm, 0, rfl⟩
    · by_cases hr : r < 0
      · have hs := Lib.hid (show G.parity m b r = -1 by simp [G.parity, hr])
        go_enter Tryz.func63, Tryz.ntmps63
        go_wp2_with (go_at_call 106; refine (lane_Count _ _).mono ?_; rintro e w' ⟨rfl, rfl⟩)
        go_ret
        exact ⟨retI hs.out.symm, 0, rfl⟩
      · have hs := Lib.hid (show G.parity m b r = L.at_ m ((b + r) % (L.count m : Int)) by simp [G.parity, h, hb, hr])
        have hn0 : (0 : Int) < (L.count m : Int) := by omega
        have h1 := Int.emod_nonneg b (by omega : (L.count m : Int) ≠ 0)
        have h2 := Int.emod_lt_of_pos b hn0
        have h3 := Int.emod_nonneg r (by omega : (L.count m : Int) ≠ 0)
        have h4 := Int.emod_lt_of_pos r hn0
        have h5 := Int.emod_nonneg (b + r) (by omega : (L.count m : Int) ≠ 0)
        have h6 := Int.emod_lt_of_pos (b + r) hn0
        have hne : ¬ L.count m = 0 := by omega
        have e1 : b.tmod (L.count m : Int) = b % (L.count m : Int) := Int.tmod_eq_emod_of_nonneg (by omega)
        have e2 : r.tmod (L.count m : Int) = r % (L.count m : Int) := Int.tmod_eq_emod_of_nonneg (by omega)
        have e3 : (b % (L.count m : Int) + r % (L.count m : Int)).tmod (L.count m : Int) = (b % (L.count m : Int) + r % (L.count m : Int)) % (L.count m : Int) := Int.tmod_eq_emod_of_nonneg (by omega)
        have e4 : IntKind.i64.wrap (b % (L.count m : Int) + r % (L.count m : Int)) = b % (L.count m : Int) + r % (L.count m : Int) := IntWalk.i64_in _ (by omega)
        go_enter Tryz.func63, Tryz.ntmps63
        go_wp2_with (first | (go_at_call 106; refine (lane_Count _ _).mono ?_; rintro e w' ⟨rfl, rfl⟩))
        go_quiet ((go_at_call 107; exact Calls.quiet_of_same ((lane_At _ _ (by omega) (by omega) _).mono fun _ _ h => ⟨h.1, h.2.symm⟩)))
        go_wp2
        go_ret
        exact ⟨retI hs.out.symm, _, rfl⟩

set_option maxHeartbeats 400000 in
theorem geo_Die (m b r s : Int) (h0 : -1000000 ≤ s) (h1 : s ≤ 1000000) (w : World) :
    Calls Tryz.prog 64 #[.int .i64 m, .int .i64 b, .int .i64 r, .int .i64 s] w fun e w' => e = .returned (.int .i64 (G.die m b r s)) ∧ ∃ n, w' = w.drewN n := by
  by_cases hp : G.parity m b r < 0
  · have hs := Lib.hid (show G.die m b r s = -1 by simp [G.die, hp])
    go_enter Tryz.func64, Tryz.ntmps64
    go_wp2_with (go_at_call 63; refine (geo_Parity _ _ _ _).mono ?_; rintro e w' ⟨rfl, n, rfl⟩)
    go_ret
    exact ⟨retI hs.out.symm, _, rfl⟩
  · have hs := Lib.hid (show G.die m b r s = L.at_ (L.without m (G.parity m b r)) s by simp [G.die, hp])
    go_enter Tryz.func64, Tryz.ntmps64
    go_wp2_with (first | (go_at_call 63; refine (geo_Parity _ _ _ _).mono ?_; rintro e w' ⟨rfl, n, rfl⟩) | (go_at_call 108; refine (lane_Without _ _ _).mono ?_; rintro e w' ⟨rfl, rfl⟩) | (go_at_call 107; refine (lane_At _ _ h0 h1 _).mono ?_; rintro e w' ⟨rfl, rfl⟩))
    go_ret
    exact ⟨retI hs.out.symm, _, rfl⟩

set_option maxHeartbeats 400000 in
theorem geo_Slot (m b r s : Int) (w : World) :
    Calls Tryz.prog 247 #[.int .i64 m, .int .i64 b, .int .i64 r, .int .i64 s] w fun e w' => e = .returned (.int .i64 (G.slot m b r s)) ∧ ∃ n, w' = w.drewN n := by
  by_cases hp : G.parity m b r < 0
  · have hs := Lib.hid (show G.slot m b r s = -1 by simp [G.slot, hp])
    go_enter Tryz.func247, Tryz.ntmps247
    go_wp2_with (go_at_call 63; refine (geo_Parity _ _ _ _).mono ?_; rintro e w' ⟨rfl, n, rfl⟩)
    go_ret
    exact ⟨retI hs.out.symm, _, rfl⟩
  · have hs := Lib.hid (show G.slot m b r s = L.spot (L.without m (G.parity m b r)) s by simp [G.slot, hp])
    go_enter Tryz.func247, Tryz.ntmps247
    go_wp2_with (first | (go_at_call 63; refine (geo_Parity _ _ _ _).mono ?_; rintro e w' ⟨rfl, n, rfl⟩) | (go_at_call 108; refine (lane_Without _ _ _).mono ?_; rintro e w' ⟨rfl, rfl⟩) | (go_at_call 258; refine (lane_Spot _ _ _).mono ?_; rintro e w' ⟨rfl, rfl⟩))
    go_ret
    exact ⟨retI hs.out.symm, _, rfl⟩

def mayGeo (d b p : Int) : Bool := decide (3 ≤ d ∧ d ≤ 6) && decide (8 ≤ b ∧ b ≤ 16) && decide (2 ≤ p ∧ p ≤ 8)
set_option maxHeartbeats 400000 in
theorem geo_May (d b p : Int) (w : World) :
    Calls Tryz.prog 59 #[.agg #[.int .i64 d, .int .i64 b, .int .i64 p]] w fun e w' => e = .returned (.bool (mayGeo d b p)) ∧ Below w.heap.size w w' := by
  by_cases h1 : 3 ≤ d ∧ d ≤ 6
  · have e1 : (decide (3 ≤ d) && decide (d ≤ 6)) = true := by simp [h1]
    by_cases h2 : 8 ≤ b ∧ b ≤ 16
    · have e2 : (decide (8 ≤ b) && decide (b ≤ 16)) = true := by simp [h2]
      have hs := Lib.hid (show mayGeo d b p = (decide (2 ≤ p) && decide (p ≤ 8)) by simp [mayGeo, h1, h2])
      go_enter Tryz.func59, Tryz.ntmps59
      go_wp2_with (go_at_call 102; refine (geo_within _ _ _ _).mono ?_; rintro e w' ⟨rfl, rfl⟩)
      go_ret
      exact ⟨retB hs.out.symm, (Below.refl _ _).alloc (Nat.le_refl _) _⟩
    · have e2 : (decide (8 ≤ b) && decide (b ≤ 16)) = false := by simp; omega
      have hs := Lib.hid (show mayGeo d b p = false by simp [mayGeo, h2])
      go_enter Tryz.func59, Tryz.ntmps59
      go_wp2_with (go_at_call 102; refine (geo_within _ _ _ _).mono ?_; rintro e w' ⟨rfl, rfl⟩)
      go_ret
      exact ⟨retB hs.out.symm, (Below.refl _ _).alloc (Nat.le_refl _) _⟩
  · have e1 : (decide (3 ≤ d) && decide (d ≤ 6)) = false := by simp; omega
    have hs := Lib.hid (show mayGeo d b p = false by simp [mayGeo, h1])
    go_enter Tryz.func59, Tryz.ntmps59
    go_wp2_with (go_at_call 102; refine (geo_within _ _ _ _).mono ?_; rintro e w' ⟨rfl, rfl⟩)
    go_ret
    exact ⟨retB hs.out.symm, (Below.refl _ _).alloc (Nat.le_refl _) _⟩

def inGeo (d b p x y z : Int) : Bool := decide (0 ≤ x ∧ x < d) && decide (0 ≤ y ∧ y < b) && decide (0 ≤ z ∧ z < p)
set_option maxRecDepth 100000 in
set_option maxHeartbeats 400000 in
theorem geo_In (d b p x y z : Int) (hd : 0 ≤ d ∧ d ≤ 1000000) (hb : 0 ≤ b ∧ b ≤ 1000000) (hp : 0 ≤ p ∧ p ≤ 1000000) (w : World) :
    Calls Tryz.prog 68 #[.agg #[.int .i64 d, .int .i64 b, .int .i64 p], .agg #[.int .i64 x, .int .i64 y, .int .i64 z]] w fun e w' => e = .returned (.bool (inGeo d b p x y z)) ∧ Below w.heap.size w w' := by
  by_cases h1 : 0 ≤ x ∧ x < d
  · have e1 : (decide (0 ≤ x) && decide (x ≤ d - 1)) = true := by simp; omega
    by_cases h2 : 0 ≤ y ∧ y < b
    · have e2 : (decide (0 ≤ y) && decide (y ≤ b - 1)) = true := by simp; omega
      have hs := Lib.hid (show inGeo d b p x y z = (decide (0 ≤ z) && decide (z ≤ p - 1)) by rw [Bool.eq_iff_iff]; simp [inGeo, h1, h2]; omega)
      go_enter Tryz.func68, Tryz.ntmps68
      go_wp2_with (go_at_call 102; refine (geo_within _ _ _ _).mono ?_; rintro e w' ⟨rfl, rfl⟩)
      go_ret
      exact ⟨retB hs.out.symm, ((Below.refl _ _).alloc (Nat.le_refl _) _).alloc (by simp) _⟩
    · have e2 : (decide (0 ≤ y) && decide (y ≤ b - 1)) = false := by rw [Bool.eq_false_iff]; simp; omega
      have hs := Lib.hid (show inGeo d b p x y z = false by simp only [inGeo, h2, decide_false, Bool.and_false, Bool.false_and])
      go_enter Tryz.func68, Tryz.ntmps68
      go_wp2_with (go_at_call 102; refine (geo_within _ _ _ _).mono ?_; rintro e w' ⟨rfl, rfl⟩)
      go_ret
      exact ⟨retB hs.out.symm, ((Below.refl _ _).alloc (Nat.le_refl _) _).alloc (by simp) _⟩
  · have e1 : (decide (0 ≤ x) && decide (x ≤ d - 1)) = false := by rw [Bool.eq_false_iff]; simp; omega
    have hs := Lib.hid (show inGeo d b p x y z = false by simp only [inGeo, h1, decide_false, Bool.false_and])
    go_enter Tryz.func68, Tryz.ntmps68
    go_wp2_with (go_at_call 102; refine (geo_within _ _ _ _).mono ?_; rintro e w' ⟨rfl, rfl⟩)
    go_ret
    exact ⟨retB hs.out.symm, ((Below.refl _ _).alloc (Nat.le_refl _) _).alloc (by simp) _⟩
end Go.Proofs.YtoideahgjgaddaaGreat
namespace Go.Proofs.YtoideahgjgaddaaGreat
open Go.RowKit

abbrev A3 := Int × Int × Int
def a3c (a : A3) : List Value := [.int .i64 a.1, .int .i64 a.2.1, .int .i64 a.2.2]
def a3v (a : A3) : Value := .agg #[.int .i64 a.1, .int .i64 a.2.1, .int .i64 a.2.2]
theorem leaves39 : leaves Tryz.prog 100 66 = some [.int .i64, .int .i64, .int .i64] := by kernel_rfl
theorem eqc_a3 (a b : A3) : eqCells (a3c a) (a3c b) = decide (a = b) := by
  obtain ⟨a1, a2, a3⟩ := a
  obtain ⟨b1, b2, b3⟩ := b
  rw [Bool.eq_iff_iff]
  simp [a3c, eqCells, cellEq]
theorem key39 : KeyOk Tryz.prog 66 a3v where
  now := ⟨_, Tryz.underlying66, fun _ _ => .inl rfl⟩
  eq := fun a b w => by
    have hm : ∀ xs, mkV Tryz.prog 66 xs = .agg xs.toArray := fun xs => by simp [mkV, Tryz.underlying66]
    have := equalIn_leaves 100 66 _ leaves39 10000 (by omega) (a3c a) (a3c b) ⟨rfl, rfl, rfl, trivial⟩ ⟨rfl, rfl, rfl, trivial⟩ w
    rw [eqc_a3, hm, hm] at this
    exact this
  check := fun e a w => by kernel_rfl
  bits := fun a => by
    obtain ⟨a1, a2, a3⟩ := a
    simp [a3v, Instr.sameBits]

def trues (l : List A3) : List (A3 × Value) := l.map fun a => (a, .bool true)
theorem alook_trues (l : List A3) (a : A3) : ((alook (trues l) a).getD (.bool false) = .bool (decide (a ∈ l))) ∧ (alook (trues l) a).isSome = decide (a ∈ l) := by
  induction l with
  | nil => exact ⟨rfl, rfl⟩
  | cons x l ih =>
    simp only [trues, List.map_cons, alook]
    by_cases h : a = x
    · simp [h]
    · have : ¬ (a = (x, Value.bool true).1) := h
      simp only [if_neg this, List.mem_cons, h, false_or]; exact ih

end Go.Proofs.YtoideahgjgaddaaGreat
namespace Go.Proofs.YtoideahgjgaddaaGreat
open Go.RowKit

def addS (l : List A3) (a : A3) : List A3 := if a ∈ l then l else l ++ [a]
theorem adel_trues (l : List A3) (a : A3) : adel (trues l) a = trues (l.erase a) := by
  induction l with
  | nil => rfl
  | cons x l ih =>
    rw [List.erase_cons]
    simp only [trues, List.map_cons, adel]
    by_cases h : a = x
    · subst h; simp
    · have h2 : ¬ (x == a) = true := by simpa using Ne.symm h
      rw [if_neg h, if_neg h2, List.map_cons]
      exact congrArg _ ih
theorem aput_trues (l : List A3) (a : A3) : aput (trues l) a (.bool true) = trues (addS l a) := by
  unfold addS
  induction l with
  | nil => rfl
  | cons x l ih =>
    simp only [trues, List.map_cons, aput]
    by_cases h : a = x
    · subst h; simp
    · rw [if_neg h]
      have : (a ∈ x :: l) ↔ a ∈ l := by simp [h]
      simp only [this]
      split
      · rename_i h3; rw [if_pos h3] at ih; simp only [List.map_cons]; exact congrArg _ ih
      · rename_i h3; rw [if_neg h3] at ih; simp only [List.cons_append, List.map_cons]; exact congrArg _ ih

end Go.Proofs.YtoideahgjgaddaaGreat
/- Walks: spot.Map[bool]. -/
namespace Go.Proofs.YtoideahgjgaddaaGreat
open Go Go.RowKit
/-- a spot.Map[bool] all of whose things are true -/
def SpotA (q : Nat) (l : List A3) : Atom := exA fun mr : Nat => [.pt q 180 [.map (some mr)], mapA mr a3v (trues l)]
theorem umap : Tryz.prog.underlying 178 = some (.map 66 4) := by kernel_rfl
theorem s_New : Fn Tryz.prog 60 [] [] (fun v As => ∃ q, v = .pointer (some ⟨q, 0, none⟩) ∧ As = [SpotA q []]) := by
  refine Fn.enter [] Tryz.func60 rfl rfl rfl fun X F hX => ?_
  refine J.r hX tab_ok 400 (fun _ => rfl) fun bs => ?_
  refine J.turn1 [1] rfl (As := [mapA (bs 0) a3v (trues [])]) (fun h s => ?_) rfl ?_
  · refine ⟨fun _ => 0, fun i A hA => ?_⟩
    cases i with
    | zero => simp at hA; subst hA; exact ⟨#[], 0, res_some.2 ⟨rfl, s.get (i := 0) rfl⟩, rfl, by simp, by simp⟩
    | succ k => simp at hA
  refine J.close (f := fun mr : Nat => [.pt (bs 1) 180 [.map (some mr)], mapA mr a3v (trues [])]) (bs 0) [2, 1] rfl rfl rfl ?_
  refine J.r hX tab_ok 400 (fun _ => rfl) fun b1 => ?_
  refine J.rt hX tab_ok [2] rfl rfl rfl ?_
  exact ⟨bs 1, rfl, rfl⟩
theorem s_Get (q : Nat) (l : List A3) (x y z : Int) : Fn Tryz.prog 82 [.pointer (some ⟨q, 0, none⟩), .agg #[.int .i64 x, .int .i64 y, .int .i64 z]] [SpotA q l]
    (fun v As => v = .tuple #[.bool (decide ((x, y, z) ∈ l)), .bool (decide ((x, y, z) ∈ l))] ∧ As = [SpotA q l]) := by
  refine Fn.enter [2, 0] Tryz.func82 rfl rfl rfl fun X F hX => ?_
  refine J.open_ (α := Nat) 1 rfl rfl (fun _ => rfl) fun mr => ?_
  refine J.r hX tab_ok 400 (fun _ => rfl) fun b2 => ?_
  refine J.cond rfl (fun h => by simp at h) (fun _ => ?_)
  refine J.r hX tab_ok 400 (fun _ => rfl) fun b3 => ?_
  refine J.plan (.of [0,4,8,13,17,21,24,28,32,36,40]) [10] [1,2,3] (by rw [hX.hP]; kernel_rfl) (by kernel_rfl) ?_
  refine J.r hX tab_ok 400 (fun _ => rfl) fun b4 => ?_
  refine J.valT hX (.tuple #[.bool (decide ((x, y, z) ∈ l)), .bool (decide ((x, y, z) ∈ l))]) 0 rfl rfl (fun _ a w he hC => ?_) rfl ?_
  · refine (lookup_run (key := (x, y, z)) key39 umap (z := .bool false) (fun w => by kernel_rfl) rfl rfl rfl rfl he rfl rfl (hC rfl _ (cget_mem (i := 2) rfl))).trans ?_
    simp only [(alook_trues l _).1, (alook_trues l _).2]
  refine J.close (f := fun mr : Nat => [.pt q 180 [.map (some mr)], mapA mr a3v (trues l)]) mr [1, 2] rfl rfl rfl ?_
  refine J.r hX tab_ok 400 (fun _ => rfl) fun b5 => ?_
  refine J.rt hX tab_ok [1] rfl rfl rfl ?_
  exact ⟨rfl, rfl⟩
theorem s_Set (q : Nat) (l : List A3) (x y z : Int) : Fn Tryz.prog 69 [.pointer (some ⟨q, 0, none⟩), .agg #[.int .i64 x, .int .i64 y, .int .i64 z], .bool true] [SpotA q l]
    (fun v As => v = .tuple #[] ∧ As = [SpotA q (addS l (x, y, z))]) := by
  refine Fn.enter [2, 0, 0] Tryz.func69 rfl rfl rfl fun X F hX => ?_
  refine J.open_ (α := Nat) 1 rfl rfl (fun _ => rfl) fun mr => ?_
  refine J.r hX tab_ok 400 (fun _ => rfl) fun b6 => ?_
  refine J.cond rfl (fun _ => ?_) (fun h => by simp at h)
  refine J.r hX tab_ok 400 (fun _ => rfl) fun b7 => ?_
  refine J.plan (.of [0,4,8,13,17,20,27]) [6] [1,2,3] (by rw [hX.hP]; kernel_rfl) (by kernel_rfl) ?_
  refine J.r hX tab_ok 400 (fun _ => rfl) fun b8 => ?_
  refine J.mapUpdate hX key39 umap (x, y, z) 2 rfl rfl rfl rfl rfl rfl rfl rfl rfl rfl rfl rfl (fun _ => rfl) (by rw [aput_trues]; rfl) ⟨trivial, ?_⟩
  refine J.close (f := fun mr : Nat => [.pt q 180 [.map (some mr)], mapA mr a3v (trues (addS l (x, y, z)))]) mr [1, 2] rfl rfl rfl ?_
  refine J.r hX tab_ok 400 (fun _ => rfl) fun b9 => ?_
  refine J.fi hX tab_ok [1] rfl rfl rfl ?_
  exact ⟨rfl, rfl⟩
theorem s_Drop (q : Nat) (l : List A3) (x y z : Int) : Fn Tryz.prog 83 [.pointer (some ⟨q, 0, none⟩), .agg #[.int .i64 x, .int .i64 y, .int .i64 z]] [SpotA q l]
    (fun v As => v = .bool (decide ((x, y, z) ∈ l)) ∧ As = [SpotA q (l.erase (x, y, z))]) := by
  refine Fn.enter [2, 0] Tryz.func83 rfl rfl rfl fun X F hX => ?_
  refine J.r hX tab_ok 400 (fun _ => rfl) fun b10 => ?_
  refine J.ca hX (by kernel_rfl) (s_Get q l x y z) [1] 0 rfl rfl rfl rfl rfl rfl (fun _ => rfl) ?_
  rintro v As ⟨rfl, rfl⟩
  refine ⟨_, rfl, trivial, ?_⟩
  refine J.r hX tab_ok 400 (fun _ => rfl) fun b11 => ?_
  refine J.cond rfl (fun h => ?_) (fun h => ?_)
  · refine J.open_ (α := Nat) 1 rfl rfl (fun _ => rfl) fun mr => ?_
    refine J.r hX tab_ok 400 (fun _ => rfl) fun b12 => ?_
    refine J.plan (.of [0,4,8,13,17,22]) [] [1,2] (by rw [hX.hP]; kernel_rfl) (by kernel_rfl) ?_
    refine J.r hX tab_ok 400 (fun _ => rfl) fun b13 => ?_
    refine J.delete hX key39 umap (x, y, z) 3 rfl rfl rfl rfl rfl rfl rfl rfl rfl rfl (fun _ => rfl) (by rw [adel_trues]; rfl) ⟨⟨rfl, rfl, trivial⟩, ?_⟩
    refine J.close (f := fun mr : Nat => [.pt q 180 [.map (some mr)], mapA mr a3v (trues (l.erase (x, y, z)))]) mr [1, 3] rfl rfl rfl ?_
    refine J.r hX tab_ok 400 (fun _ => rfl) fun b14 => ?_
    refine J.rt hX tab_ok [1] rfl rfl rfl ?_
    exact ⟨rfl, rfl⟩
  · refine J.r hX tab_ok 400 (fun _ => rfl) fun b15 => ?_
    refine J.rt hX tab_ok [1] rfl rfl rfl ?_
    simp only [decide_eq_false_iff_not] at h
    exact ⟨rfl, by rw [List.erase_of_not_mem h]; rfl⟩
end Go.Proofs.YtoideahgjgaddaaGreat
