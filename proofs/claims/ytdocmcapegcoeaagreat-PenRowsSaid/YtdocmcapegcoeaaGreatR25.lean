/- Helpers of the proofs about ostrakonlaw11, proved here: Ent, Tw, BgD, Agg, EffG, BgG, BgH. No condition. -/
import Derived.Test.YtdocmcapegcoeaaGreatR06
import Derived.Test.YtdocmcapegcoeaaGreatR11
import Derived.Test.YtdocmcapegcoeaaGreatR12
import Derived.Test.YtdocmcapegcoeaaGreatR24
import Derived.WideKeyEntry
set_option maxRecDepth 20000
set_option linter.unusedVariables false
set_option linter.unusedSimpArgs false
set_option linter.unusedSectionVars false
set_option linter.unnecessarySimpa false
namespace Go.Proofs.YtdocmcapegcoeaaGreat
open Go Go.RowKit
section
variable {KK : Type} [DecidableEq KK]
def ensure (l : List (KK × Value)) (k : KK) (z : Value) : List (KK × Value) := match fi l k 0 with
 | none => l ++ [(k, z)]
 | some _ => l
def entP (r : Nat) (kv : KK → Value) (l : List (KK × Value)) (key : KK) (st : Int) (h : Hl) : Prop :=
 ∃ es clock, h r = some (.map es clock) ∧ es.toList.map (fun e => (e.key, e.val)) = l.map (fun x => (kv x.1, x.2)) ∧ (es.toList.map (·.born)).Nodup ∧ (∀ e ∈ es.toList, e.born < clock) ∧
  ∃ (j : Nat) (e0 : MapEntry) (u : Value), es.toList[j]? = some e0 ∧ e0.key = kv key ∧ (e0.born : Int) = st ∧ fi l key 0 = some (j, u)
def entA (r : Nat) (kv : KK → Value) (l : List (KK × Value)) (key : KK) (st : Int) : Atom := .hp ⟨entP r kv l key st, fun _ _ l ⟨es, c, h1, h2⟩ => ⟨es, c, l _ _ h1, h2⟩⟩
theorem fi_key (k : KK) : ∀ (l : List (KK × Value)) i j u, fi l k i = some (j, u) → (l[j - i]?).map (·.1) = some k ∧ i ≤ j
 | [], i, j, u, h => by cases h
 | x :: l, i, j, u, h => by
  unfold fi at h
  split at h
  ·rename_i hh; injection h with h; injection h with e1 _; subst e1; simp [hh]
  ·have hl2 := fi_lt _ _ _ _ _ h
   have := fi_key k l _ _ _ h
   refine ⟨?_, by omega⟩
   rw [show j - i = (j - (i + 1)) + 1 from by omega, List.getElem?_cons_succ]; exact this.1
theorem fi_app (k : KK) (z : Value) : ∀ (l : List (KK × Value)) i, fi l k i = none → fi (l ++ [(k, z)]) k i = some (i + l.length, z)
 | [], i, _ => by simp [fi]
 | x :: l, i, h => by
  unfold fi at h
  split at h
  ·cases h
  ·rename_i hh
   rw [List.cons_append, fi, if_neg hh, fi_app k z l _ h, List.length_cons]
   congr 2; omega
variable {P : Program} {kv : KK → Value}
theorem run_mapEntryAt {MT T E : TypeId} (hk : KeyOk P T kv) (hm : P.underlying MT = some (.map T E)) {z : Value} (hz : ∀ w, (zeroValue E).run P w = .ok z w) {w : World} {r : Nat} {l : List (KK × Value)} (h : mapP r kv l (hl w)) (k : KK) :
  ∃ w' st, (Instr.mapEntry MT (.map (some r)) (kv k)).run P w = .ok (.tuple #[(alook l k).getD z, goInt st]) w' ∧ entP r kv (ensure l k z) k st (hl w') ∧ w.grownBy w' (some r) := by
 obtain ⟨es, clock, h1, h2, h3, h4⟩ := h
 have hf := run_findKey' hk k w es.toList l h2
 have hr : r < w.heap.size := (Array.getElem?_eq_some_iff.1 h1).1
 have hlen : es.toList.length = l.length := by have := congrArg List.length h2; simpa using this
 have ha := alook_fi l k 0
 unfold Instr.mapEntry
 simp only [Sem.run_bind, run_underlying hm, Result.andThen_ok, rgo h1, hk.check, hf]
 cases hfi : fi l k 0 with
 | none =>
  rw [hfi] at ha
  have he : ensure l k z = l ++ [(k, z)] := by rw [ensure, hfi]
  refine ⟨World.putObj' w r (.map (es.push { key := kv k, val := z, born := clock }) (clock + 1)), clock, ?_, ⟨es.push { key := kv k, val := z, born := clock }, clock + 1, ?_, ?_, ?_, ?_, es.size, { key := kv k, val := z, born := clock }, z, ?_, rfl, rfl, ?_⟩, grown_putObj _ _ _⟩
  ·simp only [Sem.run_bind, hz, Result.andThen_ok, rso _ h1, Sem.run_pure, ← ha, Option.map_none, Option.getD_none]; rfl
  ·simp [hl, World.putObj', hr]
  ·rw [he]; simp [h2]
  ·simp only [Array.toList_push, List.map_append, List.map_cons, List.map_nil]
   rw [List.nodup_append]
   refine ⟨h3, by simp, ?_⟩
   intro a ha b hb
   simp at hb
   obtain ⟨e, he, rfl⟩ := List.mem_map.1 ha
   have := h4 e he
   omega
  ·intro e he
   simp at he
   rcases he with he | rfl
   ·have := h4 e (by simpa using he); omega
   ·simp
  ·simp
  ·rw [he, fi_app k z l 0 hfi, ← hlen]; simp
 | some x =>
  obtain ⟨j, u⟩ := x
  rw [hfi] at ha
  have he : ensure l k z = l := by rw [ensure, hfi]
  have hl2 := fi_lt _ _ _ _ _ hfi
  obtain ⟨e0, he0⟩ : ∃ e0, es.toList[j]? = some e0 := ⟨_, List.getElem?_eq_getElem (by omega)⟩
  have he1 : es[j]? = some e0 := by simpa using he0
  have hkey : e0.key = kv k := by
   have h5 := (fi_key k l 0 j u hfi).1
   rw [Nat.sub_zero] at h5
   have hx : (es.toList.map (fun e => (e.key, e.val)))[j]? = (l.map (fun x => (kv x.1, x.2)))[j]? := by rw [h2]
   rw [List.getElem?_map, List.getElem?_map, he0] at hx
   cases hlj : l[j]? with
   | none => rw [hlj] at hx; simp at hx
   | some y =>
    rw [hlj] at hx h5
    simp only [Option.map_some, Option.some.injEq, Prod.mk.injEq] at hx h5
    rw [hx.1, h5]
  have hmod : es.modify j (fun e => { e with key := kv k }) = es := by
   apply Array.toList_inj.1
   rw [Array.toList_modify]
   apply List.ext_getElem?
   intro i
   rw [List.getElem?_modify]
   by_cases hij : j = i
   ·subst hij
    rw [he0]
    simp only [Option.map_eq_map, Option.map_some, if_true, ← hkey]
   ·simp [hij]
  refine ⟨World.putObj' w r (.map (es.modify j fun e => { e with key := kv k }) clock), e0.born, ?_, ⟨es, clock, ?_, ?_, h3, h4, j, e0, u, he0, hkey, rfl, ?_⟩, grown_putObj _ _ _⟩
  ·simp only [he1, Option.map_some, Option.getD_some, hkey, Instr.keyThatStays, hk.bits, if_true, Sem.run_bind, Sem.run_pure, Result.andThen_ok, rso _ h1, ← ha]; rfl
  ·rw [hmod]; simp [hl, World.putObj', hr]
  ·rw [he]; exact h2
  ·rw [he]; exact hfi
theorem run_entryStoreAt {MT : TypeId} {w : World} {r : Nat} {l : List (KK × Value)} {key : KK} {st : Int} (h : entP r kv l key st (hl w)) (v : Value) :
  ∃ w', (Instr.entryStore MT (.map (some r)) (goInt st) v).run P w = .ok () w' ∧ mapP r kv (aput l key v) (hl w') ∧ w.grownBy w' (some r) := by
 obtain ⟨es, clock, h1, h2, h3, h4, j, e0, u, he0, hkey, hst, hfi⟩ := h
 have hr : r < w.heap.size := (Array.getElem?_eq_some_iff.1 h1).1
 have hmp := modify_put es.toList l key v 0 j u h2 hfi
 rw [Nat.sub_zero] at hmp
 have hmod : es.modify j (fun e => { e with val := v }) = es.modify j (fun e => { e with key := kv key, val := v }) := by
  apply Array.toList_inj.1
  rw [Array.toList_modify, Array.toList_modify]
  apply List.ext_getElem?
  intro i
  rw [List.getElem?_modify, List.getElem?_modify]
  by_cases hij : j = i
  ·subst hij
   rw [he0]
   simp only [Option.map_eq_map, Option.map_some, if_true, ← hkey]
  ·simp [hij]
 have hidx : es.findIdx? (fun e => ((e.born : Nat) : Int) == st) = some j := by
  rw [Go.WideElems.findIdx_arr, ← hst]
  exact Go.WideElems.findIdx_born h3 he0
 refine ⟨World.putObj' w r (.map (es.modify j fun e => { e with val := v }) clock), ?_, ⟨es.modify j fun e => { e with val := v }, clock, ?_, ?_, ?_, ?_⟩, grown_putObj _ _ _⟩
 ·simp only [Instr.entryStore, Sem.run_bind, rgo h1, Result.andThen_ok, goInt, asInt, asIntOf, Sem.run_pure, hidx, rso _ h1]; rfl
 ·simp [hl, World.putObj', hr]
 ·rw [hmod, Array.toList_modify]; exact hmp.1
 ·rw [hmod, Array.toList_modify, hmp.2]; exact h3
 ·intro e he
  have : e.born ∈ (es.modify j fun e => { e with val := v }).toList.map (·.born) := List.mem_map_of_mem he
  rw [hmod, Array.toList_modify, hmp.2] at this
  obtain ⟨e', he', hb⟩ := List.mem_map.1 this
  have := h4 e' he'
  omega
end
section
variable {X : Cx} {P : Program} {K : List KI} {E : Env} {L : List Atom} {N : Nat} {F : HP} {Post : Value → List Atom → Prop} {rs : List ResultVar} {KK : Type} [DecidableEq KK] {kv : KK → Value}
theorem J.mapEntry (hX : IsCx X P rs N F Post) {KT MT ET : TypeId} (hk : KeyOk P KT kv) (hm : P.underlying MT = some (.map KT ET)) {z : Value} (hz : ∀ w, (zeroValue ET).run P w = .ok z w) {ops : Array Oper} {C : Cl} {lt : Bool} {i : Nat} {t : PT} {o : Oper} {g : G} {x y : Operand} {r : Nat} {l : List (KK × Value)} (key : KK) {k1 k2 t1 t2 : Nat} {g1 g2 : G} {kvv : Value} {E' : Value → Env} (im : Nat)
  (ho : lget ops.toList i = some o) (hg : gd ops.toList E o = some g) (hgo : g.on = true) (hop : o.op = .mapEntry MT x y) (hx : ev E x = some ⟨k1, .map (some r), t1, g1⟩) (v1 : g1.on = true) (hy : ev E y = some ⟨k2, kvv, t2, g2⟩) (v2 : g2.on = true) (hkv : kvv = kv key)
  (hL : lget L im = some (mapA r kv l)) (hd : ∀ v, putE N o.dst v 0 .tt E = some (E' v)) {L2 : Int → List Atom} (hL2 : ∀ st, lset L im (entA r kv (ensure l key z) key st) = some (L2 st)) (hJ : ∀ st, Conj (staysL lt C (L2 st)) ∧ J X (.reg ops C t :: K) (E' (.tuple #[(alook l key).getD z, .int .i64 st])) (L2 st)) : J X (.reg ops C (.alt lt i t .non) :: K) E L := by
 refine J.op hX (S := fun v' L' => ∃ st, v' = .tuple #[(alook l key).getD z, .int .i64 st] ∧ L' = L.set im (entA r kv (ensure l key z) key st)) 0 ho hg hgo (fun a0 w hen hs => ?_) hd (fun v L' ⟨st, e1, e2⟩ => by subst e1; subst e2; rw [← lset_eq (hL2 st)]; exact hJ st)
 rw [lget_eq] at hL
 have ex := ev_spec hen hx
 have ey := ev_spec hen hy
 simp only [Slot.val, v1, v2] at ex ey
 rw [hkv] at ey
 have hmap : mapP r kv l (hl w) := hs.get hL
 obtain ⟨w', st, r1, r2, r3⟩ := run_mapEntryAt (P := P) hk hm hz hmap key
 refine ⟨_, _, .value _, w', ⟨st, rfl, rfl⟩, by simp only [execOp, hop, ex, ey, Sem.run_bind, r1, Result.andThen_ok, Sem.run_pure]; rfl, .inl rfl, ?_, Ext.grown r3⟩
 exact Sep.step hs hL (x := some r) (x' := some r) (fun h g ⟨es, c, h1, _⟩ e => by injection e with e; subst e; exact ⟨_, h1⟩) r3 (.inl rfl) (fun h hh => by
  obtain ⟨es, c, h1, h2⟩ := r2
  exact ⟨es, c, (hh r rfl).trans h1, h2⟩)
theorem J.entryStore (hX : IsCx X P rs N F Post) {MT : TypeId} {ops : Array Oper} {C : Cl} {lt : Bool} {i : Nat} {t : PT} {o : Oper} {g : G} {x y u : Operand} {r : Nat} {l : List (KK × Value)} {key : KK} {st : Int} {k1 k2 k3 t1 t2 t3 : Nat} {g1 g2 g3 : G} {v : Value} {E' : Value → Env} (im : Nat)
  (ho : lget ops.toList i = some o) (hg : gd ops.toList E o = some g) (hgo : g.on = true) (hop : o.op = .entryStore MT x y u) (hx : ev E x = some ⟨k1, .map (some r), t1, g1⟩) (v1 : g1.on = true) (hy : ev E y = some ⟨k2, .int .i64 st, t2, g2⟩) (v2 : g2.on = true) (hu : ev E u = some ⟨k3, v, t3, g3⟩) (v3 : g3.on = true)
  (hL : lget L im = some (entA r kv l key st)) (hd : ∀ v, putE N o.dst v 0 .tt E = some (E' v)) {L2 : List Atom} (hL2 : lset L im (mapA r kv (aput l key v)) = some L2) (hJ : Conj (staysL lt C L2) ∧ J X (.reg ops C t :: K) (E' undef) L2) : J X (.reg ops C (.alt lt i t .non) :: K) E L := by
 refine J.op hX (S := fun v' L' => v' = undef ∧ L' = L.set im (mapA r kv (aput l key v))) 0 ho hg hgo (fun a0 w hen hs => ?_) hd (fun v L' ⟨e1, e2⟩ => by subst e1; subst e2; rw [← lset_eq hL2]; exact hJ)
 rw [lget_eq] at hL
 have ex := ev_spec hen hx
 have ey := ev_spec hen hy
 have eu := ev_spec hen hu
 simp only [Slot.val, v1, v2, v3] at ex ey eu
 have hent : entP r kv l key st (hl w) := hs.get hL
 obtain ⟨w', r1, r2, r3⟩ := run_entryStoreAt (P := P) (MT := MT) hent v
 refine ⟨undef, _, .skip, w', ⟨rfl, rfl⟩, by simp only [execOp, hop, ex, ey, eu, Sem.run_bind]; rw [show (Value.int IntKind.i64 st) = goInt st from rfl, r1]; rfl, .inr ⟨rfl, rfl⟩, ?_, Ext.grown r3⟩
 exact Sep.step hs hL (x := some r) (x' := some r) (fun h g ⟨es, c, h1, _⟩ e => by injection e with e; subst e; exact ⟨_, h1⟩) r3 (.inl rfl) (fun h hh => by
  obtain ⟨es, c, h1, h2⟩ := r2
  exact ⟨es, c, (hh r rfl).trans h1, h2⟩)
end
abbrev Pg := { l : List UInt8 // l.length = 32 }
def pgk (p : Pg) : Value := pgV p.1
theorem key32 : KeyOk Tryz.prog 118 pgk where
 now := ⟨_, Tryz.underlying118, fun _ _ => .inl rfl⟩
 eq := fun a b w => by
  have := eqIn_page a.1 b.1 a.2 b.2 w
  rw [pgV_eq _ a.2, pgV_eq _ b.2] at this
  have e : decide (a.1 = b.1) = decide (a = b) := by
   by_cases h : a = b
   ·simp [h]
   ·have : ¬ a.1 = b.1 := fun e => h (Subtype.ext e)
    simp [h, this]
  rw [← e]
  exact this
 check := fun e a w => by kernel_rfl
 bits := fun a => by simp [pgk, pageC, byC, bv, Instr.sameBits]
theorem umapT : Tryz.prog.underlying 323 = some (.map 118 24) := by kernel_rfl
theorem zeroI (w : World) : (zeroValue 24).run Tryz.prog w = .ok (.slice none 0 0) w := by kernel_rfl
def p1 : Pg := ⟨[1, 0, 0, 0, 0, 0, 0, 0, 0, 0, 0, 0, 0, 0, 0, 0, 0, 0, 0, 0, 0, 0, 0, 0, 0, 0, 0, 0, 0, 0, 0, 0], rfl⟩
def p2 : Pg := ⟨[2, 0, 0, 0, 0, 0, 0, 0, 0, 0, 0, 0, 0, 0, 0, 0, 0, 0, 0, 0, 0, 0, 0, 0, 0, 0, 0, 0, 0, 0, 0, 0], rfl⟩
def pg3 : List Value := pageC p1.1 ++ (pageC p2.1 ++ pageC p1.1)
def twL (k : Nat) (a b : Option Nat × Nat) : List (Pg × Value) := match k with
 | 0 => []
 | 1 => [(p1, slv a.1 1 a.2)]
 | 2 => [(p1, slv a.1 1 a.2), (p2, slv b.1 1 b.2)]
 | _ => [(p1, slv a.1 2 a.2), (p2, slv b.1 1 b.2)]
def twN (k : Nat) : Nat := match k with | 0 => 0 | 1 => 1 | 2 => 1 | _ => 2
def twM (k : Nat) : Nat := match k with | 0 => 0 | 1 => 0 | _ => 1
def twA (k : Nat) : List Value := match k with | 0 => [] | 1 => [.int .i64 0] | 2 => [.int .i64 0] | _ => [.int .i64 0, .int .i64 2]
def twB (k : Nat) : List Value := match k with | 0 => [] | 1 => [] | _ => [.int .i64 1]
def twO (k : Nat) (ga ca : Nat) : List Value := match k with | 0 => [] | _ => [slv (some ga) 2 ca]
theorem x_Twins (g : Nat) : Fn Tryz.prog 283 [.slice (some ⟨g, 0, none⟩) 3 3] [.pt g 118 pg3]
  (fun v As => ∃ o co a ca, v = slv o 1 co ∧ As = [ownA 24 1 o 1 co [slv a 2 ca], ownA 3 1 a 2 ca [.int .i64 0, .int .i64 2]]) := by
 refine Fn.enter [2] Tryz.func283 rfl rfl rfl fun X F hX => ?_
 refine J.r hX tk 400 (fun _ => rfl) fun mm => ?_
 refine J.turn1 [2] rfl (As := [mapA (mm 0) pgk (twL 0 (none, 0) (none, 0)), ownA 3 1 none 0 0 [], ownA 3 1 none 0 0 []]) (fun h s => ⟨fun _ => 0, fun i A hA => by
  match i, hA with
  | 0, hA => simp at hA; subst hA; exact ⟨#[], 0, res_some.2 ⟨rfl, s.get (i := 0) rfl⟩, rfl, by simp, by simp⟩
  | 1, hA => simp at hA; subst hA; exact ⟨rfl, rfl, rfl⟩
  | 2, hA => simp at hA; subst hA; exact ⟨rfl, rfl, rfl⟩
  | k + 3, hA => simp at hA⟩) rfl ?_
 refine J.r hX tk 400 (fun _ => rfl) fun b1 => ?_
 refine J.lo (α := (Nat × (Option Nat × Nat) × (Option Nat × Nat))) (fun z => z.1 ≤ 3 ∧ (z.1 = 0 → ∀ g, z.2.1.1 ≠ some g) ∧ (z.1 ≤ 1 → ∀ g, z.2.2.1 ≠ some g)) (fun z => [⟨13, .int .i64 z.1, 0, .tt⟩, ⟨12, .int .i64 3, 0, .tt⟩, ⟨11, .slice (some ⟨g, 0, none⟩) 3 3, 2, .tt⟩, ⟨0, .slice (some ⟨g, 0, none⟩) 3 3, 2, .tt⟩, ⟨3, .map (some (mm 0)), 3, .tt⟩]) [2, 3, 4] (fun z => [mapA (mm 0) pgk (twL z.1 z.2.1 z.2.2), ownA 3 1 z.2.1.1 (twN z.1) z.2.1.2 (twA z.1), ownA 3 1 z.2.2.1 (twM z.1) z.2.2.2 (twB z.1)]) (fun z => 3 - z.1) ((0, (none, 0), (none, 0))) (⟨by omega, by simp, by simp⟩) rfl ?_ (fun _ => rfl) fun z hI => ?_
 ·rfl
 obtain ⟨k, ⟨a, ca⟩, ⟨b, cb⟩⟩ := z
 dsimp only at hI ⊢
 obtain ⟨hI0, hI⟩ := hI
 rcases (by omega : k = 0 ∨ k = 1 ∨ k = 2 ∨ k = 3) with rfl | rfl | rfl | rfl
 ·
  refine J.r hX tk 400 (fun _ => rfl) fun b3 => ?_
  refine J.cond rfl (fun _ => ?_) (fun h => absurd h (by decide))
  obtain rfl : a = none := by cases a with
   | none => rfl
   | some g => exact absurd rfl (hI.1 rfl g)
  refine J.know (p := ca = 0) (fun h' s => (s.get (i := 3) rfl).2.2) fun hg => ?_
  subst hg
  refine J.r hX tk 400 (fun _ => rfl) fun b4 => ?_
  refine J.val hX (pgk p1) 0 rfl rfl (fun hg a w he hw => loadN_run tk rfl rfl he rfl rfl rfl (hw.get (i := 1) rfl) rfl rfl) rfl trivial ?_
  refine J.r hX tk 400 (fun _ => rfl) fun b5 => ?_
  refine J.mapEntry hX key32 umapT zeroI p1 2 rfl rfl rfl rfl rfl rfl rfl rfl rfl rfl (fun _ => rfl) (fun _ => rfl) fun st => ⟨trivial, ?_⟩
  refine J.r hX tk 400 (fun _ => rfl) fun b6 => ?_
  refine J.append hX tk (a := none) (n := 0) (cap := 0) 3 6 0 rfl rfl rfl rfl rfl rfl rfl rfl rfl rfl rfl rfl rfl rfl rfl rfl (by decide) (by decide) (fun _ => rfl) fun a2 c2 => ⟨_, rfl, trivial, ?_⟩
  refine J.r hX tk 400 (fun _ => rfl) fun b7 => ?_
  refine J.entryStore hX 2 rfl rfl rfl rfl rfl rfl rfl rfl rfl rfl rfl (fun _ => rfl) rfl ⟨trivial, ?_⟩
  refine J.r hX tk 400 (fun _ => rfl) fun b8 => ?_
  refine J.nS ((1, (a2, c2), (b, cb))) (⟨by dsimp only; omega, by simp, fun _ => hI.2 (by omega)⟩) (by dsimp only; omega) [0, 1, 2, 3, 4] rfl rfl
 ·
  refine J.r hX tk 400 (fun _ => rfl) fun b10 => ?_
  refine J.cond rfl (fun _ => ?_) (fun h => absurd h (by decide))
  obtain rfl : b = none := by cases b with
   | none => rfl
   | some g => exact absurd rfl (hI.2 (by omega) g)
  refine J.know (p := cb = 0) (fun h' s => (s.get (i := 4) rfl).2.2) fun hg => ?_
  subst hg
  refine J.r hX tk 400 (fun _ => rfl) fun b11 => ?_
  refine J.val hX (pgk p2) 0 rfl rfl (fun hg a w he hw => loadN_run tk rfl rfl he rfl rfl rfl (hw.get (i := 1) rfl) rfl rfl) rfl trivial ?_
  refine J.r hX tk 400 (fun _ => rfl) fun b12 => ?_
  refine J.mapEntry hX key32 umapT zeroI p2 2 rfl rfl rfl rfl rfl rfl rfl rfl rfl rfl (fun _ => rfl) (fun _ => rfl) fun st => ⟨trivial, ?_⟩
  refine J.r hX tk 400 (fun _ => rfl) fun b13 => ?_
  refine J.append hX tk (a := none) (n := 0) (cap := 0) 4 6 0 rfl rfl rfl rfl rfl rfl rfl rfl rfl rfl rfl rfl rfl rfl rfl rfl (by decide) (by decide) (fun _ => rfl) fun a2 c2 => ⟨_, rfl, trivial, ?_⟩
  refine J.r hX tk 400 (fun _ => rfl) fun b14 => ?_
  refine J.entryStore hX 2 rfl rfl rfl rfl rfl rfl rfl rfl rfl rfl rfl (fun _ => rfl) rfl ⟨trivial, ?_⟩
  refine J.r hX tk 400 (fun _ => rfl) fun b15 => ?_
  refine J.nS ((2, (a, ca), (a2, c2))) (⟨by dsimp only; omega, by simp, by simp⟩) (by dsimp only; omega) [0, 1, 2, 3, 4] rfl rfl
 ·
  refine J.r hX tk 400 (fun _ => rfl) fun b17 => ?_
  refine J.cond rfl (fun _ => ?_) (fun h => absurd h (by decide))
  refine J.know (fun h' s => own_some (c := (a, ca)) (by decide) (s.get (i := 3) rfl)) fun hg => ?_
  obtain ⟨ga, rfl⟩ := hg
  refine J.r hX tk 400 (fun _ => rfl) fun b18 => ?_
  refine J.val hX (pgk p1) 0 rfl rfl (fun hg a w he hw => loadN_run tk rfl rfl he rfl rfl rfl (hw.get (i := 1) rfl) rfl rfl) rfl trivial ?_
  refine J.r hX tk 400 (fun _ => rfl) fun b19 => ?_
  refine J.mapEntry hX key32 umapT zeroI p1 2 rfl rfl rfl rfl rfl rfl rfl rfl rfl rfl (fun _ => rfl) (fun _ => rfl) fun st => ⟨trivial, ?_⟩
  refine J.r hX tk 400 (fun _ => rfl) fun b20 => ?_
  refine J.append hX tk (a := (some ga)) (n := 1) (cap := ca) 3 6 0 rfl rfl rfl rfl rfl rfl rfl rfl rfl rfl rfl rfl rfl rfl rfl rfl (by decide) (by decide) (fun _ => rfl) fun a2 c2 => ⟨_, rfl, trivial, ?_⟩
  refine J.r hX tk 400 (fun _ => rfl) fun b21 => ?_
  refine J.entryStore hX 2 rfl rfl rfl rfl rfl rfl rfl rfl rfl rfl rfl (fun _ => rfl) rfl ⟨trivial, ?_⟩
  refine J.r hX tk 400 (fun _ => rfl) fun b22 => ?_
  refine J.nS ((3, (a2, c2), (b, cb))) (⟨by dsimp only; omega, by simp, by simp⟩) (by dsimp only; omega) [0, 1, 2, 3, 4] rfl rfl
 ·refine J.r hX tk 400 (fun _ => rfl) fun b24 => ?_
  refine J.cond rfl (fun h => absurd h (by decide)) (fun _ => ?_)
  refine J.know (fun h' s => own_some (c := (a, ca)) (by decide) (s.get (i := 3) rfl)) fun hg => ?_
  obtain ⟨ga, rfl⟩ := hg
  refine J.know (fun h' s => own_some (c := (b, cb)) (by decide) (s.get (i := 4) rfl)) fun hg => ?_
  obtain ⟨gb, rfl⟩ := hg
  refine J.turn1 [] rfl (As := [ownA 24 1 none 0 0 []]) (fun h s => Sep.one ⟨rfl, rfl, rfl⟩) rfl ?_
  refine J.r hX tk 400 (fun _ => rfl) fun b25 => ?_
  refine J.lo (α := (Nat × Option Nat × Nat)) (fun z => z.1 ≤ 3 ∧ (z.1 = 0 → ∀ g, z.2.1 ≠ some g)) (fun z => [⟨29, .int .i64 z.1, 0, .tt⟩, ⟨28, .int .i64 3, 0, .tt⟩, ⟨27, .slice (some ⟨g, 0, none⟩) 3 3, 2, .tt⟩, ⟨3, .map (some (mm 0)), 3, .tt⟩, ⟨6, slv z.2.1 (twM (z.1 + 1)) z.2.2, 0, .tt⟩]) [5] (fun z => [ownA 24 1 z.2.1 (twM (z.1 + 1)) z.2.2 (twO z.1 ga ca)]) (fun z => 3 - z.1) ((0, none, 0)) (⟨by omega, by simp⟩) rfl ?_ (fun _ => rfl) fun z hI => ?_
  ·rfl
  obtain ⟨k, o, co⟩ := z
  dsimp only at hI ⊢
  obtain ⟨hI0, hJ⟩ := hI
  rcases (by omega : k = 0 ∨ k = 1 ∨ k = 2 ∨ k = 3) with rfl | rfl | rfl | rfl
  ·refine J.r hX tk 400 (fun _ => rfl) fun b27 => ?_
   refine J.cond rfl (fun _ => ?_) (fun h => absurd h (by decide))
   refine J.r hX tk 400 (fun _ => rfl) fun b28 => ?_
   refine J.val hX (pgk p1) 0 rfl rfl (fun hg a w he hw => loadN_run tk rfl rfl he rfl rfl rfl (hw.get (i := 1) rfl) rfl rfl) rfl trivial ?_
   refine J.r hX tk 400 (fun _ => rfl) fun b29 => ?_
   refine J.val hX (slv (some ga) 2 ca) 0 rfl rfl (fun hg a w he hw => ?_) rfl trivial ?_
   ·exact (lookup_run (key := p1) key32 umapT (z := .slice none 0 0) zeroI rfl rfl rfl rfl he rfl rfl (hw.get (i := 2) rfl)).trans rfl
   refine J.r hX tk 400 (fun _ => rfl) fun b30 => ?_
   refine J.val hX (.int .i64 0) 0 rfl rfl (fun hg a w he hw => own1_run tk rfl rfl he rfl rfl rfl (hw.get (i := 3) rfl) rfl) rfl trivial ?_
   refine J.r hX tk 400 (fun _ => rfl) fun b31 => ?_
   refine J.cond rfl (fun _ => ?_) (fun h => absurd h (by decide))
   obtain rfl : o = none := by cases o with
    | none => rfl
    | some g => exact absurd rfl (hJ rfl g)
   refine J.know (p := co = 0) (fun h' s => (s.get (i := 5) rfl).2.2) fun hg => ?_
   subst hg
   refine J.r hX tk 400 (fun _ => rfl) fun b32 => ?_
   refine J.append hX tk (a := none) (n := 0) (cap := 0) 5 7 0 rfl rfl rfl rfl rfl rfl rfl rfl rfl rfl rfl rfl rfl rfl rfl rfl (by decide) (by decide) (fun _ => rfl) fun o2 c2 => ⟨_, rfl, trivial, ?_⟩
   refine J.r hX tk 400 (fun _ => rfl) fun b33 => ?_
   refine J.nS ((1, o2, c2)) (⟨by dsimp only; omega, by simp⟩) (by dsimp only; omega) [0, 1, 2, 3, 4, 5] rfl rfl
  ·refine J.r hX tk 400 (fun _ => rfl) fun b35 => ?_
   refine J.cond rfl (fun _ => ?_) (fun h => absurd h (by decide))
   refine J.r hX tk 400 (fun _ => rfl) fun b36 => ?_
   refine J.val hX (pgk p2) 0 rfl rfl (fun hg a w he hw => loadN_run tk rfl rfl he rfl rfl rfl (hw.get (i := 1) rfl) rfl rfl) rfl trivial ?_
   refine J.r hX tk 400 (fun _ => rfl) fun b37 => ?_
   refine J.val hX (slv (some gb) 1 cb) 0 rfl rfl (fun hg a w he hw => ?_) rfl trivial ?_
   ·exact (lookup_run (key := p2) key32 umapT (z := .slice none 0 0) zeroI rfl rfl rfl rfl he rfl rfl (hw.get (i := 2) rfl)).trans rfl
   refine J.r hX tk 400 (fun _ => rfl) fun b38 => ?_
   refine J.val hX (.int .i64 1) 0 rfl rfl (fun hg a w he hw => own1_run tk rfl rfl he rfl rfl rfl (hw.get (i := 4) rfl) rfl) rfl trivial ?_
   refine J.r hX tk 400 (fun _ => rfl) fun b39 => ?_
   refine J.cond rfl (fun h => absurd h (by decide)) (fun _ => ?_)
   refine J.r hX tk 400 (fun _ => rfl) fun b40 => ?_
   refine J.nS ((2, o, co)) (⟨by dsimp only; omega, by simp⟩) (by dsimp only; omega) [0, 1, 2, 3, 4, 5] rfl rfl
  ·refine J.r hX tk 400 (fun _ => rfl) fun b42 => ?_
   refine J.cond rfl (fun _ => ?_) (fun h => absurd h (by decide))
   refine J.r hX tk 400 (fun _ => rfl) fun b43 => ?_
   refine J.val hX (pgk p1) 0 rfl rfl (fun hg a w he hw => loadN_run tk rfl rfl he rfl rfl rfl (hw.get (i := 1) rfl) rfl rfl) rfl trivial ?_
   refine J.r hX tk 400 (fun _ => rfl) fun b44 => ?_
   refine J.val hX (slv (some ga) 2 ca) 0 rfl rfl (fun hg a w he hw => ?_) rfl trivial ?_
   ·exact (lookup_run (key := p1) key32 umapT (z := .slice none 0 0) zeroI rfl rfl rfl rfl he rfl rfl (hw.get (i := 2) rfl)).trans rfl
   refine J.r hX tk 400 (fun _ => rfl) fun b45 => ?_
   refine J.val hX (.int .i64 0) 0 rfl rfl (fun hg a w he hw => own1_run tk rfl rfl he rfl rfl rfl (hw.get (i := 3) rfl) rfl) rfl trivial ?_
   refine J.r hX tk 400 (fun _ => rfl) fun b46 => ?_
   refine J.cond rfl (fun h => absurd h (by decide)) (fun _ => ?_)
   refine J.r hX tk 400 (fun _ => rfl) fun b47 => ?_
   refine J.nS ((3, o, co)) (⟨by dsimp only; omega, by simp⟩) (by dsimp only; omega) [0, 1, 2, 3, 4, 5] rfl rfl
  ·refine J.r hX tk 400 (fun _ => rfl) fun b49 => ?_
   refine J.cond rfl (fun h => absurd h (by decide)) (fun _ => ?_)
   refine J.r hX tk 400 (fun _ => rfl) fun b50 => ?_
   refine J.rt hX tk [5, 3] rfl rfl rfl ?_
   exact ⟨o, co, some ga, ca, rfl, rfl⟩
theorem perm2 {α : Type} {l : List α} {a b : α} (h : l.Perm [a, b]) : l = [a, b] ∨ l = [b, a] := by
 match l, h.length_eq, h with
 | [x, y], _, h =>
  have hx := (h.mem_iff (a := x)).1 (by simp)
  simp only [List.mem_cons, List.not_mem_nil, or_false] at hx
  rcases hx with rfl | rfl
  ·left
   have := (List.perm_cons x).1 h
   rw [List.perm_singleton.1 this]
  ·right
   have := (List.perm_cons x).1 (h.trans (List.Perm.swap x a []))
   rw [List.perm_singleton.1 this]
theorem str_eql (a : ByteArray) (w : World) (o1 o2 : Operand) : (do eqGuard .eql 9 o1 o2 (.string a) (.string a); binOp .eql 9 (.string a) (.string a) : Sem Value).run Tryz.prog w = .ok (.bool true) w := by
 have hu : Tryz.prog.underlying 9 = some .string := by kernel_rfl
 simp [eqGuard, binOp, Op.stringOp, equal_step, Op.equalIn, underlying_run hu]
theorem strEq_run {E : Env} {n : Nat} {a : Act} {w : World} {o : Oper} {x y : Operand} {k1 k2 u1 u2 t2 : Nat} {g1 g2 : G} {s1 : ByteArray} (hop : o.op = .binOp .eql 9 x y t2) (hx : ev E x = some ⟨k1, .string s1, u1, g1⟩) (hy : ev E y = some ⟨k2, .string s1, u2, g2⟩) (he : EnvOK n E a) (v1 : g1.on = true) (v2 : g2.on = true) :
  (execOp a.eval o).run Tryz.prog w = .ok (.value (.bool true)) w := by
 have ex := ev_spec he hx
 have ey := ev_spec he hy
 simp only [Slot.val, v1, v2] at ex ey
 have h := str_eql s1 w x y
 simp only [execOp, hop, ex, ey]
 simp only [Sem.run_bind] at h ⊢
 rw [h]
 rfl
def sX : Value := .string ⟨#[120]⟩
def sY : Value := .string ⟨#[121]⟩
def sL : List (A3 × Value) := [((1, 2, 3), sX), ((0, 9, 9), sY)]
theorem sorted2 {l : List A3} (h : l.Perm [((1 : Int), (2 : Int), (3 : Int)), (0, 9, 9)]) : isort ordI l = [(0, 9, 9), (1, 2, 3)] := by
 rcases perm2 h with rfl | rfl <;> decide
theorem l5_begun : Fn Tryz.prog 270 [] [] (fun v As => v = .bool true ∧ As = []) := by
 refine Fn.enter [] Tryz.func270 rfl rfl rfl fun X F hX => ?_
 refine J.r hX tk 400 (fun _ => rfl) fun b1 => ?_
 refine J.ca hX (by kernel_rfl) (t_New) [] 0 rfl rfl rfl rfl rfl rfl (fun _ => rfl) ?_
 rintro v As ⟨q, rfl, rfl⟩
 refine ⟨_, rfl, trivial, ?_⟩
 refine J.r hX tk 400 (fun _ => rfl) fun b2 => ?_
 refine J.cond rfl (fun h => by simp at h) (fun _ => ?_)
 refine J.r hX tk 400 (fun _ => rfl) fun b3 => ?_
 refine J.ca hX (by kernel_rfl) (t_Set q [] 1 2 3 ⟨#[120]⟩) [1] 0 rfl rfl rfl rfl rfl rfl (fun _ => rfl) ?_
 rintro v As ⟨rfl, rfl⟩
 refine ⟨_, rfl, trivial, ?_⟩
 refine J.r hX tk 400 (fun _ => rfl) fun b4 => ?_
 refine J.ca hX (by kernel_rfl) (t_Set q [((1, 2, 3), sX)] 0 9 9 ⟨#[121]⟩) [1] 0 rfl rfl rfl rfl rfl rfl (fun _ => rfl) ?_
 rintro v As ⟨rfl, rfl⟩
 refine ⟨_, rfl, trivial, ?_⟩
 refine J.r hX tk 400 (fun _ => rfl) fun b6 => ?_
 refine J.ca hX (by kernel_rfl) (t_Get q sL 1 2 3) [1] 0 rfl rfl rfl rfl rfl rfl (fun _ => rfl) ?_
 rintro v As ⟨rfl, rfl⟩
 refine ⟨_, rfl, trivial, ?_⟩
 rw [show (alook sL (1, 2, 3)).getD sE = sX from rfl, show (alook sL (1, 2, 3)).isSome = true from rfl]
 refine J.r hX tk 400 (fun _ => rfl) fun b8 => ?_
 refine J.ca hX (by kernel_rfl) (t_All q sL (by decide)) [1] 0 rfl rfl rfl rfl rfl rfl (fun _ => rfl) ?_
 rintro v As ⟨a, cap, l0, l', hp, hl', rfl, rfl⟩
 refine ⟨_, rfl, trivial, ?_⟩
 obtain rfl : l' = [(0, 9, 9), (1, 2, 3)] := hl'.trans (sorted2 hp)
 refine J.know (fun h' s => own_some (c := (a, cap)) (by decide) (s.get (i := 2) rfl)) fun hg => ?_
 obtain ⟨ga, rfl⟩ := hg
 refine J.r hX tk 400 (fun _ => rfl) fun bp => ?_
 refine J.ca hX (by kernel_rfl) (x_Twins (bp 0)) [3] 0 rfl rfl rfl rfl rfl rfl (fun _ => rfl) ?_
 rintro v As ⟨o, co, a2, c2, rfl, rfl⟩
 refine ⟨_, rfl, trivial, ?_⟩
 refine J.know (fun h' s => own_some (c := (o, co)) (by decide) (s.get (i := 3) rfl)) fun hg => ?_
 obtain ⟨go, rfl⟩ := hg
 refine J.know (fun h' s => own_some (c := (a2, c2)) (by decide) (s.get (i := 4) rfl)) fun hg => ?_
 obtain ⟨g2, rfl⟩ := hg
 refine J.r hX tk 400 (fun _ => rfl) fun b11 => ?_
 refine J.val hX (.bool true) 0 rfl rfl (fun hg a w he hw => (strEq_run rfl rfl rfl he rfl rfl).trans rfl) rfl trivial ?_
 refine J.r hX tk 400 (fun _ => rfl) fun b12 => ?_
 refine J.ca hX (by kernel_rfl) (t_Len q sL) [1] 0 rfl rfl rfl rfl rfl rfl (fun _ => rfl) ?_
 rintro v As ⟨rfl, rfl⟩
 refine ⟨_, rfl, trivial, ?_⟩
 refine J.r hX tk 400 (fun _ => rfl) fun b13 => ?_
 refine J.val hX (.int .i64 0) 0 rfl rfl (fun hg a w he hw => own1_run tk rfl rfl he hg rfl rfl (hw.get (i := 2) rfl) rfl) rfl trivial ?_
 refine J.r hX tk 400 (fun _ => rfl) fun b14 => ?_
 refine J.ca hX (by kernel_rfl) (t_Block q sL (by decide) 1 2) [1] 0 rfl rfl rfl rfl rfl rfl (fun _ => rfl) ?_
 rintro v As ⟨a3, c3, l3, hp3, rfl, rfl⟩
 refine ⟨_, rfl, trivial, ?_⟩
 have h3 : l3.length = 1 := hp3.length_eq.trans rfl
 rw [h3]
 refine J.r hX tk 400 (fun _ => rfl) fun b15 => ?_
 refine J.val hX (aggA (0, 9, 9)) 0 rfl rfl (fun hg a w he hw => ownN_run tk rfl rfl he hg rfl rfl (hw.get (i := 2) rfl) rfl rfl) rfl trivial ?_
 refine J.r hX tk 400 (fun _ => rfl) fun b16 => ?_
 refine J.ca hX (by kernel_rfl) (t_Drop q sL 0 9 9) [1] 0 rfl rfl rfl rfl rfl rfl (fun _ => rfl) ?_
 rintro v As ⟨rfl, rfl⟩
 refine ⟨_, rfl, trivial, ?_⟩
 rw [show (alook sL (0, 9, 9)).isSome = true from rfl, show adel sL (0, 9, 9) = [((1, 2, 3), sX)] from rfl]
 refine J.r hX tk 400 (fun _ => rfl) fun b17 => ?_
 refine J.val hX (aggA (0, 9, 9)) 0 rfl rfl (fun hg a w he hw => ownN_run tk rfl rfl he hg rfl rfl (hw.get (i := 2) rfl) rfl rfl) rfl trivial ?_
 refine J.r hX tk 400 (fun _ => rfl) fun b18 => ?_
 refine J.ca hX (by kernel_rfl) (t_Drop q [((1, 2, 3), sX)] 0 9 9) [1] 0 rfl rfl rfl rfl rfl rfl (fun _ => rfl) ?_
 rintro v As ⟨rfl, rfl⟩
 refine ⟨_, rfl, trivial, ?_⟩
 rw [show (alook [(((1 : Int), (2 : Int), (3 : Int)), sX)] (0, 9, 9)).isSome = false from rfl]
 refine J.r hX tk 400 (fun _ => rfl) fun b19 => ?_
 refine J.val hX (slv (some g2) 2 c2) 0 rfl rfl (fun hg a w he hw => own1_run tk rfl rfl he hg rfl rfl (hw.get (i := 3) rfl) rfl) rfl trivial ?_
 refine J.r hX tk 400 (fun _ => rfl) fun b20 => ?_
 refine J.val hX (slv (some g2) 2 c2) 0 rfl rfl (fun hg a w he hw => own1_run tk rfl rfl he hg rfl rfl (hw.get (i := 3) rfl) rfl) rfl trivial ?_
 refine J.r hX tk 400 (fun _ => rfl) fun b21 => ?_
 refine J.val hX (.int .i64 2) 0 rfl rfl (fun hg a w he hw => own1_run tk rfl rfl he hg rfl rfl (hw.get (i := 4) rfl) rfl) rfl trivial ?_
 refine J.r hX tk 400 (fun _ => rfl) fun b22 => ?_
 refine J.rt hX tk [] rfl rfl rfl ?_
 exact ⟨rfl, rfl⟩
theorem l5_Begun : Fn Tryz.prog 250 [] [] (fun v As => v = .bool true ∧ As = []) := by
 refine Fn.enter [] Tryz.func250 rfl rfl rfl fun X F hX => ?_
 refine J.r hX tk 400 (fun _ => rfl) fun b23 => ?_
 refine J.ca hX (by kernel_rfl) (l5_begun) [] 0 rfl rfl rfl rfl rfl rfl (fun _ => rfl) ?_
 rintro v As ⟨rfl, rfl⟩
 refine ⟨_, rfl, trivial, ?_⟩
 refine J.r hX tk 400 (fun _ => rfl) fun b24 => ?_
 refine J.rt hX tk [] rfl rfl rfl ?_
 exact ⟨rfl, rfl⟩
section
variable {P : Program} {E : Env} {n : Nat} {a : Act} {w : World}
theorem eqAgg_run {lv : List Lk} {o : Oper} {t : TypeId} {x y : Operand} {k1 k2 u1 u2 t2 : Nat} {g1 g2 : G} {xs ys : List Value} (hop : o.op = .binOp .eql t x y t2) (hx : ev E x = some ⟨k1, .agg xs.toArray, u1, g1⟩) (hy : ev E y = some ⟨k2, .agg ys.toArray, u2, g2⟩) (he : EnvOK n E a) (v1 : g1.on = true) (v2 : g2.on = true)
  (hl : leaves P 100 t = some lv) (fx : Fits lv xs) (fy : Fits lv ys) (hm : ∀ zs, mkV P t zs = .agg zs.toArray) (hg : P.eqGuardType P.depth t = false) : (execOp a.eval o).run P w = .ok (.value (.bool (eqCells xs ys))) w := by
 have ex := ev_spec he hx
 have ey := ev_spec he hy
 simp only [Slot.val, v1, v2] at ex ey
 have h := run_eql_leaves (w := w) hl fx fy (hm _) (hm _)
 simp [execOp, hop, ex, ey, eqGuard, hg, h, Sem.run_bind]
theorem neAgg_run {lv : List Lk} {o : Oper} {t : TypeId} {x y : Operand} {k1 k2 u1 u2 t2 : Nat} {g1 g2 : G} {xs ys : List Value} (hop : o.op = .binOp .neq t x y t2) (hx : ev E x = some ⟨k1, .agg xs.toArray, u1, g1⟩) (hy : ev E y = some ⟨k2, .agg ys.toArray, u2, g2⟩) (he : EnvOK n E a) (v1 : g1.on = true) (v2 : g2.on = true)
  (hl : leaves P 100 t = some lv) (fx : Fits lv xs) (fy : Fits lv ys) (hm : ∀ zs, mkV P t zs = .agg zs.toArray) (hg : P.eqGuardType P.depth t = false) : (execOp a.eval o).run P w = .ok (.value (.bool (!eqCells xs ys))) w := by
 have ex := ev_spec he hx
 have ey := ev_spec he hy
 simp only [Slot.val, v1, v2] at ex ey
 have h := run_neq_leaves (w := w) hl fx fy (hm _) (hm _)
 simp [execOp, hop, ex, ey, eqGuard, hg, h, Sem.run_bind]
end
def lvPg : List Lk := [.int .u8, .int .u8, .int .u8, .int .u8, .int .u8, .int .u8, .int .u8, .int .u8, .int .u8, .int .u8, .int .u8, .int .u8, .int .u8, .int .u8, .int .u8, .int .u8, .int .u8, .int .u8, .int .u8, .int .u8, .int .u8, .int .u8, .int .u8, .int .u8, .int .u8, .int .u8, .int .u8, .int .u8, .int .u8, .int .u8, .int .u8, .int .u8]
theorem leavesPg : leaves Tryz.prog 100 118 = some lvPg := by kernel_rfl
theorem fitsPg (p : List UInt8) : Fits lvPg (pageC p) := ⟨rfl, rfl, rfl, rfl, rfl, rfl, rfl, rfl, rfl, rfl, rfl, rfl, rfl, rfl, rfl, rfl, rfl, rfl, rfl, rfl, rfl, rfl, rfl, rfl, rfl, rfl, rfl, rfl, rfl, rfl, rfl, rfl, trivial⟩
theorem mkPg (zs : List Value) : mkV Tryz.prog 118 zs = .agg zs.toArray := by simp [mkV, Tryz.underlying118]
theorem gdPg : Tryz.prog.eqGuardType Tryz.prog.depth 118 = false := by kernel_rfl
theorem eqPg (x y : List UInt8) (hx : x.length = 32) (hy : y.length = 32) : eqCells (pageC x) (pageC y) = decide (x = y) := by rw [pageC_eq x hx, pageC_eq y hy, eqCells_bytes]
def lvD : List Lk := [.int .u8, .int .u8, .int .u8, .int .u8, .int .u8, .int .u8, .int .u8, .int .u8, .int .u8, .int .u8, .int .u8, .int .u8, .int .u8, .int .u8, .int .u8, .int .u8]
theorem fitsD (p : List UInt8) : Fits lvD (dataC p) := ⟨rfl, rfl, rfl, rfl, rfl, rfl, rfl, rfl, rfl, rfl, rfl, rfl, rfl, rfl, rfl, rfl, trivial⟩
theorem eqD (x y : List UInt8) (hx : x.length = 16) (hy : y.length = 16) : eqCells (dataC x) (dataC y) = decide (x = y) := by rw [dataC_eq x hx, dataC_eq y hy, eqCells_bytes]
def lvSh : List Lk := lvD ++ [.int .i64, .int .i64, .int .i64, .int .i64, .int .i64, .int .i64, .int .i64]
theorem leavesSh : leaves Tryz.prog 100 132 = some lvSh := by kernel_rfl
theorem fitsSh (s : Sh) : Fits lvSh (shL s) := Fits.append (fitsD s.data) (show Fits [.int .i64, .int .i64, .int .i64, .int .i64, .int .i64, .int .i64, .int .i64] [.int .i64 s.role, .int .i64 s.lpn, .int .i64 s.seq, .int .i64 s.kind, .int .i64 s.block, .int .i64 s.row, .int .i64 s.mask] from ⟨rfl, rfl, rfl, rfl, rfl, rfl, rfl, trivial⟩)
theorem mkSh (zs : List Value) : mkV Tryz.prog 132 zs = .agg zs.toArray := by simp [mkV, Tryz.underlying132]
theorem gdSh : Tryz.prog.eqGuardType Tryz.prog.depth 132 = false := by kernel_rfl
theorem eqSh (x y : Sh) (hx : x.data.length = 16) (hy : y.data.length = 16) : eqCells (shL x) (shL y) = decide (x = y) := by
 have h1 : shL x = dataC x.data ++ [.int .i64 x.role, .int .i64 x.lpn, .int .i64 x.seq, .int .i64 x.kind, .int .i64 x.block, .int .i64 x.row, .int .i64 x.mask] := rfl
 have h2 : shL y = dataC y.data ++ [.int .i64 y.role, .int .i64 y.lpn, .int .i64 y.seq, .int .i64 y.kind, .int .i64 y.block, .int .i64 y.row, .int .i64 y.mask] := rfl
 rw [h1, h2, eqCells_append (a := dataC x.data) (c := dataC y.data) rfl, eqD _ _ hx hy]
 obtain ⟨d, r, l, s, k, b, ro, m⟩ := x
 obtain ⟨d', r', l', s', k', b', ro', m'⟩ := y
 rw [Bool.eq_iff_iff]
 simp [eqCells, cellEq, Sh.mk.injEq]
def lvEn : List Lk := [.int .i64, .int .i64, .int .i64] ++ lvD
theorem leavesEn : leaves Tryz.prog 100 38 = some lvEn := by kernel_rfl
theorem fitsEn (e : En) : Fits lvEn (enL e) := Fits.append (show Fits [.int .i64, .int .i64, .int .i64] [.int .i64 e.lpn, .int .i64 e.seq, .int .i64 e.role] from ⟨rfl, rfl, rfl, trivial⟩) (fitsD e.data)
theorem mkEn (zs : List Value) : mkV Tryz.prog 38 zs = .agg zs.toArray := by simp [mkV, Tryz.underlying38]
theorem gdEn : Tryz.prog.eqGuardType Tryz.prog.depth 38 = false := by kernel_rfl
theorem eqEn (x y : En) (hx : x.data.length = 16) (hy : y.data.length = 16) : eqCells (enL x) (enL y) = true ↔ x = y := by
 have h1 : enL x = [.int .i64 x.lpn, .int .i64 x.seq, .int .i64 x.role] ++ dataC x.data := rfl
 have h2 : enL y = [.int .i64 y.lpn, .int .i64 y.seq, .int .i64 y.role] ++ dataC y.data := rfl
 rw [h1, h2, eqCells_append (a := [.int .i64 x.lpn, .int .i64 x.seq, .int .i64 x.role]) (c := [.int .i64 y.lpn, .int .i64 y.seq, .int .i64 y.role]) rfl, eqD _ _ hx hy]
 obtain ⟨l, s, r, d⟩ := x
 obtain ⟨l', s', r', d'⟩ := y
 simp [eqCells, cellEq, En.mk.injEq, and_assoc]
section
variable {X : Cx} {P : Program} {T : Tab} {K : List KI} {E : Env} {L : List Atom} {N : Nat} {F : HP} {Post : Value → List Atom → Prop} {rs : List ResultVar}
theorem J.effG (hX : IsCx X P rs N F Post) (hT : TabOK P T) {ops : Array Oper} {C : Cl} {lt : Bool} {i : Nat} {t : PT} {o : Oper} {g : G} {v : Nat → Value} {tag : Nat} {L' : Nat → List Atom} {ob : List Prop} {E' : Value → Env}
  (ho : lget ops.toList i = some o) (hg : gd ops.toList E o = some g) (hgo : g.on = true) (hef : ∀ x : Nat, eff T (fun _ => x) E L 0 o.op = some ⟨v x, tag, L' x, ob, 1⟩) (hob : Conj ob)
  (hd : ∀ v, putE N o.dst v tag .tt E = some (E' v)) (hJ : ∀ x, Conj (staysL lt C (L' x)) ∧ J X (.reg ops C t :: K) (E' (v x)) (L' x)) : J X (.reg ops C (.alt lt i t .non) :: K) E L := by
 refine J.op hX (S := fun v' L2 => ∃ x, v' = v x ∧ L2 = L' x) tag ho hg hgo (fun a0 w hen hs => ?_) hd (fun v' L2 ⟨x, e1, e2⟩ => by subst e1; subst e2; exact hJ x)
 obtain ⟨nv, w', r1, r2, r3, r4⟩ := eff_run (P := P) hT hen (hef w.heap.size) hob hs (.inr rfl)
 exact ⟨v w.heap.size, L' w.heap.size, nv, w', ⟨w.heap.size, rfl, rfl⟩, r1, r2, r3, r4⟩
end
end Go.Proofs.YtdocmcapegcoeaaGreat
namespace Go.Proofs.YtdocmcapegcoeaaGreat
open Go Go.RowKit
def pgB (a b : UInt8) : List UInt8 := [a, b, 0, 0, 0, 0, 0, 0, 0, 0, 0, 0, 0, 0, 0, 0, 0, 0, 0, 0, 0, 0, 0, 0, 0, 0, 0, 0, 0, 0, 0, 0]
namespace B7
def N0 : Nand := Nand.new 3 8 2
def N1 : Nand := N0.progN 1 0 0 (pgB 7 0)
def N2 : Nand := N1.progN 1 0 0 (pgB 8 0)
def N3 : Nand := (N2.fault 3 1 0 0 0 0).2
def N4 : Nand := N3.eraseN 1 0
def N5 : Nand := N4.setCut 0 1
def N6 : Nand := N5.progN 1 0 0 (pgB 5 6)
def N7 : Nand := N6.onN
def N8 : Nand := (N7.fault 4 2 0 0 0 0).2
theorem G0 : N0.Gd 100 0 := Nand.Gd.new 3 8 2 rfl 100 (by decide)
theorem G1 : N1.Gd 99 0 := G0.prog 1 0 0 _ rfl
theorem G2 : N2.Gd 98 0 := G1.prog 1 0 0 _ rfl
theorem G3 : N3.Gd 98 0 := G2.fault0 3 1 0 0 0 0 (by decide)
theorem G4 : N4.Gd 97 0 := G3.erase 1 0
theorem G5 : N5.Gd 97 0 := G4.cut 0 1 (by decide) (by decide)
theorem G6 : N6.Gd 96 0 := G5.prog 1 0 0 _ rfl
theorem G7 : N7.Gd 96 0 := G6.on
theorem G8 : N8.Gd 96 0 := G7.fault0 4 2 0 0 0 0 (by decide)
end B7
open B7
theorem n_NewNo : Fn Tryz.prog 28 [.agg #[.int .i64 0, .int .i64 0, .int .i64 0]] [] (fun v As => v = .pointer none ∧ As = []) := by
 refine Fn.enter [0] Tryz.func28 rfl rfl rfl fun X F hX => ?_
 refine J.r hX tk 400 (fun _ => rfl) fun g1 => ?_
 refine J.ca hX (by kernel_rfl) (f_May 0 0 0) [] 0 rfl rfl rfl rfl rfl rfl (fun _ => rfl) ?_
 rintro v As ⟨rfl, rfl⟩
 refine ⟨_, rfl, trivial, ?_⟩
 rw [show geoMay 0 0 0 = false from rfl]
 refine J.r hX tk 400 (fun _ => rfl) fun b2 => ?_
 refine J.cond rfl (fun _ => ?_) (fun h => by simp at h)
 refine J.r hX tk 400 (fun _ => rfl) fun b3 => ?_
 refine J.rt hX tk [] rfl rfl rfl ?_
 exact ⟨rfl, rfl⟩
theorem l7_begun : Fn Tryz.prog 237 [] [] (fun v As => v = .bool true ∧ As = []) := by
 refine Fn.enter [] Tryz.func237 rfl rfl rfl fun X F hX => ?_
 refine J.r hX tk 400 (fun _ => rfl) fun b0 => ?_
 refine J.ca hX (by kernel_rfl) (n_New 3 8 2 rfl) [] 0 rfl rfl rfl rfl rfl rfl (fun _ => rfl) ?_
 rintro v As ⟨q, rfl, rfl⟩
 refine ⟨_, rfl, trivial, ?_⟩
 refine J.r hX tk 400 (fun _ => rfl) fun b5 => ?_
 refine J.ca hX (by kernel_rfl) (n_NewNo) [] 0 rfl rfl rfl rfl rfl rfl (fun _ => rfl) ?_
 rintro v As ⟨rfl, rfl⟩
 refine ⟨_, rfl, trivial, ?_⟩
 refine J.r hX tk 400 (fun _ => rfl) fun b7 => ?_
 refine J.cond rfl (fun h => absurd h (by decide)) (fun _ => ?_)
 refine J.r hX tk 400 (fun _ => rfl) fun b8 => ?_
 refine J.plan (.of [0,5,8,16,21,24,14,31,32,36]) [7,8,9] [3] (by rw [hX.hP]; kernel_rfl) (by kernel_rfl) ?_
 refine J.r hX tk 400 (fun _ => rfl) fun b9 => ?_
 refine J.ca hX (by kernel_rfl) (n_Program q N0 G0.ok G0.room 1 0 0 (pgB 7 0) rfl) [2] 0 rfl rfl rfl rfl rfl rfl (fun _ => rfl) ?_
 rintro v As ⟨rfl, rfl⟩
 refine ⟨_, rfl, ⟨rfl, trivial⟩, ?_⟩
 rw [show N0.progE 1 0 0 = 0 from by kernel_rfl]
 refine J.r hX tk 400 (fun _ => rfl) fun b11 => ?_
 refine J.ca hX (by kernel_rfl) (n_Program q N1 G1.ok G1.room 1 0 0 (pgB 8 0) rfl) [2] 0 rfl rfl rfl rfl rfl rfl (fun _ => rfl) ?_
 rintro v As ⟨rfl, rfl⟩
 refine ⟨_, rfl, trivial, ?_⟩
 rw [show N1.progE 1 0 0 = 4 from by kernel_rfl]
 refine J.r hX tk 400 (fun _ => rfl) fun b13 => ?_
 refine J.ca hX (by kernel_rfl) (n_Read q N2 G2.ok 1 0 0) [2] 0 rfl rfl rfl rfl rfl rfl (fun _ => rfl) ?_
 rintro v As ⟨rfl, rfl⟩
 refine ⟨_, rfl, trivial, ?_⟩
 rw [show N2.readE 1 0 0 = 0 from by kernel_rfl, show N2.readV 1 0 0 = pgB 7 0 from by kernel_rfl]
 refine J.r hX tk 400 (fun _ => rfl) fun b15 => ?_
 refine J.ca hX (by kernel_rfl) (n_Read q N2 G2.ok 2 0 0) [2] 0 rfl rfl rfl rfl rfl rfl (fun _ => rfl) ?_
 rintro v As ⟨rfl, rfl⟩
 refine ⟨_, rfl, trivial, ?_⟩
 rw [show N2.readE 2 0 0 = 5 from by kernel_rfl]
 refine J.r hX tk 400 (fun _ => rfl) fun b17 => ?_
 refine J.ca hX (by kernel_rfl) (n_Fault q N2 G2.ok 0 3 1 0 0 0 0) [2] 0 rfl rfl rfl rfl rfl rfl (fun _ => rfl) ?_
 rintro v As ⟨rfl, rfl⟩
 refine ⟨_, rfl, trivial, ?_⟩
 rw [show (N2.fault 3 1 0 0 0 0).1 = true from by kernel_rfl]
 refine J.r hX tk 400 (fun _ => rfl) fun b19 => ?_
 refine J.ca hX (by kernel_rfl) (n_Read q N3 G3.ok 1 0 0) [2] 0 rfl rfl rfl rfl rfl rfl (fun _ => rfl) ?_
 rintro v As ⟨rfl, rfl⟩
 refine ⟨_, rfl, trivial, ?_⟩
 rw [show N3.readE 1 0 0 = 6 from by kernel_rfl]
 refine J.r hX tk 400 (fun _ => rfl) fun b21 => ?_
 refine J.ca hX (by kernel_rfl) (n_Erase q N3 G3.ok G3.room G3.nodup (Nat.le_trans G3.few (by decide)) 1 0) [2] 0 rfl rfl rfl rfl rfl rfl (fun _ => rfl) ?_
 rintro v As ⟨rfl, rfl⟩
 refine ⟨_, rfl, trivial, ?_⟩
 rw [show N3.eraseE 1 0 = 0 from by kernel_rfl]
 refine J.r hX tk 400 (fun _ => rfl) fun b23 => ?_
 refine J.ca hX (by kernel_rfl) (n_Cut q N4 0 1) [2] 0 rfl rfl rfl rfl rfl rfl (fun _ => rfl) ?_
 rintro v As ⟨rfl, rfl⟩
 refine ⟨_, rfl, trivial, ?_⟩
 refine J.r hX tk 400 (fun _ => rfl) fun b25 => ?_
 refine J.ca hX (by kernel_rfl) (n_Program q N5 G5.ok G5.room 1 0 0 (pgB 5 6) rfl) [2] 0 rfl rfl rfl rfl rfl rfl (fun _ => rfl) ?_
 rintro v As ⟨rfl, rfl⟩
 refine ⟨_, rfl, trivial, ?_⟩
 rw [show N5.progE 1 0 0 = 9 from by kernel_rfl]
 refine J.r hX tk 400 (fun _ => rfl) fun b27 => ?_
 refine J.ca hX (by kernel_rfl) (n_On q N6) [2] 0 rfl rfl rfl rfl rfl rfl (fun _ => rfl) ?_
 rintro v As ⟨rfl, rfl⟩
 refine ⟨_, rfl, trivial, ?_⟩
 refine J.r hX tk 400 (fun _ => rfl) fun b29 => ?_
 refine J.ca hX (by kernel_rfl) (n_Read q N7 G7.ok 1 0 0) [2] 0 rfl rfl rfl rfl rfl rfl (fun _ => rfl) ?_
 rintro v As ⟨rfl, rfl⟩
 refine ⟨_, rfl, trivial, ?_⟩
 rw [show N7.readE 1 0 0 = 0 from by kernel_rfl, show N7.readV 1 0 0 = Nand.fillP 1 (pgB 5 6) from by kernel_rfl]
 refine J.r hX tk 400 (fun _ => rfl) fun bf => ?_
 refine J.ca hX (by kernel_rfl) (q_New (bf (0 + 1))) [8] 0 rfl rfl rfl rfl rfl rfl (fun _ => rfl) ?_
 rintro v As ⟨p, a, c, rfl, rfl⟩
 refine ⟨_, rfl, trivial, ?_⟩
 refine J.know (fun h' s => own_some (c := (a, c)) (by decide) (s.get (i := 9) rfl)) fun hg => ?_
 obtain ⟨g, rfl⟩ := hg
 refine J.r hX tk 400 (fun _ => rfl) fun b32 => ?_
 refine J.ca hX (by kernel_rfl) (l5_Begun) [] 0 rfl rfl rfl rfl rfl rfl (fun _ => rfl) ?_
 rintro v As ⟨rfl, rfl⟩
 refine ⟨_, rfl, trivial, ?_⟩
 refine J.r hX tk 400 (fun _ => rfl) fun b33 => ?_
 refine J.ca hX (by kernel_rfl) (l6_Begun) [] 0 rfl rfl rfl rfl rfl rfl (fun _ => rfl) ?_
 rintro v As ⟨rfl, rfl⟩
 refine ⟨_, rfl, trivial, ?_⟩
 refine J.r hX tk 400 (fun _ => rfl) fun b34 => ?_
 refine J.ca hX (by kernel_rfl) (n_Broken q N7) [2] 0 rfl rfl rfl rfl rfl rfl (fun _ => rfl) ?_
 rintro v As ⟨rfl, rfl⟩
 refine ⟨_, rfl, trivial, ?_⟩
 rw [show N7.broken = 1 from by kernel_rfl]
 refine J.r hX tk 400 (fun _ => rfl) fun b35 => ?_
 refine J.val hX (.bool true) 0 rfl rfl (fun hg a w he hw => (eqAgg_run (xs := pageC (pgB 7 0)) (ys := pageC (pgB 7 0)) rfl rfl rfl he hg rfl leavesPg (fitsPg _) (fitsPg _) mkPg gdPg).trans (by rw [eqPg _ _ rfl rfl]; simp)) rfl trivial ?_
 refine J.r hX tk 400 (fun _ => rfl) fun b36 => ?_
 refine J.ca hX (by kernel_rfl) (n_Ops q N7) [2] 0 rfl rfl rfl rfl rfl rfl (fun _ => rfl) ?_
 rintro v As ⟨rfl, rfl⟩
 refine ⟨_, rfl, trivial, ?_⟩
 rw [show N7.ops = 3 from by kernel_rfl]
 refine J.r hX tk 400 (fun _ => rfl) fun b37 => ?_
 refine J.ca hX (by kernel_rfl) (n_Worn q N7 G7.ok 1 0) [2] 0 rfl rfl rfl rfl rfl rfl (fun _ => rfl) ?_
 rintro v As ⟨rfl, rfl⟩
 refine ⟨_, rfl, trivial, ?_⟩
 rw [show N7.wornAt 1 0 = 1 from by kernel_rfl]
 refine J.r hX tk 400 (fun _ => rfl) fun b38 => ?_
 refine J.ca hX (by kernel_rfl) (n_Next q N7 G7.ok 1 0) [2] 0 rfl rfl rfl rfl rfl rfl (fun _ => rfl) ?_
 rintro v As ⟨rfl, rfl⟩
 refine ⟨_, rfl, trivial, ?_⟩
 rw [show N7.next 1 0 = 1 from by kernel_rfl]
 refine J.r hX tk 400 (fun _ => rfl) fun b39 => ?_
 refine J.ca hX (by kernel_rfl) (q_Left p (some ⟨g, 0, none⟩) 1 c) [8] 0 rfl rfl rfl rfl rfl rfl (fun _ => rfl) ?_
 rintro v As ⟨rfl, rfl⟩
 refine ⟨_, rfl, trivial, ?_⟩
 refine J.r hX tk 400 (fun _ => rfl) fun b40 => ?_
 refine J.ca hX (by kernel_rfl) (q_Run p g c q N7 G7.ok (by kernel_rfl)) [8, 9, 2] 0 rfl rfl rfl rfl rfl rfl (fun _ => rfl) ?_
 rintro v As ⟨rfl, rfl⟩
 refine ⟨_, rfl, trivial, ?_⟩
 refine J.r hX tk 400 (fun _ => rfl) fun b41 => ?_
 refine J.ca hX (by kernel_rfl) (n_Dead q N8 G8.ok 2) [2] 0 rfl rfl rfl rfl rfl rfl (fun _ => rfl) ?_
 rintro v As ⟨rfl, rfl⟩
 refine ⟨_, rfl, trivial, ?_⟩
 rw [show N8.deadAt 2 = true from by kernel_rfl]
 refine J.r hX tk 400 (fun _ => rfl) fun b42 => ?_
 refine J.effG hX tk rfl rfl rfl (fun _ => rfl) (by (repeat' (first | exact Conj.nil | refine Conj.cons ?_ ?_ | omega | exact hq0 | (simpa using hq0) | (exact fun h => h) | exact rfl | (intro hq; have hq0 := hq; try simp only [Bool.and_eq_true, Bool.or_eq_true, decide_eq_true_eq, Bool.not_eq_true', decide_eq_false_iff_not] at hq) | (simp; done) | (simp; omega) | decide))) (fun _ => rfl) fun bg => ⟨trivial, ?_⟩
 refine J.r hX tk 400 (fun _ => rfl) fun b43 => ?_
 refine J.ca hX (by kernel_rfl) (q_Dies bg) [10] 0 rfl rfl rfl rfl rfl rfl (fun _ => rfl) ?_
 rintro v As ⟨rfl, rfl⟩
 refine ⟨_, rfl, trivial, ?_⟩
 refine J.r hX tk 400 (fun _ => rfl) fun b44 => ?_
 refine J.rt hX tk [] rfl rfl rfl ?_
 exact ⟨rfl, rfl⟩
theorem l7_Begun : Fn Tryz.prog 211 [] [] (fun v As => v = .bool true ∧ As = []) := by
 refine Fn.enter [] Tryz.func211 rfl rfl rfl fun X F hX => ?_
 refine J.r hX tk 400 (fun _ => rfl) fun b45 => ?_
 refine J.ca hX (by kernel_rfl) (l7_begun) [] 0 rfl rfl rfl rfl rfl rfl (fun _ => rfl) ?_
 rintro v As ⟨rfl, rfl⟩
 refine ⟨_, rfl, trivial, ?_⟩
 refine J.r hX tk 400 (fun _ => rfl) fun b46 => ?_
 refine J.rt hX tk [] rfl rfl rfl ?_
 exact ⟨rfl, rfl⟩
end Go.Proofs.YtdocmcapegcoeaaGreat
namespace Go.Proofs.YtdocmcapegcoeaaGreat
open Go Go.RowKit
theorem y_Blank1 (x : Int) : Fn Tryz.prog 274 [.int .u8 x] [] (fun v As => v = .bool (x != 255) ∧ As = []) := by
 refine Fn.enter [0] Tryz.func274 rfl rfl rfl fun X F hX => ?_
 refine J.r hX tk 400 (fun _ => rfl) fun b1 => ?_
 refine J.rt hX tk [] rfl rfl rfl ?_
 exact ⟨rfl, rfl⟩
theorem y_Index (b : Nat) (p : List UInt8) (h : (((p.getD 0 0).toNat : Int) != 255) = true) : Fn Tryz.prog 291 [.slice (some ⟨b, 0, none⟩) 32 32, .func (.func 274) #[] #[]] [.pt b 118 (pageC p)] (fun v As => v = .int .i64 0 ∧ As = []) := by
 refine Fn.enter [2, 0] Tryz.func291 rfl rfl rfl fun X F hX => ?_
 refine J.r hX tk 400 (fun _ => rfl) fun b2 => ?_
 refine J.lo (α := Nat) (fun k => k = 0) (fun k => [⟨8, .int .i64 0, 0, .tt⟩, ⟨7, .int .i64 32, 0, .tt⟩, ⟨0, .slice (some ⟨b, 0, none⟩) 32 32, 2, .tt⟩, ⟨1, .func (.func 274) #[] #[], 0, .tt⟩]) [] (fun k => []) (fun k => 0) (0) (rfl) rfl ?_ (fun _ => rfl) fun k hI => ?_
 ·rfl
 refine J.r hX tk 400 (fun _ => rfl) fun b4 => ?_
 refine J.cond rfl (fun _ => ?_) (fun h => absurd h (by decide))
 refine J.r hX tk 400 (fun _ => rfl) fun b5 => ?_
 refine J.val hX (byC p 0) 0 rfl rfl (fun hg a w he hw => load1_run tk rfl rfl he rfl rfl rfl (hw.get (i := 1) rfl) rfl) rfl trivial ?_
 refine J.r hX tk 400 (fun _ => rfl) fun b6 => ?_
 refine J.ca hX (by kernel_rfl) (y_Blank1 ((p.getD 0 0).toNat : Int)) [] 0 rfl rfl rfl rfl rfl rfl (fun _ => rfl) ?_
 rintro v As ⟨rfl, rfl⟩
 refine ⟨_, rfl, trivial, ?_⟩
 rw [h]
 refine J.r hX tk 400 (fun _ => rfl) fun b7 => ?_
 refine J.cond rfl (fun _ => ?_) (fun h => absurd h (by decide))
 refine J.r hX tk 400 (fun _ => rfl) fun b8 => ?_
 refine J.rt hX tk [] rfl rfl rfl ?_
 exact ⟨rfl, rfl⟩
theorem y_Contains (b : Nat) (p : List UInt8) (h : (((p.getD 0 0).toNat : Int) != 255) = true) : Fn Tryz.prog 273 [.slice (some ⟨b, 0, none⟩) 32 32, .func (.func 274) #[] #[]] [.pt b 118 (pageC p)] (fun v As => v = .bool true ∧ As = []) := by
 refine Fn.enter [2, 0] Tryz.func273 rfl rfl rfl fun X F hX => ?_
 refine J.r hX tk 400 (fun _ => rfl) fun b9 => ?_
 refine J.ca hX (by kernel_rfl) (y_Index b p h) [1] 0 rfl rfl rfl rfl rfl rfl (fun _ => rfl) ?_
 rintro v As ⟨rfl, rfl⟩
 refine ⟨_, rfl, trivial, ?_⟩
 refine J.r hX tk 400 (fun _ => rfl) fun b11 => ?_
 refine J.rt hX tk [] rfl rfl rfl ?_
 exact ⟨rfl, rfl⟩
theorem y_Blank (p : List UInt8) (h : (((p.getD 0 0).toNat : Int) != 255) = true) : Fn Tryz.prog 256 [pgV p] [] (fun v As => v = .bool false ∧ As = []) := by
 refine Fn.enter [0] Tryz.func256 rfl rfl rfl fun X F hX => ?_
 refine J.r hX tk 400 (fun _ => rfl) fun bb => ?_
 refine J.ca hX (by kernel_rfl) (y_Contains (bb 0) p h) [1] 0 rfl rfl rfl rfl rfl rfl (fun _ => rfl) ?_
 rintro v As ⟨rfl, rfl⟩
 refine ⟨_, rfl, trivial, ?_⟩
 refine J.r hX tk 400 (fun _ => rfl) fun b13 => ?_
 refine J.rt hX tk [] rfl rfl rfl ?_
 exact ⟨rfl, rfl⟩
namespace B9
def e : En := ⟨3, 9, 1, [1, 2, 0, 0, 0, 0, 0, 0, 0, 0, 0, 0, 0, 0, 0, 0]⟩
def pad : En := ⟨0, 0, 3, zeros16⟩
def a : Sh := W.sh 2 1 7 e
def b : Sh := W.sh 2 1 7 pad
def p : Sh := W.par 2 1 7 [e, pad]
def pg : List UInt8 := putP a
theorem h_a : W.own 2 1 7 e = a := by kernel_rfl
theorem h_a2 : W.ok 2 1 7 e = true := by kernel_rfl
theorem h_b : W.own 2 1 7 pad = b := by kernel_rfl
theorem h_b2 : W.ok 2 1 7 pad = true := by kernel_rfl
theorem h_p2 : W.parB 2 1 7 [e, pad] = true := by kernel_rfl
theorem h_pl : p.data.length = 16 := by kernel_rfl
theorem h_m : S.may a = true := by kernel_rfl
theorem h_g : S.getV pg = a := by kernel_rfl
theorem h_g2 : S.getE pg = 0 := by kernel_rfl
theorem h_z2 : S.getE zeros32 = 1 := by kernel_rfl
theorem h_k : W.back p [b] = e := by kernel_rfl
theorem h_k2 : W.backB p [b] = true := by kernel_rfl
theorem h_meta : S.meta_ 2 5 77 = 144120685633994829 := by kernel_rfl
theorem h_mp : S.may p = true := by kernel_rfl
theorem h_mz : S.may Sh.zero = false := by kernel_rfl
theorem h_bl : (((pg.getD 0 0).toNat : Int) != 255) = true := by kernel_rfl
theorem h_pgl : pg.length = 32 := putP_len a rfl
end B9
open B9
theorem l9_begun : Fn Tryz.prog 238 [] [] (fun v As => v = .bool true ∧ As = []) := by
 refine Fn.enter [] Tryz.func238 rfl rfl rfl fun X F hX => ?_
 refine J.r hX tk 400 (fun _ => rfl) fun b14 => ?_
 refine J.ca hX (by kernel_rfl) (w_Own 2 1 7 e rfl) [] 0 rfl rfl rfl rfl rfl rfl (fun _ => rfl) ?_
 rintro v As ⟨rfl, rfl⟩
 refine ⟨_, rfl, trivial, ?_⟩
 rw [h_a, h_a2]
 refine J.r hX tk 400 (fun _ => rfl) fun b16 => ?_
 refine J.ca hX (by kernel_rfl) (w_Own 2 1 7 pad rfl) [] 0 rfl rfl rfl rfl rfl rfl (fun _ => rfl) ?_
 rintro v As ⟨rfl, rfl⟩
 refine ⟨_, rfl, trivial, ?_⟩
 rw [h_b, h_b2]
 refine J.r hX tk 400 (fun _ => rfl) fun b1 => ?_
 refine J.ca hX (by kernel_rfl) (w_Parity 2 1 7 (.pt (b1 (0 + 1)) 38 (cellsE [e, pad])) (some ⟨b1 (0 + 1), 0, none⟩) 2 2 [e, pad] (pt_rd _ _ _ _ _ rfl) rfl (by decide)) [5] 0 rfl rfl rfl rfl rfl rfl (fun _ => rfl) ?_
 rintro v As ⟨rfl, rfl⟩
 refine ⟨_, rfl, trivial, ?_⟩
 rw [show W.par 2 1 7 [e, pad] = p from rfl, h_p2]
 refine J.r hX tk 400 (fun _ => rfl) fun b19 => ?_
 refine J.ca hX (by kernel_rfl) (h_Put a rfl) [] 0 rfl rfl rfl rfl rfl rfl (fun _ => rfl) ?_
 rintro v As ⟨rfl, rfl⟩
 refine ⟨_, rfl, trivial, ?_⟩
 rw [show putP a = pg from rfl, h_m]
 refine J.r hX tk 400 (fun _ => rfl) fun b21 => ?_
 refine J.ca hX (by kernel_rfl) (h_Get pg h_pgl) [] 0 rfl rfl rfl rfl rfl rfl (fun _ => rfl) ?_
 rintro v As ⟨rfl, rfl⟩
 refine ⟨_, rfl, trivial, ?_⟩
 rw [h_g, h_g2]
 refine J.r hX tk 400 (fun _ => rfl) fun b23 => ?_
 refine J.ca hX (by kernel_rfl) (h_Get zeros32 rfl) [] 0 rfl rfl rfl rfl rfl rfl (fun _ => rfl) ?_
 rintro v As ⟨rfl, rfl⟩
 refine ⟨_, rfl, trivial, ?_⟩
 rw [h_z2]
 refine J.r hX tk 400 (fun _ => rfl) fun b2 => ?_
 refine J.closeOwn (e := 132) (size := 23) (n := 1) (cap := 1) (xs := cellsS [b]) 10 rfl rfl rfl (Nat.le_refl _) (by decide) rfl rfl rfl ?_
 refine J.r hX tk 400 (fun _ => rfl) fun b25 => ?_
 refine J.ca hX (by kernel_rfl) (w_Back p h_pl (some (b2 (0 + 1))) 1 1 [b] rfl (by decide) (by decide)) [10] 0 rfl rfl rfl rfl rfl rfl (fun _ => rfl) ?_
 rintro v As ⟨rfl, rfl⟩
 refine ⟨_, rfl, trivial, ?_⟩
 rw [h_k, h_k2]
 refine J.r hX tk 400 (fun _ => rfl) fun b26 => ?_
 refine J.ca hX (by kernel_rfl) (h_Meta 2 5 77) [] 0 rfl rfl rfl rfl rfl rfl (fun _ => rfl) ?_
 rintro v As ⟨rfl, rfl⟩
 refine ⟨_, rfl, trivial, ?_⟩
 rw [h_meta]
 refine J.r hX tk 400 (fun _ => rfl) fun b28 => ?_
 refine J.ca hX (by kernel_rfl) (h_Of 144120685633994829 (by decide)) [] 0 rfl rfl rfl rfl rfl rfl (fun _ => rfl) ?_
 rintro v As ⟨rfl, rfl⟩
 refine ⟨_, rfl, trivial, ?_⟩
 refine J.r hX tk 400 (fun _ => rfl) fun b30 => ?_
 refine J.ca hX (by kernel_rfl) (l6_Begun) [] 0 rfl rfl rfl rfl rfl rfl (fun _ => rfl) ?_
 rintro v As ⟨rfl, rfl⟩
 refine ⟨_, rfl, trivial, ?_⟩
 refine J.r hX tk 400 (fun _ => rfl) fun b32 => ?_
 refine J.val hX (.bool true) 0 rfl rfl (fun hg x w he hw => (eqAgg_run (xs := shL a) (ys := shL a) rfl rfl rfl he hg rfl leavesSh (fitsSh _) (fitsSh _) mkSh gdSh).trans (by rw [eqSh _ _ rfl rfl]; simp)) rfl trivial ?_
 refine J.r hX tk 400 (fun _ => rfl) fun b33 => ?_
 refine J.val hX (.bool true) 0 rfl rfl (fun hg x w he hw => (eqAgg_run (xs := enL e) (ys := enL e) rfl rfl rfl he hg rfl leavesEn (fitsEn _) (fitsEn _) mkEn gdEn).trans (by rw [(eqEn _ _ rfl rfl).2 rfl])) rfl trivial ?_
 refine J.r hX tk 400 (fun _ => rfl) fun b34 => ?_
 refine J.ca hX (by kernel_rfl) (h_May p h_pl) [] 0 rfl rfl rfl rfl rfl rfl (fun _ => rfl) ?_
 rintro v As ⟨rfl, rfl⟩
 refine ⟨_, rfl, trivial, ?_⟩
 rw [h_mp]
 refine J.r hX tk 400 (fun _ => rfl) fun b35 => ?_
 refine J.ca hX (by kernel_rfl) (h_May Sh.zero rfl) [] 0 rfl rfl rfl rfl rfl rfl (fun _ => rfl) ?_
 rintro v As ⟨rfl, rfl⟩
 refine ⟨_, rfl, trivial, ?_⟩
 rw [h_mz]
 refine J.r hX tk 400 (fun _ => rfl) fun b36 => ?_
 refine J.ca hX (by kernel_rfl) (y_Blank pg h_bl) [] 0 rfl rfl rfl rfl rfl rfl (fun _ => rfl) ?_
 rintro v As ⟨rfl, rfl⟩
 refine ⟨_, rfl, trivial, ?_⟩
 refine J.r hX tk 400 (fun _ => rfl) fun b37 => ?_
 refine J.rt hX tk [] rfl rfl rfl ?_
 exact ⟨by kernel_rfl, rfl⟩
theorem l9_Begun : Fn Tryz.prog 212 [] [] (fun v As => v = .bool true ∧ As = []) := by
 refine Fn.enter [] Tryz.func212 rfl rfl rfl fun X F hX => ?_
 refine J.r hX tk 400 (fun _ => rfl) fun b38 => ?_
 refine J.ca hX (by kernel_rfl) (l9_begun) [] 0 rfl rfl rfl rfl rfl rfl (fun _ => rfl) ?_
 rintro v As ⟨rfl, rfl⟩
 refine ⟨_, rfl, trivial, ?_⟩
 refine J.r hX tk 400 (fun _ => rfl) fun b39 => ?_
 refine J.rt hX tk [] rfl rfl rfl ?_
 exact ⟨rfl, rfl⟩
end Go.Proofs.YtdocmcapegcoeaaGreat
