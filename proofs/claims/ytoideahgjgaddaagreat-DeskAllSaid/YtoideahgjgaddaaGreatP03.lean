/- Helpers of the proofs about ostrakonlaw11, proved here: Ops, ActB, Run, Eff. No condition. -/
import Derived.Test.YtoideahgjgaddaaGreatP01
import Derived.Test.YtoideahgjgaddaaGreatP02
import Derived.Laws.CopyOwn
import Derived.Laws.ResultCell
import Derived.Defers
set_option linter.unusedVariables false
set_option linter.unusedSimpArgs false
set_option linter.unusedSectionVars false
set_option linter.unnecessarySimpa false
/- Laws at single operations, stated at the operation's own text, so that a law that does not fit fails at once. -/
namespace Go.Proofs.YtoideahgjgaddaaGreat
open Go.RowKit

/-- type T is a struct or an array of n cells -/
structure AggT (P : Program) (T : TypeId) (n : Nat) : Prop where
  desc : ∃ d, P.underlying T = some d ∧ d.isRow = true
  size : (P.info? T).map (·.size) = some n

section
variable {P : Program} {ops : Array Oper} {rest : List Oper} {dst : Option Tmp} {ty : TypeId} {pos : String} {after : Array Edge} {a : Act} {w : World} {Q : Exit → Act → World → Prop}

/-- a whole struct or array is read -/
theorem wl_load (T : TypeId) (cs : List Value) (b o : Nat) {p : Tmp} (hA : AggT P T cs.length) (hc : w.rangeAt b o cs) (hx : a.eval (.tmp p) = .pointer (some ⟨b, o, none⟩))
    (h : wpList P ops Q rest (a.put dst (.agg cs.toArray)) w) : wpList P ops Q (⟨dst, .load T (.tmp p), ty, pos, after, none⟩ :: rest) a w := by
  obtain ⟨d, h1, h2⟩ := hA.desc
  exact wpList_load_mid rfl T (.tmp p) rfl b o hx cs d hc h1 h2 hA.size h

/-- likewise, behind a guard that lets it be -/
theorem wl_load_g (T : TypeId) (cs : List Value) (b o : Nat) {p : Tmp} {gd : Nat × Bool} (hA : AggT P T cs.length) (hc : w.rangeAt b o cs) (hx : a.eval (.tmp p) = .pointer (some ⟨b, o, none⟩)) (hg : (yielded ops a.tmps gd.1 == some gd.2) = true)
    (h : wpList P ops Q rest (a.put dst (.agg cs.toArray)) w) : wpList P ops Q (⟨dst, .load T (.tmp p), ty, pos, after, some gd⟩ :: rest) a w := by
  obtain ⟨d, h1, h2⟩ := hA.desc
  refine wpList_step fun K hK => ?_
  have hw : Region.wanted (⟨dst, .load T (.tmp p), ty, pos, after, some gd⟩ : Oper) (yielded ops a.tmps) = true := hg
  rw [if_pos hw]
  exact wp_load_mid T (.tmp p) rfl b o hx cs d hc h1 h2 hA.size (hK _ _ h)

theorem setCells_new (W : World) (T : TypeId) : ∀ (cs : List Value) (pre Z : List Value), Z.length = cs.length → (W.alloc (.cells (pre ++ Z).toArray T)).setCells W.heap.size pre.length cs = W.alloc (.cells (pre ++ cs).toArray T)
  | [], pre, Z, h => by
    have : Z = [] := List.eq_nil_of_length_eq_zero (by simpa using h)
    subst this; rfl
  | c :: cs, pre, z :: Z, h => by
    rw [World.setCells]
    have e : (W.alloc (.cells (pre ++ z :: Z).toArray T)).setCell ⟨W.heap.size, pre.length, none⟩ c = W.alloc (.cells ((pre ++ [c]) ++ Z).toArray T) := by
      simp only [World.setCell, World.alloc]
      congr 1
      apply Array.ext_getElem?
      intro i
      rw [Array.getElem?_modify, Array.getElem?_push, Array.getElem?_push]
      by_cases hi : i = W.heap.size
      · subst hi; simp
      · simp [hi, Ne.symm hi]
    rw [e]
    have := setCells_new W T cs (pre ++ [c]) Z (by simpa using h)
    simpa using this
  | c :: cs, pre, [], h => by simp at h

/-- a whole struct or array is stored into the block that was just made -/
theorem wl_store_new (T : TypeId) (W : World) (Z C : Array Value) (T' : TypeId) {p q : Tmp} (hA : AggT P T C.size) (hZ : Z.size = C.size) (h1 : C.all (·.oneCell') = true) (hx : a.eval (.tmp p) = .pointer (some ⟨W.heap.size, 0, none⟩)) (hy : a.eval (.tmp q) = .agg C)
    (h : wpList P ops Q rest (a.put dst undef) (W.alloc (.cells C T'))) : wpList P ops Q (⟨dst, .store T (.tmp p) (.tmp q), ty, pos, after, none⟩ :: rest) a (W.alloc (.cells Z T')) := by
  have ht : (W.alloc (.cells Z T')).there W.heap.size 0 C.size := by
    intro j hj
    have hb := Blk.new W T' Z
    refine ⟨?_, hb.frozen _⟩
    rw [hb.cell, Nat.zero_add, Array.getElem?_eq_getElem (by omega)]; rfl
  refine wpList_store_mid rfl T (.tmp p) (.tmp q) rfl W.heap.size 0 C hx hy ht hA.size h1 ?_
  have := setCells_new W T' C.toList [] Z.toList (by simp [hZ])
  simp only [List.nil_append, List.length_nil, Array.toArray_toList] at this
  rw [this]; exact h
end

theorem grown_refl (w : World) (r : Option Nat) : w.grownBy w r := ⟨rfl, rfl, rfl, Nat.le_refl _, fun _ _ _ => rfl⟩
theorem grown_setCell (w : World) (p : Addr) (u : Value) : w.grownBy (w.setCell p u) (some p.block) :=
  ⟨rfl, rfl, rfl, by simp [World.setCell], fun k _ hk => heap_setCell_other _ _ _ _ (fun e => hk (by simp [e]))⟩
theorem grown_setRow (w : World) (g : Nat) (C : Array Value) : w.grownBy (w.setRow g C) (some g) :=
  ⟨rfl, rfl, rfl, by simp, fun k _ hk => setRow_other w g k C (fun e => hk (by simp [e]))⟩
theorem Blk.setRow {w : World} {g : Nat} {t : TypeId} {old : Array Value} (h : Blk w g t old) (C : Array Value) : Blk (w.setRow g C) g t C := setRow_heap w g old C t (0, 0) h

theorem setCells_blk (b : Nat) (t : TypeId) : ∀ (cs pre Z post : List Value) (w : World), Blk w b t (pre ++ Z ++ post).toArray → Z.length = cs.length →
    Blk (w.setCells b pre.length cs) b t (pre ++ cs ++ post).toArray ∧ w.grownBy (w.setCells b pre.length cs) (some b) ∧ (w.setCells b pre.length cs).heap.size = w.heap.size
  | [], pre, Z, post, w, h, hl => by
    have : Z = [] := List.eq_nil_of_length_eq_zero (by simpa using hl)
    subst this
    exact ⟨h, grown_refl _ _, rfl⟩
  | c :: cs, pre, z :: Z, post, w, h, hl => by
    have h1 := h.set_ pre.length c
    have e : (pre ++ z :: Z ++ post).toArray.setIfInBounds pre.length c = ((pre ++ [c]) ++ Z ++ post).toArray := by simp
    rw [e] at h1
    have := setCells_blk b t cs (pre ++ [c]) Z post _ h1 (by simpa using hl)
    simp only [List.length_append, List.length_cons, List.length_nil, Nat.zero_add] at this
    rw [World.setCells]
    refine ⟨by simpa using this.1, (grown_setCell w ⟨b, pre.length, none⟩ c).trans this.2.1, this.2.2.trans (by simp [World.setCell])⟩
  | c :: cs, pre, [], post, w, h, hl => by simp at hl

section
variable {P : Program} {ops : Array Oper} {rest : List Oper} {dst : Option Tmp} {ty : TypeId} {pos : String} {after : Array Edge} {a : Act} {w : World} {Q : Exit → Act → World → Prop}
/-- a struct or an array is stored at a place in a block -/
theorem wl_store (T : TypeId) (b o : Nat) (t : TypeId) (old : List Value) (C : Array Value) {p q : Tmp} (hA : AggT P T C.size) (hb : Blk w b t old.toArray) (hfit : o + C.size ≤ old.length) (h1 : C.all (·.oneCell') = true)
    (hx : a.eval (.tmp p) = .pointer (some ⟨b, o, none⟩)) (hy : a.eval (.tmp q) = .agg C)
    (h : ∀ w', Blk w' b t (splice old o C.toList).toArray → w.grownBy w' (some b) → w'.heap.size = w.heap.size → wpList P ops Q rest (a.put dst undef) w') : wpList P ops Q (⟨dst, .store T (.tmp p) (.tmp q), ty, pos, after, none⟩ :: rest) a w := by
  have ht : w.there b o C.size := by
    intro j hj
    refine ⟨?_, hb.frozen _⟩
    rw [hb.cell, Array.getElem?_eq_getElem (by simp; omega)]; rfl
  have e1 : old.take o ++ (old.drop o).take C.size ++ old.drop (o + C.size) = old := by
    rw [List.append_assoc, ← List.drop_drop, List.take_append_drop, List.take_append_drop]
  have h2 := setCells_blk b t C.toList (old.take o) ((old.drop o).take C.size) (old.drop (o + C.size)) w (by rw [e1]; exact hb) (by simp; omega)
  rw [show (old.take o).length = o from by simp; omega] at h2
  refine wpList_store_mid rfl T (.tmp p) (.tmp q) rfl b o C hx hy ht hA.size h1 (h _ ?_ h2.2.1 h2.2.2)
  have := h2.1
  simpa [splice] using this

/-- the builtin copy -/
theorem wl_copy {p q : Tmp} (dT sT : TypeId) (elem : TypeId) (hu : P.underlying dT = some (.slice elem)) (hsz : (P.info? elem).map (·.size) = some 1)
    (g off dLen dCap : Nat) (ad : Addr) (sLen sCap : Nat) (t : TypeId) (old cs : List Value) (hb : Blk w g t old.toArray) (hn : cs.length = Nat.min sLen dLen)
    (hsrc : ∀ j v, cs[j]? = some v → w.cell? (ad.add j) = some v) (hfit : off + cs.length ≤ old.length) (h1 : ∀ v ∈ cs, v.oneCell' = true)
    (hd : a.eval (.tmp p) = .slice (some ⟨g, off, none⟩) dLen dCap) (hs : a.eval (.tmp q) = .slice (some ad) sLen sCap)
    (h : ∀ w', Blk w' g t (splice old off cs).toArray → w.grownBy w' (some g) → w'.heap.size = w.heap.size → wpList P ops Q rest (a.put dst (goInt cs.length)) w') :
    wpList P ops Q (⟨dst, .call { callee := .builtin .copy, args := #[.tmp p, .tmp q], argTypes := #[dT, sT] }, ty, pos, after, none⟩ :: rest) a w := by
  refine wpList_copy_own rfl (.tmp p) (.tmp q) dT sT rfl elem hu hsz g off dLen dCap ad sLen sCap hd hs old.toArray t hb cs hn hsrc (by simpa using hfit) h1 (h _ ?_ (grown_setRow _ _ _) (by simp))
  have := Blk.setRow hb (splice old off cs).toArray
  simpa [splice] using this

/-- the builtin copy, a step of a region that draws -/
theorem ws_copy {p q : Tmp} {K : Act → World → Prop} {E : Prop} (dT sT : TypeId) (elem : TypeId) (hu : P.underlying dT = some (.slice elem)) (hsz : (P.info? elem).map (·.size) = some 1)
    (g off dLen dCap : Nat) (ad : Addr) (sLen sCap : Nat) (t : TypeId) (old cs : List Value) (hb : Blk w g t old.toArray) (hn : cs.length = Nat.min sLen dLen)
    (hsrc : ∀ j v, cs[j]? = some v → w.cell? (ad.add j) = some v) (hfit : off + cs.length ≤ old.length) (h1 : ∀ v ∈ cs, v.oneCell' = true)
    (hd : a.eval (.tmp p) = .slice (some ⟨g, off, none⟩) dLen dCap) (hs : a.eval (.tmp q) = .slice (some ad) sLen sCap)
    (h : ∀ w', Blk w' g t (splice old off cs).toArray → w.grownBy w' (some g) → w'.heap.size = w.heap.size → K (a.put dst (goInt cs.length)) w') :
    if Region.wanted (⟨dst, .call { callee := .builtin .copy, args := #[.tmp p, .tmp q], argTypes := #[dT, sT] }, ty, pos, after, none⟩ : Oper) (yielded ops a.tmps) = true then
      Oper.wp P ⟨dst, .call { callee := .builtin .copy, args := #[.tmp p, .tmp q], argTypes := #[dT, sT] }, ty, pos, after, none⟩ a w K Q else E := by
  have hw : Region.wanted (⟨dst, .call { callee := .builtin .copy, args := #[.tmp p, .tmp q], argTypes := #[dT, sT] }, ty, pos, after, none⟩ : Oper) (yielded ops a.tmps) = true := rfl
  rw [if_pos hw]
  have hrun := run_copy_row (P := P) w dT sT ty elem g off dLen dCap ad sLen sCap old.toArray t cs hu hsz hb hn hsrc (by simpa using hfit) h1
  unfold Oper.wp
  simp only [execOp, resolve, invoke, builtin, Sem.run_bind, Sem.run_pure, Result.andThen_ok, List.map_toArray, List.map_cons, List.map_nil, hd, hs, hrun]
  refine h _ ?_ (grown_setRow _ _ _) (by simp)
  have := Blk.setRow hb (splice old off cs).toArray
  simpa [splice] using this
end

theorem rangeAt_blk {w : World} {b : Nat} {T : TypeId} {C : Array Value} (hb : Blk w b T C) (o : Nat) (cs : List Value) (h : (C.toList.drop o).take cs.length = cs) : w.rangeAt b o cs := by
  intro j v hv
  rw [hb.cell]
  have hj : j < cs.length := (List.getElem?_eq_some_iff.1 hv).1
  rw [← h, List.getElem?_take, if_pos hj, List.getElem?_drop] at hv
  simpa using hv
/-- results that lie in memory -/
theorem res_load {P : Program} {T : TypeId} (w : World) (g : Nat) (t : TypeId) (C : Array Value) (hb : Blk w g t C) (hA : AggT P T C.size) : (loadVar T ⟨g, 0, none⟩).run P w = .ok (.agg C) w := by
  obtain ⟨d, h1, h2⟩ := hA.desc
  have := run_loadVar_mid (P := P) w g 0 T C.toList d (rangeAt_blk hb 0 _ (by rw [List.drop_zero]; exact List.take_length)) h1 h2 hA.size
  simpa using this
theorem res_cell_tmp {P : Program} {fn : Func} {p u : Tmp} {T : TypeId} (h : fn.results = #[.cell p T, .tmp u]) (tmps : Array Value) (w : World) (g : Nat) (t : TypeId) (C : Array Value)
    (hb : Blk w g t C) (hA : AggT P T C.size) (hp : tmps.getD p undef = .pointer (some ⟨g, 0, none⟩)) : (results fn tmps).run P w = .ok (.tuple #[.agg C, tmps.getD u undef]) w := by
  rw [results_cell_tmp h, hp]
  simp [asAddr, res_load w g t C hb hA]

theorem rangeAt_new (w : World) (C : Array Value) (T : TypeId) (o : Nat) (cs : List Value) (h : (C.toList.drop o).take cs.length = cs) : (w.alloc (.cells C T)).rangeAt w.heap.size o cs := rangeAt_blk (Blk.new w T C) o cs h
theorem rangeAt_whole (w : World) (C : Array Value) (T : TypeId) : (w.alloc (.cells C T)).rangeAt w.heap.size 0 C.toList := rangeAt_new w C T 0 _ (by rw [List.drop_zero]; exact List.take_length)
end Go.Proofs.YtoideahgjgaddaaGreat
/- Operations that only look: what they give is so. No program in sight. -/
namespace Go.Proofs.YtoideahgjgaddaaGreat
open Go
section
variable {P : Program} {T : Tab} {E : Env} {L : List Atom} {n : Nat} {a : Act} {w : World}
theorem evIf {x : Operand} {s : Slot} {p : Prop} (he : EnvOK n E a) (h : ev E x = some s) (hv : Conj (validIf p s)) (hp : p) : a.eval x = s.v := by
  rw [ev_spec he h]
  obtain ⟨k, v, t, g⟩ := s
  unfold Slot.val
  cases g with
  | tt => rfl
  | when c => simp only [validIf] at hv; simp only [G.on]; rw [hv.1 hp]
theorem lkPick_run {c x y : Operand} {r : LR} (he : EnvOK n E a) (h : lkPick E c x y = some r) (hob : Conj r.ob) : (do pure (if ← asBool (a.eval c) then a.eval x else a.eval y) : Sem Value).run P w = .ok r.v w := by
  unfold lkPick at h
  split at h
  · rename_i kc cb tc gc hc
    split at h
    · split at h
      · rename_i ka va ta ga ha
        injection h with h; subst h
        obtain ⟨o1, o2⟩ := Conj.app hob
        rw [evs he hc o1]
        cases cb
        · simp [asBool, Act.eval]
        · simp [asBool, evIf he ha o2 rfl]
      · cases h
    · split at h
      · split at h
        · rename_i kb vb tb gb hb
          injection h with h; subst h
          obtain ⟨o1, o2⟩ := Conj.app hob
          rw [evs he hc o1]
          cases cb
          · simp [asBool, evIf he hb o2 rfl]
          · simp [asBool, Act.eval]
        · cases h
      · cases h
  · cases h
theorem cells_at {b : Nat} {t : TypeId} {cs : List Value} (h : hl w b = some (.cells cs.toArray t (0, 0))) : Blk w b t cs.toArray := h
theorem loadScalar_run {t : TypeId} {d : TypeDesc} (hd : P.underlying t = some d) (hb : isAggD d = false) {b o : Nat} {v : Value} (hc : w.cell? ⟨b, o, none⟩ = some v) : (loadVar t ⟨b, o, none⟩).run P w = .ok v w := by
  simp [loadVar, isAgg_run hd, hb, load, Sem.run, hc]
theorem loadAgg_run {t : TypeId} {d : TypeDesc} {f : TypeInfo} (hd : P.underlying t = some d) (hb : isAggD d = true) (hf : P.info? t = some f) {b o : Nat} {ty : TypeId} {cs l : List Value} (hc : Blk w b ty cs.toArray) (hl : lsub cs o f.size = some l) : (loadVar t ⟨b, o, none⟩).run P w = .ok (.agg l.toArray) w := by
  obtain ⟨h1, h2⟩ := lsub_spec hl
  refine run_loadVar_mid w b o t l d (rangeAt_blk hc o l ?_) hd (by cases d <;> simp_all [isAggD, TypeDesc.isRow]) (by rw [hf]; simp [h2])
  rw [h2, h1]
theorem lkLoad_run (hT : TabOK P T) {t : Nat} {s : Slot} {r : LR} (h : lkLoad T L t s = some r) (hob : Conj r.ob) (hr : ∀ i A, r.rd = i + 1 → L[i]? = some A → A.sat (hl w)) : (Instr.loadAt t s.v).run P w = .ok r.v w := by
  unfold lkLoad at h
  split at h
  · rename_i kk b o i gg
    split at h
    · rename_i b' ty cs hL
      rw [lget_eq] at hL
      split at h
      · rename_i fs sz z bb hg
        obtain ⟨d, fi, zv, ok⟩ := tiOf_spec (hT.get hg)
        obtain ⟨fl, rfl, _⟩ := ok.row rfl
        split at h
        · rename_i l hl2
          injection h with h; subst h
          have hb := hob.1; subst hb
          have hA := cells_at (hr i _ rfl hL)
          have hsz : sz = fi.size := ok.hsize
          rw [hsz] at hl2
          simp [Instr.loadAt, Instr.sureAddr, loadAgg_run ok.hd rfl ok.hf hA hl2]
        · cases h
      · rename_i x y sz z bb hg
        obtain ⟨d, fi, zv, ok⟩ := tiOf_spec (hT.get hg)
        obtain ⟨e, fe, rfl, _⟩ := ok.arr rfl
        split at h
        · rename_i l hl2
          injection h with h; subst h
          have hb := hob.1; subst hb
          have hA := cells_at (hr i _ rfl hL)
          have hsz : sz = fi.size := ok.hsize
          rw [hsz] at hl2
          simp [Instr.loadAt, Instr.sureAddr, loadAgg_run ok.hd rfl ok.hf hA hl2]
        · cases h
      · rename_i ti hn1 hn2 hg
        obtain ⟨d, fi, zv, ok⟩ := tiOf_spec (hT.get hg)
        split at h
        · rename_i v hl2
          injection h with h; subst h
          have hb := hob.1; subst hb
          have hA := cells_at (hr i _ rfl hL)
          rw [lget_eq] at hl2
          have hagg : isAggD d = false := by
            have htd := ok.htd
            cases d <;> simp [isAggD] <;> simp [tdOf] at htd
            · obtain ⟨g, h1, h2⟩ := htd
              obtain ⟨td, sz, zz, bb⟩ := ti
              simp at h2; subst h2
              exact hn2 _ _ _ _ _ rfl
            · obtain ⟨g, h1, h2⟩ := htd
              obtain ⟨td, sz, zz, bb⟩ := ti
              simp at h2; subst h2
              exact hn1 _ _ _ _ rfl
          have hc : w.cell? ⟨b, o, none⟩ = some v := by rw [hA.cell]; simpa using hl2
          simp [Instr.loadAt, Instr.sureAddr, loadScalar_run ok.hd hagg hc]
        · cases h
      · cases h
    · cases h
  · cases h
theorem lkBound_run {x : Option Operand} {d k : Nat} {ob : List Prop} (he : EnvOK n E a) (h : lkBound E x d = some (k, ob)) (hob : Conj ob) :
    (x = none ∧ k = d) ∨ ∃ y ik z, x = some y ∧ a.eval y = .int ik z ∧ 0 ≤ z ∧ z.toNat = k := by
  unfold lkBound at h
  split at h
  · simp only [Option.some.injEq, Prod.mk.injEq] at h; exact .inl ⟨rfl, h.1.symm⟩
  · rename_i y
    split at h
    · rename_i ks ik z t g hy
      simp only [Option.some.injEq, Prod.mk.injEq] at h
      obtain ⟨rfl, rfl⟩ := h
      exact .inr ⟨y, ik, z, rfl, evs he hy hob.2, hob.1, rfl⟩
    · cases h
theorem sliceBound_run {x : Value} {ik : IntKind} {z : Int} (hx : x = .int ik z) (h0 : 0 ≤ z) {y : Nat} (hy : z.toNat ≤ y) (c : BoundsCode) : (Instr.sliceBound x y c).run P w = .ok z.toNat w := by
  subst hx
  simp only [Instr.sliceBound, asIntOf, Sem.run_bind, Sem.run_pure, Result.andThen_ok]
  rw [if_pos ⟨h0, by omega⟩]; rfl
theorem sliceBounds_run {isS : Bool} {len cap l h dl : Nat} {lo hi : Option Operand} {ol oh : List Prop} (he : EnvOK n E a) (h1 : lkBound E lo 0 = some (l, ol)) (h2 : lkBound E hi len = some (h, oh)) (o1 : Conj ol) (o2 : Conj oh) (hlh : l ≤ h) (hhc : h ≤ cap) (hd : dl = cap) :
    (Instr.sliceBounds isS len dl (lo.map a.eval) (hi.map a.eval) none).run P w = .ok (l, h, cap) w := by
  subst hd
  rcases lkBound_run he h1 o1 with ⟨rfl, rfl⟩ | ⟨y, ik, z, rfl, e1, e2, e3⟩ <;> rcases lkBound_run he h2 o2 with ⟨rfl, rfl⟩ | ⟨y', ik', z', rfl, e1', e2', e3'⟩
  · simp [Instr.sliceBounds]
  · simp [Instr.sliceBounds, sliceBound_run (P := P) (w := w) e1' e2' (by rw [e3']; exact hhc), e3']
  · simp [Instr.sliceBounds, sliceBound_run (P := P) (w := w) e1 e2 (by rw [e3]; exact hlh), e3]
  · subst e3'
    simp [Instr.sliceBounds, sliceBound_run (P := P) (w := w) e1' e2' hhc, sliceBound_run (P := P) (w := w) e1 e2 (by rw [e3]; exact hlh), e3]
theorem lkSlice_run (hT : TabOK P T) {t : Nat} {s : Slot} {lo hi : Option Operand} {r : LR} (he : EnvOK n E a) (h : lkSlice T E t lo hi s = some r) (hob : Conj r.ob) : (Instr.sliceAt t s.v (lo.map a.eval) (hi.map a.eval) none).run P w = .ok r.v w := by
  unfold lkSlice at h
  split at h
  · rename_i kk b o tg gg
    split at h
    · rename_i m esz sz z bb hg
      split at h
      · rename_i l ol hh oh h1 h2
        injection h with h; subst h
        obtain ⟨oo, hlh, hhc, hlc, _⟩ := Conj.app hob
        obtain ⟨oo, o2⟩ := Conj.app oo
        obtain ⟨_, o1⟩ := Conj.app oo
        obtain ⟨d, fi, zv, ok⟩ := tiOf_spec (hT.get hg)
        obtain ⟨e, fe, rfl, g1, g2⟩ := ok.arr rfl
        simp only [Instr.sliceAt, Sem.run_bind, underlying_run ok.hd, Result.andThen_ok, Instr.sureAddr, Sem.run_pure, sliceBounds_run (P := P) (w := w) (isS := false) he h1 h2 o1 o2 hlh hhc rfl, sizeOf_run g1, g2]
        by_cases hm : m = l
        · rcases hlc with rfl | hlc
          · subst hm; simp
          · omega
        · simp [hm, Addr.add_none]
      · cases h
    · cases h
  · rename_i kk b o len cap tg gg
    split at h
    · rename_i el esz sz z bb hg
      split at h
      · rename_i l ol hh oh h1 h2
        injection h with h; subst h
        obtain ⟨oo, hlh, hhc, hlc, _⟩ := Conj.app hob
        obtain ⟨oo, o2⟩ := Conj.app oo
        obtain ⟨_, o1⟩ := Conj.app oo
        obtain ⟨d, fi, zv, ok⟩ := tiOf_spec (hT.get hg)
        obtain ⟨fe, rfl, g1, g2⟩ := ok.slice rfl
        simp only [Instr.sliceAt, Sem.run_bind, underlying_run ok.hd, Result.andThen_ok, Instr.slice, Sem.run_pure, sliceBounds_run (P := P) (w := w) (isS := true) he h1 h2 o1 o2 hlh hhc rfl, sizeOf_run g1, g2]
        by_cases hm : cap = l
        · rcases hlc with rfl | hlc
          · subst hm; simp
          · omega
        · simp [hm, Addr.add_none]
      · cases h
    · cases h
  · cases h
theorem slots_spec (he : EnvOK n E a) : ∀ {xs : List Operand} {l : List Slot}, slots E xs = some l → Conj (valids l) → xs.map a.eval = vals l
  | [], l, h, _ => by simp only [slots, Option.some.injEq] at h; subst h; rfl
  | x :: r, l, h, hv => by
    simp only [slots] at h
    split at h
    · rename_i s l' h1 h2
      injection h with h; subst h
      obtain ⟨v1, v2⟩ := Conj.app hv
      simp only [List.map_cons, vals, evs he h1 v1, slots_spec he h2 v2]
    · cases h
theorem lput_zero {α : Type} (l xs : List α) : lput l 0 xs = lputs l xs := by cases l <;> rfl
theorem lput_cons {α : Type} : ∀ {l : List α} {o : Nat} {x : α} {xs m : List α}, lput l o (x :: xs) = some m → lput (l.set o x) (o + 1) xs = some m
  | [], 0, x, xs, m, h => by simp [lput, lputs] at h
  | [], o + 1, x, xs, m, h => by simp [lput] at h
  | y :: r, 0, x, xs, m, h => by
    rw [lput_zero] at h
    simpa only [lputs, List.set_cons_zero, lput, lput_zero] using h
  | y :: r, o + 1, x, xs, m, h => by
    simp only [lput] at h
    split at h
    · rename_i l hl
      simp only [List.set_cons_succ, lput, lput_cons hl]
      exact h
    · cases h
theorem foldl_put (off : Nat) : ∀ (xs : List Value) (k : Nat) (cs : Array Value) (m : List Value), lput cs.toList (off + k) xs = some m → (xs.zipIdx k).foldl (fun cs (c, j) => cs.setIfInBounds (off + j) c) cs = m.toArray
  | [], k, cs, m, h => by
    obtain ⟨h1, h2⟩ := lput_spec h
    simp at h1
    subst h1; simp
  | x :: xs, k, cs, m, h => by
    rw [List.zipIdx_cons, List.foldl_cons]
    exact foldl_put off xs (k + 1) _ m (by rw [← Nat.add_assoc]; simpa using lput_cons h)
theorem fillL_run {place place' : Nat → Option (Nat × Nat)} (hp : ∀ i r, place i = some r → place' i = some r) : ∀ {parts : List (Nat × Value)} {cs : Array Value} {m : List Value}, fillL place cs.toList parts = some m → Instr.fill place' cs parts = some m.toArray
  | [], cs, m, h => by simp only [fillL, Option.some.injEq] at h; subst h; simp [Instr.fill]
  | (i, v) :: r, cs, m, h => by
    simp only [fillL] at h
    split at h
    · rename_i off sz hpl
      split at h
      · rename_i cs' e1 e2
        have e3 := Nat.eq_of_beq_eq_true e1
        obtain ⟨e4, e5⟩ := lput_spec e2
        simp only [Instr.fill, hp _ _ hpl]
        have : v.cells.size = sz := by simpa using e3
        have hb : (decide (v.cells.size ≠ sz) || decide (off + v.cells.size > cs.size)) = false := by
          simp at e5; simp; omega
        have hb' : ¬ (v.cells.size ≠ sz ∨ off + v.cells.size > cs.size) := by
          simp at e5; omega
        have hf := foldl_put off v.cells.toList 0 cs cs' e2
        have hf' : Array.foldl (fun cs x => match x with | (c, j) => cs.setIfInBounds (off + j) c) cs v.cells.zipIdx = cs'.toArray := by
          rw [← hf, ← Array.foldl_toList, Array.toList_zipIdx]
        simp only [this, ne_eq, not_true_eq_false, decide_false, Bool.false_or]
        rw [if_neg (by simp at e5 ⊢; omega)]
        rw [hf']
        exact fillL_run hp (by simpa using h)
      · cases h
    · cases h
theorem parts_map : ∀ {parts : List (Nat × Operand)} {l : List Slot}, (parts.map (·.2)).map a.eval = vals l → parts.map (fun (i, x) => (i, a.eval x)) = partsV parts l
  | [], l, h => by simp [partsV]
  | (i, x) :: r, [], h => by simp [vals] at h
  | (i, x) :: r, s :: l, h => by
    simp only [List.map_cons, vals, List.cons.injEq] at h
    simp only [List.map_cons, partsV, h.1, parts_map h.2]
theorem places_run : ∀ {fl : List Field} {fs : List (Nat × Nat × Bool)}, fieldsOf P fl = some fs → (fl.mapM (fun f => do pure (f.offset, ← sizeOf f.type)) : Sem (List (Nat × Nat))).run P w = .ok (fs.map fun x => (x.1, x.2.1)) w
  | [], fs, h => by simp only [fieldsOf, Option.some.injEq] at h; subst h; simp
  | f :: r, fs, h => by
    simp only [fieldsOf] at h
    split at h
    · rename_i i d l h1 h2 h3
      injection h with h; subst h
      have := places_run h3
      simp only [List.mapM_cons, Sem.run_bind, sizeOf_run h1, Result.andThen_ok, Sem.run_pure, this, List.map_cons]
    · cases h
theorem placeRow_eq (fs : List (Nat × Nat × Bool)) (i : Nat) (r : Nat × Nat) (h : placeRow fs i = some r) : ((fs.map fun x => (x.1, x.2.1)).toArray[i]?) = some r := by
  unfold placeRow at h
  rw [lget_eq] at h
  split at h
  · rename_i off sz b e
    simp [e, h]
  · cases h
theorem lkBuild_run (hT : TabOK P T) {t : Nat} {parts : Array (Nat × Operand)} {r : LR} (he : EnvOK n E a) (h : lkBuild T E t parts.toList = some r) (hob : Conj r.ob) : (Instr.build t (parts.map fun (i, x) => (i, a.eval x))).run P w = .ok r.v w := by
  unfold lkBuild at h
  split at h
  · rename_i fs sz z bb l hg hl
    split at h
    · rename_i cs hf
      injection h with h; subst h
      have hp := parts_map (slots_spec he hl hob)
      obtain ⟨d, fi, zv, ok⟩ := tiOf_spec (hT.get hg)
      obtain ⟨fl, rfl, hfl⟩ := ok.row rfl
      have hz : z = zv.cells.toList := ok.hzero
      subst hz
      have hr := fillL_run (place' := ((fs.map fun x => (x.1, x.2.1)).toArray[·]?)) (placeRow_eq fs) hf
      have hpl : (fl.mapM (fun f => do pure (f.offset, ← sizeOf f.type)) : Sem (Array (Nat × Nat))).run P w = .ok (fs.map fun x => (x.1, x.2.1)).toArray w := by
        rw [Array.mapM_eq_mapM_toList]; simp only [map_eq_pure_bind, Sem.run_bind, places_run hfl, Result.andThen_ok, Sem.run_pure]
      simp only [Instr.build, Sem.run_bind, zero_run ok.hf ok.hz, Result.andThen_ok, underlying_run ok.hd, hpl, Sem.run_pure, Array.toList_map, hp, hr]
    · cases h
  · rename_i m esz sz z bb l hg hl
    split at h
    · rename_i cs hf
      injection h with h; subst h
      have hp := parts_map (slots_spec he hl hob)
      obtain ⟨d, fi, zv, ok⟩ := tiOf_spec (hT.get hg)
      obtain ⟨e, fe, rfl, g1, g2⟩ := ok.arr rfl
      have hz : z = zv.cells.toList := ok.hzero
      subst hz
      have hr := fillL_run (place' := fun i => some (i * esz, esz)) (fun _ _ h => h) hf
      simp only [Instr.build, Sem.run_bind, zero_run ok.hf ok.hz, Result.andThen_ok, underlying_run ok.hd, sizeOf_run g1, g2, Array.toList_map, hp, hr, Sem.run_pure]
    · cases h
  · cases h
end
end Go.Proofs.YtoideahgjgaddaaGreat
/- A walk by computation: from a place in the code to where a call, a test or a loop stands. No program in sight. -/
namespace Go.Proofs.YtoideahgjgaddaaGreat
open Go
section
variable {P : Program} {T : Tab} {E : Env} {L : List Atom} {n : Nat} {a : Act} {w : World}
theorem lkCall_run (hT : TabOK P T) {b : Builtin} {ts : Array TypeId} {args : Array Operand} {r : LR} (he : EnvOK n E a) (h : lkCall T E b ts.toList args.toList = some r) (hob : Conj r.ob) (type : TypeId) (consts : Array Bool) :
    (builtin b ts type consts (args.map a.eval)).run P w = .ok (.value r.v) w := by
  have hargs : ∀ {l : List Slot}, slots E args.toList = some l → Conj (valids l) → args.map a.eval = (vals l).toArray := fun h1 h2 => by
    apply Array.toList_inj.1
    rw [Array.toList_map, slots_spec he h1 h2]
  unfold lkCall at h
  split at h
  · rename_i t rt kk ad n' c tg gg rs hts hs
    split at h
    · rename_i el esz sz z bb hg
      injection h with h; subst h
      obtain ⟨d, fi, zv, ok⟩ := tiOf_spec (hT.get hg)
      obtain ⟨fe, rfl, g1, g2⟩ := ok.slice rfl
      have ht : ts[0]? = some t := by rw [← Array.getElem?_toList, hts]; rfl
      have hx : (args.map a.eval)[0]? = some (.slice ad n' c) := by
        rw [← Array.getElem?_toList, Array.toList_map]
        cases hal : args.toList with
        | nil => rw [hal] at hs; simp [slots] at hs
        | cons x xs =>
          rw [hal] at hs; simp only [slots] at hs
          split at hs
          · rename_i s' l' h1 h2
            injection hs with hs; injection hs with hs1 hs2; subst hs1
            simp [evs he h1 hob]
          · cases hs
      simp [builtin, Builtin.len_, ht, hx, underlying_run ok.hd, goInt]
    · cases h
  · rename_i t rt kk ad c m' tg gg rs hts hs
    split at h
    · rename_i el esz sz z bb hg
      injection h with h; subst h
      obtain ⟨d, fi, zv, ok⟩ := tiOf_spec (hT.get hg)
      obtain ⟨fe, rfl, g1, g2⟩ := ok.slice rfl
      have ht : ts[0]? = some t := by rw [← Array.getElem?_toList, hts]; rfl
      have hx : (args.map a.eval)[0]? = some (.slice ad c m') := by
        rw [← Array.getElem?_toList, Array.toList_map]
        cases hal : args.toList with
        | nil => rw [hal] at hs; simp [slots] at hs
        | cons x xs =>
          rw [hal] at hs; simp only [slots] at hs
          split at hs
          · rename_i s' l' h1 h2
            injection hs with hs; injection hs with hs1 hs2; subst hs1
            simp [evs he h1 hob]
          · cases hs
      simp [builtin, Builtin.cap_, ht, hx, underlying_run ok.hd, goInt]
    · cases h
  · rename_i hs
    injection h with h; subst h
    have := hargs hs (by simp only [valids, valid]; rw [List.append_nil]; exact hob)
    simp [builtin, this, Builtin.min_, vals, Builtin.min2]
  · rename_i hs
    injection h with h; subst h
    have := hargs hs (by simp only [valids, valid]; rw [List.append_nil]; exact hob)
    simp [builtin, this, Builtin.max_, vals, Builtin.max2]
  · cases h
theorem lkIndexAddr_valid {t : Nat} {s i : Slot} {r : LR} (h : lkIndexAddr T t s i = some r) (hob : Conj r.ob) : Conj (valid s) ∧ Conj (valid i) := by
  obtain ⟨k, v, tg, g⟩ := s
  obtain ⟨k', v', tg', g'⟩ := i
  unfold lkIndexAddr at h
  split at h <;> rename_i e1 e2
  · split at h
    · injection h with h; subst h
      injection e1 with _ _ _ e1; injection e2 with _ _ _ e2; subst e1; subst e2
      exact Conj.app hob.2.2
    · cases h
  · split at h
    · injection h with h; subst h
      injection e1 with _ _ _ e1; injection e2 with _ _ _ e2; subst e1; subst e2
      exact Conj.app hob.2.2
    · cases h
  · cases h
theorem look_run (hT : TabOK P T) {o : Oper} {r : LR} (he : EnvOK n E a) (h : look T E L o.op = some r) (hob : Conj r.ob) (hr : ∀ i A, r.rd = i + 1 → L[i]? = some A → A.sat (hl w)) : (execOp a.eval o).run P w = .ok (.value r.v) w := by
  unfold look at h
  unfold execOp
  split at h <;> rename_i hop <;> simp only [hop]
  · split at h
    · rename_i s hs
      injection h with h; subst h
      simp [evs he hs hob]
    · cases h
  · split at h
    · rename_i s hs
      injection h with h; subst h
      simp [evs he hs hob]
    · cases h
  · have := lkPick_run (P := P) (w := w) he h hob
    simp only [Sem.run_bind, Sem.run_pure] at this ⊢
    revert this
    cases (asBool (a.eval _)).run P w with
    | ok b w' => intro this; simp only [Result.andThen_ok] at this ⊢; injection this with h1 h2; rw [h1, h2]
    | halt x w' => intro this; cases this
  · split at h
    · rename_i k p t g hs
      injection h with h; subst h
      simp [evs he hs hob]
    · cases h
  · split at h
    · rename_i s s' h1 h2
      split at h
      · rename_i v ob hb
        injection h with h; subst h
        obtain ⟨oo, v2⟩ := Conj.app hob
        obtain ⟨oo, v1⟩ := Conj.app oo
        rw [evs he h1 v1, evs he h2 v2]
        have := binV_run (P := P) (w := w) hT hb oo
        simp only [Sem.run_bind, this, Result.andThen_ok, Sem.run_pure]
      · cases h
    · cases h
  · split at h
    · rename_i s h1
      split at h
      · rename_i v ob hb
        injection h with h; subst h
        obtain ⟨oo, v1⟩ := Conj.app hob
        rw [evs he h1 v1]
        simp only [Sem.run_bind, unV_run hb oo, Result.andThen_ok, Sem.run_pure]
      · cases h
    · cases h
  · split at h
    · rename_i k ik m t g k' sz z bb ti h1 h2 h3
      injection h with h; subst h
      obtain ⟨oo, v1⟩ := Conj.app hob
      rw [evs he h1 v1]
      obtain ⟨d, fi, zv, ok⟩ := tiOf_spec (hT.get h2)
      obtain ⟨d', fi', zv', ok'⟩ := tiOf_spec (hT.get h3)
      have := ok.int rfl
      subst this
      simp [convert, underlying_run ok.hd, underlying_run ok'.hd, Conv.intToInt, inR_spec oo]
    · cases h
  · split at h
    · rename_i s hs
      have hv : Conj (valid s) := by
        unfold lkFieldAddr at h
        (repeat' split at h) <;> first | (cases h; done) | (injection h with h; subst h; exact hob)
      rw [evs he hs hv]
      simp only [Sem.run_bind, lkFieldAddr_run hT h, Result.andThen_ok, Sem.run_pure]
    · cases h
  · split at h
    · rename_i s hs
      have hv : Conj (valid s) := by
        unfold lkField at h
        (repeat' split at h) <;> first | (cases h; done) | (injection h with h; subst h; exact hob)
      rw [evs he hs hv]
      simp only [Sem.run_bind, lkField_run hT h, Result.andThen_ok, Sem.run_pure]
    · cases h
  · split at h
    · rename_i s h1
      have hv := lkIndexAddr_valid h hob
      rw [evs he h1 hv.1]
      have := lkIndexAddr_run (P := P) (w := w) hT h hob
      simp only [Act.eval, Sem.run_bind, this, Result.andThen_ok, Sem.run_pure]
    · cases h
  · split at h
    · rename_i k v tg g s' h1 h2
      have hv := lkIndexAddr_valid h hob
      rw [evs he h1 hv.1, evs he h2 hv.2]
      have := lkIndexAddr_run (P := P) (w := w) hT h hob
      simp only [Sem.run_bind, this, Result.andThen_ok, Sem.run_pure]
    · cases h
  · split at h
    · rename_i k vs t g hs
      split at h
      · rename_i v hv
        injection h with h; subst h
        rw [evs he hs hob]
        rw [lget_eq] at hv
        simp only [Instr.extract, Sem.run_bind]
        rw [← Array.getElem?_toList, hv]
        rfl
      · cases h
    · cases h
  · split at h
    · rename_i s hs
      have hv : Conj (valid s) := by
        unfold lkSlice at h
        (repeat' split at h) <;> first | (cases h; done) | (injection h with h; subst h; exact (Conj.app (Conj.app (Conj.app hob).1).1).1)
      rw [evs he hs hv]
      have := lkSlice_run (P := P) (w := w) hT he h hob
      simp only [Sem.run_bind, Option.map_none, this, Result.andThen_ok, Sem.run_pure]
    · cases h
  · simp only [Sem.run_bind, lkBuild_run hT he h hob, Result.andThen_ok, Sem.run_pure]
  · rename_i fn f1 c1
    split at h
    · rename_i l l' h1 h2
      injection h with h; subst h
      obtain ⟨v1, v2⟩ := Conj.app hob
      have e1 : Array.map a.eval f1 = (vals l).toArray := by apply Array.toList_inj.1; rw [Array.toList_map, slots_spec he h1 v1]
      have e2 : Array.map a.eval c1 = (vals l').toArray := by apply Array.toList_inj.1; rw [Array.toList_map, slots_spec he h2 v2]
      simp [Instr.makeFunc, e1, e2]
    · cases h
  · split at h
    · rename_i s hs
      have hv : Conj (valid s) := by
        unfold lkLoad at h
        (repeat' split at h) <;> first | (cases h; done) | (injection h with h; subst h; exact hob.2)
      rw [evs he hs hv]
      simp only [Sem.run_bind, lkLoad_run hT h hob hr, Result.andThen_ok, Sem.run_pure]
    · cases h
  · have := lkCall_run (P := P) (w := w) hT he h hob o.type
    simp [resolve, invoke, this]
  · cases h
end
end Go.Proofs.YtoideahgjgaddaaGreat
/- Operations that change memory: what they give, by computation. No program in sight. -/
namespace Go.Proofs.YtoideahgjgaddaaGreat
open Go
structure ER where
  v : Value
  tag : Nat
  L : List Atom
  ob : List Prop
  k : Nat
def zerosL : Nat → List Value → List Value
  | 0, _ => []
  | n + 1, z => z ++ zerosL n z
/-- one cell more; its number, one more -/
def lsnoc {α : Type} : List Nat → List α → α → Option (List α × Nat)
  | k :: _, [], y => some ([y], k)
  | _ :: ks, x :: r, y => match lsnoc ks r y with
    | some (r', k) => some (x :: r', k)
    | none => none
  | [], _, _ => none
def nums : List Nat := [1, 2, 3, 4, 5, 6, 7, 8, 9, 10, 11, 12, 13, 14, 15, 16, 17, 18, 19, 20, 21, 22, 23, 24, 25, 26, 27, 28, 29, 30, 31, 32, 33, 34, 35, 36, 37, 38, 39, 40]
def efStore (T : Tab) (L : List Atom) (k t : Nat) : Slot → Slot → Option ER
  | ⟨_, .pointer (some ⟨b, o, none⟩), i + 1, g⟩, ⟨_, v, _, g'⟩ => match lget L i, T.get t with
    | some (.pt b' ty cs), some ⟨_, sz, _, _⟩ => match Nat.beq sz v.cells.toList.length, lput cs o v.cells.toList with
      | true, some cs' => match lset L i (.pt b' ty cs') with
        | some L' => some ⟨undef, 0, L', (b = b') :: (v.cells.toList.all (·.oneCell') = true) :: (validG g ++ validG g'), k⟩
        | none => none
      | _, _ => none
    | _, _ => none
  | _, _ => none
def efBuildSlice (T : Tab) (bs : Nat → Nat) (E : Env) (L : List Atom) (k t len : Nat) (parts : List (Nat × Operand)) : Option ER := match T.get t, slots E (parts.map (·.2)) with
  | some ⟨.slice el esz, _, _, _⟩, some l => match T.get el with
    | some ⟨_, sz, z, _⟩ => match Nat.beq sz z.length, Nat.ble (len * sz) 16777216, fillL (fun i => some (i * sz, sz)) (zerosL len z) (partsV parts l) with
      | true, true, some cs => match lsnoc nums L (.pt (bs k) el cs) with
        | some (L', tg) => some ⟨.slice (some ⟨bs k, 0, none⟩) len len, tg, L', valids l, k + 1⟩
        | none => none
      | _, _, _ => none
    | none => none
  | _, _ => none
def eff (T : Tab) (bs : Nat → Nat) (E : Env) (L : List Atom) (k : Nat) : Op → Option ER
  | .store t x y => match ev E x, ev E y with
    | some s, some s' => efStore T L k t s s'
    | _, _ => none
  | .alloc el => match T.get el with
    | some ⟨_, _, z, _⟩ => match lsnoc nums L (.pt (bs k) el z) with
      | some (L', tg) => some ⟨.pointer (some ⟨bs k, 0, none⟩), tg, L', [], k + 1⟩
      | none => none
    | none => none
  | .box el x => match ev E x with
    | some ⟨_, v, _, g⟩ => match lsnoc nums L (.pt (bs k) el v.cells.toList) with
      | some (L', tg) => some ⟨.pointer (some ⟨bs k, 0, none⟩), tg, L', validG g, k + 1⟩
      | none => none
    | none => none
  | .buildSlice t len parts => efBuildSlice T bs E L k t len parts.toList
  | .makeMap _ none => match lsnoc nums L (.ob (bs k) (.map #[] 0)) with
    | some (L', tg) => some ⟨.map (some (bs k)), tg, L', [], k + 1⟩
    | none => none
  | _ => none
theorem lsnoc_eq {α : Type} : ∀ {ks : List Nat} {l m : List α} {y : α} {k : Nat}, lsnoc ks l y = some (m, k) → m = l ++ [y]
  | k' :: ks, [], m, y, k, h => by simp only [lsnoc, Option.some.injEq, Prod.mk.injEq] at h; rw [← h.1]; rfl
  | k' :: ks, x :: r, m, y, k, h => by
    simp only [lsnoc] at h
    split at h
    · rename_i r' k2 hr
      simp only [Option.some.injEq, Prod.mk.injEq] at h
      rw [← h.1, lsnoc_eq hr]; rfl
    · cases h
  | [], l, m, y, k, h => by simp [lsnoc] at h
section
variable {P : Program} {T : Tab} {E : Env} {L : List Atom} {n : Nat} {a : Act} {w : World}
theorem hset_hset (h : Hl) (b : Nat) (o o' : Obj) : hset (hset h b o) b o' = hset h b o' := by
  funext x; unfold hset; split <;> rfl
theorem hl_setCell {b o : Nat} {t : TypeId} {cs : List Value} (hb : Blk w b t cs.toArray) (v : Value) : hl (w.setCell ⟨b, o, none⟩ v) = hset (hl w) b (.cells (cs.set o v).toArray t (0, 0)) := by
  funext x
  unfold hl hset
  by_cases e : x = b
  · subst e
    have := hb.set_ o v
    rw [if_pos rfl]
    unfold Blk at this
    rw [this]; simp
  · rw [if_neg e]
    simp [World.setCell, Array.getElem?_modify, Ne.symm e]
theorem hl_push (w : World) (o : Obj) : hl { w with heap := w.heap.push o } = hset (hl w) w.heap.size o := by
  funext x
  unfold hl hset
  simp only [Array.getElem?_push]
theorem hl_none (w : World) : hl w w.heap.size = none := by simp [hl]
theorem oneCell_store {v : Value} (h : v.oneCell' = true) {p : Addr} {x : Value} (hc : w.cell? p = some x) (hf : w.frozen? p = false) : (store p v).run P w = .ok () (w.setCell p v) := by
  cases v <;> first | (simp [Value.oneCell'] at h; done) | simp [store, Sem.run, hc, hf]
theorem storeCells_run {b o : Nat} {t : TypeId} : ∀ (xs : List Value) (j : Nat) (w : World) (cs m : List Value), Blk w b t cs.toArray → lput cs (o + j) xs = some m → xs.all (·.oneCell') = true →
    ∃ w', (storeCells ⟨b, o, none⟩ xs j).run P w = .ok () w' ∧ hl w' = hset (hl w) b (.cells m.toArray t (0, 0)) ∧ Ext w w'
  | [], j, w, cs, m, hb, hm, _ => by
    obtain ⟨h1, _⟩ := lput_spec hm
    simp at h1; subst h1
    refine ⟨w, rfl, ?_, Ext.refl _⟩
    funext x; unfold hset
    split
    · rename_i e; subst e; exact hb
    · rfl
  | x :: xs, j, w, cs, m, hb, hm, h1 => by
    simp only [List.all_cons, Bool.and_eq_true] at h1
    have hlt : o + j < cs.length := by have := (lput_spec hm).2; simp at this; omega
    have hc : w.cell? ⟨b, o + j, none⟩ = some cs[o + j] := by rw [hb.cell]; simp [hlt]
    have hrun := oneCell_store (P := P) h1.1 hc (hb.frozen _)
    have hb' : Blk (w.setCell ⟨b, o + j, none⟩ x) b t (cs.set (o + j) x).toArray := by have := hb.set_ (o + j) x; simpa using this
    obtain ⟨w', r1, r2, r3⟩ := storeCells_run xs (j + 1) _ _ m hb' (by rw [← Nat.add_assoc]; exact lput_cons hm) h1.2
    refine ⟨w', ?_, ?_, ?_⟩
    · simp only [storeCells, Addr.add_none, Sem.run_bind, hrun, Result.andThen_ok, r1]
    · rw [r2, hl_setCell hb, hset_hset]
    · exact Ext.trans (b := w.setCell ⟨b, o + j, none⟩ x) ⟨rfl, rfl, rfl, by simp [World.setCell]⟩ r3
theorem efStore_run (hT : TabOK P T) {k t : Nat} {s s' : Slot} {r : ER} (h : efStore T L k t s s' = some r) (hob : Conj r.ob) (hs : Sep L (hl w)) :
    ∃ w', (Instr.storeAt t s.v s'.v).run P w = .ok () w' ∧ r.v = undef ∧ Sep r.L (hl w') ∧ Ext w w' ∧ Conj (valid s) ∧ Conj (valid s') := by
  unfold efStore at h
  split at h
  · rename_i kk b o i gg kk' v tg' gg'
    split at h
    · rename_i b' ty cs td sz z bb hL hg
      rw [lget_eq] at hL
      split at h
      · rename_i cs' e1 e2
        split at h
        · rename_i L' hL'
          injection h with h; subst h
          obtain ⟨hb, h1, hvv⟩ := hob
          subst hb
          have hL2 := lset_eq hL'
          subst hL2
          obtain ⟨d, fi, zv, ok⟩ := tiOf_spec (hT.get hg)
          have hsz : sz = fi.size := ok.hsize
          have e3 := Nat.eq_of_beq_eq_true e1
          have hblk : Blk w b ty cs.toArray := hs.pt hL
          obtain ⟨w', r1, r2, r3⟩ := storeCells_run (P := P) v.cells.toList 0 w cs cs' hblk e2 h1
          obtain ⟨v1, v2⟩ := Conj.app hvv
          refine ⟨w', ?_, rfl, ?_, r3, v1, v2⟩
          · have hne : v.cells.size = fi.size := by rw [← hsz, e3]; simp
            simp only [Instr.storeAt, Instr.sureAddr, Sem.run_bind, Sem.run_pure, Result.andThen_ok, storeVar, sizeOf_run ok.hf]
            simp [hne, r1]
          · rw [r2]; exact hs.setPt cs' hL
        · cases h
      · cases h
    · cases h
  · cases h
theorem zerosL_length (k : Nat) (z : List Value) : (zerosL k z).length = k * z.length := by
  induction k with
  | zero => simp [zerosL]
  | succ k ih => simp [zerosL, ih, Nat.succ_mul, Nat.add_comm]
theorem zerosL_get (z : List Value) : ∀ (k i : Nat), i < k * z.length → (zerosL k z)[i]? = z[i % z.length]?
  | 0, i, h => by simp at h
  | k + 1, i, h => by
    rw [zerosL, List.getElem?_append]
    split
    · rename_i hi; rw [Nat.mod_eq_of_lt hi]
    · rename_i hi
      have h' : i - z.length < k * z.length := by rw [Nat.succ_mul] at h; omega
      rw [zerosL_get z k _ h']
      rw [← Nat.mod_eq_sub_mod (by omega)]
theorem zerosL_eq (k : Nat) (z : Array Value) : ((Array.range (k * z.size)).map (z[· % z.size]!)).toList = zerosL k z.toList := by
  have hl := zerosL_length k z.toList
  have hzl : z.toList.length = z.size := by simp
  rw [hzl] at hl
  apply List.ext_getElem?
  intro i
  by_cases h : i < k * z.size
  · have hg := zerosL_get z.toList k i (by simpa using h)
    have hz : 0 < z.size := by
      rcases Nat.eq_zero_or_pos z.size with e | e
      · rw [e] at h; simp at h
      · exact e
    have hm : i % z.size < z.size := Nat.mod_lt _ hz
    rw [hg]
    simp [h, hm]
  · rw [List.getElem?_eq_none (by simp; omega), List.getElem?_eq_none (by omega)]
theorem eff_run (hT : TabOK P T) {bs : Nat → Nat} {k : Nat} {o : Oper} {r : ER} (he : EnvOK n E a) (h : eff T bs E L k o.op = some r) (hob : Conj r.ob) (hs : Sep L (hl w)) (hk : r.k = k ∨ bs k = w.heap.size) :
    ∃ nv w', (execOp a.eval o).run P w = .ok nv w' ∧ (nv = .value r.v ∨ (nv = .skip ∧ r.v = undef)) ∧ Sep r.L (hl w') ∧ Ext w w' := by
  have hx : ∀ o' : Obj, Ext w { w with heap := w.heap.push o' } := fun o' => ⟨rfl, rfl, rfl, by simp⟩
  have hnew : ∀ (el : TypeId) (cs : List Value), bs k = w.heap.size → Sep (L ++ [.pt (bs k) el cs]) (hl { w with heap := w.heap.push (.cells cs.toArray el) }) := fun el cs e => by
    rw [hl_push, e]
    exact hs.snoc (hl_none w) (fun h' hh => hh)
  unfold eff at h
  unfold execOp
  split at h <;> rename_i hop <;> simp only [hop]
  · split at h
    · rename_i s s' h1 h2
      obtain ⟨w', r1, r2, r3, r4, v1, v2⟩ := efStore_run (P := P) hT h hob hs
      refine ⟨.skip, w', ?_, .inr ⟨rfl, r2⟩, r3, r4⟩
      rw [evs he h1 v1, evs he h2 v2]
      simp only [Sem.run_bind, r1, Result.andThen_ok, Sem.run_pure]
    · cases h
  · split at h
    · rename_i td sz z bb hg
      split at h
      · rename_i L' tgn hL'
        injection h with h; subst h
        have hL2 := lsnoc_eq hL'; subst hL2
        have e : bs k = w.heap.size := hk.resolve_left (by simp)
        obtain ⟨d, fi, zv, ok⟩ := tiOf_spec (hT.get hg)
        have hz : z = zv.cells.toList := ok.hzero
        subst hz
        refine ⟨_, _, ?_, .inl rfl, hnew _ _ e, hx _⟩
        simp only [Instr.alloc, Sem.run_bind, zero_run ok.hf ok.hz, Result.andThen_ok, newVar, newRow, newObj, Sem.run, Sem.run_pure, e]
      · cases h
    · cases h
  · split at h
    · rename_i kk v tg gg h1
      split at h
      · rename_i L' tgn hL'
        injection h with h; subst h
        have hL2 := lsnoc_eq hL'; subst hL2
        have e : bs k = w.heap.size := hk.resolve_left (by simp)
        refine ⟨_, _, ?_, .inl rfl, hnew _ _ e, hx _⟩
        rw [evs he h1 hob]
        simp only [Instr.box, Sem.run_bind, Result.andThen_ok, newVar, newRow, newObj, Sem.run, Sem.run_pure, e]
      · cases h
    · cases h
  · rename_i t len parts
    unfold efBuildSlice at h
    split at h
    · rename_i el esz sz z bb l hg hl1
      split at h
      · rename_i td sz' z' bb' hg'
        split at h
        · rename_i cs e1 e2 e3
          split at h
          · rename_i L' tgn hL'
            injection h with h; subst h
            have hL2 := lsnoc_eq hL'; subst hL2
            have e : bs k = w.heap.size := hk.resolve_left (by simp)
            obtain ⟨d, fi, zv, ok⟩ := tiOf_spec (hT.get hg)
            obtain ⟨fe, rfl, g1, g2⟩ := ok.slice rfl
            obtain ⟨d', fi', zv', ok'⟩ := tiOf_spec (hT.get hg')
            have hz : z' = zv'.cells.toList := ok'.hzero
            subst hz
            have hsz : sz' = fi'.size := ok'.hsize
            have hbe := Nat.eq_of_beq_eq_true e1
            rw [Array.length_toList] at hbe
            have hble := Nat.le_of_ble_eq_true e2
            have hp := parts_map (slots_spec he hl1 hob)
            have hel : zv'.cells.size = fi'.size := by rw [← hbe, hsz]
            have g1' : fe = fi' := by have := g1.symm.trans ok'.hf; injection this
            subst g1'
            rw [hsz] at e3 hble
            rw [← hel, ← zerosL_eq] at e3
            have hfill := fillL_run (place' := fun i => some (i * zv'.cells.size, zv'.cells.size)) (fun _ _ h => h) e3
            refine ⟨_, _, ?_, .inl rfl, hnew _ cs e, hx _⟩
            have hn : ¬ len * fe.size > 2 ^ 24 := by omega
            rw [← hel] at hn
            simp only [Instr.buildSlice, Sem.run_bind, underlying_run ok.hd, Result.andThen_ok, sizeOf_run g1, ← hel]
            rw [if_neg hn]
            by_cases h0 : len * zv'.cells.size = 0
            · have hrg : ∀ f : Nat → Value, (Array.range (len * zv'.cells.size)).map f = #[] := fun f => by rw [h0]; simp
              rw [hrg] at hfill
              rw [if_pos h0]
              simp only [Sem.run_bind, Sem.run_pure, Result.andThen_ok, hrg, Array.toList_map, hp, hfill, newRow, newObj, Sem.run, e]
            · rw [if_neg h0]
              simp only [Sem.run_bind, Sem.run_pure, Result.andThen_ok, zero_run ok'.hf ok'.hz, Array.toList_map, hp, hfill, newRow, newObj, Sem.run, e]
          · cases h
        · cases h
      · cases h
    · cases h
  · split at h
    · rename_i L' tgn hL'
      injection h with h; subst h
      have hL2 := lsnoc_eq hL'; subst hL2
      have e : bs k = w.heap.size := hk.resolve_left (by simp)
      refine ⟨_, { w with heap := w.heap.push (.map #[] 0) }, ?_, .inl rfl, ?_, hx _⟩
      · simp only [Instr.makeMap, Option.map_none, Sem.run_bind, Result.andThen_ok, newObj, Sem.run, Sem.run_pure, e]
      · rw [hl_push, e]
        exact hs.snoc (hl_none w) (fun h' hh => hh)
    · cases h
  · cases h
end
end Go.Proofs.YtoideahgjgaddaaGreat
