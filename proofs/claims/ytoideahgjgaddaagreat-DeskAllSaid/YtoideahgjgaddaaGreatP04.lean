/- Helpers of the proofs about ostrakonlaw11, proved here: Walk, Fn, Eq. No condition. -/
import Derived.Test.YtoideahgjgaddaaGreatP03
import Derived.WalkKit
import Derived.Laws.StructEq
set_option linter.unusedVariables false
set_option linter.unusedSimpArgs false
set_option linter.unusedSectionVars false
set_option linter.unnecessarySimpa false
/- A walk by computation: from a place in the code to where a call, a test or a loop stands. No program in sight. -/
namespace Go.Proofs.YtoideahgjgaddaaGreat
open Go
/-- when an operation is done -/
def gd (ops : List Oper) (E : Env) (o : Oper) : Option G := match o.guard with
  | none => some .tt
  | some (j, want) => match lget ops j with
    | some oj => match oj.dst with
      | some d => match E.get d with
        | some ⟨_, .bool b, _, .tt⟩ => match want with
          | true => some (.when b)
          | false => some (.when (!b))
        | some ⟨_, .bool b, _, .when c⟩ => match want with
          | true => some (.when (c && b))
          | false => some (.when (c && !b))
        | _ => none
      | none => none
    | none => none
def wrapG : G → List Prop → List Prop
  | .tt, l => l
  | .when _, [] => []
  | .when b, p :: r => [b = true → Conj (p :: r)]
def cget : Cl → Nat → Option Atom
  | [], _ => none
  | (j, A) :: r, i => match Nat.beq j i with
    | true => some A
    | false => cget r i
/-- what is read is of those parts that stay -/
def rdC (C : Cl) (L : List Atom) : Nat → List Prop
  | 0 => []
  | i + 1 => [cget C i = lget L i]
/-- those parts still stand -/
def stays : Cl → List Atom → List Prop
  | [], _ => []
  | (i, A) :: r, L => (lget L i = some A) :: stays r L
def staysL (l : Bool) (C : Cl) (L : List Atom) : List Prop := match l with
  | true => []
  | false => stays C L
structure SR where
  E : Env
  L : List Atom
  ob : List Prop
  k : Nat
def putE (N : Nat) (dst : Option Tmp) (v : Value) (tag : Nat) (g : G) (E : Env) : Option Env := match dst with
  | none => some E
  | some d => match Nat.blt d N with
    | true => some (⟨d, v, tag, g⟩ :: E)
    | false => none
def takeStep (T : Tab) (N : Nat) (ops : List Oper) (C : Cl) (p : Bool) (i : Nat) (E : Env) (L : List Atom) (k : Nat) : Option SR := match lget ops i with
  | some o => match gd ops E o, look T E L o.op with
    | some g, some ⟨v, tag, ob, rd⟩ => match putE N o.dst v tag g E with
      | some E' => match p, rd with
        | true, 0 => some ⟨E', L, wrapG g ob, k⟩
        | true, _ + 1 => none
        | false, rd => some ⟨E', L, wrapG g (rdC C L rd ++ ob), k⟩
      | none => none
    | _, _ => none
  | none => none
def altStep (T : Tab) (N : Nat) (bs : Nat → Nat) (ops : List Oper) (C : Cl) (l : Bool) (i : Nat) (E : Env) (L : List Atom) (k : Nat) : Option SR := match lget ops i with
  | some o => match gd ops E o with
    | some g => match look T E L o.op with
      | some ⟨v, tag, ob, _⟩ => match putE N o.dst v tag g E with
        | some E' => some ⟨E', L, staysL l C L ++ wrapG g ob, k⟩
        | none => none
      | none => match g with
        | .tt => match eff T bs E L k o.op with
          | some ⟨v, tag, L', ob, k'⟩ => match putE N o.dst v tag .tt E with
            | some E' => some ⟨E', L', staysL l C L' ++ ob, k'⟩
            | none => none
          | none => none
        | _ => none
    | none => none
  | none => none
section
variable {P : Program} {T : Tab} {E : Env} {L : List Atom} {n : Nat} {a : Act} {w : World}
theorem gd_spec {ops : Array Oper} {o : Oper} {g : G} (he : EnvOK n E a) (h : gd ops.toList E o = some g) : Region.wanted o (yielded ops a.tmps) = g.on := by
  unfold gd at h
  unfold Region.wanted
  split at h
  · rename_i hg
    injection h with h; subst h
    simp [hg, G.on]
  · rename_i j want hg
    split at h
    · rename_i oj hj
      rw [lget_eq] at hj
      have hj' : ops[j]? = some oj := by simpa using hj
      split at h
      · rename_i d hd
        have hy : ∀ s, E.get d = some s → yielded ops a.tmps j = match s.val with | .bool b => some b | _ => none := fun s hs => by
          have := he.slot d s hs
          simp only [yielded, hj', Option.bind_some, hd, this]
          cases s.val <;> rfl
        split at h
        · rename_i k b t hs
          have := hy _ hs
          simp only [Slot.val, G.on] at this
          simp only [hg, this]
          split at h <;> injection h with h <;> subst h <;> cases b <;> rfl
        · rename_i k b t c hs
          have := hy _ hs
          simp only [Slot.val, G.on] at this
          simp only [hg]
          split at h <;> injection h with h <;> subst h <;> cases c <;> cases b <;> simp only [this] <;> rfl
        · cases h
      · cases h
    · cases h
theorem wrapG_spec {g : G} {l : List Prop} (h : Conj (wrapG g l)) (hg : g.on = true) : Conj l := by
  cases g with
  | tt => exact h
  | when b =>
    cases l with
    | nil => trivial
    | cons p r => exact h.1 hg
theorem putE_spec {N : Nat} {dst : Option Tmp} {v : Value} {tag : Nat} {g : G} {E' : Env} (he : EnvOK N E a) (h : putE N dst v tag g E = some E') (u : Value) (hu : u = match g.on with | true => v | false => undef) : EnvOK N E' (a.put dst u) := by
  unfold putE at h
  split at h
  · injection h with h; subst h; exact he
  · rename_i d
    split at h
    · rename_i hd
      injection h with h; subst h
      exact he.put (Nat.le_of_ble_eq_true hd) v tag g u hu
    · cases h
theorem cget_mem : ∀ {C : Cl} {i : Nat} {A : Atom}, cget C i = some A → (i, A) ∈ C
  | (j, B) :: r, i, A, h => by
    simp only [cget] at h
    split at h
    · rename_i e
      have := Nat.eq_of_beq_eq_true e; subst this
      injection h with h; subst h
      exact List.mem_cons_self ..
    · exact List.mem_cons_of_mem _ (cget_mem h)
theorem stays_spec : ∀ {C : Cl} {L : List Atom} {w : World}, Conj (stays C L) → Sep L (hl w) → CAt C w
  | [], L, w, h, hs => by intro p hp; cases hp
  | (i, A) :: r, L, w, h, hs => by
    intro p hp
    rcases List.mem_cons.1 hp with rfl | hp
    · have := h.1
      rw [lget_eq] at this
      exact hs.get this
    · exact stays_spec h.2 hs p hp
theorem staysL_spec {l : Bool} {C : Cl} {L : List Atom} {w : World} (h : Conj (staysL l C L)) (hs : Sep L (hl w)) (e : l = false) : CAt C w := by
  subst e; exact stays_spec h hs
theorem takeStep_spec (hT : TabOK P T) {N : Nat} {ops : Array Oper} {C : Cl} {p : Bool} {i k : Nat} {r : SR} (h : takeStep T N ops.toList C p i E L k = some r) (hob : Conj r.ob) :
    r.L = L ∧ r.k = k ∧ ∃ o, ops[i]? = some o ∧ ∀ a, EnvOK N E a → ∃ v, YldIn P ops (fun w => p = false → CAt C w) o v a ∧ EnvOK N r.E (a.put o.dst v) := by
  unfold takeStep at h
  split at h
  · rename_i o ho
    rw [lget_eq] at ho
    have ho' : ops[i]? = some o := by simpa using ho
    split at h
    · rename_i g v tag ob rd hg hq
      split at h
      · rename_i E' hE
        split at h
        · injection h with h; subst h
          refine ⟨rfl, rfl, o, ho', fun a he => ⟨_, ?_, putE_spec he hE _ rfl⟩⟩
          have hw := gd_spec he hg
          cases hon : g.on with
          | false => exact .inr ⟨by rw [hw, hon], rfl⟩
          | true => exact .inl ⟨by rw [hw, hon], fun w _ => look_run hT he hq (wrapG_spec hob hon) fun i A hi hA => by cases hi⟩
        · cases h
        · injection h with h; subst h
          refine ⟨rfl, rfl, o, ho', fun a he => ⟨_, ?_, putE_spec he hE _ rfl⟩⟩
          have hw := gd_spec he hg
          cases hon : g.on with
          | false => exact .inr ⟨by rw [hw, hon], rfl⟩
          | true =>
            have hob2 := wrapG_spec hob hon
            obtain ⟨o1, o2⟩ := Conj.app hob2
            refine .inl ⟨by rw [hw, hon], fun w hC => look_run hT he hq o2 fun i A hi hA => ?_⟩
            have hi' : rd = i + 1 := hi
            rw [hi'] at o1
            have h1 := o1.1
            rw [lget_eq, hA] at h1
            exact hC rfl _ (cget_mem h1)
      · cases h
    · cases h
  · cases h
theorem altStep_spec (hT : TabOK P T) {N : Nat} {bs : Nat → Nat} {ops : Array Oper} {C : Cl} {l : Bool} {i k : Nat} {r : SR} (h : altStep T N bs ops.toList C l i E L k = some r) (hob : Conj r.ob) :
    ∃ o, ops[i]? = some o ∧ ∀ a w, EnvOK N E a → Sep L (hl w) → (r.k = k ∨ bs k = w.heap.size) → sOp P ops o (fun a' w' => (l = false → CAt C w') ∧ EnvOK N r.E a' ∧ Sep r.L (hl w') ∧ Ext w w') a w := by
  unfold altStep at h
  split at h
  · rename_i o ho
    rw [lget_eq] at ho
    have ho' : ops[i]? = some o := by simpa using ho
    split at h
    · rename_i g hg
      split at h
      · rename_i v tag ob rd hq
        split at h
        · rename_i E' hE
          injection h with h; subst h
          obtain ⟨o1, o2⟩ := Conj.app hob
          refine ⟨o, ho', fun a w he hs _ => ?_⟩
          have hw := gd_spec he hg
          unfold sOp
          cases hon : g.on with
          | false =>
            rw [if_neg (by rw [hw, hon]; simp)]
            exact ⟨staysL_spec o1 hs, putE_spec he hE _ (by rw [hon]), hs, Ext.refl _⟩
          | true =>
            rw [if_pos (by rw [hw, hon]), look_run hT he hq (wrapG_spec o2 hon) fun i A _ hA => hs.get hA]
            exact ⟨staysL_spec o1 hs, putE_spec he hE _ (by rw [hon]), hs, Ext.refl _⟩
        · cases h
      · split at h
        · split at h
          · rename_i v tag L' ob k' hq
            split at h
            · rename_i E' hE
              injection h with h; subst h
              obtain ⟨o1, o2⟩ := Conj.app hob
              refine ⟨o, ho', fun a w he hs hk => ?_⟩
              have hw := gd_spec he hg
              obtain ⟨nv, w', r1, r2, r3, r4⟩ := eff_run hT he hq o2 hs hk
              unfold sOp
              rw [if_pos (by rw [hw]; rfl), r1]
              rcases r2 with rfl | ⟨rfl, r2⟩
              · exact ⟨staysL_spec o1 r3, putE_spec he hE _ rfl, r3, r4⟩
              · exact ⟨staysL_spec o1 r3, putE_spec he hE _ (by simp only at r2; rw [r2]; rfl), r3, r4⟩
            · cases h
          · cases h
        · cases h
    · cases h
  · cases h
end

theorem eff_congr {T : Tab} {b0 bs : Nat → Nat} {E : Env} {L : List Atom} {k : Nat} {op : Op} {r : ER} (h : eff T b0 E L k op = some r) : (r.k = k ∨ r.k = k + 1) ∧ ((k < r.k → bs k = b0 k) → eff T bs E L k op = some r) := by
  unfold eff at h ⊢
  split at h
  · split at h
    · rename_i s s' h1 h2
      refine ⟨.inl ?_, fun _ => by first | exact h | (rw [h1, h2]; exact h) | (simp only [h1, h2]; exact h)⟩
      unfold efStore at h
      (repeat' split at h) <;> first | (cases h; done) | (injection h with h; subst h; rfl)
    · cases h
  · split at h
    · rename_i h1
      split at h
      · rename_i h2
        injection h with h; subst h
        exact ⟨.inr rfl, fun hb => by simp only [h1, hb (Nat.lt_succ_self k), h2]⟩
      · cases h
    · cases h
  · split at h
    · rename_i h1
      split at h
      · rename_i h2
        injection h with h; subst h
        exact ⟨.inr rfl, fun hb => by simp only [h1, hb (Nat.lt_succ_self k), h2]⟩
      · cases h
    · cases h
  · unfold efBuildSlice at h ⊢
    split at h
    · rename_i h1 h2
      split at h
      · rename_i h3
        split at h
        · rename_i h4 h5 h6
          split at h
          · rename_i h7
            injection h with h; subst h
            exact ⟨.inr rfl, fun hb => by simp only [h1, h2, h3, h4, h5, h6, hb (Nat.lt_succ_self k), h7]⟩
          · cases h
        · cases h
      · cases h
    · cases h
  · split at h
    · rename_i h2
      injection h with h; subst h
      exact ⟨.inr rfl, fun hb => by rw [hb (Nat.lt_succ_self k)]; simp only [h2]⟩
    · cases h
  · cases h
theorem altStep_congr {T : Tab} {N : Nat} {b0 bs : Nat → Nat} {ops : List Oper} {C : Cl} {l : Bool} {i k : Nat} {E : Env} {L : List Atom} {r : SR} (h : altStep T N b0 ops C l i E L k = some r) : (r.k = k ∨ r.k = k + 1) ∧ ((k < r.k → bs k = b0 k) → altStep T N bs ops C l i E L k = some r) := by
  unfold altStep at h ⊢
  split at h
  · rename_i o ho
    split at h
    · rename_i g hg
      split at h
      · rename_i q hq
        split at h
        · rename_i E' hE
          injection h with h; subst h
          exact ⟨.inl rfl, fun _ => by simp only [ho, hg, hq, hE]⟩
        · cases h
      · rename_i hq
        split at h
        · split at h
          · rename_i q hq2
            split at h
            · rename_i E' hE
              injection h with h; subst h
              obtain ⟨c1, c2⟩ := eff_congr (bs := bs) hq2
              exact ⟨c1, fun hb => by simp only [ho, hg, hq, c2 hb, hE]⟩
            · cases h
          · cases h
        · cases h
    · cases h
  · cases h
def tell {α : Type} : List Prop → (List Prop → α) → α
  | [], f => f []
  | p :: r, f => tell r fun l => f (p :: l)
theorem tell_eq {α : Type} : ∀ (l : List Prop) (f : List Prop → α), tell l f = f l
  | [], f => rfl
  | p :: r, f => by rw [tell, tell_eq r]
structure RS where
  K : List KI
  E : Env
  L : List Atom
  ob : List Prop
def run (T : Tab) (N : Nat) (bs : Nat → Nat) : Nat → List KI → Env → List Atom → List Prop → Nat → RS
  | 0, K, E, L, ob, _ => ⟨K, E, L, ob⟩
  | n + 1, K, E, L, ob, k => match K with
    | .blk _ :: K' => run T N bs n K' E L ob k
    | .code (.seq x y) :: K' => run T N bs n (.code x :: .code y :: K') E L ob k
    | .code .skip :: K' => run T N bs n K' E L ob k
    | .code (.block id c) :: K' => run T N bs n (.code c :: .blk id :: K') E L ob k
    | .code (.exit id) :: K' => match exitK id K' with
      | some K2 => run T N bs n K2 E L ob k
      | none => ⟨.code (.exit id) :: K', E, L, ob⟩
    | .code (.region _ ops false) :: K' => run T N bs n (.reg ops [] (PT.seq 0 ops.size) :: K') E L ob k
    | .reg _ _ .done :: K' => run T N bs n K' E L ob k
    | .reg ops C (.take p i t) :: K' => match takeStep T N ops.toList C p i E L k with
      | some ⟨E', L', ob', k'⟩ => tell (ob' ++ ob) fun ob2 => run T N bs n (.reg ops C t :: K') E' L' ob2 k'
      | none => ⟨.reg ops C (.take p i t) :: K', E, L, ob⟩
    | .reg ops C (.alt l i t .non) :: K' => match altStep T N bs ops.toList C l i E L k with
      | some ⟨E', L', ob', k'⟩ => tell (ob' ++ ob) fun ob2 => run T N bs n (.reg ops C t :: K') E' L' ob2 k'
      | none => ⟨.reg ops C (.alt l i t .non) :: K', E, L, ob⟩
    | K => ⟨K, E, L, ob⟩
theorem run_sound {X : Cx} {T : Tab} (hT : TabOK X.P T) : ∀ (n : Nat) (K : List KI) (E : Env) (L : List Atom) (ob : List Prop) (k : Nat) (b0 : Nat → Nat),
    (∀ bs : Nat → Nat, (∀ i, i < k → bs i = b0 i) → Conj (run T X.n bs n K E L ob k).ob ∧ J X (run T X.n bs n K E L ob k).K (run T X.n bs n K E L ob k).E (run T X.n bs n K E L ob k).L) → Conj ob ∧ J X K E L := by
  intro n
  induction n with
  | zero => intro K E L ob k b0 h; exact h b0 (fun _ _ => rfl)
  | succ n ih =>
    intro K E L ob k b0 h
    unfold run at h
    split at h
    · obtain ⟨h1, h2⟩ := ih _ _ _ _ k b0 h; exact ⟨h1, J.blk h2⟩
    · obtain ⟨h1, h2⟩ := ih _ _ _ _ k b0 h; exact ⟨h1, J.seq h2⟩
    · obtain ⟨h1, h2⟩ := ih _ _ _ _ k b0 h; exact ⟨h1, J.skip h2⟩
    · obtain ⟨h1, h2⟩ := ih _ _ _ _ k b0 h; exact ⟨h1, J.block h2⟩
    · rename_i id K'
      cases hx : exitK id K' with
      | some K2 => simp only [hx] at h; obtain ⟨h1, h2⟩ := ih _ _ _ _ k b0 h; exact ⟨h1, J.exit hx h2⟩
      | none => simp only [hx] at h; exact h b0 (fun _ _ => rfl)
    · obtain ⟨h1, h2⟩ := ih _ _ _ _ k b0 h; exact ⟨h1, J.code_reg h2⟩
    · obtain ⟨h1, h2⟩ := ih _ _ _ _ k b0 h; exact ⟨h1, J.reg_done h2⟩
    · rename_i ops C p i t K'
      cases hs : takeStep T X.n ops.toList C p i E L k with
      | none => simp only [hs] at h; exact h b0 (fun _ _ => rfl)
      | some r =>
        obtain ⟨E', L', ob', k'⟩ := r
        simp only [hs, tell_eq] at h
        have hk : k' = k := by
          unfold takeStep at hs
          (repeat' split at hs) <;> first | (cases hs; done) | (injection hs with hs; injection hs with _ _ _ e; exact e.symm)
        subst hk
        obtain ⟨h1, h2⟩ := ih _ _ _ _ k' b0 h
        obtain ⟨o2, o1⟩ := Conj.app h1
        refine ⟨o1, fun a w hx he hsp => ?_⟩
        obtain ⟨e1, _, o, ho, hy⟩ := takeStep_spec (P := X.P) hT hs o2
        obtain ⟨v, y1, y2⟩ := hy a he
        simp only at e1
        subst e1
        exact ⟨o, v, ho, y1, h2 _ w hx y2 hsp⟩
    · rename_i ops C l i t K'
      refine ⟨?_, fun a w hx he hsp => ?_⟩
      · have := h b0 (fun _ _ => rfl)
        cases hs : altStep T X.n b0 ops.toList C l i E L k with
        | none => simp only [hs] at this; exact this.1
        | some r =>
          obtain ⟨E', L', ob', k'⟩ := r
          have hk : k ≤ k' := by rcases (altStep_congr (bs := b0) hs).1 with e | e <;> simp only at e <;> omega
          have h' : ∀ bs : Nat → Nat, (∀ i, i < k' → bs i = b0 i) → Conj (run T X.n bs n (.reg ops C t :: K') E' L' (ob' ++ ob) k').ob ∧ J X (run T X.n bs n (.reg ops C t :: K') E' L' (ob' ++ ob) k').K (run T X.n bs n (.reg ops C t :: K') E' L' (ob' ++ ob) k').E (run T X.n bs n (.reg ops C t :: K') E' L' (ob' ++ ob) k').L := fun bs hb => by
            have := h bs (fun i hi => hb i (by omega))
            rw [(altStep_congr (bs := bs) hs).2 (fun e => hb k e)] at this
            simpa only [tell_eq] using this
          exact (Conj.app (ih _ _ _ _ k' b0 h').1).2
      · let b1 : Nat → Nat := fun i => if i = k then w.heap.size else b0 i
        have hb1 : ∀ i, i < k → b1 i = b0 i := fun i hi => by show (if i = k then _ else _) = _; rw [if_neg (by omega)]
        have hbk : b1 k = w.heap.size := by show (if k = k then _ else _) = _; rw [if_pos rfl]
        cases hs : altStep T X.n b1 ops.toList C l i E L k with
        | none => have := h b1 hb1; simp only [hs] at this; exact this.2 a w hx he hsp
        | some r =>
          obtain ⟨E', L', ob', k'⟩ := r
          have hk : k ≤ k' := by rcases (altStep_congr (bs := b0) hs).1 with e | e <;> simp only at e <;> omega
          have h' : ∀ bs : Nat → Nat, (∀ i, i < k' → bs i = b1 i) → Conj (run T X.n bs n (.reg ops C t :: K') E' L' (ob' ++ ob) k').ob ∧ J X (run T X.n bs n (.reg ops C t :: K') E' L' (ob' ++ ob) k').K (run T X.n bs n (.reg ops C t :: K') E' L' (ob' ++ ob) k').E (run T X.n bs n (.reg ops C t :: K') E' L' (ob' ++ ob) k').L := fun bs hb => by
            have := h bs (fun i hi => (hb i (by omega)).trans (hb1 i hi))
            rw [(altStep_congr (bs := bs) hs).2 (fun e => hb k e)] at this
            simpa only [tell_eq] using this
          obtain ⟨h1, h2⟩ := ih _ _ _ _ k' b1 h'
          obtain ⟨o, ho, hstep⟩ := altStep_spec (P := X.P) hT hs (Conj.app h1).1
          exact ⟨⟨o, ho, (hstep a w he hsp (.inr hbk)).mono fun a' w' ⟨q1, q2, q3, q4⟩ => ⟨q1, h2 a' w' (hx.trans q4) q2 q3⟩⟩, trivial⟩
    · exact h b0 (fun _ _ => rfl)
end Go.Proofs.YtoideahgjgaddaaGreat
/- A function's contract: how it is shown, how it is used. No program in sight. -/
namespace Go.Proofs.YtoideahgjgaddaaGreat
open Go Go.RowKit
def subL (E : Env) : Env → List Prop
  | [] => []
  | s :: r => (E.get s.k = some s) :: subL E r
theorem Env.sub_of {E : Env} : ∀ {E' : Env}, Conj (subL E E') → E.sub E'
  | [], _, k, s, h => by cases h
  | s' :: r, hc, k, s, h => by
    simp only [Env.get] at h
    split at h
    · rename_i e
      have := Nat.eq_of_beq_eq_true e
      injection h with h; subst h
      rw [← this]; exact hc.1
    · exact Env.sub_of hc.2 k s h
structure IsCx (X : Cx) (P : Program) (rs : List ResultVar) (N : Nat) (F : HP) (Post : Value → List Atom → Prop) : Prop where
  hP : X.P = P
  hrs : X.fn.results.toList = rs
  hN : X.n = N
  hR : X.R = fun e w' => ∃ v As, e = .returned v ∧ Post v As ∧ Sep (.hp F :: As) (hl w') ∧ Ext X.w0 w'
def argsE : List Nat → List Value → List Nat → Env
  | k :: ks, v :: r, [] => ⟨k, v, 0, .tt⟩ :: argsE ks r []
  | k :: ks, v :: r, t :: ts => ⟨k, v, t, .tt⟩ :: argsE ks r ts
  | _, _, _ => []
def keys : List Nat := [0, 1, 2, 3, 4, 5, 6, 7, 8, 9, 10, 11]
def Runs : List Nat → Nat → Prop
  | [], _ => True
  | k :: ks, n => k = n ∧ Runs ks (n + 1)
theorem argsE_get : ∀ (l : List Value) (k : Nat) (ks : List Nat) (ts : List Nat) (j : Nat) (s : Slot), Runs ks k → (argsE ks l ts).get j = some s → ∃ i, j = k + i ∧ l[i]? = some s.val
  | [], k, ks, ts, j, s, _, h => by cases ks <;> simp [argsE, Env.get] at h
  | v :: r, k, [], ts, j, s, _, h => by simp [argsE, Env.get] at h
  | v :: r, k, k' :: ks, ts, j, s, hr, h => by
    have key : ∀ (t : Nat) (ts' : List Nat), Env.get (⟨k', v, t, .tt⟩ :: argsE ks r ts') j = some s → ∃ i, j = k + i ∧ (v :: r)[i]? = some s.val := by
      intro t ts' h
      simp only [Env.get] at h
      split at h
      · rename_i e
        have := Nat.eq_of_beq_eq_true e
        injection h with h; subst h
        exact ⟨0, by rw [← this, hr.1]; rfl, by simp [Slot.val, G.on]⟩
      · obtain ⟨i, e1, e2⟩ := argsE_get r (k + 1) ks ts' j s hr.2 h
        exact ⟨i + 1, by omega, by simpa using e2⟩
    cases ts with
    | nil => exact key _ _ h
    | cons t ts => exact key _ _ h
/-- a function is shown -/
theorem Fn.enter {P : Program} {f : FuncId} {args : List Value} {Pre : List Atom} {Post : Value → List Atom → Prop} {fn : Func} {c : Code} {N : Nat} (tags : List Nat) (hf : P.funcs[f]? = some fn) (hb : fn.body = some c) (hN : fn.ntmps = N) (hl : Nat.ble args.length N = true)
    (h : ∀ (X : Cx) (F : HP), IsCx X P fn.results.toList N F Post → J X [.code c] (argsE keys args tags) (.hp F :: Pre)) : Fn P f args Pre Post := by
  intro F w hs
  have hle := Nat.le_of_ble_eq_true hl
  have hX : IsCx ⟨P, fn, N, fun e w' => ∃ v As, e = .returned v ∧ Post v As ∧ Sep (.hp F :: As) (Go.Proofs.YtoideahgjgaddaaGreat.hl w') ∧ Ext w w', w⟩ P fn.results.toList N F Post := ⟨rfl, rfl, rfl, rfl⟩
  have hJ := h _ F hX
  refine calls_of_wp hf hb ?_
  refine hJ { tmps := args.toArray ++ Array.replicate (fn.ntmps - args.toArray.size) undef, defers := [] } w (Ext.refl w) ⟨by simp; omega, rfl, fun k s hk => ?_⟩ hs
  obtain ⟨i, e1, e2⟩ := argsE_get args 0 keys tags k s ⟨rfl, rfl, rfl, rfl, rfl, rfl, rfl, rfl, rfl, rfl, rfl, rfl, trivial⟩ hk
  have hi : i < args.length := (List.getElem?_eq_some_iff.1 e2).1
  have : k = i := by omega
  subst this
  rw [Array.getElem?_append, if_pos (by simpa using hi)]
  simpa using e2
section
variable {X : Cx} {P : Program} {T : Tab} {K : List KI} {E : Env} {L : List Atom} {N : Nat} {F : HP} {Post : Value → List Atom → Prop} {rs : List ResultVar}
theorem J.run (hX : IsCx X P rs N F Post) (hT : TabOK P T) (n : Nat) {K' : (Nat → Nat) → List KI} {E' : (Nat → Nat) → Env} {L' : (Nat → Nat) → List Atom} {ob : (Nat → Nat) → List Prop}
    (h : ∀ bs, Go.Proofs.YtoideahgjgaddaaGreat.run T N bs n K E L [] 0 = ⟨K' bs, E' bs, L' bs, ob bs⟩) (hob : ∀ bs, Conj (ob bs)) (hJ : ∀ bs, J X (K' bs) (E' bs) (L' bs)) : J X K E L := by
  have hT' : TabOK X.P T := by rw [hX.hP]; exact hT
  refine (run_sound hT' n K E L [] 0 (fun _ => 0) fun bs _ => ?_).2
  rw [hX.hN, h bs]
  exact ⟨hob bs, hJ bs⟩
theorem J.r (hX : IsCx X P rs N F Post) (hT : TabOK P T) (n : Nat) {K' : (Nat → Nat) → List KI} {E' : (Nat → Nat) → Env} {L' : (Nat → Nat) → List Atom} {ob : (Nat → Nat) → List Prop}
    (h : ∀ bs, Go.Proofs.YtoideahgjgaddaaGreat.run T N bs n K E L [] 0 = ⟨K' bs, E' bs, L' bs, ob bs⟩) (hJ : ∀ bs, J X (K' bs) (E' bs) (L' bs)) (hob : ∀ bs, Conj (ob bs) := by intro bs; (repeat' (first | exact Conj.nil | refine Conj.cons ?_ ?_ | omega | exact hq0 | (simpa using hq0) | (exact fun h => h) | exact rfl | (intro hq; have hq0 := hq; try simp only [Bool.and_eq_true, Bool.or_eq_true, decide_eq_true_eq, Bool.not_eq_true', decide_eq_false_iff_not] at hq) | (simp; done) | (simp; omega) | decide))) : J X K E L := J.run hX hT n h hob hJ
/-- a loop in which some parts change: x tells where it stands -/
theorem J.loopN {c : Code} {α : Type} (I : α → Prop) (Ei : α → Env) (is : List Nat) (As : α → List Atom) (μ : α → Nat) (x0 : α) {Li : α → List Atom} (h0 : I x0) (hE : Conj (subL E (Ei x0))) (ok : okIdx L is = true) (hA : picks L is = As x0) (hLi : ∀ x, lupd L is (As x) = some (Li x))
    (round : ∀ x, I x → J X (.code c :: .stop (fun a w => Ext X.w0 w ∧ ∃ x', I x' ∧ μ x' < μ x ∧ EnvOK X.n (Ei x') a ∧ Sep (Li x') (hl w)) :: K) (Ei x) (Li x)) : J X (.code (.loop c) :: K) E L :=
  J.loop I Ei Li μ x0 h0 (Env.sub_of hE) (fun h s => by
    have := s.turn1 is ok (As := As x0) (fun h' s' => by rw [hA] at s'; exact s')
    rwa [← lupd_eq (okIdx_spec ok).1 (hLi x0)] at this) round
theorem J.lo {c : Code} {α : Type} (I : α → Prop) (Ei : α → Env) (is : List Nat) (As : α → List Atom) (μ : α → Nat) (x0 : α) {Li : α → List Atom} (h0 : I x0) (ok : okIdx L is = true) (hA : picks L is = As x0) (hLi : ∀ x, lupd L is (As x) = some (Li x))
    (round : ∀ x, I x → J X (.code c :: .stop (fun a w => Ext X.w0 w ∧ ∃ x', I x' ∧ μ x' < μ x ∧ EnvOK X.n (Ei x') a ∧ Sep (Li x') (hl w)) :: K) (Ei x) (Li x)) (hE : Conj (subL E (Ei x0)) := by (repeat' (first | exact Conj.nil | refine Conj.cons ?_ ?_ | omega | exact hq0 | (simpa using hq0) | (exact fun h => h) | exact rfl | (intro hq; have hq0 := hq; try simp only [Bool.and_eq_true, Bool.or_eq_true, decide_eq_true_eq, Bool.not_eq_true', decide_eq_false_iff_not] at hq) | (simp; done) | (simp; omega) | decide))) : J X (.code (.loop c) :: K) E L := J.loopN I Ei is As μ x0 h0 hE ok hA hLi round
theorem J.next {α : Type} {I : α → Prop} {Ei : α → Env} {Li : α → List Atom} {μ : α → Nat} {m : Nat} (x : α) (h1 : I x) (h2 : μ x < m) (h3 : Conj (subL E (Ei x))) (h4 : ∀ h, Sep L h → Sep (Li x) h) :
    J X (.stop (fun a w => Ext X.w0 w ∧ ∃ x', I x' ∧ μ x' < m ∧ EnvOK X.n (Ei x') a ∧ Sep (Li x') (hl w)) :: K) E L := J.stop x h1 h2 (Env.sub_of h3) h4
theorem J.nx {α : Type} {I : α → Prop} {Ei : α → Env} {Li : α → List Atom} {μ : α → Nat} {m : Nat} (x : α) (h1 : I x) (h2 : μ x < m) (h4 : ∀ h, Sep L h → Sep (Li x) h) (h3 : Conj (subL E (Ei x)) := by (repeat' (first | exact Conj.nil | refine Conj.cons ?_ ?_ | omega | exact hq0 | (simpa using hq0) | (exact fun h => h) | exact rfl | (intro hq; have hq0 := hq; try simp only [Bool.and_eq_true, Bool.or_eq_true, decide_eq_true_eq, Bool.not_eq_true', decide_eq_false_iff_not] at hq) | (simp; done) | (simp; omega) | decide))) :
    J X (.stop (fun a w => Ext X.w0 w ∧ ∃ x', I x' ∧ μ x' < m ∧ EnvOK X.n (Ei x') a ∧ Sep (Li x') (hl w)) :: K) E L := J.next x h1 h2 h3 h4
/-- the results -/
def resV1 (T : Tab) (E : Env) (L : List Atom) : ResultVar → Option (Value × List Prop)
  | .tmp t => match E.get t with
    | some s => some (s.v, valid s)
    | none => none
  | .cell p t => match E.get p with
    | some s => match lkLoad T L t s with
      | some r => some (r.v, r.ob)
      | none => none
    | none => none
def resVs (T : Tab) (E : Env) (L : List Atom) : List ResultVar → Option (List Value × List Prop)
  | [] => some ([], [])
  | r :: l => match resV1 T E L r, resVs T E L l with
    | some (v, ob), some (vs, obs) => some (v :: vs, ob ++ obs)
    | _, _ => none
def resV (T : Tab) (E : Env) (L : List Atom) (rs : List ResultVar) : Option (Value × List Prop) := match resVs T E L rs with
  | some ([v], ob) => some (v, ob)
  | some (vs, ob) => some (.tuple vs.toArray, ob)
  | none => none
theorem KW_ret {a : Act} {w : World} : ∀ K : List KI, bodyPost X.P X.fn X.R .ret a w → KW X K .ret a w
  | [], h => h
  | .code c :: K, h => KW_ret K h
  | .reg o C t :: K, h => KW_ret K h
  | .blk id :: K, h => KW_ret K h
  | .stop R :: K, h => KW_ret K h
def resF (tmps : Array Value) : ResultVar → Sem Value
  | .tmp t => pure (tmps.getD t undef)
  | .cell p t => do loadVar t (← asAddr (tmps.getD p undef))
theorem results_eq (fn : Func) (tmps : Array Value) : results fn tmps = (do
    let vs ← fn.results.mapM (resF tmps)
    pure (if h : vs.size = 1 then vs[0] else .tuple vs)) := rfl
theorem resVs_run (hT : TabOK P T) {a : Act} {w : World} {n : Nat} (he : EnvOK n E a) (hs : Sep L (hl w)) : ∀ {rs : List ResultVar} {vs : List Value} {ob : List Prop}, resVs T E L rs = some (vs, ob) → Conj ob →
    (rs.mapM (resF a.tmps)).run P w = .ok vs w
  | [], vs, ob, h, _ => by simp only [resVs, Option.some.injEq, Prod.mk.injEq] at h; obtain ⟨rfl, rfl⟩ := h; simp
  | r :: l, vs, ob, h, hob => by
    simp only [resVs] at h
    split at h
    · rename_i v ob1 vs' ob2 h1 h2
      simp only [Option.some.injEq, Prod.mk.injEq] at h
      obtain ⟨rfl, rfl⟩ := h
      obtain ⟨o1, o2⟩ := Conj.app hob
      have ih := resVs_run hT he hs h2 o2
      have h0 : (resF a.tmps r).run P w = .ok v w := by
        cases r with
        | tmp t =>
          simp only [resV1] at h1
          split at h1
          · rename_i s hg
            simp only [Option.some.injEq, Prod.mk.injEq] at h1
            obtain ⟨rfl, rfl⟩ := h1
            have := he.slot t s hg
            rw [valid_spec o1] at this
            simp [resF, this]
          · cases h1
        | cell p t =>
          simp only [resV1] at h1
          split at h1
          · rename_i s hg
            split at h1
            · rename_i q hq
              simp only [Option.some.injEq, Prod.mk.injEq] at h1
              obtain ⟨rfl, rfl⟩ := h1
              have hv : Conj (valid s) := by
                unfold lkLoad at hq
                (repeat' split at hq) <;> first | (cases hq; done) | (injection hq with hq; subst hq; exact o1.2)
              have := he.slot p s hg
              rw [valid_spec hv] at this
              have hr := lkLoad_run (w := w) hT hq o1 (fun i A _ hA => hs.get hA)
              have hsp : ∃ ad, s.v = .pointer (some ad) := by
                unfold lkLoad at hq
                split at hq
                · exact ⟨_, rfl⟩
                · cases hq
              obtain ⟨ad, had⟩ := hsp
              rw [had] at hr this
              simp only [Instr.loadAt, Instr.sureAddr, Sem.run_bind, Sem.run_pure, Result.andThen_ok] at hr
              simp [resF, this, asAddr, hr]
            · cases h1
          · cases h1
      simp only [List.mapM_cons, Sem.run_bind, h0, Result.andThen_ok, ih, Sem.run_pure]
    · cases h
theorem results_run (hT : TabOK P T) {a : Act} {w : World} {n : Nat} {fn : Func} (he : EnvOK n E a) (hs : Sep L (hl w)) {v : Value} {ob : List Prop} (h : resV T E L fn.results.toList = some (v, ob)) (hob : Conj ob) : (results fn a.tmps).run P w = .ok v w := by
  have key : ∀ {vs : List Value} {ob' : List Prop}, resVs T E L fn.results.toList = some (vs, ob') → Conj ob' → (results fn a.tmps).run P w = .ok (if h : vs.toArray.size = 1 then vs.toArray[0] else .tuple vs.toArray) w := by
    intro vs ob' h1 h2
    have := resVs_run (P := P) (w := w) hT he hs h1 h2
    rw [results_eq, Array.mapM_eq_mapM_toList]
    simp only [map_eq_pure_bind, Sem.run_bind, this, Result.andThen_ok, Sem.run_pure]
  unfold resV at h
  split at h
  · rename_i v' ob' h1
    simp only [Option.some.injEq, Prod.mk.injEq] at h
    obtain ⟨rfl, rfl⟩ := h
    rw [key h1 hob]; simp
  · rename_i vs ob' hne h1
    simp only [Option.some.injEq, Prod.mk.injEq] at h
    obtain ⟨rfl, rfl⟩ := h
    rw [key h1 hob]
    have : vs.toArray.size ≠ 1 := by
      intro e
      match vs, e with
      | [x], _ => exact hne x rfl
    rw [dif_neg this]
  · cases h
theorem Sep.sub {h : Hl} (s : Sep L h) (is : List Nat) (ok : okIdx L is = true) : Sep (picks L is) h := by
  obtain ⟨own, hw⟩ := s.split ok
  exact ⟨fun b => own b - 1, fun j A hA => Atom.up (fun b o hb => by
    rw [res_some] at hb ⊢
    exact ⟨by show own b - 1 = j; omega, hb.2⟩) (hw (j + 1) A (by simpa using hA))⟩
theorem ret_post (hX : IsCx X P rs N F Post) (hT : TabOK P T) {v : Value} {ob : List Prop} (is : List Nat) (h : resV T E L rs = some (v, ob)) (hob : Conj ob) (ok : okIdx L (0 :: is) = true) (h0 : lget L 0 = some (.hp F)) (hP : Post v (picks L is)) {a : Act} {w : World} (hx : Ext X.w0 w) (he : EnvOK X.n E a) (hs : Sep L (hl w)) :
    a.defers = [] ∧ ∃ v, (results X.fn a.tmps).run X.P w = .ok v w ∧ X.R (.returned v) w := by
  refine ⟨he.defers, v, results_run (by rw [hX.hP]; exact hT) he hs (by rw [hX.hrs]; exact h) hob, ?_⟩
  rw [hX.hR]
  refine ⟨v, picks L is, rfl, hP, ?_, hx⟩
  have := hs.sub (0 :: is) ok
  rw [lget_eq] at h0
  simpa [picks, h0] using this
/-- a return -/
theorem J.ret (hX : IsCx X P rs N F Post) (hT : TabOK P T) {v : Value} {ob : List Prop} (is : List Nat) (h : resV T E L rs = some (v, ob)) (hob : Conj ob) (ok : okIdx L (0 :: is) = true) (h0 : lget L 0 = some (.hp F)) (hP : Post v (picks L is)) : J X (.code .ret :: K) E L :=
  fun _ _ hx he hs => wp_ret (KW_ret K (ret_post hX hT is h hob ok h0 hP hx he hs))
theorem J.fin (hX : IsCx X P rs N F Post) (hT : TabOK P T) {v : Value} {ob : List Prop} (is : List Nat) (h : resV T E L rs = some (v, ob)) (hob : Conj ob) (ok : okIdx L (0 :: is) = true) (h0 : lget L 0 = some (.hp F)) (hP : Post v (picks L is)) : J X [] E L :=
  fun _ _ hx he hs => ret_post hX hT is h hob ok h0 hP hx he hs
theorem J.rt (hX : IsCx X P rs N F Post) (hT : TabOK P T) {v : Value} {ob : List Prop} (is : List Nat) (h : resV T E L rs = some (v, ob)) (ok : okIdx L (0 :: is) = true) (h0 : lget L 0 = some (.hp F)) (hP : Post v (picks L is)) (hob : Conj ob := by (repeat' (first | exact Conj.nil | refine Conj.cons ?_ ?_ | omega | exact hq0 | (simpa using hq0) | (exact fun h => h) | exact rfl | (intro hq; have hq0 := hq; try simp only [Bool.and_eq_true, Bool.or_eq_true, decide_eq_true_eq, Bool.not_eq_true', decide_eq_false_iff_not] at hq) | (simp; done) | (simp; omega) | decide))) : J X (.code .ret :: K) E L := J.ret hX hT is h hob ok h0 hP
theorem J.fi (hX : IsCx X P rs N F Post) (hT : TabOK P T) {v : Value} {ob : List Prop} (is : List Nat) (h : resV T E L rs = some (v, ob)) (ok : okIdx L (0 :: is) = true) (h0 : lget L 0 = some (.hp F)) (hP : Post v (picks L is)) (hob : Conj ob := by (repeat' (first | exact Conj.nil | refine Conj.cons ?_ ?_ | omega | exact hq0 | (simpa using hq0) | (exact fun h => h) | exact rfl | (intro hq; have hq0 := hq; try simp only [Bool.and_eq_true, Bool.or_eq_true, decide_eq_true_eq, Bool.not_eq_true', decide_eq_false_iff_not] at hq) | (simp; done) | (simp; omega) | decide))) : J X [] E L := J.fin hX hT is h hob ok h0 hP
/-- which function is called, with what -/
def callV (E : Env) (op : Op) : Option (FuncId × List Value × List Prop) := match op with
  | .call ⟨.value f, args, _⟩ => match ev E f, slots E args.toList with
    | some ⟨k, .func (.func g) fs cs, t, gg⟩, some l => some (g, fs.toList ++ (vals l ++ cs.toList), valid ⟨k, .func (.func g) fs cs, t, gg⟩ ++ valids l)
    | _, _ => none
  | _ => none
def callable (P : Program) (f : FuncId) : Bool := match P.funcs[f]? with
  | some fn => fn.body.isSome && fn.name != "runtime.NumGoroutine"
  | none => false
theorem callV_run {f : FuncId} {vs : List Value} {ob : List Prop} {o : Oper} {a : Act} {w : World} {n : Nat} (he : EnvOK n E a) (hf : callable P f = true) (h : callV E o.op = some (f, vs, ob)) (hob : Conj ob) : (execOp a.eval o).run P w = .ok (.enter f vs.toArray) w := by
  unfold callV at h
  split at h
  · rename_i fo args ts hop
    split at h
    · rename_i k g fs cs t gg l h1 h2
      simp only [Option.some.injEq, Prod.mk.injEq] at h
      obtain ⟨rfl, rfl, rfl⟩ := h
      obtain ⟨o1, o2⟩ := Conj.app hob
      have e1 := evs he h1 o1
      have e2 := slots_spec he h2 o2
      have e3 : args.map a.eval = (vals l).toArray := by apply Array.toList_inj.1; rw [Array.toList_map, e2]
      unfold callable at hf
      split at hf
      · rename_i fn hfn
        simp only [Bool.and_eq_true, Option.isSome_iff_exists, bne_iff_ne, ne_eq] at hf
        obtain ⟨⟨c, hc⟩, hn⟩ := hf
        have hvs : (fs ++ (vals l).toArray ++ cs) = (fs.toList ++ (vals l ++ cs.toList)).toArray := by
          apply Array.toList_inj.1; simp
        simp [execOp, hop, resolve, e1, e3, Deferred.ofValue, invoke, callFunc, hfn, hn, hc, hvs]
      · cases hf
    · cases h
  · cases h
/-- a call -/
theorem J.call (hX : IsCx X P rs N F Post) {ops : Array Oper} {C : Cl} {l : Bool} {i : Nat} {t : PT} {o : Oper} {g : G} {f : FuncId} {vs : List Value} {ob : List Prop} {Pre : List Atom} {Po : Value → List Atom → Prop} {E' : Value → Env}
    (hf : callable P f = true) (c : Fn P f vs Pre Po) (is : List Nat) (tag : Nat) (ho : lget ops.toList i = some o) (hg : gd ops.toList E o = some g) (hgo : g.on = true) (hc : callV E o.op = some (f, vs, ob)) (hob : Conj ob) (ok : okIdx L is = true) (hp : picks L is = Pre)
    (hd : ∀ v, putE N o.dst v tag .tt E = some (E' v)) (hJ : ∀ v As, Po v As → ∃ L', lupd L is As = some L' ∧ Conj (staysL l C L') ∧ J X (.reg ops C t :: K) (E' v) L') : J X (.reg ops C (.alt l i t .non) :: K) E L := by
  intro a w hx he hs
  rw [lget_eq] at ho
  have ho' : ops[i]? = some o := by simpa using ho
  refine ⟨⟨o, ho', ?_⟩, trivial⟩
  have hw := gd_spec he hg
  unfold sOp
  rw [if_pos (by rw [hw]; exact hgo), callV_run (P := X.P) he (by rw [hX.hP]; exact hf) hc hob]
  have hsp := hs.split ok
  rw [hp] at hsp
  have hcall := c (HP.of (drops L is)) w hsp
  rw [← hX.hP] at hcall
  refine Calls.mono hcall fun e w' ⟨v, As, he', hpo, hs', hx'⟩ => ⟨v, he', ?_⟩
  have hs2 := Sep.back ok hs'
  obtain ⟨L', j0, j1, j2⟩ := hJ v As hpo
  rw [← lupd_eq (okIdx_spec ok).1 j0] at hs2
  exact ⟨staysL_spec j1 hs2, j2 _ w' (hx.trans hx') (putE_spec he (by rw [hX.hN]; exact hd v) v rfl) hs2⟩
theorem J.ca (hX : IsCx X P rs N F Post) {ops : Array Oper} {C : Cl} {l : Bool} {i : Nat} {t : PT} {o : Oper} {g : G} {f : FuncId} {vs : List Value} {ob : List Prop} {Pre : List Atom} {Po : Value → List Atom → Prop} {E' : Value → Env}
    (hf : callable P f = true) (c : Fn P f vs Pre Po) (is : List Nat) (tag : Nat) (ho : lget ops.toList i = some o) (hg : gd ops.toList E o = some g) (hgo : g.on = true) (hc : callV E o.op = some (f, vs, ob)) (ok : okIdx L is = true) (hp : picks L is = Pre)
    (hd : ∀ v, putE N o.dst v tag .tt E = some (E' v)) (hJ : ∀ v As, Po v As → ∃ L', lupd L is As = some L' ∧ Conj (staysL l C L') ∧ J X (.reg ops C t :: K) (E' v) L') (hob : Conj ob := by (repeat' (first | exact Conj.nil | refine Conj.cons ?_ ?_ | omega | exact hq0 | (simpa using hq0) | (exact fun h => h) | exact rfl | (intro hq; have hq0 := hq; try simp only [Bool.and_eq_true, Bool.or_eq_true, decide_eq_true_eq, Bool.not_eq_true', decide_eq_false_iff_not] at hq) | (simp; done) | (simp; omega) | decide))) : J X (.reg ops C (.alt l i t .non) :: K) E L := J.call hX hf c is tag ho hg hgo hc hob ok hp hd hJ
/-- an operation whose guard is open -/
theorem J.gcase (hX : IsCx X P rs N F Post) {ops : Array Oper} {C : Cl} {l : Bool} {i : Nat} {t : PT} {o : Oper} {b : Bool} {E' : Env} (ho : lget ops.toList i = some o) (hg : gd ops.toList E o = some (.when b)) (hd : putE N o.dst undef 0 (.when false) E = some E') (hst : Conj (staysL l C L))
    (h1 : b = true → J X (.reg ops C (.alt l i t .non) :: K) E L) (h2 : b = false → J X (.reg ops C t :: K) E' L) : J X (.reg ops C (.alt l i t .non) :: K) E L := by
  intro a w hx he hs
  cases b with
  | true => exact h1 rfl a w hx he hs
  | false =>
    rw [lget_eq] at ho
    have ho' : ops[i]? = some o := by simpa using ho
    refine ⟨⟨o, ho', ?_⟩, trivial⟩
    have hw := gd_spec he hg
    unfold sOp
    rw [if_neg (by rw [hw]; simp [G.on])]
    exact ⟨staysL_spec hst hs, h2 rfl _ w hx (putE_spec he (by rw [hX.hN]; exact hd) _ rfl) hs⟩
/-- an operation of which is told what it does -/
theorem J.op (hX : IsCx X P rs N F Post) {ops : Array Oper} {C : Cl} {l : Bool} {i : Nat} {t : PT} {o : Oper} {g : G} {S : Value → List Atom → Prop} {E' : Value → Env} (tag : Nat) (ho : lget ops.toList i = some o) (hg : gd ops.toList E o = some g) (hgo : g.on = true)
    (hr : ∀ a w, EnvOK N E a → Sep L (hl w) → ∃ v L' nv w', S v L' ∧ (execOp a.eval o).run P w = .ok nv w' ∧ (nv = .value v ∨ (nv = .skip ∧ v = undef)) ∧ Sep L' (hl w') ∧ Ext w w')
    (hd : ∀ v, putE N o.dst v tag .tt E = some (E' v)) (hJ : ∀ v L', S v L' → Conj (staysL l C L') ∧ J X (.reg ops C t :: K) (E' v) L') : J X (.reg ops C (.alt l i t .non) :: K) E L := by
  intro a w hx he hs
  rw [lget_eq] at ho
  have ho' : ops[i]? = some o := by simpa using ho
  refine ⟨⟨o, ho', ?_⟩, trivial⟩
  have hw := gd_spec he hg
  have he2 := he
  rw [hX.hN] at he2
  obtain ⟨v, L', nv, w', r0, r1, r2, r3, r4⟩ := hr a w he2 hs
  unfold sOp
  rw [← hX.hP] at r1
  rw [if_pos (by rw [hw]; exact hgo), r1]
  obtain ⟨j1, j2⟩ := hJ v L' r0
  have he3 := putE_spec he2 (hd v) v rfl
  rw [← hX.hN] at he3
  rcases r2 with rfl | ⟨rfl, rfl⟩
  · exact ⟨staysL_spec j1 r3, j2 _ w' (hx.trans r4) he3 r3⟩
  · exact ⟨staysL_spec j1 r3, j2 _ w' (hx.trans r4) he3 r3⟩
/-- an operation that only looks, of which is told what it gives -/
theorem J.val (hX : IsCx X P rs N F Post) {ops : Array Oper} {C : Cl} {l : Bool} {i : Nat} {t : PT} {o : Oper} {g : G} {E' : Env} (v : Value) (tag : Nat) (ho : lget ops.toList i = some o) (hg : gd ops.toList E o = some g)
    (hr : g.on = true → ∀ a w, EnvOK N E a → Sep L (hl w) → (execOp a.eval o).run P w = .ok (.value v) w)
    (hd : putE N o.dst v tag g E = some E') (hst : Conj (staysL l C L)) (hJ : J X (.reg ops C t :: K) E' L) : J X (.reg ops C (.alt l i t .non) :: K) E L := by
  intro a w hx he hs
  rw [lget_eq] at ho
  have ho' : ops[i]? = some o := by simpa using ho
  refine ⟨⟨o, ho', ?_⟩, trivial⟩
  have hw := gd_spec he hg
  have he2 := he
  rw [hX.hN] at he2
  have he3 := putE_spec he2 hd _ rfl
  rw [← hX.hN] at he3
  unfold sOp
  cases hgo : g.on with
  | true =>
    have hr1 := hr hgo a w he2 hs
    rw [← hX.hP] at hr1
    rw [if_pos (by rw [hw]; exact hgo), hr1]
    rw [hgo] at he3
    exact ⟨staysL_spec hst hs, hJ _ w hx he3 hs⟩
  | false =>
    rw [if_neg (by rw [hw, hgo]; simp)]
    rw [hgo] at he3
    exact ⟨staysL_spec hst hs, hJ _ w hx he3 hs⟩
/-- likewise, taken first -/
theorem J.valT (hX : IsCx X P rs N F Post) {ops : Array Oper} {C : Cl} {p : Bool} {i : Nat} {t : PT} {o : Oper} {g : G} {E' : Env} (v : Value) (tag : Nat) (ho : lget ops.toList i = some o) (hg : gd ops.toList E o = some g)
    (hr : g.on = true → ∀ a w, EnvOK N E a → (p = false → CAt C w) → (execOp a.eval o).run P w = .ok (.value v) w)
    (hd : putE N o.dst v tag g E = some E') (hJ : J X (.reg ops C t :: K) E' L) : J X (.reg ops C (.take p i t) :: K) E L := by
  intro a w hx he hs
  rw [lget_eq] at ho
  have ho' : ops[i]? = some o := by simpa using ho
  have hw := gd_spec he hg
  have he2 := he
  rw [hX.hN] at he2
  have he3 := putE_spec he2 hd _ rfl
  rw [← hX.hN] at he3
  cases hgo : g.on with
  | true =>
    rw [hgo] at he3
    exact ⟨o, v, ho', .inl ⟨by rw [hw]; exact hgo, fun w' hC => by rw [hX.hP]; exact hr hgo a w' he2 hC⟩, hJ _ w hx he3 hs⟩
  | false =>
    rw [hgo] at he3
    exact ⟨o, undef, ho', .inr ⟨by rw [hw]; exact hgo, rfl⟩, hJ _ w hx he3 hs⟩
/-- a slot's value, told otherwise -/
theorem J.slot {k : Nat} {s s' : Slot} (h : E.get k = some s) (hk : s'.k = k) (hv : s'.val = s.val) (hJ : J X K (s' :: E) L) : J X K E L := by
  intro a w hx he hs
  refine hJ a w hx ⟨he.size, he.defers, fun j u hu => ?_⟩ hs
  simp only [Env.get] at hu
  split at hu
  · rename_i e
    have := Nat.eq_of_beq_eq_true e
    injection hu with hu
    subst hu
    rw [← this, hk, hv]
    exact he.slot k s h
  · exact he.slot j u hu
end
/-- contracts that were shown otherwise -/
theorem Fn.of_below {P : Program} {f : FuncId} {args : List Value} {v : Value} (h : ∀ w : World, Calls P f args.toArray w fun e w' => e = .returned v ∧ Below w.heap.size w w') : Fn P f args [] (fun u As => u = v ∧ As = []) := fun F w hs =>
  (h w).mono fun e w' ⟨he, hb⟩ => ⟨v, [], he, ⟨rfl, rfl⟩, hs.up (fun b o hb' => by
    have hlt : b < w.heap.size := by
      rcases Nat.lt_or_ge b w.heap.size with hlt | hge
      · exact hlt
      · simp only [hl] at hb'; rw [Array.getElem?_eq_none hge] at hb'; cases hb'
    exact (hb.block b hlt).trans hb'), ⟨hb.os, hb.tape, hb.output, hb.size⟩⟩
theorem Fn.of_same {P : Program} {f : FuncId} {args : List Value} {v : Value} (h : ∀ w : World, Calls P f args.toArray w fun e w' => e = .returned v ∧ w = w') : Fn P f args [] (fun u As => u = v ∧ As = []) := fun F w hs =>
  (h w).mono fun e w' ⟨he, hb⟩ => by subst hb; exact ⟨v, [], he, ⟨rfl, rfl⟩, hs, Ext.refl _⟩
theorem Fn.of_drew {P : Program} {f : FuncId} {args : List Value} {v : Value} (h : ∀ w : World, Calls P f args.toArray w fun e w' => e = .returned v ∧ ∃ n, w' = w.drewN n) : Fn P f args [] (fun u As => u = v ∧ As = []) := fun F w hs =>
  (h w).mono fun e w' ⟨he, n, hb⟩ => by subst hb; exact ⟨v, [], he, ⟨rfl, rfl⟩, hs, ⟨rfl, rfl, rfl, Nat.le_refl _⟩⟩
theorem Fn.mono {P : Program} {f : FuncId} {args : List Value} {Pre : List Atom} {Post Post' : Value → List Atom → Prop} (h : Fn P f args Pre Post) (hp : ∀ v As, Post v As → Post' v As) : Fn P f args Pre Post' := fun F w hs =>
  (h F w hs).mono fun _ _ ⟨v, As, he, h1, h2, h3⟩ => ⟨v, As, he, hp v As h1, h2, h3⟩
end Go.Proofs.YtoideahgjgaddaaGreat
/- Equality of values whose cells are all integers and bools: one law for structs and arrays of any depth. No program in sight. -/
namespace Go.Proofs.YtoideahgjgaddaaGreat
open Go

inductive Lk where
  | int (k : IntKind)
  | bool
def Lk.fits : Lk → Value → Prop
  | .int k, .int k' _ => k' = k
  | .bool, .bool _ => True
  | _, _ => False
def Fits : List Lk → List Value → Prop
  | [], [] => True
  | k :: ks, v :: vs => k.fits v ∧ Fits ks vs
  | _, _ => False
def cellEq : Value → Value → Bool
  | .int _ a, .int _ b => a == b
  | .bool a, .bool b => a == b
  | _, _ => false
def eqCells : List Value → List Value → Bool
  | [], [] => true
  | x :: xs, y :: ys => cellEq x y && eqCells xs ys
  | _, _ => false

theorem Fits.length : ∀ {ks : List Lk} {vs : List Value}, Fits ks vs → vs.length = ks.length
  | [], [], _ => rfl
  | _ :: _, _ :: _, h => by simpa using Fits.length h.2
  | [], _ :: _, h => h.elim
  | _ :: _, [], h => h.elim
theorem Fits.split : ∀ {a b : List Lk} {vs : List Value}, Fits (a ++ b) vs → Fits a (vs.take a.length) ∧ Fits b (vs.drop a.length)
  | [], _, _, h => ⟨by trivial, h⟩
  | _ :: a, _, v :: vs, h => ⟨⟨h.1, (Fits.split (a := a) h.2).1⟩, (Fits.split (a := a) h.2).2⟩
  | _ :: _, _, [], h => h.elim
theorem Fits.append : ∀ {a b : List Lk} {xs ys : List Value}, Fits a xs → Fits b ys → Fits (a ++ b) (xs ++ ys)
  | [], _, [], _, _, h => h
  | _ :: a, _, _ :: _, _, h, h' => ⟨h.1, Fits.append (a := a) h.2 h'⟩
  | [], _, _ :: _, _, h, _ => h.elim
  | _ :: _, _, [], _, h, _ => h.elim
theorem eqCells_append : ∀ {a b c d : List Value}, a.length = c.length → eqCells (a ++ b) (c ++ d) = (eqCells a c && eqCells b d)
  | [], _, [], _, _ => rfl
  | x :: a, b, y :: c, d, h => by simp only [List.cons_append, eqCells, eqCells_append (a := a) (c := c) (by simpa using h), Bool.and_assoc]
  | [], _, _ :: _, _, h => by simp at h
  | _ :: _, _, [], _, h => by simp at h

/-- what the cells of a type are, if all are integers and bools -/
def fieldLeaves (leaves : TypeId → Option (List Lk)) : List Field → Nat → Option (List Lk)
  | [], _ => some []
  | f :: fs, off =>
    if f.name ≠ "_" ∧ f.offset = off then
      match leaves f.type with
      | some l => match fieldLeaves leaves fs (off + l.length) with
        | some r => some (l ++ r)
        | none => none
      | none => none
    else none
def leaves (P : Program) : Nat → TypeId → Option (List Lk)
  | 0, _ => none
  | d + 1, t =>
    match P.underlying t with
    | some .bool => some [.bool]
    | some (.int k) => some [.int k]
    | some (.struct fs) =>
      match fieldLeaves (leaves P d) fs.toList 0 with
      | some l => if P.stoodInHeld t = false ∧ (P.info? t).map (·.size) = some l.length then some l else none
      | none => none
    | some (.array n e) =>
      match leaves P d e with
      | some l => if (P.info? e).map (·.size) = some l.length ∧ (P.info? t).map (·.size) = some (List.replicate n l).flatten.length then some (List.replicate n l).flatten else none
      | none => none
    | _ => none

/-- the value with these cells, of a type -/
def mkV (P : Program) (t : TypeId) (cs : List Value) : Value :=
  match P.underlying t with
  | some (.struct _) | some (.array _ _) => .agg cs.toArray
  | _ => cs.headD undef

section
variable {P : Program}
theorem leaves_part {d : Nat} {t : TypeId} {l : List Lk} (h : leaves P d t = some l) (cs : List Value) (off : Nat) (hf : Fits l ((cs.drop off).take l.length)) (w : World) :
    (part t cs.toArray off).run P w = .ok (mkV P t ((cs.drop off).take l.length)) w := by
  cases d with
  | zero => cases h
  | succ d =>
    unfold leaves at h
    unfold mkV
    cases hu : P.underlying t with
    | none => rw [hu] at h; cases h
    | some u =>
      rw [hu] at h
      cases u with
      | bool =>
        injection h with h; subst h
        simp only [part, isAgg, Sem.run_bind, run_underlying hu, Result.andThen_ok, Sem.run_pure, Bool.false_eq_true, if_false]
        have hl := hf.length
        cases hd : cs.drop off with
        | nil => rw [hd] at hl; simp at hl
        | cons v r =>
          have : cs[off]? = some v := by
            have := congrArg (·[0]?) hd
            simpa using this
          simp [this]
      | int k =>
        injection h with h; subst h
        simp only [part, isAgg, Sem.run_bind, run_underlying hu, Result.andThen_ok, Sem.run_pure, Bool.false_eq_true, if_false]
        have hl := hf.length
        cases hd : cs.drop off with
        | nil => rw [hd] at hl; simp at hl
        | cons v r =>
          have : cs[off]? = some v := by
            have := congrArg (·[0]?) hd
            simpa using this
          simp [this]
      | struct fs =>
        simp only at h
        split at h
        · split at h
          · rename_i l' _ hc
            injection h with h; subst h
            cases hi : P.info? t with
            | none => rw [hi] at hc; simp at hc
            | some i =>
              rw [hi] at hc
              have hs : i.size = l'.length := by simpa using hc.2
              simp only [part, isAgg, Sem.run_bind, run_underlying hu, Result.andThen_ok, Sem.run_pure, if_true, sizeOf, typeInfo, run_program, hi, hs]
              congr 2
              simp [List.extract_eq_take_drop]
          · cases h
        · cases h
      | array n e =>
        simp only at h
        split at h
        · split at h
          · rename_i l' _ hc
            injection h with h; subst h
            cases hi : P.info? t with
            | none => rw [hi] at hc; simp at hc
            | some i =>
              rw [hi] at hc
              have hs : i.size = (List.replicate n l').flatten.length := by simpa using hc.2
              simp only [part, isAgg, Sem.run_bind, run_underlying hu, Result.andThen_ok, Sem.run_pure, if_true, sizeOf, typeInfo, run_program, hi, hs]
              congr 2
              simp [List.extract_eq_take_drop]
          · cases h
        · cases h
      | _ => cases h

theorem fieldsOf_eq {t : TypeId} {fs : Array Field} (h : P.underlying t = some (.struct fs)) : P.fieldsOf t = fs := by simp [Program.fieldsOf, h]

/-- all fields, one behind the other -/
theorem eqFields_leaves {d D : Nat} (ih : ∀ t l, leaves P d t = some l → ∀ xs ys, Fits l xs → Fits l ys → ∀ w, (Op.equalIn D t (mkV P t xs) (mkV P t ys)).run P w = .ok (eqCells xs ys) w) (xs ys : List Value) :
    ∀ (fs : List Field) (off : Nat) (r : List Lk), fieldLeaves (leaves P d) fs off = some r → Fits r (xs.drop off) → Fits r (ys.drop off) → ∀ w, (Op.eqFields D xs.toArray ys.toArray fs).run P w = .ok (eqCells (xs.drop off) (ys.drop off)) w
  | [], off, r, h, hx, hy, w => by
    injection h with h; subst h
    have h1 := List.eq_nil_of_length_eq_zero (Fits.length hx)
    have h2 := List.eq_nil_of_length_eq_zero (Fits.length hy)
    rw [h1, h2]; simp [Op.eqFields, eqCells]
  | f :: fs, off, r, h, hx, hy, w => by
    unfold fieldLeaves at h
    split at h
    · rename_i hc
      split at h
      · rename_i l hl
        split at h
        · rename_i r' hr
          injection h with h; subst h
          obtain ⟨hx1, hx2⟩ := Fits.split hx
          obtain ⟨hy1, hy2⟩ := Fits.split hy
          rw [List.drop_drop] at hx2 hy2
          have e := eqFields_leaves ih xs ys fs (off + l.length) r' hr hx2 hy2
          have lx := Fits.length hx1
          have ly := Fits.length hy1
          unfold Op.eqFields
          rw [if_pos hc.1]
          simp only [Sem.run_bind, hc.2, leaves_part hl xs off hx1, leaves_part hl ys off hy1, Result.andThen_ok, ih _ _ hl _ _ hx1 hy1]
          have key : eqCells (xs.drop off) (ys.drop off) = (eqCells ((xs.drop off).take l.length) ((ys.drop off).take l.length) && eqCells (xs.drop (off + l.length)) (ys.drop (off + l.length))) := by
            conv => lhs; rw [← List.take_append_drop l.length (xs.drop off), ← List.take_append_drop l.length (ys.drop off)]
            rw [eqCells_append (by rw [lx, ly]), List.drop_drop, List.drop_drop]
          rw [key]
          cases eqCells ((xs.drop off).take l.length) ((ys.drop off).take l.length)
          · simp
          · simp only [Bool.not_true, Bool.false_eq_true, if_false, Bool.true_and]; exact e w
        · cases h
      · cases h
    · cases h

/-- the elements of an array, one behind the other -/
theorem forIn_leaves {e D m : Nat} {l : List Lk} (hm : m = l.length) (hpart : ∀ (cs : List Value) (off : Nat), Fits l ((cs.drop off).take l.length) → ∀ w, (part e cs.toArray off).run P w = .ok (mkV P e ((cs.drop off).take l.length)) w)
    (ih : ∀ xs ys, Fits l xs → Fits l ys → ∀ w, (Op.equalIn D e (mkV P e xs) (mkV P e ys)).run P w = .ok (eqCells xs ys) w) (xs ys : List Value) :
    ∀ (k i : Nat), Fits (List.replicate k l).flatten (xs.drop (i * m)) → Fits (List.replicate k l).flatten (ys.drop (i * m)) → ∀ w,
      (forIn (List.range' i k) ((none, ()) : Option Bool × Unit) (fun j (_ : Option Bool × Unit) => do
        let a ← part e xs.toArray (j * m)
        let b ← part e ys.toArray (j * m)
        let r ← Op.equalIn D e a b
        if (!r) = true then pure (ForInStep.done (some false, ())) else do
          pure (ForInStep.yield (none, ()))) : Sem (Option Bool × Unit)).run P w = .ok (if eqCells (xs.drop (i * m)) (ys.drop (i * m)) then none else some false, ()) w
  | 0, i, hx, hy, w => by
    have h1 := List.eq_nil_of_length_eq_zero (Fits.length hx)
    have h2 := List.eq_nil_of_length_eq_zero (Fits.length hy)
    rw [h1, h2]; simp [eqCells]
  | k + 1, i, hx, hy, w => by
    rw [List.replicate_succ, List.flatten_cons] at hx hy
    obtain ⟨hx1, hx2⟩ := Fits.split hx
    obtain ⟨hy1, hy2⟩ := Fits.split hy
    rw [List.drop_drop] at hx2 hy2
    have ei : i * m + l.length = (i + 1) * m := by rw [Nat.add_mul, hm]; omega
    rw [ei] at hx2 hy2
    have e' := forIn_leaves hm hpart ih xs ys k (i + 1) hx2 hy2
    have lx := Fits.length hx1
    have ly := Fits.length hy1
    rw [List.range'_succ, List.forIn_cons]
    simp only [Sem.run_bind, hpart xs _ hx1, hpart ys _ hy1, Result.andThen_ok, ih _ _ hx1 hy1]
    have key : eqCells (xs.drop (i * m)) (ys.drop (i * m)) = (eqCells ((xs.drop (i * m)).take l.length) ((ys.drop (i * m)).take l.length) && eqCells (xs.drop ((i + 1) * m)) (ys.drop ((i + 1) * m))) := by
      conv => lhs; rw [← List.take_append_drop l.length (xs.drop (i * m)), ← List.take_append_drop l.length (ys.drop (i * m))]
      rw [eqCells_append (by rw [lx, ly]), List.drop_drop, List.drop_drop, ei]
    rw [key]
    cases eqCells ((xs.drop (i * m)).take l.length) ((ys.drop (i * m)).take l.length)
    · simp
    · simp only [Bool.not_true, Bool.false_eq_true, if_false, Bool.true_and, Sem.run_pure, Result.andThen_ok]; exact e' w

theorem equalIn_leaves : ∀ (d : Nat) (t : TypeId) (l : List Lk), leaves P d t = some l → ∀ D, d ≤ D → ∀ xs ys, Fits l xs → Fits l ys → ∀ w, (Op.equalIn D t (mkV P t xs) (mkV P t ys)).run P w = .ok (eqCells xs ys) w
  | 0, _, _, h, _, _, _, _, _, _, _ => by cases h
  | d + 1, t, l, h, 0, hD, _, _, _, _, _ => by omega
  | d + 1, t, l, h, D + 1, hD, xs, ys, hx, hy, w => by
    have ih := fun t l h xs ys hx hy w => equalIn_leaves d t l h D (by omega) xs ys hx hy w
    unfold leaves at h
    unfold mkV
    cases hu : P.underlying t with
    | none => rw [hu] at h; cases h
    | some u =>
      rw [hu] at h
      cases u with
      | bool =>
        injection h with h; subst h
        match xs, ys, hx, hy with
        | [.bool a], [.bool b], _, _ => simp [Op.equalIn, run_underlying hu, eqCells, cellEq]
      | int k =>
        injection h with h; subst h
        match xs, ys, hx, hy with
        | [.int k1 a], [.int k2 b], h1, h2 =>
          have e1 : k1 = k := h1.1
          have e2 : k2 = k := h2.1
          subst e1; subst e2
          simp [Op.equalIn, run_underlying hu, eqCells, cellEq]
      | struct fs =>
        simp only at h
        split at h
        · split at h
          · rename_i l' hl hc
            injection h with h; subst h
            simp only
            rw [run_equalIn_struct w D t _ _ (by rw [fieldsOf_eq hu]; exact hu) hc.1, fieldsOf_eq hu]
            have := eqFields_leaves (P := P) (fun t l h xs ys hx hy w => ih t l h xs ys hx hy w) xs ys fs.toList 0 l' hl (by simpa using hx) (by simpa using hy) w
            simpa using this
          · cases h
        · cases h
      | array n e =>
        simp only at h
        split at h
        · split at h
          · rename_i l' hl hc
            injection h with h; subst h
            cases hi : P.info? e with
            | none => rw [hi] at hc; simp at hc
            | some i =>
              rw [hi] at hc
              have hs : i.size = l'.length := by simpa using hc.1
              have key := forIn_leaves (P := P) (e := e) (D := D) (m := i.size) (l := l') hs (fun cs off hf w => leaves_part hl cs off hf w) (fun xs ys hx hy w => ih e l' hl xs ys hx hy w) xs ys n 0 (by simpa using hx) (by simpa using hy) w
              simp only [Op.equalIn, Sem.run_bind, run_underlying hu, Result.andThen_ok, sizeOf, typeInfo, run_program, hi, Sem.run_pure]
              simp only [Nat.zero_mul, List.drop_zero] at key
              rw [Std.Legacy.Range.forIn_eq_forIn_range']
              simp only [Std.Legacy.Range.size, Nat.sub_zero, Nat.add_sub_cancel, Nat.div_one]
              rw [key]
              cases eqCells xs ys <;> simp
          · cases h
        · cases h
      | _ => cases h

/-- '==' and '!=' of two values of a type all of whose cells are integers and bools -/
theorem run_eql_leaves {t : TypeId} {l : List Lk} (h : leaves P 100 t = some l) {xs ys : List Value} (hx : Fits l xs) (hy : Fits l ys) (hagg : mkV P t xs = .agg xs.toArray) (hagg2 : mkV P t ys = .agg ys.toArray) (w : World) :
    (binOp .eql t (.agg xs.toArray) (.agg ys.toArray)).run P w = .ok (.bool (eqCells xs ys)) w := by
  rw [run_eql_struct, ← hagg, ← hagg2, equalIn_leaves 100 t l h 10000 (by omega) xs ys hx hy]; rfl
theorem run_neq_leaves {t : TypeId} {l : List Lk} (h : leaves P 100 t = some l) {xs ys : List Value} (hx : Fits l xs) (hy : Fits l ys) (hagg : mkV P t xs = .agg xs.toArray) (hagg2 : mkV P t ys = .agg ys.toArray) (w : World) :
    (binOp .neq t (.agg xs.toArray) (.agg ys.toArray)).run P w = .ok (.bool (!eqCells xs ys)) w := by
  rw [run_neq_struct, ← hagg, ← hagg2, equalIn_leaves 100 t l h 10000 (by omega) xs ys hx hy]; rfl
end
end Go.Proofs.YtoideahgjgaddaaGreat
