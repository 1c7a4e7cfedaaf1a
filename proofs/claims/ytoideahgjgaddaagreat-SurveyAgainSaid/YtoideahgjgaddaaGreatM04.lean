/- Helpers of the proofs about ostrakonlaw11, proved here: Walk, Fn, Types. No condition. -/
import Derived.Test.YtoideahgjgaddaaGreatM03
set_option linter.unusedVariables false
set_option linter.unusedSimpArgs false
set_option linter.unusedSectionVars false
set_option linter.unnecessarySimpa false
namespace Go.Proofs.YtoideahgjgaddaaGreat
open Go
/-- when an operation is done -/
def gd (ops : List Oper) (E : Env) (o : Oper) : Option G := match o.guard with
  | none => some .tt
  | some (j, want) => match lget ops j with
    | some oj => match oj.dst with
      | some d => match E.get d with
        | some ⟨_, .bool b, _, .tt⟩ => match want with
          | true => some (.when b)
          | false => some (.when (!b))
        | some ⟨_, .bool b, _, .when c⟩ => match want with
          | true => some (.when (c && b))
          | false => some (.when (c && !b))
        | _ => none
      | none => none
    | none => none
def wrapG : G → List Prop → List Prop
  | .tt, l => l
  | .when _, [] => []
  | .when b, p :: r => [b = true → Conj (p :: r)]
def cget : Cl → Nat → Option Atom
  | [], _ => none
  | (j, A) :: r, i => match Nat.beq j i with
    | true => some A
    | false => cget r i
/-- what is read is of those parts that stay -/
def rdC (C : Cl) (L : List Atom) : Nat → List Prop
  | 0 => []
  | i + 1 => [cget C i = lget L i]
/-- those parts still stand -/
def stays : Cl → List Atom → List Prop
  | [], _ => []
  | (i, A) :: r, L => (lget L i = some A) :: stays r L
def staysL (l : Bool) (C : Cl) (L : List Atom) : List Prop := match l with
  | true => []
  | false => stays C L
structure SR where
  E : Env
  L : List Atom
  ob : List Prop
  k : Nat
def putE (N : Nat) (dst : Option Tmp) (v : Value) (tag : Nat) (g : G) (E : Env) : Option Env := match dst with
  | none => some E
  | some d => match Nat.blt d N with
    | true => some (⟨d, v, tag, g⟩ :: E)
    | false => none
def takeStep (T : Tab) (N : Nat) (ops : List Oper) (C : Cl) (p : Bool) (i : Nat) (E : Env) (L : List Atom) (k : Nat) : Option SR := match lget ops i with
  | some o => match gd ops E o, look T E L o.op with
    | some g, some ⟨v, tag, ob, rd⟩ => match putE N o.dst v tag g E with
      | some E' => match p, rd with
        | true, 0 => some ⟨E', L, wrapG g ob, k⟩
        | true, _ + 1 => none
        | false, rd => some ⟨E', L, wrapG g (rdC C L rd ++ ob), k⟩
      | none => none
    | _, _ => none
  | none => none
def altStep (T : Tab) (N : Nat) (bs : Nat → Nat) (ops : List Oper) (C : Cl) (l : Bool) (i : Nat) (E : Env) (L : List Atom) (k : Nat) : Option SR := match lget ops i with
  | some o => match gd ops E o with
    | some g => match look T E L o.op with
      | some ⟨v, tag, ob, _⟩ => match putE N o.dst v tag g E with
        | some E' => some ⟨E', L, staysL l C L ++ wrapG g ob, k⟩
        | none => none
      | none => match g with
        | .tt => match eff T bs E L k o.op with
          | some ⟨v, tag, L', ob, k'⟩ => match putE N o.dst v tag .tt E with
            | some E' => some ⟨E', L', staysL l C L' ++ ob, k'⟩
            | none => none
          | none => none
        | _ => none
    | none => none
  | none => none
section
variable {P : Program} {T : Tab} {E : Env} {L : List Atom} {n : Nat} {a : Act} {w : World}
theorem gd_spec {ops : Array Oper} {o : Oper} {g : G} (he : EnvOK n E a) (h : gd ops.toList E o = some g) : Region.wanted o (yielded ops a.tmps) = g.on := by
  unfold gd at h
  unfold Region.wanted
  split at h
  · rename_i hg
    injection h with h; subst h
    simp [hg, G.on]
  · rename_i j want hg
    split at h
    · rename_i oj hj
      rw [lget_eq] at hj
      have hj' : ops[j]? = some oj := by simpa using hj
      split at h
      · rename_i d hd
        have hy : ∀ s, E.get d = some s → yielded ops a.tmps j = match s.val with | .bool b => some b | _ => none := fun s hs => by
          have := he.slot d s hs
          simp only [yielded, hj', Option.bind_some, hd, this]
          cases s.val <;> rfl
        split at h
        · rename_i k b t hs
          have := hy _ hs
          simp only [Slot.val, G.on] at this
          simp only [hg, this]
          split at h <;> injection h with h <;> subst h <;> cases b <;> rfl
        · rename_i k b t c hs
          have := hy _ hs
          simp only [Slot.val, G.on] at this
          simp only [hg]
          split at h <;> injection h with h <;> subst h <;> cases c <;> cases b <;> simp only [this] <;> rfl
        · cases h
      · cases h
    · cases h
theorem wrapG_spec {g : G} {l : List Prop} (h : Conj (wrapG g l)) (hg : g.on = true) : Conj l := by
  cases g with
  | tt => exact h
  | when b =>
    cases l with
    | nil => trivial
    | cons p r => exact h.1 hg
theorem putE_spec {N : Nat} {dst : Option Tmp} {v : Value} {tag : Nat} {g : G} {E' : Env} (he : EnvOK N E a) (h : putE N dst v tag g E = some E') (u : Value) (hu : u = match g.on with | true => v | false => undef) : EnvOK N E' (a.put dst u) := by
  unfold putE at h
  split at h
  · injection h with h; subst h; exact he
  · rename_i d
    split at h
    · rename_i hd
      injection h with h; subst h
      exact he.put (Nat.le_of_ble_eq_true hd) v tag g u hu
    · cases h
theorem cget_mem : ∀ {C : Cl} {i : Nat} {A : Atom}, cget C i = some A → (i, A) ∈ C
  | (j, B) :: r, i, A, h => by
    simp only [cget] at h
    split at h
    · rename_i e
      have := Nat.eq_of_beq_eq_true e; subst this
      injection h with h; subst h
      exact List.mem_cons_self ..
    · exact List.mem_cons_of_mem _ (cget_mem h)
theorem stays_spec : ∀ {C : Cl} {L : List Atom} {w : World}, Conj (stays C L) → Sep L (hl w) → CAt C w
  | [], L, w, h, hs => by intro p hp; cases hp
  | (i, A) :: r, L, w, h, hs => by
    intro p hp
    rcases List.mem_cons.1 hp with rfl | hp
    · have := h.1
      rw [lget_eq] at this
      exact hs.get this
    · exact stays_spec h.2 hs p hp
theorem staysL_spec {l : Bool} {C : Cl} {L : List Atom} {w : World} (h : Conj (staysL l C L)) (hs : Sep L (hl w)) (e : l = false) : CAt C w := by
  subst e; exact stays_spec h hs
theorem takeStep_spec (hT : TabOK P T) {N : Nat} {ops : Array Oper} {C : Cl} {p : Bool} {i k : Nat} {r : SR} (h : takeStep T N ops.toList C p i E L k = some r) (hob : Conj r.ob) :
    r.L = L ∧ r.k = k ∧ ∃ o, ops[i]? = some o ∧ ∀ a, EnvOK N E a → ∃ v, YldIn P ops (fun w => p = false → CAt C w) o v a ∧ EnvOK N r.E (a.put o.dst v) := by
  unfold takeStep at h
  split at h
  · rename_i o ho
    rw [lget_eq] at ho
    have ho' : ops[i]? = some o := by simpa using ho
    split at h
    · rename_i g v tag ob rd hg hq
      split at h
      · rename_i E' hE
        split at h
        · injection h with h; subst h
          refine ⟨rfl, rfl, o, ho', fun a he => ⟨_, ?_, putE_spec he hE _ rfl⟩⟩
          have hw := gd_spec he hg
          cases hon : g.on with
          | false => exact .inr ⟨by rw [hw, hon], rfl⟩
          | true => exact .inl ⟨by rw [hw, hon], fun w _ => look_run hT he hq (wrapG_spec hob hon) fun i A hi hA => by cases hi⟩
        · cases h
        · injection h with h; subst h
          refine ⟨rfl, rfl, o, ho', fun a he => ⟨_, ?_, putE_spec he hE _ rfl⟩⟩
          have hw := gd_spec he hg
          cases hon : g.on with
          | false => exact .inr ⟨by rw [hw, hon], rfl⟩
          | true =>
            have hob2 := wrapG_spec hob hon
            obtain ⟨o1, o2⟩ := Conj.app hob2
            refine .inl ⟨by rw [hw, hon], fun w hC => look_run hT he hq o2 fun i A hi hA => ?_⟩
            have hi' : rd = i + 1 := hi
            rw [hi'] at o1
            have h1 := o1.1
            rw [lget_eq, hA] at h1
            exact hC rfl _ (cget_mem h1)
      · cases h
    · cases h
  · cases h
theorem altStep_spec (hT : TabOK P T) {N : Nat} {bs : Nat → Nat} {ops : Array Oper} {C : Cl} {l : Bool} {i k : Nat} {r : SR} (h : altStep T N bs ops.toList C l i E L k = some r) (hob : Conj r.ob) :
    ∃ o, ops[i]? = some o ∧ ∀ a w, EnvOK N E a → Sep L (hl w) → (r.k = k ∨ bs k = w.heap.size) → sOp P ops o (fun a' w' => (l = false → CAt C w') ∧ EnvOK N r.E a' ∧ Sep r.L (hl w') ∧ Ext w w') a w := by
  unfold altStep at h
  split at h
  · rename_i o ho
    rw [lget_eq] at ho
    have ho' : ops[i]? = some o := by simpa using ho
    split at h
    · rename_i g hg
      split at h
      · rename_i v tag ob rd hq
        split at h
        · rename_i E' hE
          injection h with h; subst h
          obtain ⟨o1, o2⟩ := Conj.app hob
          refine ⟨o, ho', fun a w he hs _ => ?_⟩
          have hw := gd_spec he hg
          unfold sOp
          cases hon : g.on with
          | false =>
            rw [if_neg (by rw [hw, hon]; simp)]
            exact ⟨staysL_spec o1 hs, putE_spec he hE _ (by rw [hon]), hs, Ext.refl _⟩
          | true =>
            rw [if_pos (by rw [hw, hon]), look_run hT he hq (wrapG_spec o2 hon) fun i A _ hA => hs.get hA]
            exact ⟨staysL_spec o1 hs, putE_spec he hE _ (by rw [hon]), hs, Ext.refl _⟩
        · cases h
      · split at h
        · split at h
          · rename_i v tag L' ob k' hq
            split at h
            · rename_i E' hE
              injection h with h; subst h
              obtain ⟨o1, o2⟩ := Conj.app hob
              refine ⟨o, ho', fun a w he hs hk => ?_⟩
              have hw := gd_spec he hg
              obtain ⟨nv, w', r1, r2, r3, r4⟩ := eff_run hT he hq o2 hs hk
              unfold sOp
              rw [if_pos (by rw [hw]; rfl), r1]
              rcases r2 with rfl | ⟨rfl, r2⟩
              · exact ⟨staysL_spec o1 r3, putE_spec he hE _ rfl, r3, r4⟩
              · exact ⟨staysL_spec o1 r3, putE_spec he hE _ (by simp only at r2; rw [r2]; rfl), r3, r4⟩
            · cases h
          · cases h
        · cases h
    · cases h
  · cases h
end

theorem eff_congr {T : Tab} {b0 bs : Nat → Nat} {E : Env} {L : List Atom} {k : Nat} {op : Op} {r : ER} (h : eff T b0 E L k op = some r) : (r.k = k ∨ r.k = k + 1) ∧ ((k < r.k → bs k = b0 k) → eff T bs E L k op = some r) := by
  unfold eff at h ⊢
  split at h
  · split at h
    · rename_i s s' h1 h2
      refine ⟨.inl ?_, fun _ => by first | exact h | (rw [h1, h2]; exact h) | (simp only [h1, h2]; exact h)⟩
      unfold efStore at h
      (repeat' split at h) <;> first | (cases h; done) | (injection h with h; subst h; rfl)
    · cases h
  · split at h
    · rename_i h1
      split at h
      · rename_i h2
        injection h with h; subst h
        exact ⟨.inr rfl, fun hb => by simp only [h1, hb (Nat.lt_succ_self k), h2]⟩
      · cases h
    · cases h
  · split at h
    · rename_i h1
      split at h
      · rename_i h2
        injection h with h; subst h
        exact ⟨.inr rfl, fun hb => by simp only [h1, hb (Nat.lt_succ_self k), h2]⟩
      · cases h
    · cases h
  · unfold efBuildSlice at h ⊢
    split at h
    · rename_i h1 h2
      split at h
      · rename_i h3
        split at h
        · rename_i h4 h5 h6
          split at h
          · rename_i h7
            injection h with h; subst h
            exact ⟨.inr rfl, fun hb => by simp only [h1, h2, h3, h4, h5, h6, hb (Nat.lt_succ_self k), h7]⟩
          · cases h
        · cases h
      · cases h
    · cases h
  · split at h
    · rename_i h2
      injection h with h; subst h
      exact ⟨.inr rfl, fun hb => by rw [hb (Nat.lt_succ_self k)]; simp only [h2]⟩
    · cases h
  · cases h
theorem altStep_congr {T : Tab} {N : Nat} {b0 bs : Nat → Nat} {ops : List Oper} {C : Cl} {l : Bool} {i k : Nat} {E : Env} {L : List Atom} {r : SR} (h : altStep T N b0 ops C l i E L k = some r) : (r.k = k ∨ r.k = k + 1) ∧ ((k < r.k → bs k = b0 k) → altStep T N bs ops C l i E L k = some r) := by
  unfold altStep at h ⊢
  split at h
  · rename_i o ho
    split at h
    · rename_i g hg
      split at h
      · rename_i q hq
        split at h
        · rename_i E' hE
          injection h with h; subst h
          exact ⟨.inl rfl, fun _ => by simp only [ho, hg, hq, hE]⟩
        · cases h
      · rename_i hq
        split at h
        · split at h
          · rename_i q hq2
            split at h
            · rename_i E' hE
              injection h with h; subst h
              obtain ⟨c1, c2⟩ := eff_congr (bs := bs) hq2
              exact ⟨c1, fun hb => by simp only [ho, hg, hq, c2 hb, hE]⟩
            · cases h
          · cases h
        · cases h
    · cases h
  · cases h
def tell {α : Type} : List Prop → (List Prop → α) → α
  | [], f => f []
  | p :: r, f => tell r fun l => f (p :: l)
theorem tell_eq {α : Type} : ∀ (l : List Prop) (f : List Prop → α), tell l f = f l
  | [], f => rfl
  | p :: r, f => by rw [tell, tell_eq r]
structure RS where
  K : List KI
  E : Env
  L : List Atom
  ob : List Prop
def run (T : Tab) (N : Nat) (bs : Nat → Nat) : Nat → List KI → Env → List Atom → List Prop → Nat → RS
  | 0, K, E, L, ob, _ => ⟨K, E, L, ob⟩
  | n + 1, K, E, L, ob, k => match K with
    | .blk _ :: K' => run T N bs n K' E L ob k
    | .code (.seq x y) :: K' => run T N bs n (.code x :: .code y :: K') E L ob k
    | .code .skip :: K' => run T N bs n K' E L ob k
    | .code (.block id c) :: K' => run T N bs n (.code c :: .blk id :: K') E L ob k
    | .code (.exit id) :: K' => match exitK id K' with
      | some K2 => run T N bs n K2 E L ob k
      | none => ⟨.code (.exit id) :: K', E, L, ob⟩
    | .code (.region _ ops false) :: K' => run T N bs n (.reg ops [] (PT.seq 0 ops.size) :: K') E L ob k
    | .reg _ _ .done :: K' => run T N bs n K' E L ob k
    | .reg ops C (.take p i t) :: K' => match takeStep T N ops.toList C p i E L k with
      | some ⟨E', L', ob', k'⟩ => tell (ob' ++ ob) fun ob2 => run T N bs n (.reg ops C t :: K') E' L' ob2 k'
      | none => ⟨.reg ops C (.take p i t) :: K', E, L, ob⟩
    | .reg ops C (.alt l i t .non) :: K' => match altStep T N bs ops.toList C l i E L k with
      | some ⟨E', L', ob', k'⟩ => tell (ob' ++ ob) fun ob2 => run T N bs n (.reg ops C t :: K') E' L' ob2 k'
      | none => ⟨.reg ops C (.alt l i t .non) :: K', E, L, ob⟩
    | K => ⟨K, E, L, ob⟩
theorem run_sound {X : Cx} {T : Tab} (hT : TabOK X.P T) : ∀ (n : Nat) (K : List KI) (E : Env) (L : List Atom) (ob : List Prop) (k : Nat) (b0 : Nat → Nat),
    (∀ bs : Nat → Nat, (∀ i, i < k → bs i = b0 i) → Conj (run T X.n bs n K E L ob k).ob ∧ J X (run T X.n bs n K E L ob k).K (run T X.n bs n K E L ob k).E (run T X.n bs n K E L ob k).L) → Conj ob ∧ J X K E L := by
  intro n
  induction n with
  | zero => intro K E L ob k b0 h; exact h b0 (fun _ _ => rfl)
  | succ n ih =>
    intro K E L ob k b0 h
    unfold run at h
    split at h
    · obtain ⟨h1, h2⟩ := ih _ _ _ _ k b0 h; exact ⟨h1, J.blk h2⟩
    · obtain ⟨h1, h2⟩ := ih _ _ _ _ k b0 h; exact ⟨h1, J.seq h2⟩
    · obtain ⟨h1, h2⟩ := ih _ _ _ _ k b0 h; exact ⟨h1, J.skip h2⟩
    · obtain ⟨h1, h2⟩ := ih _ _ _ _ k b0 h; exact ⟨h1, J.block h2⟩
    · rename_i id K'
      cases hx : exitK id K' with
      | some K2 => simp only [hx] at h; obtain ⟨h1, h2⟩ := ih _ _ _ _ k b0 h; exact ⟨h1, J.exit hx h2⟩
      | none => simp only [hx] at h; exact h b0 (fun _ _ => rfl)
    · obtain ⟨h1, h2⟩ := ih _ _ _ _ k b0 h; exact ⟨h1, J.code_reg h2⟩
    · obtain ⟨h1, h2⟩ := ih _ _ _ _ k b0 h; exact ⟨h1, J.reg_done h2⟩
    · rename_i ops C p i t K'
      cases hs : takeStep T X.n ops.toList C p i E L k with
      | none => simp only [hs] at h; exact h b0 (fun _ _ => rfl)
      | some r =>
        obtain ⟨E', L', ob', k'⟩ := r
        simp only [hs, tell_eq] at h
        have hk : k' = k := by
          unfold takeStep at hs
          (repeat' split at hs) <;> first | (cases hs; done) | (injection hs with hs; injection hs with _ _ _ e; exact e.symm)
        subst hk
        obtain ⟨h1, h2⟩ := ih _ _ _ _ k' b0 h
        obtain ⟨o2, o1⟩ := Conj.app h1
        refine ⟨o1, fun a w hx he hsp => ?_⟩
        obtain ⟨e1, _, o, ho, hy⟩ := takeStep_spec (P := X.P) hT hs o2
        obtain ⟨v, y1, y2⟩ := hy a he
        simp only at e1
        subst e1
        exact ⟨o, v, ho, y1, h2 _ w hx y2 hsp⟩
    · rename_i ops C l i t K'
      refine ⟨?_, fun a w hx he hsp => ?_⟩
      · have := h b0 (fun _ _ => rfl)
        cases hs : altStep T X.n b0 ops.toList C l i E L k with
        | none => simp only [hs] at this; exact this.1
        | some r =>
          obtain ⟨E', L', ob', k'⟩ := r
          have hk : k ≤ k' := by rcases (altStep_congr (bs := b0) hs).1 with e | e <;> simp only at e <;> omega
          have h' : ∀ bs : Nat → Nat, (∀ i, i < k' → bs i = b0 i) → Conj (run T X.n bs n (.reg ops C t :: K') E' L' (ob' ++ ob) k').ob ∧ J X (run T X.n bs n (.reg ops C t :: K') E' L' (ob' ++ ob) k').K (run T X.n bs n (.reg ops C t :: K') E' L' (ob' ++ ob) k').E (run T X.n bs n (.reg ops C t :: K') E' L' (ob' ++ ob) k').L := fun bs hb => by
            have := h bs (fun i hi => hb i (by omega))
            rw [(altStep_congr (bs := bs) hs).2 (fun e => hb k e)] at this
            simpa only [tell_eq] using this
          exact (Conj.app (ih _ _ _ _ k' b0 h').1).2
      · let b1 : Nat → Nat := fun i => if i = k then w.heap.size else b0 i
        have hb1 : ∀ i, i < k → b1 i = b0 i := fun i hi => by show (if i = k then _ else _) = _; rw [if_neg (by omega)]
        have hbk : b1 k = w.heap.size := by show (if k = k then _ else _) = _; rw [if_pos rfl]
        cases hs : altStep T X.n b1 ops.toList C l i E L k with
        | none => have := h b1 hb1; simp only [hs] at this; exact this.2 a w hx he hsp
        | some r =>
          obtain ⟨E', L', ob', k'⟩ := r
          have hk : k ≤ k' := by rcases (altStep_congr (bs := b0) hs).1 with e | e <;> simp only at e <;> omega
          have h' : ∀ bs : Nat → Nat, (∀ i, i < k' → bs i = b1 i) → Conj (run T X.n bs n (.reg ops C t :: K') E' L' (ob' ++ ob) k').ob ∧ J X (run T X.n bs n (.reg ops C t :: K') E' L' (ob' ++ ob) k').K (run T X.n bs n (.reg ops C t :: K') E' L' (ob' ++ ob) k').E (run T X.n bs n (.reg ops C t :: K') E' L' (ob' ++ ob) k').L := fun bs hb => by
            have := h bs (fun i hi => (hb i (by omega)).trans (hb1 i hi))
            rw [(altStep_congr (bs := bs) hs).2 (fun e => hb k e)] at this
            simpa only [tell_eq] using this
          obtain ⟨h1, h2⟩ := ih _ _ _ _ k' b1 h'
          obtain ⟨o, ho, hstep⟩ := altStep_spec (P := X.P) hT hs (Conj.app h1).1
          exact ⟨⟨o, ho, (hstep a w he hsp (.inr hbk)).mono fun a' w' ⟨q1, q2, q3, q4⟩ => ⟨q1, h2 a' w' (hx.trans q4) q2 q3⟩⟩, trivial⟩
    · exact h b0 (fun _ _ => rfl)
end Go.Proofs.YtoideahgjgaddaaGreat
namespace Go.Proofs.YtoideahgjgaddaaGreat
open Go Go.RowKit
def subL (E : Env) : Env → List Prop
  | [] => []
  | s :: r => (E.get s.k = some s) :: subL E r
theorem Env.sub_of {E : Env} : ∀ {E' : Env}, Conj (subL E E') → E.sub E'
  | [], _, k, s, h => by cases h
  | s' :: r, hc, k, s, h => by
    simp only [Env.get] at h
    split at h
    · rename_i e
      have := Nat.eq_of_beq_eq_true e
      injection h with h; subst h
      rw [← this]; exact hc.1
    · exact Env.sub_of hc.2 k s h
structure IsCx (X : Cx) (P : Program) (rs : List ResultVar) (N : Nat) (F : HP) (Post : Value → List Atom → Prop) : Prop where
  hP : X.P = P
  hrs : X.fn.results.toList = rs
  hN : X.n = N
  hR : X.R = fun e w' => ∃ v As, e = .returned v ∧ Post v As ∧ Sep (.hp F :: As) (hl w') ∧ Ext X.w0 w'
def argsE : List Nat → List Value → List Nat → Env
  | k :: ks, v :: r, [] => ⟨k, v, 0, .tt⟩ :: argsE ks r []
  | k :: ks, v :: r, t :: ts => ⟨k, v, t, .tt⟩ :: argsE ks r ts
  | _, _, _ => []
def keys : List Nat := [0, 1, 2, 3, 4, 5, 6, 7, 8, 9, 10, 11]
def Runs : List Nat → Nat → Prop
  | [], _ => True
  | k :: ks, n => k = n ∧ Runs ks (n + 1)
theorem argsE_get : ∀ (l : List Value) (k : Nat) (ks : List Nat) (ts : List Nat) (j : Nat) (s : Slot), Runs ks k → (argsE ks l ts).get j = some s → ∃ i, j = k + i ∧ l[i]? = some s.val
  | [], k, ks, ts, j, s, _, h => by cases ks <;> simp [argsE, Env.get] at h
  | v :: r, k, [], ts, j, s, _, h => by simp [argsE, Env.get] at h
  | v :: r, k, k' :: ks, ts, j, s, hr, h => by
    have key : ∀ (t : Nat) (ts' : List Nat), Env.get (⟨k', v, t, .tt⟩ :: argsE ks r ts') j = some s → ∃ i, j = k + i ∧ (v :: r)[i]? = some s.val := by
      intro t ts' h
      simp only [Env.get] at h
      split at h
      · rename_i e
        have := Nat.eq_of_beq_eq_true e
        injection h with h; subst h
        exact ⟨0, by rw [← this, hr.1]; rfl, by simp [Slot.val, G.on]⟩
      · obtain ⟨i, e1, e2⟩ := argsE_get r (k + 1) ks ts' j s hr.2 h
        exact ⟨i + 1, by omega, by simpa using e2⟩
    cases ts with
    | nil => exact key _ _ h
    | cons t ts => exact key _ _ h
/-- a function is shown -/
theorem Fn.enter {P : Program} {f : FuncId} {args : List Value} {Pre : List Atom} {Post : Value → List Atom → Prop} {fn : Func} {c : Code} {N : Nat} (tags : List Nat) (hf : P.funcs[f]? = some fn) (hb : fn.body = some c) (hN : fn.ntmps = N) (hl : Nat.ble args.length N = true)
    (h : ∀ (X : Cx) (F : HP), IsCx X P fn.results.toList N F Post → J X [.code c] (argsE keys args tags) (.hp F :: Pre)) : Fn P f args Pre Post := by
  intro F w hs
  have hle := Nat.le_of_ble_eq_true hl
  have hX : IsCx ⟨P, fn, N, fun e w' => ∃ v As, e = .returned v ∧ Post v As ∧ Sep (.hp F :: As) (Go.Proofs.YtoideahgjgaddaaGreat.hl w') ∧ Ext w w', w⟩ P fn.results.toList N F Post := ⟨rfl, rfl, rfl, rfl⟩
  have hJ := h _ F hX
  refine calls_of_wp hf hb ?_
  refine hJ { tmps := args.toArray ++ Array.replicate (fn.ntmps - args.toArray.size) undef, defers := [] } w (Ext.refl w) ⟨by simp; omega, rfl, fun k s hk => ?_⟩ hs
  obtain ⟨i, e1, e2⟩ := argsE_get args 0 keys tags k s ⟨rfl, rfl, rfl, rfl, rfl, rfl, rfl, rfl, rfl, rfl, rfl, rfl, trivial⟩ hk
  have hi : i < args.length := (List.getElem?_eq_some_iff.1 e2).1
  have : k = i := by omega
  subst this
  rw [Array.getElem?_append, if_pos (by simpa using hi)]
  simpa using e2
section
variable {X : Cx} {P : Program} {T : Tab} {K : List KI} {E : Env} {L : List Atom} {N : Nat} {F : HP} {Post : Value → List Atom → Prop} {rs : List ResultVar}
theorem J.run (hX : IsCx X P rs N F Post) (hT : TabOK P T) (n : Nat) {K' : (Nat → Nat) → List KI} {E' : (Nat → Nat) → Env} {L' : (Nat → Nat) → List Atom} {ob : (Nat → Nat) → List Prop}
    (h : ∀ bs, Go.Proofs.YtoideahgjgaddaaGreat.run T N bs n K E L [] 0 = ⟨K' bs, E' bs, L' bs, ob bs⟩) (hob : ∀ bs, Conj (ob bs)) (hJ : ∀ bs, J X (K' bs) (E' bs) (L' bs)) : J X K E L := by
  have hT' : TabOK X.P T := by rw [hX.hP]; exact hT
  refine (run_sound hT' n K E L [] 0 (fun _ => 0) fun bs _ => ?_).2
  rw [hX.hN, h bs]
  exact ⟨hob bs, hJ bs⟩
theorem J.r (hX : IsCx X P rs N F Post) (hT : TabOK P T) (n : Nat) {K' : (Nat → Nat) → List KI} {E' : (Nat → Nat) → Env} {L' : (Nat → Nat) → List Atom} {ob : (Nat → Nat) → List Prop}
    (h : ∀ bs, Go.Proofs.YtoideahgjgaddaaGreat.run T N bs n K E L [] 0 = ⟨K' bs, E' bs, L' bs, ob bs⟩) (hJ : ∀ bs, J X (K' bs) (E' bs) (L' bs)) (hob : ∀ bs, Conj (ob bs) := by intro bs; (repeat' (first | exact Conj.nil | refine Conj.cons ?_ ?_ | omega | exact hq0 | (simpa using hq0) | (exact fun h => h) | exact rfl | (intro hq; have hq0 := hq; try simp only [Bool.and_eq_true, Bool.or_eq_true, decide_eq_true_eq, Bool.not_eq_true', decide_eq_false_iff_not] at hq) | (simp; done) | (simp; omega) | decide))) : J X K E L := J.run hX hT n h hob hJ
/-- a loop in which some parts change: x tells where it stands -/
theorem J.loopN {c : Code} {α : Type} (I : α → Prop) (Ei : α → Env) (is : List Nat) (As : α → List Atom) (μ : α → Nat) (x0 : α) {Li : α → List Atom} (h0 : I x0) (hE : Conj (subL E (Ei x0))) (ok : okIdx L is = true) (hA : picks L is = As x0) (hLi : ∀ x, lupd L is (As x) = some (Li x))
    (round : ∀ x, I x → J X (.code c :: .stop (fun a w => Ext X.w0 w ∧ ∃ x', I x' ∧ μ x' < μ x ∧ EnvOK X.n (Ei x') a ∧ Sep (Li x') (hl w)) :: K) (Ei x) (Li x)) : J X (.code (.loop c) :: K) E L :=
  J.loop I Ei Li μ x0 h0 (Env.sub_of hE) (fun h s => by
    have := s.turn1 is ok (As := As x0) (fun h' s' => by rw [hA] at s'; exact s')
    rwa [← lupd_eq (okIdx_spec ok).1 (hLi x0)] at this) round
theorem J.lo {c : Code} {α : Type} (I : α → Prop) (Ei : α → Env) (is : List Nat) (As : α → List Atom) (μ : α → Nat) (x0 : α) {Li : α → List Atom} (h0 : I x0) (ok : okIdx L is = true) (hA : picks L is = As x0) (hLi : ∀ x, lupd L is (As x) = some (Li x))
    (round : ∀ x, I x → J X (.code c :: .stop (fun a w => Ext X.w0 w ∧ ∃ x', I x' ∧ μ x' < μ x ∧ EnvOK X.n (Ei x') a ∧ Sep (Li x') (hl w)) :: K) (Ei x) (Li x)) (hE : Conj (subL E (Ei x0)) := by (repeat' (first | exact Conj.nil | refine Conj.cons ?_ ?_ | omega | exact hq0 | (simpa using hq0) | (exact fun h => h) | exact rfl | (intro hq; have hq0 := hq; try simp only [Bool.and_eq_true, Bool.or_eq_true, decide_eq_true_eq, Bool.not_eq_true', decide_eq_false_iff_not] at hq) | (simp; done) | (simp; omega) | decide))) : J X (.code (.loop c) :: K) E L := J.loopN I Ei is As μ x0 h0 hE ok hA hLi round
theorem J.next {α : Type} {I : α → Prop} {Ei : α → Env} {Li : α → List Atom} {μ : α → Nat} {m : Nat} (x : α) (h1 : I x) (h2 : μ x < m) (h3 : Conj (subL E (Ei x))) (h4 : ∀ h, Sep L h → Sep (Li x) h) :
    J X (.stop (fun a w => Ext X.w0 w ∧ ∃ x', I x' ∧ μ x' < m ∧ EnvOK X.n (Ei x') a ∧ Sep (Li x') (hl w)) :: K) E L := J.stop x h1 h2 (Env.sub_of h3) h4
theorem J.nx {α : Type} {I : α → Prop} {Ei : α → Env} {Li : α → List Atom} {μ : α → Nat} {m : Nat} (x : α) (h1 : I x) (h2 : μ x < m) (h4 : ∀ h, Sep L h → Sep (Li x) h) (h3 : Conj (subL E (Ei x)) := by (repeat' (first | exact Conj.nil | refine Conj.cons ?_ ?_ | omega | exact hq0 | (simpa using hq0) | (exact fun h => h) | exact rfl | (intro hq; have hq0 := hq; try simp only [Bool.and_eq_true, Bool.or_eq_true, decide_eq_true_eq, Bool.not_eq_true', decide_eq_false_iff_not] at hq) | (simp; done) | (simp; omega) | decide))) :
    J X (.stop (fun a w => Ext X.w0 w ∧ ∃ x', I x' ∧ μ x' < m ∧ EnvOK X.n (Ei x') a ∧ Sep (Li x') (hl w)) :: K) E L := J.next x h1 h2 h3 h4
/-- the results -/
def resV1 (T : Tab) (E : Env) (L : List Atom) : ResultVar → Option (Value × List Prop)
  | .tmp t => match E.get t with
    | some s => some (s.v, valid s)
    | none => none
  | .cell p t => match E.get p with
    | some s => match lkLoad T L t s with
      | some r => some (r.v, r.ob)
      | none => none
    | none => none
def resVs (T : Tab) (E : Env) (L : List Atom) : List ResultVar → Option (List Value × List Prop)
  | [] => some ([], [])
  | r :: l => match resV1 T E L r, resVs T E L l with
    | some (v, ob), some (vs, obs) => some (v :: vs, ob ++ obs)
    | _, _ => none
def resV (T : Tab) (E : Env) (L : List Atom) (rs : List ResultVar) : Option (Value × List Prop) := match resVs T E L rs with
  | some ([v], ob) => some (v, ob)
  | some (vs, ob) => some (.tuple vs.toArray, ob)
  | none => none
theorem KW_ret {a : Act} {w : World} : ∀ K : List KI, bodyPost X.P X.fn X.R .ret a w → KW X K .ret a w
  | [], h => h
  | .code c :: K, h => KW_ret K h
  | .reg o C t :: K, h => KW_ret K h
  | .blk id :: K, h => KW_ret K h
  | .stop R :: K, h => KW_ret K h
def resF (tmps : Array Value) : ResultVar → Sem Value
  | .tmp t => pure (tmps.getD t undef)
  | .cell p t => do loadVar t (← asAddr (tmps.getD p undef))
theorem results_eq (fn : Func) (tmps : Array Value) : results fn tmps = (do
    let vs ← fn.results.mapM (resF tmps)
    pure (if h : vs.size = 1 then vs[0] else .tuple vs)) := rfl
theorem resVs_run (hT : TabOK P T) {a : Act} {w : World} {n : Nat} (he : EnvOK n E a) (hs : Sep L (hl w)) : ∀ {rs : List ResultVar} {vs : List Value} {ob : List Prop}, resVs T E L rs = some (vs, ob) → Conj ob →
    (rs.mapM (resF a.tmps)).run P w = .ok vs w
  | [], vs, ob, h, _ => by simp only [resVs, Option.some.injEq, Prod.mk.injEq] at h; obtain ⟨rfl, rfl⟩ := h; simp
  | r :: l, vs, ob, h, hob => by
    simp only [resVs] at h
    split at h
    · rename_i v ob1 vs' ob2 h1 h2
      simp only [Option.some.injEq, Prod.mk.injEq] at h
      obtain ⟨rfl, rfl⟩ := h
      obtain ⟨o1, o2⟩ := Conj.app hob
      have ih := resVs_run hT he hs h2 o2
      have h0 : (resF a.tmps r).run P w = .ok v w := by
        cases r with
        | tmp t =>
          simp only [resV1] at h1
          split at h1
          · rename_i s hg
            simp only [Option.some.injEq, Prod.mk.injEq] at h1
            obtain ⟨rfl, rfl⟩ := h1
            have := he.slot t s hg
            rw [valid_spec o1] at this
            simp [resF, this]
          · cases h1
        | cell p t =>
          simp only [resV1] at h1
          split at h1
          · rename_i s hg
            split at h1
            · rename_i q hq
              simp only [Option.some.injEq, Prod.mk.injEq] at h1
              obtain ⟨rfl, rfl⟩ := h1
              have hv : Conj (valid s) := by
                unfold lkLoad at hq
                (repeat' split at hq) <;> first | (cases hq; done) | (injection hq with hq; subst hq; exact o1.2)
              have := he.slot p s hg
              rw [valid_spec hv] at this
              have hr := lkLoad_run (w := w) hT hq o1 (fun i A _ hA => hs.get hA)
              have hsp : ∃ ad, s.v = .pointer (some ad) := by
                unfold lkLoad at hq
                split at hq
                · exact ⟨_, rfl⟩
                · cases hq
              obtain ⟨ad, had⟩ := hsp
              rw [had] at hr this
              simp only [Instr.loadAt, Instr.sureAddr, Sem.run_bind, Sem.run_pure, Result.andThen_ok] at hr
              simp [resF, this, asAddr, hr]
            · cases h1
          · cases h1
      simp only [List.mapM_cons, Sem.run_bind, h0, Result.andThen_ok, ih, Sem.run_pure]
    · cases h
theorem results_run (hT : TabOK P T) {a : Act} {w : World} {n : Nat} {fn : Func} (he : EnvOK n E a) (hs : Sep L (hl w)) {v : Value} {ob : List Prop} (h : resV T E L fn.results.toList = some (v, ob)) (hob : Conj ob) : (results fn a.tmps).run P w = .ok v w := by
  have key : ∀ {vs : List Value} {ob' : List Prop}, resVs T E L fn.results.toList = some (vs, ob') → Conj ob' → (results fn a.tmps).run P w = .ok (if h : vs.toArray.size = 1 then vs.toArray[0] else .tuple vs.toArray) w := by
    intro vs ob' h1 h2
    have := resVs_run (P := P) (w := w) hT he hs h1 h2
    rw [results_eq, Array.mapM_eq_mapM_toList]
    simp only [map_eq_pure_bind, Sem.run_bind, this, Result.andThen_ok, Sem.run_pure]
  unfold resV at h
  split at h
  · rename_i v' ob' h1
    simp only [Option.some.injEq, Prod.mk.injEq] at h
    obtain ⟨rfl, rfl⟩ := h
    rw [key h1 hob]; simp
  · rename_i vs ob' hne h1
    simp only [Option.some.injEq, Prod.mk.injEq] at h
    obtain ⟨rfl, rfl⟩ := h
    rw [key h1 hob]
    have : vs.toArray.size ≠ 1 := by
      intro e
      match vs, e with
      | [x], _ => exact hne x rfl
    rw [dif_neg this]
  · cases h
theorem Sep.sub {h : Hl} (s : Sep L h) (is : List Nat) (ok : okIdx L is = true) : Sep (picks L is) h := by
  obtain ⟨own, hw⟩ := s.split ok
  exact ⟨fun b => own b - 1, fun j A hA => Atom.up (fun b o hb => by
    rw [res_some] at hb ⊢
    exact ⟨by show own b - 1 = j; omega, hb.2⟩) (hw (j + 1) A (by simpa using hA))⟩
theorem ret_post (hX : IsCx X P rs N F Post) (hT : TabOK P T) {v : Value} {ob : List Prop} (is : List Nat) (h : resV T E L rs = some (v, ob)) (hob : Conj ob) (ok : okIdx L (0 :: is) = true) (h0 : lget L 0 = some (.hp F)) (hP : Post v (picks L is)) {a : Act} {w : World} (hx : Ext X.w0 w) (he : EnvOK X.n E a) (hs : Sep L (hl w)) :
    a.defers = [] ∧ ∃ v, (results X.fn a.tmps).run X.P w = .ok v w ∧ X.R (.returned v) w := by
  refine ⟨he.defers, v, results_run (by rw [hX.hP]; exact hT) he hs (by rw [hX.hrs]; exact h) hob, ?_⟩
  rw [hX.hR]
  refine ⟨v, picks L is, rfl, hP, ?_, hx⟩
  have := hs.sub (0 :: is) ok
  rw [lget_eq] at h0
  simpa [picks, h0] using this
/-- a return -/
theorem J.ret (hX : IsCx X P rs N F Post) (hT : TabOK P T) {v : Value} {ob : List Prop} (is : List Nat) (h : resV T E L rs = some (v, ob)) (hob : Conj ob) (ok : okIdx L (0 :: is) = true) (h0 : lget L 0 = some (.hp F)) (hP : Post v (picks L is)) : J X (.code .ret :: K) E L :=
  fun _ _ hx he hs => wp_ret (KW_ret K (ret_post hX hT is h hob ok h0 hP hx he hs))
theorem J.fin (hX : IsCx X P rs N F Post) (hT : TabOK P T) {v : Value} {ob : List Prop} (is : List Nat) (h : resV T E L rs = some (v, ob)) (hob : Conj ob) (ok : okIdx L (0 :: is) = true) (h0 : lget L 0 = some (.hp F)) (hP : Post v (picks L is)) : J X [] E L :=
  fun _ _ hx he hs => ret_post hX hT is h hob ok h0 hP hx he hs
theorem J.rt (hX : IsCx X P rs N F Post) (hT : TabOK P T) {v : Value} {ob : List Prop} (is : List Nat) (h : resV T E L rs = some (v, ob)) (ok : okIdx L (0 :: is) = true) (h0 : lget L 0 = some (.hp F)) (hP : Post v (picks L is)) (hob : Conj ob := by (repeat' (first | exact Conj.nil | refine Conj.cons ?_ ?_ | omega | exact hq0 | (simpa using hq0) | (exact fun h => h) | exact rfl | (intro hq; have hq0 := hq; try simp only [Bool.and_eq_true, Bool.or_eq_true, decide_eq_true_eq, Bool.not_eq_true', decide_eq_false_iff_not] at hq) | (simp; done) | (simp; omega) | decide))) : J X (.code .ret :: K) E L := J.ret hX hT is h hob ok h0 hP
theorem J.fi (hX : IsCx X P rs N F Post) (hT : TabOK P T) {v : Value} {ob : List Prop} (is : List Nat) (h : resV T E L rs = some (v, ob)) (ok : okIdx L (0 :: is) = true) (h0 : lget L 0 = some (.hp F)) (hP : Post v (picks L is)) (hob : Conj ob := by (repeat' (first | exact Conj.nil | refine Conj.cons ?_ ?_ | omega | exact hq0 | (simpa using hq0) | (exact fun h => h) | exact rfl | (intro hq; have hq0 := hq; try simp only [Bool.and_eq_true, Bool.or_eq_true, decide_eq_true_eq, Bool.not_eq_true', decide_eq_false_iff_not] at hq) | (simp; done) | (simp; omega) | decide))) : J X [] E L := J.fin hX hT is h hob ok h0 hP
/-- which function is called, with what -/
def callV (E : Env) (op : Op) : Option (FuncId × List Value × List Prop) := match op with
  | .call ⟨.value f, args, _⟩ => match ev E f, slots E args.toList with
    | some ⟨k, .func (.func g) fs cs, t, gg⟩, some l => some (g, fs.toList ++ (vals l ++ cs.toList), valid ⟨k, .func (.func g) fs cs, t, gg⟩ ++ valids l)
    | _, _ => none
  | _ => none
def callable (P : Program) (f : FuncId) : Bool := match P.funcs[f]? with
  | some fn => fn.body.isSome && fn.name != "runtime.NumGoroutine"
  | none => false
theorem callV_run {f : FuncId} {vs : List Value} {ob : List Prop} {o : Oper} {a : Act} {w : World} {n : Nat} (he : EnvOK n E a) (hf : callable P f = true) (h : callV E o.op = some (f, vs, ob)) (hob : Conj ob) : (execOp a.eval o).run P w = .ok (.enter f vs.toArray) w := by
  unfold callV at h
  split at h
  · rename_i fo args ts hop
    split at h
    · rename_i k g fs cs t gg l h1 h2
      simp only [Option.some.injEq, Prod.mk.injEq] at h
      obtain ⟨rfl, rfl, rfl⟩ := h
      obtain ⟨o1, o2⟩ := Conj.app hob
      have e1 := evs he h1 o1
      have e2 := slots_spec he h2 o2
      have e3 : args.map a.eval = (vals l).toArray := by apply Array.toList_inj.1; rw [Array.toList_map, e2]
      unfold callable at hf
      split at hf
      · rename_i fn hfn
        simp only [Bool.and_eq_true, Option.isSome_iff_exists, bne_iff_ne, ne_eq] at hf
        obtain ⟨⟨c, hc⟩, hn⟩ := hf
        have hvs : (fs ++ (vals l).toArray ++ cs) = (fs.toList ++ (vals l ++ cs.toList)).toArray := by
          apply Array.toList_inj.1; simp
        simp [execOp, hop, resolve, e1, e3, Deferred.ofValue, invoke, callFunc, hfn, hn, hc, hvs]
      · cases hf
    · cases h
  · cases h
/-- a call -/
theorem J.call (hX : IsCx X P rs N F Post) {ops : Array Oper} {C : Cl} {l : Bool} {i : Nat} {t : PT} {o : Oper} {g : G} {f : FuncId} {vs : List Value} {ob : List Prop} {Pre : List Atom} {Po : Value → List Atom → Prop} {E' : Value → Env}
    (hf : callable P f = true) (c : Fn P f vs Pre Po) (is : List Nat) (tag : Nat) (ho : lget ops.toList i = some o) (hg : gd ops.toList E o = some g) (hgo : g.on = true) (hc : callV E o.op = some (f, vs, ob)) (hob : Conj ob) (ok : okIdx L is = true) (hp : picks L is = Pre)
    (hd : ∀ v, putE N o.dst v tag .tt E = some (E' v)) (hJ : ∀ v As, Po v As → ∃ L', lupd L is As = some L' ∧ Conj (staysL l C L') ∧ J X (.reg ops C t :: K) (E' v) L') : J X (.reg ops C (.alt l i t .non) :: K) E L := by
  intro a w hx he hs
  rw [lget_eq] at ho
  have ho' : ops[i]? = some o := by simpa using ho
  refine ⟨⟨o, ho', ?_⟩, trivial⟩
  have hw := gd_spec he hg
  unfold sOp
  rw [if_pos (by rw [hw]; exact hgo), callV_run (P := X.P) he (by rw [hX.hP]; exact hf) hc hob]
  have hsp := hs.split ok
  rw [hp] at hsp
  have hcall := c (HP.of (drops L is)) w hsp
  rw [← hX.hP] at hcall
  refine Calls.mono hcall fun e w' ⟨v, As, he', hpo, hs', hx'⟩ => ⟨v, he', ?_⟩
  have hs2 := Sep.back ok hs'
  obtain ⟨L', j0, j1, j2⟩ := hJ v As hpo
  rw [← lupd_eq (okIdx_spec ok).1 j0] at hs2
  exact ⟨staysL_spec j1 hs2, j2 _ w' (hx.trans hx') (putE_spec he (by rw [hX.hN]; exact hd v) v rfl) hs2⟩
theorem J.ca (hX : IsCx X P rs N F Post) {ops : Array Oper} {C : Cl} {l : Bool} {i : Nat} {t : PT} {o : Oper} {g : G} {f : FuncId} {vs : List Value} {ob : List Prop} {Pre : List Atom} {Po : Value → List Atom → Prop} {E' : Value → Env}
    (hf : callable P f = true) (c : Fn P f vs Pre Po) (is : List Nat) (tag : Nat) (ho : lget ops.toList i = some o) (hg : gd ops.toList E o = some g) (hgo : g.on = true) (hc : callV E o.op = some (f, vs, ob)) (ok : okIdx L is = true) (hp : picks L is = Pre)
    (hd : ∀ v, putE N o.dst v tag .tt E = some (E' v)) (hJ : ∀ v As, Po v As → ∃ L', lupd L is As = some L' ∧ Conj (staysL l C L') ∧ J X (.reg ops C t :: K) (E' v) L') (hob : Conj ob := by (repeat' (first | exact Conj.nil | refine Conj.cons ?_ ?_ | omega | exact hq0 | (simpa using hq0) | (exact fun h => h) | exact rfl | (intro hq; have hq0 := hq; try simp only [Bool.and_eq_true, Bool.or_eq_true, decide_eq_true_eq, Bool.not_eq_true', decide_eq_false_iff_not] at hq) | (simp; done) | (simp; omega) | decide))) : J X (.reg ops C (.alt l i t .non) :: K) E L := J.call hX hf c is tag ho hg hgo hc hob ok hp hd hJ
/-- an operation whose guard is open -/
theorem J.gcase (hX : IsCx X P rs N F Post) {ops : Array Oper} {C : Cl} {l : Bool} {i : Nat} {t : PT} {o : Oper} {b : Bool} {E' : Env} (ho : lget ops.toList i = some o) (hg : gd ops.toList E o = some (.when b)) (hd : putE N o.dst undef 0 (.when false) E = some E') (hst : Conj (staysL l C L))
    (h1 : b = true → J X (.reg ops C (.alt l i t .non) :: K) E L) (h2 : b = false → J X (.reg ops C t :: K) E' L) : J X (.reg ops C (.alt l i t .non) :: K) E L := by
  intro a w hx he hs
  cases b with
  | true => exact h1 rfl a w hx he hs
  | false =>
    rw [lget_eq] at ho
    have ho' : ops[i]? = some o := by simpa using ho
    refine ⟨⟨o, ho', ?_⟩, trivial⟩
    have hw := gd_spec he hg
    unfold sOp
    rw [if_neg (by rw [hw]; simp [G.on])]
    exact ⟨staysL_spec hst hs, h2 rfl _ w hx (putE_spec he (by rw [hX.hN]; exact hd) _ rfl) hs⟩
/-- an operation of which is told what it does -/
theorem J.op (hX : IsCx X P rs N F Post) {ops : Array Oper} {C : Cl} {l : Bool} {i : Nat} {t : PT} {o : Oper} {g : G} {S : Value → List Atom → Prop} {E' : Value → Env} (tag : Nat) (ho : lget ops.toList i = some o) (hg : gd ops.toList E o = some g) (hgo : g.on = true)
    (hr : ∀ a w, EnvOK N E a → Sep L (hl w) → ∃ v L' nv w', S v L' ∧ (execOp a.eval o).run P w = .ok nv w' ∧ (nv = .value v ∨ (nv = .skip ∧ v = undef)) ∧ Sep L' (hl w') ∧ Ext w w')
    (hd : ∀ v, putE N o.dst v tag .tt E = some (E' v)) (hJ : ∀ v L', S v L' → Conj (staysL l C L') ∧ J X (.reg ops C t :: K) (E' v) L') : J X (.reg ops C (.alt l i t .non) :: K) E L := by
  intro a w hx he hs
  rw [lget_eq] at ho
  have ho' : ops[i]? = some o := by simpa using ho
  refine ⟨⟨o, ho', ?_⟩, trivial⟩
  have hw := gd_spec he hg
  have he2 := he
  rw [hX.hN] at he2
  obtain ⟨v, L', nv, w', r0, r1, r2, r3, r4⟩ := hr a w he2 hs
  unfold sOp
  rw [← hX.hP] at r1
  rw [if_pos (by rw [hw]; exact hgo), r1]
  obtain ⟨j1, j2⟩ := hJ v L' r0
  have he3 := putE_spec he2 (hd v) v rfl
  rw [← hX.hN] at he3
  rcases r2 with rfl | ⟨rfl, rfl⟩
  · exact ⟨staysL_spec j1 r3, j2 _ w' (hx.trans r4) he3 r3⟩
  · exact ⟨staysL_spec j1 r3, j2 _ w' (hx.trans r4) he3 r3⟩
/-- an operation that only looks, of which is told what it gives -/
theorem J.val (hX : IsCx X P rs N F Post) {ops : Array Oper} {C : Cl} {l : Bool} {i : Nat} {t : PT} {o : Oper} {g : G} {E' : Env} (v : Value) (tag : Nat) (ho : lget ops.toList i = some o) (hg : gd ops.toList E o = some g)
    (hr : g.on = true → ∀ a w, EnvOK N E a → Sep L (hl w) → (execOp a.eval o).run P w = .ok (.value v) w)
    (hd : putE N o.dst v tag g E = some E') (hst : Conj (staysL l C L)) (hJ : J X (.reg ops C t :: K) E' L) : J X (.reg ops C (.alt l i t .non) :: K) E L := by
  intro a w hx he hs
  rw [lget_eq] at ho
  have ho' : ops[i]? = some o := by simpa using ho
  refine ⟨⟨o, ho', ?_⟩, trivial⟩
  have hw := gd_spec he hg
  have he2 := he
  rw [hX.hN] at he2
  have he3 := putE_spec he2 hd _ rfl
  rw [← hX.hN] at he3
  unfold sOp
  cases hgo : g.on with
  | true =>
    have hr1 := hr hgo a w he2 hs
    rw [← hX.hP] at hr1
    rw [if_pos (by rw [hw]; exact hgo), hr1]
    rw [hgo] at he3
    exact ⟨staysL_spec hst hs, hJ _ w hx he3 hs⟩
  | false =>
    rw [if_neg (by rw [hw, hgo]; simp)]
    rw [hgo] at he3
    exact ⟨staysL_spec hst hs, hJ _ w hx he3 hs⟩
/-- likewise, taken first -/
theorem J.valT (hX : IsCx X P rs N F Post) {ops : Array Oper} {C : Cl} {p : Bool} {i : Nat} {t : PT} {o : Oper} {g : G} {E' : Env} (v : Value) (tag : Nat) (ho : lget ops.toList i = some o) (hg : gd ops.toList E o = some g)
    (hr : g.on = true → ∀ a w, EnvOK N E a → (p = false → CAt C w) → (execOp a.eval o).run P w = .ok (.value v) w)
    (hd : putE N o.dst v tag g E = some E') (hJ : J X (.reg ops C t :: K) E' L) : J X (.reg ops C (.take p i t) :: K) E L := by
  intro a w hx he hs
  rw [lget_eq] at ho
  have ho' : ops[i]? = some o := by simpa using ho
  have hw := gd_spec he hg
  have he2 := he
  rw [hX.hN] at he2
  have he3 := putE_spec he2 hd _ rfl
  rw [← hX.hN] at he3
  cases hgo : g.on with
  | true =>
    rw [hgo] at he3
    exact ⟨o, v, ho', .inl ⟨by rw [hw]; exact hgo, fun w' hC => by rw [hX.hP]; exact hr hgo a w' he2 hC⟩, hJ _ w hx he3 hs⟩
  | false =>
    rw [hgo] at he3
    exact ⟨o, undef, ho', .inr ⟨by rw [hw]; exact hgo, rfl⟩, hJ _ w hx he3 hs⟩
/-- a slot's value, told otherwise -/
theorem J.slot {k : Nat} {s s' : Slot} (h : E.get k = some s) (hk : s'.k = k) (hv : s'.val = s.val) (hJ : J X K (s' :: E) L) : J X K E L := by
  intro a w hx he hs
  refine hJ a w hx ⟨he.size, he.defers, fun j u hu => ?_⟩ hs
  simp only [Env.get] at hu
  split at hu
  · rename_i e
    have := Nat.eq_of_beq_eq_true e
    injection hu with hu
    subst hu
    rw [← this, hk, hv]
    exact he.slot k s h
  · exact he.slot j u hu
end
/-- contracts that were shown otherwise -/
theorem Fn.of_below {P : Program} {f : FuncId} {args : List Value} {v : Value} (h : ∀ w : World, Calls P f args.toArray w fun e w' => e = .returned v ∧ Below w.heap.size w w') : Fn P f args [] (fun u As => u = v ∧ As = []) := fun F w hs =>
  (h w).mono fun e w' ⟨he, hb⟩ => ⟨v, [], he, ⟨rfl, rfl⟩, hs.up (fun b o hb' => by
    have hlt : b < w.heap.size := by
      rcases Nat.lt_or_ge b w.heap.size with hlt | hge
      · exact hlt
      · simp only [hl] at hb'; rw [Array.getElem?_eq_none hge] at hb'; cases hb'
    exact (hb.block b hlt).trans hb'), ⟨hb.os, hb.tape, hb.output, hb.size⟩⟩
theorem Fn.of_same {P : Program} {f : FuncId} {args : List Value} {v : Value} (h : ∀ w : World, Calls P f args.toArray w fun e w' => e = .returned v ∧ w = w') : Fn P f args [] (fun u As => u = v ∧ As = []) := fun F w hs =>
  (h w).mono fun e w' ⟨he, hb⟩ => by subst hb; exact ⟨v, [], he, ⟨rfl, rfl⟩, hs, Ext.refl _⟩
theorem Fn.of_drew {P : Program} {f : FuncId} {args : List Value} {v : Value} (h : ∀ w : World, Calls P f args.toArray w fun e w' => e = .returned v ∧ ∃ n, w' = w.drewN n) : Fn P f args [] (fun u As => u = v ∧ As = []) := fun F w hs =>
  (h w).mono fun e w' ⟨he, n, hb⟩ => by subst hb; exact ⟨v, [], he, ⟨rfl, rfl⟩, hs, ⟨rfl, rfl, rfl, Nat.le_refl _⟩⟩
theorem Fn.mono {P : Program} {f : FuncId} {args : List Value} {Pre : List Atom} {Post Post' : Value → List Atom → Prop} (h : Fn P f args Pre Post) (hp : ∀ v As, Post v As → Post' v As) : Fn P f args Pre Post' := fun F w hs =>
  (h F w hs).mono fun _ _ ⟨v, As, he, h1, h2, h3⟩ => ⟨v, As, he, hp v As h1, h2, h3⟩
end Go.Proofs.YtoideahgjgaddaaGreat
namespace Go.Proofs.YtoideahgjgaddaaGreat
open Go
def tab : Tab := [
  (3, ⟨(.int .i64), 1, [.int .i64 0], 8⟩),
  (1, ⟨.other, 1, [.nilFunc], 8⟩),
  (137, ⟨(.row [(0, 16, true), (16, 1, false), (17, 1, false), (18, 1, false), (19, 1, false), (20, 1, false), (21, 1, false), (22, 1, false)]), 23, [.int .u8 0, .int .u8 0, .int .u8 0, .int .u8 0, .int .u8 0, .int .u8 0, .int .u8 0, .int .u8 0, .int .u8 0, .int .u8 0, .int .u8 0, .int .u8 0, .int .u8 0, .int .u8 0, .int .u8 0, .int .u8 0, .int .i64 0, .int .i64 0, .int .i64 0, .int .i64 0, .int .i64 0, .int .i64 0, .int .i64 0], 72⟩),
  (2, ⟨(.int .i64), 1, [.int .i64 0], 8⟩),
  (66, ⟨(.row [(0, 1, false), (1, 1, false), (2, 1, false)]), 3, [.int .i64 0, .int .i64 0, .int .i64 0], 24⟩),
  (45, ⟨(.row [(0, 1, false), (1, 1, false), (2, 1, false), (3, 16, true)]), 19, [.int .i64 0, .int .i64 0, .int .i64 0, .int .u8 0, .int .u8 0, .int .u8 0, .int .u8 0, .int .u8 0, .int .u8 0, .int .u8 0, .int .u8 0, .int .u8 0, .int .u8 0, .int .u8 0, .int .u8 0, .int .u8 0, .int .u8 0, .int .u8 0, .int .u8 0], 40⟩),
  (32, ⟨(.slice 3 1), 1, [.slice none 0 0], 24⟩),
  (4, ⟨.bool, 1, [.bool false], 1⟩),
  (31, ⟨(.slice 45 19), 1, [.slice none 0 0], 24⟩),
  (23, ⟨(.row [(0, 1, false), (1, 1, false), (2, 1, false)]), 3, [.int .i64 0, .int .i64 0, .int .i64 0], 24⟩),
  (28, ⟨.ptr, 1, [.pointer none], 8⟩),
  (272, ⟨(.slice 66 3), 1, [.slice none 0 0], 24⟩),
  (181, ⟨(.int .u64), 1, [.int .u64 0], 8⟩),
  (103, ⟨(.row [(0, 19, true), (19, 3, true), (22, 1, false), (23, 1, false), (24, 1, false)]), 25, [.int .i64 0, .int .i64 0, .int .i64 0, .int .u8 0, .int .u8 0, .int .u8 0, .int .u8 0, .int .u8 0, .int .u8 0, .int .u8 0, .int .u8 0, .int .u8 0, .int .u8 0, .int .u8 0, .int .u8 0, .int .u8 0, .int .u8 0, .int .u8 0, .int .u8 0, .int .i64 0, .int .i64 0, .int .i64 0, .int .i64 0, .bool false, .bool false], 80⟩),
  (94, ⟨(.arr 32 1), 32, [.int .u8 0, .int .u8 0, .int .u8 0, .int .u8 0, .int .u8 0, .int .u8 0, .int .u8 0, .int .u8 0, .int .u8 0, .int .u8 0, .int .u8 0, .int .u8 0, .int .u8 0, .int .u8 0, .int .u8 0, .int .u8 0, .int .u8 0, .int .u8 0, .int .u8 0, .int .u8 0, .int .u8 0, .int .u8 0, .int .u8 0, .int .u8 0, .int .u8 0, .int .u8 0, .int .u8 0, .int .u8 0, .int .u8 0, .int .u8 0, .int .u8 0, .int .u8 0], 32⟩),
  (34, ⟨(.row [(0, 1, false), (1, 1, false), (2, 1, false), (3, 1, false), (4, 1, false), (5, 1, false)]), 6, [.pointer none, .slice none 0 0, .int .i64 0, .slice none 0 0, .int .i64 0, .int .i64 0], 80⟩),
  (30, ⟨.ptr, 1, [.pointer none], 8⟩),
  (35, ⟨(.int .i64), 1, [.int .i64 0], 8⟩),
  (5, ⟨(.int .u8), 1, [.int .u8 0], 1⟩),
  (68, ⟨(.row [(0, 1, false), (1, 1, false), (2, 3, true), (5, 1, false), (6, 1, false)]), 7, [.int .i64 0, .int .i64 0, .int .i64 0, .int .i64 0, .int .i64 0, .int .i64 0, .int .i64 0], 56⟩),
  (100, ⟨(.slice 103 25), 1, [.slice none 0 0], 24⟩),
  (62, ⟨(.int .u64), 1, [.int .u64 0], 8⟩),
  (25, ⟨(.slice 68 7), 1, [.slice none 0 0], 24⟩),
  (52, ⟨(.row [(0, 3, true), (3, 1, false), (4, 1, false), (5, 1, false)]), 6, [.int .i64 0, .int .i64 0, .int .i64 0, .int .i64 0, .int .i64 0, .int .i64 0], 48⟩),
  (199, ⟨.ptr, 1, [.pointer none], 8⟩),
  (50, ⟨(.row [(0, 1, false), (1, 1, false), (2, 1, false)]), 3, [.int .i64 0, .int .i64 0, .int .i64 0], 24⟩),
  (161, ⟨(.slice 137 23), 1, [.slice none 0 0], 24⟩),
  (195, ⟨(.int .u32), 1, [.int .u32 0], 4⟩),
  (86, ⟨(.slice 4 1), 1, [.slice none 0 0], 24⟩),
  (188, ⟨(.slice 5 1), 1, [.slice none 0 0], 24⟩),
  (124, ⟨(.row [(0, 3, true), (3, 1, false), (4, 1, false), (5, 1, false), (6, 1, false), (7, 1, false), (8, 1, false), (9, 1, false), (10, 1, false), (11, 1, false)]), 12, [.int .i64 0, .int .i64 0, .int .i64 0, .map none, .pointer none, .slice none 0 0, .bool false, .int .i64 0, .int .i64 0, .bool false, .int .i64 0, .int .i64 0], 112⟩),
  (132, ⟨(.slice 148 34), 1, [.slice none 0 0], 24⟩),
  (43, ⟨(.arr 16 1), 16, [.int .u8 0, .int .u8 0, .int .u8 0, .int .u8 0, .int .u8 0, .int .u8 0, .int .u8 0, .int .u8 0, .int .u8 0, .int .u8 0, .int .u8 0, .int .u8 0, .int .u8 0, .int .u8 0, .int .u8 0, .int .u8 0], 16⟩),
  (40, ⟨(.row [(0, 1, false), (1, 1, false), (2, 1, false), (3, 1, false), (4, 1, false), (5, 1, false)]), 6, [.pointer none, .slice none 0 0, .int .i64 0, .slice none 0 0, .int .i64 0, .int .i64 0], 80⟩),
  (71, ⟨.ptr, 1, [.pointer none], 8⟩),
  (134, ⟨(.row [(0, 1, false), (1, 1, false), (2, 1, false), (3, 1, false)]), 4, [.slice none 0 0, .int .i64 0, .bool false, .bool false], 40⟩),
  (163, ⟨(.row [(0, 1, false), (1, 1, false), (2, 23, true), (25, 1, false)]), 26, [.slice none 0 0, .slice none 0 0, .int .u8 0, .int .u8 0, .int .u8 0, .int .u8 0, .int .u8 0, .int .u8 0, .int .u8 0, .int .u8 0, .int .u8 0, .int .u8 0, .int .u8 0, .int .u8 0, .int .u8 0, .int .u8 0, .int .u8 0, .int .u8 0, .int .i64 0, .int .i64 0, .int .i64 0, .int .i64 0, .int .i64 0, .int .i64 0, .int .i64 0, .bool false], 128⟩),
  (7, ⟨(.row [(0, 1, false), (1, 1, false), (2, 1, false), (3, 1, false)]), 4, [.int .i64 0, .int .i64 0, .bool false, .int .u8 0], 24⟩),
  (249, ⟨(.int .u64), 1, [.int .u64 0], 8⟩),
  (112, ⟨(.slice 119 7), 1, [.slice none 0 0], 24⟩),
  (298, ⟨.other, 1, [.nilFunc], 8⟩),
  (6, ⟨(.int .u8), 1, [.int .u8 0], 1⟩),
  (286, ⟨.ptr, 1, [.pointer none], 8⟩),
  (121, ⟨.map, 1, [.map none], 8⟩),
  (122, ⟨.ptr, 1, [.pointer none], 8⟩),
  (114, ⟨(.row [(0, 1, false), (1, 1, false)]), 2, [.slice none 0 0, .int .i64 0], 32⟩),
  (247, ⟨.ptr, 1, [.pointer none], 8⟩),
  (128, ⟨(.row [(0, 1, false), (1, 1, false), (2, 1, false), (3, 1, false)]), 4, [.int .i64 0, .map none, .map none, .int .i64 0], 32⟩),
  (150, ⟨(.row [(0, 1, false)]), 1, [.slice none 0 0], 24⟩),
  (190, ⟨(.row [(0, 1, false), (1, 1, false)]), 2, [.slice none 0 0, .int .i64 0], 32⟩),
  (187, ⟨.ptr, 1, [.pointer none], 8⟩),
  (59, ⟨(.row [(0, 1, false), (1, 1, false), (2, 1, false)]), 3, [.int .i64 0, .int .i64 0, .slice none 0 0], 40⟩),
  (119, ⟨(.row [(0, 1, false), (1, 3, true), (4, 1, false), (5, 1, false), (6, 1, false)]), 7, [.bool false, .int .i64 0, .int .i64 0, .int .i64 0, .int .i64 0, .int .i64 0, .int .i64 0], 56⟩),
  (97, ⟨(.slice 100 1), 1, [.slice none 0 0], 24⟩),
  (9, ⟨.other, 1, [.string ⟨#[]⟩], 16⟩),
  (148, ⟨(.row [(0, 32, true), (32, 1, false), (33, 1, false)]), 34, [.int .u8 0, .int .u8 0, .int .u8 0, .int .u8 0, .int .u8 0, .int .u8 0, .int .u8 0, .int .u8 0, .int .u8 0, .int .u8 0, .int .u8 0, .int .u8 0, .int .u8 0, .int .u8 0, .int .u8 0, .int .u8 0, .int .u8 0, .int .u8 0, .int .u8 0, .int .u8 0, .int .u8 0, .int .u8 0, .int .u8 0, .int .u8 0, .int .u8 0, .int .u8 0, .int .u8 0, .int .u8 0, .int .u8 0, .int .u8 0, .int .u8 0, .int .u8 0, .bool false, .bool false], 34⟩),
  (234, ⟨.ptr, 1, [.pointer none], 8⟩),
  (278, ⟨.other, 1, [.nilFunc], 8⟩),
  (74, ⟨(.row [(0, 1, false), (1, 19, true), (20, 3, true), (23, 1, false), (24, 1, false), (25, 1, false), (26, 1, false)]), 27, [.int .i64 0, .int .i64 0, .int .i64 0, .int .i64 0, .int .u8 0, .int .u8 0, .int .u8 0, .int .u8 0, .int .u8 0, .int .u8 0, .int .u8 0, .int .u8 0, .int .u8 0, .int .u8 0, .int .u8 0, .int .u8 0, .int .u8 0, .int .u8 0, .int .u8 0, .int .u8 0, .int .i64 0, .int .i64 0, .int .i64 0, .int .i64 0, .int .i64 0, .int .i64 0, .int .i64 0], 104⟩),
  (99, ⟨(.row [(0, 1, false), (1, 1, false)]), 2, [.pointer none, .slice none 0 0], 32⟩),
  (125, ⟨.map, 1, [.map none], 8⟩),
  (265, ⟨(.row [(0, 1, false), (1, 1, false)]), 2, [.slice none 0 0, .int .i64 0], 32⟩),
  (275, ⟨(.row [(0, 1, false)]), 1, [.slice none 0 0], 24⟩),
  (301, ⟨.map, 1, [.map none], 8⟩),
  (26, ⟨(.slice 94 32), 1, [.slice none 0 0], 24⟩),
  (126, ⟨.map, 1, [.map none], 8⟩),
  (178, ⟨.map, 1, [.map none], 8⟩),
  (24, ⟨(.slice 59 3), 1, [.slice none 0 0], 24⟩),
  (215, ⟨(.int .i64), 1, [.int .i64 0], 8⟩),
  (233, ⟨(.row [(0, 3, true), (3, 1, false), (4, 1, false)]), 5, [.int .i64 0, .int .i64 0, .int .i64 0, .slice none 0 0, .int .i64 0], 56⟩),
  (237, ⟨(.row [(0, 1, false), (1, 1, false), (2, 1, false), (3, 1, false)]), 4, [.int .i64 0, .int .i64 0, .bool false, .bool false], 24⟩),
  (243, ⟨.ptr, 1, [.pointer none], 8⟩),
  (38, ⟨.ptr, 1, [.pointer none], 8⟩),
  (170, ⟨.other, 1, [.nilFunc], 8⟩),
  (258, ⟨.ptr, 1, [.pointer none], 8⟩),
  (303, ⟨(.row [(0, 1, false)]), 1, [.map none], 8⟩),
  (154, ⟨.other, 1, [.nilFunc], 8⟩),
  (180, ⟨(.row [(0, 1, false)]), 1, [.map none], 8⟩),
  (291, ⟨(.slice 32 1), 1, [.slice none 0 0], 24⟩),
  (231, ⟨(.slice 237 4), 1, [.slice none 0 0], 24⟩),
  (8, ⟨(.row [(0, 1, false), (1, 1, false), (2, 1, false), (3, 1, false)]), 4, [.int .i64 0, .int .i64 0, .bool false, .int .u8 0], 24⟩),
  (131, ⟨.ptr, 1, [.pointer none], 8⟩),
  (304, ⟨.map, 1, [.map none], 8⟩),
  (96, ⟨.ptr, 1, [.pointer none], 8⟩),
  (91, ⟨.other, 1, [.nilFunc], 8⟩),
  (159, ⟨.other, 1, [.nilFunc], 8⟩),
  (70, ⟨(.slice 74 27), 1, [.slice none 0 0], 24⟩),
  (107, ⟨.other, 1, [.nilFunc], 8⟩),
  (193, ⟨(.arr 4 1), 4, [.int .i64 0, .int .i64 0, .int .i64 0, .int .i64 0], 32⟩),
  (186, ⟨.other, 1, [.nilFunc], 8⟩),
  (248, ⟨(.arr 4 1), 4, [.pointer none, .pointer none, .pointer none, .pointer none], 32⟩),
  (281, ⟨.other, 1, [.nilFunc], 8⟩)]
theorem tab_ok : TabOK Tryz.prog tab := TabOK.mk (by kernel_rfl)
end Go.Proofs.YtoideahgjgaddaaGreat
