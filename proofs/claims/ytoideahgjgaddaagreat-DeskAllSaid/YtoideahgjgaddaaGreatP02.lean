/- Helpers of the proofs about ostrakonlaw11, proved here: J, Tab, Look, Act. No condition. -/
import Derived.Test.YtoideahgjgaddaaGreatP01
set_option linter.unusedVariables false
set_option linter.unusedSimpArgs false
set_option linter.unusedSectionVars false
set_option linter.unnecessarySimpa false
/- What stands at a place in the code: slots, memory, what is still to be done. No program in sight. -/
namespace Go.Proofs.YtoideahgjgaddaaGreat
open Go

inductive G where
  | tt
  | when (b : Bool)
def G.on : G → Bool
  | .tt => true
  | .when b => b
/-- a slot: its value (where g says so; else it has none), the part to which it points (one more; 0: not known) -/
structure Slot where
  k : Nat
  v : Value
  tag : Nat
  g : G
def Slot.val (s : Slot) : Value := match s.g.on with
  | true => s.v
  | false => undef
abbrev Env := List Slot
def Env.get : Env → Nat → Option Slot
  | [], _ => none
  | s :: r, k => match Nat.beq s.k k with
    | true => some s
    | false => Env.get r k
structure EnvOK (n : Nat) (E : Env) (a : Act) : Prop where
  size : a.tmps.size = n
  defers : a.defers = []
  slot : ∀ k s, E.get k = some s → a.tmps[k]? = some s.val
theorem EnvOK.put {n : Nat} {E : Env} {a : Act} (h : EnvOK n E a) {d : Nat} (hd : d < n) (v : Value) (tag : Nat) (g : G) (u : Value) (hu : u = Slot.val ⟨d, v, tag, g⟩) : EnvOK n (⟨d, v, tag, g⟩ :: E) (a.put (some d) u) := by
  refine ⟨by simp [Act.put, h.size], h.defers, fun k s hk => ?_⟩
  simp only [Env.get] at hk
  split at hk
  · rename_i e
    have : d = k := Nat.eq_of_beq_eq_true e
    subst this
    injection hk with hk
    subst hk; subst hu
    simp [Act.put, h.size, hd]
  · rename_i e
    have : d ≠ k := fun e' => by subst e'; simp at e
    simp only [Act.put]
    rw [Array.getElem?_setIfInBounds_ne this]
    exact h.slot k s hk
def Env.sub (E E' : Env) : Prop := ∀ k s, E'.get k = some s → E.get k = some s
theorem EnvOK.sub {n : Nat} {E E' : Env} {a : Act} (h : EnvOK n E a) (hs : E.sub E') : EnvOK n E' a := ⟨h.size, h.defers, fun k s hk => h.slot k s (hs k s hk)⟩
/-- only what stands below a number, and some -/
def Env.cut (b : Nat) : Env → Env
  | [] => []
  | s :: r => match Nat.blt s.k b with
    | true => s :: Env.cut b r
    | false => Env.cut b r
theorem Env.get_cut (b : Nat) : ∀ (E : Env) (k : Nat) (s : Slot), (E.cut b).get k = some s → E.get k = some s
  | [], k, s, h => h
  | x :: r, k, s, h => by
    simp only [Env.cut] at h
    split at h
    · simp only [Env.get] at h ⊢
      split at h
      · exact h
      · exact Env.get_cut b r k s h
    · rename_i e
      have hr := Env.get_cut b r k s h
      simp only [Env.get]
      split
      · rename_i e2
        exfalso
        have : x.k = k := Nat.eq_of_beq_eq_true e2
        have hlt : ∀ (E : Env) (k : Nat) (s : Slot), (E.cut b).get k = some s → Nat.blt k b = true := by
          intro E
          induction E with
          | nil => intro k s h; cases h
          | cons y r ih =>
            intro k s h
            simp only [Env.cut] at h
            split at h
            · rename_i hb
              simp only [Env.get] at h
              split at h
              · rename_i e3
                have : y.k = k := Nat.eq_of_beq_eq_true e3
                rw [← this]; exact hb
              · exact ih k s h
            · exact ih k s h
        have := hlt r k s h
        rw [← ‹x.k = k›] at this
        rw [this] at e; cases e
      · exact hr
theorem EnvOK.cut {n : Nat} {E : Env} {a : Act} (h : EnvOK n E a) (b : Nat) : EnvOK n (E.cut b) a := h.sub (fun k s hk => Env.get_cut b E k s hk)

/-- what is still as it was -/
structure Ext (w w' : World) : Prop where
  os : w'.os = w.os
  tape : w'.tape = w.tape
  output : w'.output = w.output
  size : w.heap.size ≤ w'.heap.size
theorem Ext.refl (w : World) : Ext w w := ⟨rfl, rfl, rfl, Nat.le_refl _⟩
theorem Ext.trans {a b c : World} (h : Ext a b) (h' : Ext b c) : Ext a c := ⟨h'.os.trans h.os, h'.tape.trans h.tape, h'.output.trans h.output, Nat.le_trans h.size h'.size⟩
theorem Ext.drew {a b : World} (h : Ext a b) : Ext a { b with drawn := b.drawn + 1 } := ⟨h.os, h.tape, h.output, h.size⟩

/-- a function's contract -/
def Fn (P : Program) (f : FuncId) (args : List Value) (Pre : List Atom) (Post : Value → List Atom → Prop) : Prop :=
  ∀ (F : HP) (w : World), Sep (.hp F :: Pre) (hl w) → Calls P f args.toArray w fun e w' => ∃ v As, e = .returned v ∧ Post v As ∧ Sep (.hp F :: As) (hl w') ∧ Ext w w'

/-- parts, for some x -/
def exA {α : Type} (f : α → List Atom) : Atom := .hp ⟨fun h => ∃ x, Sep (f x) h, fun _ _ l ⟨x, s⟩ => ⟨x, s.up l⟩⟩
structure Cx where
  P : Program
  fn : Func
  n : Nat
  R : Ending → World → Prop
  w0 : World
abbrev Cl := List (Nat × Atom)
def CAt (C : Cl) (w : World) : Prop := ∀ p ∈ C, p.2.sat (hl w)
inductive KI where
  | code (c : Code)
  | reg (ops : Array Oper) (C : Cl) (t : PT)
  | blk (id : Nat)
  | stop (R : Act → World → Prop)
def KW (X : Cx) : List KI → Exit → Act → World → Prop
  | [] => bodyPost X.P X.fn X.R
  | .code c :: K => Exit.then (c.wp X.P (KW X K)) (KW X K)
  | .reg ops C t :: K => Exit.then (pT X.P ops (CAt C) (KW X K .normal) t) (KW X K)
  | .blk id :: K => Exit.inBlock id (KW X K)
  | .stop R :: K => Exit.then R (KW X K)
def J (X : Cx) (K : List KI) (E : Env) (L : List Atom) : Prop := ∀ a w, Ext X.w0 w → EnvOK X.n E a → Sep L (hl w) → KW X K .normal a w

section
variable {X : Cx} {K : List KI} {E : Env} {L : List Atom}
theorem J.seq {x y : Code} (h : J X (.code x :: .code y :: K) E L) : J X (.code (.seq x y) :: K) E L :=
  fun a w hx he hs => wp_seq (wp_mono (h a w hx he hs) fun e a' w' q => by cases e <;> exact q)
theorem J.skip (h : J X K E L) : J X (.code .skip :: K) E L := fun a w hx he hs => wp_skip (h a w hx he hs)
theorem J.block {id : Nat} {c : Code} (h : J X (.code c :: .blk id :: K) E L) : J X (.code (.block id c) :: K) E L :=
  fun a w hx he hs => wp_block (wp_mono (h a w hx he hs) fun e a' w' q => by cases e <;> exact q)
theorem J.blk {id : Nat} (h : J X K E L) : J X (.blk id :: K) E L := h
/-- where an exit goes -/
def exitK (id : Nat) : List KI → Option (List KI)
  | [] => none
  | .blk id' :: K => match Nat.beq id id' with
    | true => some K
    | false => exitK id K
  | _ :: K => exitK id K
theorem exitK_spec (X : Cx) (id : Nat) (a : Act) (w : World) : ∀ (K K' : List KI), exitK id K = some K' → KW X K' .normal a w → KW X K (.exit id) a w
  | [], K', h, q => by cases h
  | .blk id' :: K, K', h, q => by
    simp only [exitK] at h
    simp only [KW, Exit.inBlock]
    split at h
    · rename_i e
      have : id = id' := Nat.eq_of_beq_eq_true e
      rw [if_pos this]
      injection h with h
      rw [h]; exact q
    · rename_i e
      rw [if_neg (fun e' => by subst e'; simp at e)]
      exact exitK_spec X id a w K K' h q
  | .code c :: K, K', h, q => exitK_spec X id a w K K' h q
  | .reg o C t :: K, K', h, q => exitK_spec X id a w K K' h q
  | .stop R :: K, K', h, q => exitK_spec X id a w K K' h q
theorem J.exit {id : Nat} {K' : List KI} (hk : exitK id K = some K') (h : J X K' E L) : J X (.code (.exit id) :: K) E L :=
  fun a w hx he hs => wp_exit (exitK_spec X id a w K K' hk (h a w hx he hs))
theorem J.code_reg {id : Nat} {ops : Array Oper} (h : J X (.reg ops [] (PT.seq 0 ops.size) :: K) E L) : J X (.code (.region id ops false) :: K) E L :=
  fun a w hx he hs => wp_region_seq (C := CAt []) (h a w hx he hs)
theorem J.reg_done {ops : Array Oper} {C : Cl} (h : J X K E L) : J X (.reg ops C .done :: K) E L := h
def snap (L : List Atom) : List Nat → Cl
  | [] => []
  | i :: is => (i, L[i]?.getD .emp) :: snap L is
theorem CAt.snap {L : List Atom} {w : World} (s : Sep L (hl w)) : ∀ is : List Nat, CAt (snap L is) w
  | [] => by intro p hp; cases hp
  | i :: is => by
    intro p hp
    rcases List.mem_cons.1 hp with rfl | hp
    · cases h : L[i]? with
      | none => simp [h, Atom.sat]
      | some A => simpa [h] using s.get h
    · exact CAt.snap s is p hp
/-- a region of many orders: a plan, and the parts that stay as they are -/
theorem J.plan {id : Nat} {ops : Array Oper} (t : PT) (lt ro : List Nat) (hm : X.P.follows .mixedOrders = true) (ht : t.good ops lt = true) (h : J X (.reg ops (snap L ro) t :: K) E L) : J X (.code (.region id ops true) :: K) E L :=
  fun a w hx he hs => wp_region_plan hm t lt ht (CAt.snap (w := { w with drawn := w.drawn + 1 }) hs ro) (h a _ hx.drew he hs)
theorem J.alts {ops : Array Oper} {C : Cl} {l l' : Bool} {i j : Nat} {t t' m : PT} (h1 : J X (.reg ops C (.alt l i t .non) :: K) E L) (h2 : J X (.reg ops C (.alt l' j t' m) :: K) E L) : J X (.reg ops C (.alt l i t (.alt l' j t' m)) :: K) E L :=
  fun a w hx he hs => ⟨(h1 a w hx he hs).1, h2 a w hx he hs⟩
theorem J.sub {E' : Env} (hs : E.sub E') (h : J X K E' L) : J X K E L := fun a w hx he s => h a w hx (he.sub hs) s
theorem J.cut (b : Nat) (h : J X K (E.cut b) L) : J X K E L := fun a w hx he s => h a w hx (he.cut b) s
/-- some parts are others -/
theorem J.turn (is : List Nat) (ok : okIdx L is = true) {α : Type} {As : α → List Atom} {L' : α → List Atom} (ht : ∀ h', Sep (picks L is) h' → ∃ x, Sep (As x) h') (hL : ∀ x, lupd L is (As x) = some (L' x)) (h : ∀ x, J X K E (L' x)) : J X K E L := by
  intro a w hx he s
  obtain ⟨x, s'⟩ := s.turn is ok ht
  rw [← lupd_eq (okIdx_spec ok).1 (hL x)] at s'
  exact h x a w hx he s'
theorem J.turn1 (is : List Nat) (ok : okIdx L is = true) {As L' : List Atom} (ht : ∀ h', Sep (picks L is) h' → Sep As h') (hL : lupd L is As = some L') (h : J X K E L') : J X K E L :=
  fun a w hx he s => h a w hx he (by rw [lupd_eq (okIdx_spec ok).1 hL]; exact s.turn1 is ok ht)
theorem J.open_ {α : Type} {f : α → List Atom} {L' : α → List Atom} (i : Nat) (ok : okIdx L [i] = true) (hp : picks L [i] = [exA f]) (hL : ∀ x, lupd L [i] (f x) = some (L' x)) (h : ∀ x, J X K E (L' x)) : J X K E L :=
  J.turn [i] ok (fun h' s => by rw [hp] at s; exact s.get (i := 0) rfl) hL h
theorem J.close {α : Type} {f : α → List Atom} {L' : List Atom} (x : α) (is : List Nat) (ok : okIdx L is = true) (hp : picks L is = f x) (hL : lupd L is [exA f] = some L') (h : J X K E L') : J X K E L :=
  J.turn1 is ok (fun h' s => by
    rw [hp] at s
    exact ⟨fun _ => 0, fun i A hA => by
      cases i with
      | zero => simp at hA; subst hA; exact ⟨x, s.up fun b o hb => res_some.2 ⟨rfl, hb⟩⟩
      | succ k => simp at hA⟩) hL h
/-- what memory tells -/
theorem J.know {p : Prop} (hp : ∀ h, Sep L h → p) (h : p → J X K E L) : J X K E L := fun a w hx he s => h (hp _ s) a w hx he s
/-- the value of an operand -/
def ev (E : Env) : Operand → Option Slot
  | .tmp t => E.get t
  | .const v => some ⟨0, v, 0, .tt⟩
  | .global g => some ⟨0, .pointer (some ⟨g, 0, none⟩), 0, .tt⟩
  | .func f => some ⟨0, .func (.func f) #[] #[], 0, .tt⟩
theorem ev_spec {n : Nat} {a : Act} (he : EnvOK n E a) {x : Operand} {s : Slot} (h : ev E x = some s) : a.eval x = s.val := by
  cases x with
  | tmp t =>
    have := he.slot t s h
    simp [Act.eval, this]
  | const v => simp only [ev, Option.some.injEq] at h; subst h; rfl
  | global g => simp only [ev, Option.some.injEq] at h; subst h; rfl
  | func f => simp only [ev, Option.some.injEq] at h; subst h; rfl
theorem J.cond {c : Operand} {x y : Code} {k tag : Nat} {b : Bool} (hc : ev E c = some ⟨k, .bool b, tag, .tt⟩) (ht : b = true → J X (.code x :: K) E L) (hf : b = false → J X (.code y :: K) E L) : J X (.code (.cond c x y) :: K) E L := by
  intro a w hx he hs
  have h := ev_spec he hc
  exact wp_cond_split (t := b) h (fun e => ht e a w hx he hs) (fun e => hf e a w hx he hs)
/-- a loop: x tells where it stands -/
theorem J.loop {c : Code} {α : Type} (I : α → Prop) (Ei : α → Env) (Li : α → List Atom) (μ : α → Nat) (x0 : α) (h0 : I x0) (hE : E.sub (Ei x0)) (hL : ∀ h, Sep L h → Sep (Li x0) h)
    (round : ∀ x, I x → J X (.code c :: .stop (fun a w => Ext X.w0 w ∧ ∃ x', I x' ∧ μ x' < μ x ∧ EnvOK X.n (Ei x') a ∧ Sep (Li x') (hl w)) :: K) (Ei x) (Li x)) : J X (.code (.loop c) :: K) E L := by
  intro a w hx he hs b k cs
  have key : ∀ n, ∀ x, μ x = n → I x → ∀ a w, Ext X.w0 w → EnvOK X.n (Ei x) a → Sep (Li x) (hl w) →
      ∃ e a' w', KW X K e a' w' ∧ Arrives X.P (lone (b.at a (.code c :: .inLoop c :: k)) cs w) b k cs e a' w' := by
    intro n
    induction n using Nat.strongRecOn with
    | _ n ih =>
      intro x hn hI a w hx he hs
      have hr := round x hI a w hx he hs
      simp only [KW] at hr
      obtain ⟨e, a₁, w₁, hq, harr⟩ := hr b (.inLoop c :: k) cs
      cases e with
      | normal =>
        obtain ⟨hx', x', hI', hlt, he', hs'⟩ := hq
        obtain ⟨e₂, a₂, w₂, hq₂, harr₂⟩ := ih (μ x') (hn ▸ hlt) x' rfl hI' a₁ w₁ hx' he' hs'
        exact ⟨e₂, a₂, w₂, hq₂, .of_steps (Steps.trans harr (.one step_inLoop)) harr₂⟩
      | exit id => exact ⟨_, a₁, w₁, hq, .pass (x := .inLoop c) rfl (fun _ _ => .inl (by simp)) harr⟩
      | goto l => exact ⟨_, a₁, w₁, hq, .pass (x := .inLoop c) rfl (fun _ _ => .inl (by simp)) harr⟩
      | ret => exact ⟨_, a₁, w₁, hq, .pass (x := .inLoop c) rfl (fun _ _ => .inl (by simp)) harr⟩
      | panic ch => exact ⟨_, a₁, w₁, hq, .pass (x := .inLoop c) rfl (fun _ _ => .inl (by simp)) harr⟩
      | outgrown => exact ⟨_, a₁, w₁, hq, .pass (x := .inLoop c) rfl (fun _ _ => .inl (by simp)) harr⟩
  obtain ⟨e, a', w', hq, harr⟩ := key _ x0 rfl h0 a w hx (he.sub hE) (hL _ hs)
  exact ⟨e, a', w', hq, .of_steps (.one step_loop) harr⟩
/-- a round's end -/
theorem J.stop {α : Type} {I : α → Prop} {Ei : α → Env} {Li : α → List Atom} {μ : α → Nat} {m : Nat} (x : α) (h1 : I x) (h2 : μ x < m) (h3 : E.sub (Ei x)) (h4 : ∀ h, Sep L h → Sep (Li x) h) :
    J X (.stop (fun a w => Ext X.w0 w ∧ ∃ x', I x' ∧ μ x' < m ∧ EnvOK X.n (Ei x') a ∧ Sep (Li x') (hl w)) :: K) E L :=
  fun _ _ hx he hs => ⟨hx, x, h1, h2, he.sub h3, h4 _ hs⟩
end
end Go.Proofs.YtoideahgjgaddaaGreat
/- What is known of types. No program in sight. -/
namespace Go.Proofs.YtoideahgjgaddaaGreat
open Go

inductive TD where
  | int (k : IntKind)
  | bool
  | row (fs : List (Nat × Nat × Bool))
  | arr (len esz : Nat)
  | slice (elem esz : Nat)
  | ptr
  | map
  | other
structure TI where
  d : TD
  size : Nat
  zero : List Value
  bytes : Nat
abbrev Tab := List (Nat × TI)
def Tab.get : Tab → Nat → Option TI
  | [], _ => none
  | (j, i) :: r, k => match Nat.beq j k with
    | true => some i
    | false => Tab.get r k
def isAggD : TypeDesc → Bool
  | .struct _ | .array _ _ => true
  | _ => false
def fieldsOf (P : Program) : List Field → Option (List (Nat × Nat × Bool))
  | [] => some []
  | f :: r => match P.info? f.type, P.underlying f.type, fieldsOf P r with
    | some i, some d, some l => some ((f.offset, i.size, isAggD d) :: l)
    | _, _, _ => none
def tdOf (P : Program) : TypeDesc → Option TD
  | .int k => some (.int k)
  | .bool => some .bool
  | .struct fs => (fieldsOf P fs.toList).map .row
  | .array n e => (P.info? e).map fun i => .arr n i.size
  | .slice e => (P.info? e).map fun i => .slice e i.size
  | .pointer _ => some .ptr
  | .map _ _ => some .map
  | _ => some .other
def tiOf (P : Program) (t : TypeId) : Option TI :=
  match P.underlying t, P.info? t with
  | some d, some i => match i.zero, tdOf P d with
    | some z, some td => some ⟨td, i.size, z.cells.toList, i.bytes⟩
    | _, _ => none
  | _, _ => none
def TabOK (P : Program) (T : Tab) : Prop := ∀ p ∈ T, tiOf P p.1 = some p.2
theorem TabOK.mk {P : Program} {T : Tab} (h : T.map (fun p => tiOf P p.1) = T.map (fun p => some p.2)) : TabOK P T := by
  induction T with
  | nil => intro p hp; cases hp
  | cons q r ih =>
    simp only [List.map_cons, List.cons.injEq] at h
    intro p hp
    rcases List.mem_cons.1 hp with rfl | hp
    · exact h.1
    · exact ih h.2 p hp
theorem TabOK.get {P : Program} : ∀ {T : Tab}, TabOK P T → ∀ {t : Nat} {i : TI}, T.get t = some i → tiOf P t = some i
  | [], _, t, i, h => by cases h
  | (j, x) :: r, hT, t, i, h => by
    simp only [Tab.get] at h
    split at h
    · rename_i e
      have : j = t := Nat.eq_of_beq_eq_true e
      subst this
      injection h with h
      subst h
      exact hT _ (List.mem_cons_self ..)
    · exact TabOK.get (fun p hp => hT p (List.mem_cons_of_mem _ hp)) h
structure TIOK (P : Program) (t : TypeId) (i : TI) (d : TypeDesc) (f : TypeInfo) (z : Value) : Prop where
  hd : P.underlying t = some d
  hf : P.info? t = some f
  hz : f.zero = some z
  htd : tdOf P d = some i.d
  hsize : i.size = f.size
  hzero : i.zero = z.cells.toList
  hbytes : i.bytes = f.bytes
theorem tiOf_spec {P : Program} {t : TypeId} {i : TI} (h : tiOf P t = some i) : ∃ d f z, TIOK P t i d f z := by
  unfold tiOf at h
  split at h
  · rename_i d f hd hf
    split at h
    · rename_i z td hz htd
      injection h with h
      subst h
      exact ⟨d, f, z, hd, hf, hz, htd, rfl, rfl, rfl⟩
    · cases h
  · cases h
section
variable {P : Program} {t : TypeId} {i : TI} {d : TypeDesc} {f : TypeInfo} {z : Value}
theorem TIOK.int (h : TIOK P t i d f z) {k : IntKind} (e : i.d = .int k) : d = .int k := by
  have := h.htd; rw [e] at this
  cases d <;> simp [tdOf] at this
  · rw [this]
theorem TIOK.bool (h : TIOK P t i d f z) (e : i.d = .bool) : d = .bool := by
  have := h.htd; rw [e] at this
  cases d <;> simp [tdOf] at this
  · rfl
theorem TIOK.ptr (h : TIOK P t i d f z) (e : i.d = .ptr) : ∃ x, d = .pointer x := by
  have := h.htd; rw [e] at this
  cases d <;> simp [tdOf] at this
  · exact ⟨_, rfl⟩
theorem TIOK.map (h : TIOK P t i d f z) (e : i.d = .map) : ∃ x y, d = .map x y := by
  have := h.htd; rw [e] at this
  cases d <;> simp [tdOf] at this
  · exact ⟨_, _, rfl⟩
theorem TIOK.arr (h : TIOK P t i d f z) {n s : Nat} (e : i.d = .arr n s) : ∃ x fx, d = .array n x ∧ P.info? x = some fx ∧ fx.size = s := by
  have := h.htd; rw [e] at this
  cases d <;> simp [tdOf] at this
  · obtain ⟨g, h1, rfl, h2⟩ := this
    exact ⟨_, g, rfl, h1, h2⟩
theorem TIOK.slice (h : TIOK P t i d f z) {x s : Nat} (e : i.d = .slice x s) : ∃ fx, d = .slice x ∧ P.info? x = some fx ∧ fx.size = s := by
  have := h.htd; rw [e] at this
  cases d <;> simp [tdOf] at this
  · obtain ⟨g, h1, rfl, h2⟩ := this
    exact ⟨g, rfl, h1, h2⟩
theorem TIOK.row (h : TIOK P t i d f z) {l : List (Nat × Nat × Bool)} (e : i.d = .row l) : ∃ fs, d = .struct fs ∧ fieldsOf P fs.toList = some l := by
  have := h.htd; rw [e] at this
  cases d <;> simp [tdOf] at this
  · exact ⟨_, rfl, this⟩
end
/-- the cell at a place -/
def lget {α : Type} : List α → Nat → Option α
  | [], _ => none
  | x :: r, k => match k with
    | 0 => some x
    | k + 1 => lget r k
theorem lget_eq {α : Type} : ∀ (l : List α) (k : Nat), lget l k = l[k]?
  | [], _ => rfl
  | x :: r, 0 => rfl
  | x :: r, k + 1 => by rw [lget, lget_eq r k]; simp
theorem fieldsOf_get {P : Program} : ∀ {fs : List Field} {l : List (Nat × Nat × Bool)}, fieldsOf P fs = some l → ∀ {k o s : Nat} {b : Bool}, lget l k = some (o, s, b) →
    ∃ g fi gd, fs[k]? = some g ∧ P.info? g.type = some fi ∧ P.underlying g.type = some gd ∧ g.offset = o ∧ fi.size = s ∧ isAggD gd = b
  | [], l, h, k, o, s, b, hk => by simp only [fieldsOf, Option.some.injEq] at h; subst h; cases hk
  | g :: r, l, h, k, o, s, b, hk => by
    simp only [fieldsOf] at h
    split at h
    · rename_i i d l' h1 h2 h3
      injection h with h
      subst h
      cases k with
      | zero =>
        simp only [lget, Option.some.injEq, Prod.mk.injEq] at hk
        exact ⟨g, i, d, rfl, h1, h2, hk.1, hk.2.1, hk.2.2⟩
      | succ k =>
        simp only [lget] at hk
        obtain ⟨g', fi, gd, e1, e2⟩ := fieldsOf_get h3 hk
        exact ⟨g', fi, gd, by simpa using e1, e2⟩
    · cases h
/-- some cells, from a place on -/
def ltake {α : Type} : List α → Nat → Option (List α)
  | _, 0 => some []
  | [], _ + 1 => none
  | x :: r, n + 1 => match ltake r n with
    | some l => some (x :: l)
    | none => none
def lsub {α : Type} : List α → Nat → Nat → Option (List α)
  | l, 0, n => ltake l n
  | [], _ + 1, n => ltake [] n
  | _ :: r, o + 1, n => lsub r o n
theorem ltake_spec {α : Type} : ∀ {l : List α} {n : Nat} {m : List α}, ltake l n = some m → m = l.take n ∧ m.length = n
  | l, 0, m, h => by simp [ltake] at h; subst h; simp
  | [], n + 1, m, h => by simp [ltake] at h
  | x :: r, n + 1, m, h => by
    simp only [ltake] at h
    split at h
    · rename_i l hl
      injection h with h
      subst h
      obtain ⟨h1, h2⟩ := ltake_spec hl
      exact ⟨by simp [h1], by simp [h2]⟩
    · cases h
theorem lsub_spec {α : Type} : ∀ {l : List α} {o n : Nat} {m : List α}, lsub l o n = some m → m = (l.drop o).take n ∧ m.length = n
  | l, 0, n, m, h => by rw [List.drop_zero]; cases l <;> exact ltake_spec h
  | [], o + 1, n, m, h => by simp only [lsub] at h; simpa using ltake_spec h
  | x :: r, o + 1, n, m, h => by simp only [lsub] at h; simpa using lsub_spec h
/-- some cells are put at a place -/
def lputs {α : Type} : List α → List α → Option (List α)
  | l, [] => some l
  | [], _ :: _ => none
  | _ :: r, x :: xs => match lputs r xs with
    | some l => some (x :: l)
    | none => none
def lput {α : Type} : List α → Nat → List α → Option (List α)
  | l, 0, xs => lputs l xs
  | [], _ + 1, _ => none
  | y :: r, o + 1, xs => match lput r o xs with
    | some l => some (y :: l)
    | none => none
theorem lputs_spec {α : Type} : ∀ {l xs m : List α}, lputs l xs = some m → m = xs ++ l.drop xs.length ∧ xs.length ≤ l.length
  | l, [], m, h => by cases l <;> simp only [lputs, Option.some.injEq] at h <;> subst h <;> simp
  | [], x :: xs, m, h => by simp [lputs] at h
  | y :: r, x :: xs, m, h => by
    simp only [lputs] at h
    split at h
    · rename_i l hl
      injection h with h
      subst h
      obtain ⟨h1, h2⟩ := lputs_spec hl
      exact ⟨by simp [h1], by simp; omega⟩
    · cases h
theorem lput_spec {α : Type} : ∀ {l : List α} {o : Nat} {xs m : List α}, lput l o xs = some m → m = l.take o ++ xs ++ l.drop (o + xs.length) ∧ o + xs.length ≤ l.length
  | l, 0, xs, m, h => by
    have h' : lputs l xs = some m := by cases l <;> exact h
    obtain ⟨h1, h2⟩ := lputs_spec h'
    exact ⟨by simp [h1], by omega⟩
  | [], o + 1, xs, m, h => by simp [lput] at h
  | y :: r, o + 1, xs, m, h => by
    simp only [lput] at h
    split at h
    · rename_i l hl
      injection h with h
      subst h
      obtain ⟨h1, h2⟩ := lput_spec hl
      refine ⟨?_, by simp; omega⟩
      rw [h1, show o + 1 + xs.length = (o + xs.length) + 1 from by omega]; simp
    · cases h
end Go.Proofs.YtoideahgjgaddaaGreat
/- Operations that only look: what they give, by computation. No program in sight. -/
namespace Go.Proofs.YtoideahgjgaddaaGreat
open Go

def Conj : List Prop → Prop
  | [] => True
  | p :: r => p ∧ Conj r
theorem Conj.nil : Conj [] := trivial
theorem Conj.cons {p : Prop} {r : List Prop} (h : p) (h' : Conj r) : Conj (p :: r) := ⟨h, h'⟩
theorem Conj.app : ∀ {l m : List Prop}, Conj (l ++ m) → Conj l ∧ Conj m
  | [], m, h => ⟨trivial, h⟩
  | p :: r, m, h => ⟨⟨h.1, (Conj.app (l := r) h.2).1⟩, (Conj.app (l := r) h.2).2⟩
def validG : G → List Prop
  | .tt => []
  | .when c => [c = true]
def valid : Slot → List Prop
  | ⟨_, _, _, g⟩ => validG g
theorem valid_spec {s : Slot} (h : Conj (valid s)) : s.val = s.v := by
  obtain ⟨k, v, t, g⟩ := s
  unfold Slot.val
  cases g with
  | tt => rfl
  | when c => simp only [valid, validG] at h; simp only [G.on]; rw [h.1]
def ikN : IntKind → Nat
  | .i8 => 0 | .i16 => 1 | .i32 => 2 | .i64 => 3 | .u8 => 4 | .u16 => 5 | .u32 => 6 | .u64 => 7
theorem ikN_inj {a b : IntKind} (h : Nat.beq (ikN a) (ikN b) = true) : a = b := by
  cases a <;> cases b <;> first | rfl | cases h
def inR : IntKind → Int → List Prop
  | .i8, z => [-128 ≤ z, z ≤ 127] | .i16, z => [-32768 ≤ z, z ≤ 32767] | .i32, z => [-2147483648 ≤ z, z ≤ 2147483647]
  | .i64, z => [-9223372036854775808 ≤ z, z ≤ 9223372036854775807]
  | .u8, z => [0 ≤ z, z ≤ 255] | .u16, z => [0 ≤ z, z ≤ 65535] | .u32, z => [0 ≤ z, z ≤ 4294967295] | .u64, z => [0 ≤ z, z ≤ 18446744073709551615]
theorem inR_spec {k : IntKind} {z : Int} (h : Conj (inR k z)) : k.wrap z = z := by
  have p7 : (2 : Int) ^ 7 = 128 := rfl
  have p8 : (2 : Int) ^ 8 = 256 := rfl
  have p15 : (2 : Int) ^ 15 = 32768 := rfl
  have p16 : (2 : Int) ^ 16 = 65536 := rfl
  have p31 : (2 : Int) ^ 31 = 2147483648 := rfl
  have p32 : (2 : Int) ^ 32 = 4294967296 := rfl
  have p63 : (2 : Int) ^ 63 = 9223372036854775808 := rfl
  have p64 : (2 : Int) ^ 64 = 18446744073709551616 := rfl
  cases k <;> simp only [inR, Conj] at h <;> simp [IntKind.wrap, IntKind.bits, IntKind.signed] <;> (try split) <;> omega
def binI : BinOp → IntKind → Int → Int → Option (Value × List Prop)
  | .add, k, m, n => some (.int k (m + n), inR k (m + n))
  | .sub, k, m, n => some (.int k (m - n), inR k (m - n))
  | .mul, k, m, n => some (.int k (m * n), inR k (m * n))
  | .quo, k, m, n => some (.int k (m.tdiv n), (n ≠ 0) :: inR k (m.tdiv n))
  | .rem, k, m, n => some (.int k (m.tmod n), [n ≠ 0])
  | .and, k, m, n => some (.int k (k.wrap (BitVec.ofInt k.bits m &&& BitVec.ofInt k.bits n).toNat), [])
  | .or, k, m, n => some (.int k (k.wrap (BitVec.ofInt k.bits m ||| BitVec.ofInt k.bits n).toNat), [])
  | .xor, k, m, n => some (.int k (k.wrap (BitVec.ofInt k.bits m ^^^ BitVec.ofInt k.bits n).toNat), [])
  | .andNot, k, m, n => some (.int k (k.wrap (BitVec.ofInt k.bits m &&& ~~~ BitVec.ofInt k.bits n).toNat), [])
  | .eql, _, m, n => some (.bool (m == n), [])
  | .neq, _, m, n => some (.bool (m != n), [])
  | .lss, _, m, n => some (.bool (decide (m < n)), [])
  | .leq, _, m, n => some (.bool (decide (m ≤ n)), [])
  | .gtr, _, m, n => some (.bool (decide (m > n)), [])
  | .geq, _, m, n => some (.bool (decide (m ≥ n)), [])
  | _, _, _, _ => none
def shI : BinOp → IntKind → Int → Int → Option (Value × List Prop)
  | .shl, k, m, n => some (.int k (m * 2 ^ (min n.toNat k.bits)), (0 ≤ n) :: inR k (m * 2 ^ (min n.toNat k.bits)))
  | .shr, k, m, n => some (.int k (m.fdiv (2 ^ (min n.toNat k.bits))), [0 ≤ n])
  | _, _, _, _ => none
def eqlV : Option TD → Value → Value → Option Bool
  | some .bool, .bool a, .bool b => some (a == b)
  | some .ptr, .pointer none, .pointer none => some true
  | some .ptr, .pointer (some _), .pointer none => some false
  | some .ptr, .pointer none, .pointer (some _) => some false
  | some (.slice _ _), .slice none _ _, .slice none _ _ => some true
  | some (.slice _ _), .slice none _ _, .slice (some _) _ _ => some false
  | some (.slice _ _), .slice (some _) _ _, .slice none _ _ => some false
  | some .map, .map none, .map none => some true
  | some .map, .map none, .map (some _) => some false
  | some .map, .map (some _), .map none => some false
  | _, _, _ => none
def binV (T : Tab) (op : BinOp) (t : TypeId) : Value → Value → Option (Value × List Prop)
  | .int k m, .int k' n => match shI op k m n with
    | some r => some r
    | none => match Nat.beq (ikN k) (ikN k') with
      | true => binI op k m n
      | false => none
  | x, y => match op with
    | .eql => match eqlV ((T.get t).map (·.d)) x y with
      | some b => some (.bool b, [])
      | none => none
    | .neq => match eqlV ((T.get t).map (·.d)) x y with
      | some b => some (.bool (!b), [])
      | none => none
    | _ => none
def unV : UnOp → Value → Option (Value × List Prop)
  | .neg, .int k n => some (.int k (0 - n), inR k (0 - n))
  | .not, .bool b => some (.bool (!b), [])
  | _, _ => none

section
variable {P : Program} {w : World}
theorem binI_run {op : BinOp} {k : IntKind} {m n : Int} {v : Value} {ob : List Prop} (h : binI op k m n = some (v, ob)) (hob : Conj ob) (t : TypeId) : (binOp op t (.int k m) (.int k n)).run P w = .ok v w := by
  cases op <;> simp only [binI, Option.some.injEq, Prod.mk.injEq, reduceCtorEq] at h <;> obtain ⟨rfl, rfl⟩ := h
  case add => simp [binOp, Op.intArith, inR_spec hob]
  case sub => simp [binOp, Op.intArith, inR_spec hob]
  case mul => simp [binOp, Op.intArith, inR_spec hob]
  case quo => simp [binOp, Op.intDiv, hob.1, inR_spec hob.2]
  case rem => simp [binOp, Op.intDiv, hob.1]
  all_goals first | (simp [binOp, Op.intBits]; done) | (simp [binOp, Op.intCmp]; done)
theorem shI_run {op : BinOp} {k k' : IntKind} {m n : Int} {v : Value} {ob : List Prop} (h : shI op k m n = some (v, ob)) (hob : Conj ob) (t : TypeId) : (binOp op t (.int k m) (.int k' n)).run P w = .ok v w := by
  cases op <;> simp only [shI, Option.some.injEq, Prod.mk.injEq, reduceCtorEq] at h <;> obtain ⟨rfl, rfl⟩ := h
  case shl => simp [binOp, Op.shift, Int.not_lt.2 hob.1, inR_spec hob.2]
  case shr => simp [binOp, Op.shift, Int.not_lt.2 hob.1]
theorem underlying_run {t : TypeId} {d : TypeDesc} (h : P.underlying t = some d) : (underlying t).run P w = .ok d w := by simp [underlying, h]
theorem equalIn_bool (d : Nat) {t : TypeId} (h : P.underlying t = some .bool) (a b : Bool) : (Op.equalIn (d + 1) t (.bool a) (.bool b)).run P w = .ok (a == b) w := by simp [Op.equalIn, underlying_run h]
theorem equalIn_ptr1 (d : Nat) {t x : TypeId} (h : P.underlying t = some (.pointer x)) (b : Option Addr) : (Op.equalIn (d + 1) t (.pointer none) (.pointer b)).run P w = .ok b.isNone w := by simp [Op.equalIn, underlying_run h]
theorem equalIn_ptr2 (d : Nat) {t x : TypeId} (h : P.underlying t = some (.pointer x)) (b : Addr) : (Op.equalIn (d + 1) t (.pointer (some b)) (.pointer none)).run P w = .ok false w := by simp [Op.equalIn, underlying_run h]
theorem equalIn_sl1 (d : Nat) {t x : TypeId} (h : P.underlying t = some (.slice x)) (b : Option Addr) (m n m' n' : Nat) : (Op.equalIn (d + 1) t (.slice none m n) (.slice b m' n')).run P w = .ok b.isNone w := by simp [Op.equalIn, underlying_run h]
theorem equalIn_sl2 (d : Nat) {t x : TypeId} (h : P.underlying t = some (.slice x)) (b : Addr) (m n m' n' : Nat) : (Op.equalIn (d + 1) t (.slice (some b) m n) (.slice none m' n')).run P w = .ok false w := by simp [Op.equalIn, underlying_run h]
theorem equalIn_map1 (d : Nat) {t x y : TypeId} (h : P.underlying t = some (.map x y)) (b : Option Nat) : (Op.equalIn (d + 1) t (.map none) (.map b)).run P w = .ok b.isNone w := by simp [Op.equalIn, underlying_run h]
theorem equalIn_map2 (d : Nat) {t x y : TypeId} (h : P.underlying t = some (.map x y)) (b : Nat) : (Op.equalIn (d + 1) t (.map (some b)) (.map none)).run P w = .ok false w := by simp [Op.equalIn, underlying_run h]
theorem equal_step (t : TypeId) (x y : Value) : Op.equal t x y = Op.equalIn (9999 + 1) t x y := rfl
theorem eqlV_run {T : Tab} (hT : TabOK P T) {t : TypeId} {x y : Value} {b : Bool} (h : eqlV ((T.get t).map (·.d)) x y = some b) : (Op.equal t x y).run P w = .ok b w ∧ ∀ op o1 o2, (eqGuard op t o1 o2 x y).run P w = .ok () w := by
  rw [equal_step]
  generalize 9999 = n
  cases hg : T.get t with
  | none => rw [hg] at h; simp [eqlV] at h
  | some i =>
    rw [hg] at h
    obtain ⟨d, f, z, ok⟩ := tiOf_spec (hT.get hg)
    simp only [Option.map_some] at h
    generalize hd : i.d = td at h
    unfold eqlV at h
    split at h <;> simp only [Option.some.injEq, reduceCtorEq] at h <;> subst h <;> rename_i e <;> injection e with e <;> subst e
    · have := ok.bool hd; subst this
      exact ⟨equalIn_bool n ok.hd _ _, fun op o1 o2 => by cases op <;> rfl⟩
    · obtain ⟨x', e⟩ := ok.ptr hd; subst e
      exact ⟨equalIn_ptr1 n ok.hd _, fun op o1 o2 => by cases op <;> rfl⟩
    · obtain ⟨x', e⟩ := ok.ptr hd; subst e
      exact ⟨equalIn_ptr2 n ok.hd _, fun op o1 o2 => by cases op <;> rfl⟩
    · obtain ⟨x', e⟩ := ok.ptr hd; subst e
      exact ⟨equalIn_ptr1 n ok.hd _, fun op o1 o2 => by cases op <;> rfl⟩
    · obtain ⟨fx, e, _⟩ := ok.slice hd; subst e
      exact ⟨equalIn_sl1 n ok.hd _ _ _ _ _, fun op o1 o2 => by cases op <;> rfl⟩
    · obtain ⟨fx, e, _⟩ := ok.slice hd; subst e
      exact ⟨equalIn_sl1 n ok.hd _ _ _ _ _, fun op o1 o2 => by cases op <;> rfl⟩
    · obtain ⟨fx, e, _⟩ := ok.slice hd; subst e
      exact ⟨equalIn_sl2 n ok.hd _ _ _ _ _, fun op o1 o2 => by cases op <;> rfl⟩
    · obtain ⟨x', y', e⟩ := ok.map hd; subst e
      exact ⟨equalIn_map1 n ok.hd _, fun op o1 o2 => by cases op <;> rfl⟩
    · obtain ⟨x', y', e⟩ := ok.map hd; subst e
      exact ⟨equalIn_map1 n ok.hd _, fun op o1 o2 => by cases op <;> rfl⟩
    · obtain ⟨x', y', e⟩ := ok.map hd; subst e
      exact ⟨equalIn_map2 n ok.hd _, fun op o1 o2 => by cases op <;> rfl⟩
theorem binV_run {T : Tab} (hT : TabOK P T) {op : BinOp} {t : TypeId} {x y v : Value} {ob : List Prop} (h : binV T op t x y = some (v, ob)) (hob : Conj ob) (o1 o2 : Operand) :
    (do eqGuard op t o1 o2 x y; binOp op t x y : Sem Value).run P w = .ok v w := by
  unfold binV at h
  split at h
  · rename_i k m k' n
    have hg : (eqGuard op t o1 o2 (.int k m) (.int k' n)).run P w = .ok () w := by cases op <;> simp [eqGuard]
    simp only [Sem.run_bind, hg, Result.andThen_ok]
    split at h
    · rename_i r hr
      injection h with h; subst h
      exact shI_run hr hob t
    · split at h
      · rename_i e
        have := ikN_inj e; subst this
        exact binI_run h hob t
      · cases h
  · rename_i hne
    split at h
    · split at h
      · rename_i b hb
        injection h with h
        simp only [Prod.mk.injEq] at h
        obtain ⟨rfl, rfl⟩ := h
        obtain ⟨h1, h2⟩ := eqlV_run (w := w) hT hb
        simp only [Sem.run_bind, h2, Result.andThen_ok]
        have : binOp .eql t x y = (do pure (.bool (← Op.equal t x y)) : Sem Value) := by
          cases x <;> cases y <;> first | rfl | (exact (hne _ _ _ _ rfl rfl).elim) | (revert hb; cases (T.get t).map (·.d) with
            | none => simp [eqlV]
            | some d => cases d <;> simp [eqlV])
        simp [this, h1]
      · cases h
    · split at h
      · rename_i b hb
        injection h with h
        simp only [Prod.mk.injEq] at h
        obtain ⟨rfl, rfl⟩ := h
        obtain ⟨h1, h2⟩ := eqlV_run (w := w) hT hb
        simp only [Sem.run_bind, h2, Result.andThen_ok]
        have : binOp .neq t x y = (do pure (.bool (!(← Op.equal t x y))) : Sem Value) := by
          cases x <;> cases y <;> first | rfl | (exact (hne _ _ _ _ rfl rfl).elim) | (revert hb; cases (T.get t).map (·.d) with
            | none => simp [eqlV]
            | some d => cases d <;> simp [eqlV])
        simp [this, h1]
      · cases h
    · cases h
theorem unV_run {op : UnOp} {x v : Value} {ob : List Prop} (h : unV op x = some (v, ob)) (hob : Conj ob) : (Op.unary op x).run P w = .ok v w := by
  unfold unV at h
  split at h <;> simp only [Option.some.injEq, Prod.mk.injEq, reduceCtorEq] at h <;> obtain ⟨rfl, rfl⟩ := h
  · simp only [Op.unary, Op.intArith, inR_spec hob]; rfl
  · rfl
end
end Go.Proofs.YtoideahgjgaddaaGreat
/- Operations: what they give and what becomes of memory, by computation. No program in sight. -/
namespace Go.Proofs.YtoideahgjgaddaaGreat
open Go

structure LR where
  v : Value
  tag : Nat
  ob : List Prop
  rd : Nat
def validIf (p : Prop) : Slot → List Prop
  | ⟨_, _, _, .tt⟩ => []
  | ⟨_, _, _, .when c⟩ => [p → c = true]
def lkFieldAddr (T : Tab) (st f : Nat) : Slot → Option LR
  | ⟨_, .pointer (some ⟨b, o, none⟩), tag, g⟩ => match T.get st with
    | some ⟨.row fs, _, _, _⟩ => match lget fs f with
      | some (off, _ + 1, _) => some ⟨.pointer (some ⟨b, o + off, none⟩), tag, validG g, 0⟩
      | _ => none
    | _ => none
  | _ => none
def lkField (T : Tab) (t f : Nat) : Slot → Option LR
  | ⟨_, .agg cs, _, g⟩ => match T.get t with
    | some ⟨.row fs, _, _, _⟩ => match lget fs f with
      | some (off, sz, true) => match lsub cs.toList off sz with
        | some l => some ⟨.agg l.toArray, 0, validG g, 0⟩
        | none => none
      | some (off, _, false) => match lget cs.toList off with
        | some v => some ⟨v, 0, validG g, 0⟩
        | none => none
      | none => none
    | _ => none
  | _ => none
def lkIndexAddr (T : Tab) (t : Nat) : Slot → Slot → Option LR
  | ⟨_, .pointer (some ⟨b, o, none⟩), tag, g⟩, ⟨_, .int _ n, _, g'⟩ => match T.get t with
    | some ⟨.arr len esz, _, _, _⟩ => some ⟨.pointer (some ⟨b, o + n.toNat * esz, none⟩), tag, (0 ≤ n) :: (n < (len : Int)) :: (validG g ++ validG g'), 0⟩
    | _ => none
  | ⟨_, .slice (some ⟨b, o, none⟩) len _, tag, g⟩, ⟨_, .int _ n, _, g'⟩ => match T.get t with
    | some ⟨.slice _ esz, _, _, _⟩ => some ⟨.pointer (some ⟨b, o + n.toNat * esz, none⟩), tag, (0 ≤ n) :: (n < (len : Int)) :: (validG g ++ validG g'), 0⟩
    | _ => none
  | _, _ => none
def lkPick (E : Env) (c a b : Operand) : Option LR := match ev E c with
  | some ⟨kc, .bool cb, tc, gc⟩ => match b with
    | .const (.bool false) => match ev E a with
      | some ⟨ka, .bool va, ta, ga⟩ => some ⟨.bool (cb && va), 0, validG gc ++ validIf (cb = true) ⟨ka, .bool va, ta, ga⟩, 0⟩
      | _ => none
    | _ => match a with
      | .const (.bool true) => match ev E b with
        | some ⟨kb, .bool vb, tb, gb⟩ => some ⟨.bool (cb || vb), 0, validG gc ++ validIf (cb = false) ⟨kb, .bool vb, tb, gb⟩, 0⟩
        | _ => none
      | _ => none
  | _ => none
def lkLoad (T : Tab) (L : List Atom) (t : Nat) : Slot → Option LR
  | ⟨_, .pointer (some ⟨b, o, none⟩), i + 1, g⟩ => match lget L i with
    | some (.pt b' _ cs) => match T.get t with
      | some ⟨.row _, sz, _, _⟩ => match lsub cs o sz with
        | some l => some ⟨.agg l.toArray, 0, (b = b') :: validG g, i + 1⟩
        | none => none
      | some ⟨.arr _ _, sz, _, _⟩ => match lsub cs o sz with
        | some l => some ⟨.agg l.toArray, 0, (b = b') :: validG g, i + 1⟩
        | none => none
      | some _ => match lget cs o with
        | some v => some ⟨v, 0, (b = b') :: validG g, i + 1⟩
        | none => none
      | none => none
    | _ => none
  | _ => none
/-- a bound of a slice: none: as it is -/
def lkBound (E : Env) : Option Operand → Nat → Option (Nat × List Prop)
  | none, d => some (d, [])
  | some x, _ => match ev E x with
    | some ⟨_, .int _ n, _, g⟩ => some (n.toNat, (0 ≤ n) :: validG g)
    | _ => none
def lkSlice (T : Tab) (E : Env) (t : Nat) (lo hi : Option Operand) : Slot → Option LR
  | ⟨_, .pointer (some ⟨b, o, none⟩), tag, g⟩ => match T.get t with
    | some ⟨.arr n esz, _, _, _⟩ => match lkBound E lo 0, lkBound E hi n with
      | some (l, ol), some (h, oh) => some ⟨.slice (some ⟨b, o + l * esz, none⟩) (h - l) (n - l), tag, validG g ++ ol ++ oh ++ [l ≤ h, h ≤ n, l = 0 ∨ l < n], 0⟩
      | _, _ => none
    | _ => none
  | ⟨_, .slice (some ⟨b, o, none⟩) len cap, tag, g⟩ => match T.get t with
    | some ⟨.slice _ esz, _, _, _⟩ => match lkBound E lo 0, lkBound E hi len with
      | some (l, ol), some (h, oh) => some ⟨.slice (some ⟨b, o + l * esz, none⟩) (h - l) (cap - l), tag, validG g ++ ol ++ oh ++ [l ≤ h, h ≤ cap, l = 0 ∨ l < cap], 0⟩
      | _, _ => none
    | _ => none
  | _ => none
def slots (E : Env) : List Operand → Option (List Slot)
  | [] => some []
  | x :: r => match ev E x, slots E r with
    | some s, some l => some (s :: l)
    | _, _ => none
def valids : List Slot → List Prop
  | [] => []
  | s :: r => valid s ++ valids r
def vals : List Slot → List Value
  | [] => []
  | ⟨_, v, _, _⟩ :: r => v :: vals r
/-- parts are laid into cells -/
def fillL (place : Nat → Option (Nat × Nat)) : List Value → List (Nat × Value) → Option (List Value)
  | cs, [] => some cs
  | cs, (i, v) :: r => match place i with
    | some (off, sz) => match Nat.beq v.cells.toList.length sz, lput cs off v.cells.toList with
      | true, some cs' => fillL place cs' r
      | _, _ => none
    | none => none
def partsV : List (Nat × Operand) → List Slot → List (Nat × Value)
  | (i, _) :: r, ⟨_, v, _, _⟩ :: l => (i, v) :: partsV r l
  | _, _ => []
def placeRow (fs : List (Nat × Nat × Bool)) (i : Nat) : Option (Nat × Nat) := match lget fs i with
  | some (off, sz, _) => some (off, sz)
  | none => none
def lkBuild (T : Tab) (E : Env) (t : Nat) (parts : List (Nat × Operand)) : Option LR := match T.get t, slots E (parts.map (·.2)) with
  | some ⟨.row fs, _, z, _⟩, some l => match fillL (placeRow fs) z (partsV parts l) with
    | some cs => some ⟨.agg cs.toArray, 0, valids l, 0⟩
    | none => none
  | some ⟨.arr _ esz, _, z, _⟩, some l => match fillL (fun i => some (i * esz, esz)) z (partsV parts l) with
    | some cs => some ⟨.agg cs.toArray, 0, valids l, 0⟩
    | none => none
  | _, _ => none
def lkCall (T : Tab) (E : Env) (b : Builtin) (ts : List TypeId) (xs : List Operand) : Option LR := match b, ts, slots E xs with
  | .len, t :: _, some (⟨_, .slice _ n _, _, g⟩ :: _) => match T.get t with
    | some ⟨.slice _ _, _, _, _⟩ => some ⟨.int .i64 (n : Int), 0, validG g, 0⟩
    | _ => none
  | .cap, t :: _, some (⟨_, .slice _ _ n, _, g⟩ :: _) => match T.get t with
    | some ⟨.slice _ _, _, _, _⟩ => some ⟨.int .i64 (n : Int), 0, validG g, 0⟩
    | _ => none
  | .min, _, some [⟨_, .int k x, _, g⟩, ⟨_, .int _ y, _, g'⟩] => some ⟨.int k (if y < x then y else x), 0, validG g ++ validG g', 0⟩
  | .max, _, some [⟨_, .int k x, _, g⟩, ⟨_, .int _ y, _, g'⟩] => some ⟨.int k (if y > x then y else x), 0, validG g ++ validG g', 0⟩
  | _, _, _ => none
def look (T : Tab) (E : Env) (L : List Atom) : Op → Option LR
  | .move x | .assign x => match ev E x with
    | some ⟨_, v, t, g⟩ => some ⟨v, t, validG g, 0⟩
    | none => none
  | .pick c a b => lkPick E c a b
  | .nilCheck x => match ev E x with
    | some ⟨_, .pointer (some a), t, g⟩ => some ⟨.pointer (some a), t, validG g, 0⟩
    | _ => none
  | .binOp op t x y _ => match ev E x, ev E y with
    | some ⟨_, v, _, g⟩, some ⟨_, v', _, g'⟩ => match binV T op t v v' with
      | some (u, ob) => some ⟨u, 0, ob ++ validG g ++ validG g', 0⟩
      | none => none
    | _, _ => none
  | .unOp op _ x => match ev E x with
    | some ⟨_, v, _, g⟩ => match unV op v with
      | some (u, ob) => some ⟨u, 0, ob ++ validG g, 0⟩
      | none => none
    | none => none
  | .convert src dst x => match ev E x, T.get dst, T.get src with
    | some ⟨_, .int _ n, _, g⟩, some ⟨.int k', _, _, _⟩, some _ => some ⟨.int k' n, 0, inR k' n ++ validG g, 0⟩
    | _, _, _ => none
  | .fieldAddr st x f => match ev E x with
    | some s => lkFieldAddr T st f s
    | none => none
  | .field t x f => match ev E x with
    | some s => lkField T t f s
    | none => none
  | .indexAddr t x (.const i) => match ev E x with
    | some s => lkIndexAddr T t s ⟨0, i, 0, .tt⟩
    | none => none
  | .indexAddr t x i => match ev E x, ev E i with
    | some ⟨k, v, _, g⟩, some s' => lkIndexAddr T t ⟨k, v, 0, g⟩ s'
    | _, _ => none
  | .extract x i => match ev E x with
    | some ⟨_, .tuple vs, _, g⟩ => match lget vs.toList i with
      | some v => some ⟨v, 0, validG g, 0⟩
      | none => none
    | _ => none
  | .slice t x lo hi none => match ev E x with
    | some s => lkSlice T E t lo hi s
    | none => none
  | .build t parts => lkBuild T E t parts.toList
  | .makeFunc fn first captured => match slots E first.toList, slots E captured.toList with
    | some l, some l' => some ⟨.func fn (vals l).toArray (vals l').toArray, 0, valids l ++ valids l', 0⟩
    | _, _ => none
  | .load t x => match ev E x with
    | some s => lkLoad T L t s
    | none => none
  | .call ⟨.builtin b, args, ts⟩ => lkCall T E b ts.toList args.toList
  | _ => none

section
variable {P : Program} {T : Tab} {E : Env} {L : List Atom} {n : Nat} {a : Act} {w : World}
theorem Addr.add_none (b o k : Nat) : (⟨b, o, none⟩ : Addr).add k = ⟨b, o + k, none⟩ := by
  unfold Addr.add
  split
  · rename_i h; subst h; rfl
  · rfl
theorem evs {x : Operand} {s : Slot} (he : EnvOK n E a) (h : ev E x = some s) (hv : Conj (valid s)) : a.eval x = s.v := (ev_spec he h).trans (valid_spec hv)
theorem isAgg_run {t : TypeId} {d : TypeDesc} (h : P.underlying t = some d) : (isAgg t).run P w = .ok (isAggD d) w := by
  cases d <;> simp [isAgg, underlying_run h, isAggD]
theorem sizeOf_run {t : TypeId} {f : TypeInfo} (h : P.info? t = some f) : (sizeOf t).run P w = .ok f.size w := by simp [sizeOf, typeInfo, h]
theorem zero_run {t : TypeId} {f : TypeInfo} {z : Value} (h : P.info? t = some f) (hz : f.zero = some z) : (zeroValue t).run P w = .ok z w := by simp [zeroValue, typeInfo, h, hz]
def missed (P : Program) (w : World) (t : TypeId) (cs : Array Value) (off : Nat) := (part t cs off).run P w
theorem part_run {t : TypeId} {f : TypeInfo} {d : TypeDesc} (hd : P.underlying t = some d) (hf : P.info? t = some f) (cs : Array Value) (off : Nat) :
    (part t cs off).run P w = if isAggD d then .ok (.agg (cs.extract off (off + f.size))) w else match cs[off]? with
      | some v => .ok v w
      | none => missed P w t cs off := by
  cases hb : isAggD d
  · cases hc : cs[off]? with
    | none => rfl
    | some v => simp only [part, Sem.run_bind, isAgg_run hd, Result.andThen_ok, hb, Bool.false_eq_true, if_false, hc]; rfl
  · simp [part, isAgg_run hd, hb, sizeOf_run hf]
theorem lkFieldAddr_run (hT : TabOK P T) {st f : Nat} {s : Slot} {r : LR} (h : lkFieldAddr T st f s = some r) : (Instr.fieldAt st s.v f).run P w = .ok r.v w := by
  unfold lkFieldAddr at h
  split at h
  · rename_i kk b o tg gg
    split at h
    · rename_i fs sz z bb hg
      split at h
      · rename_i off k ag hl
        injection h with h; subst h
        obtain ⟨d, fi, zv, ok⟩ := tiOf_spec (hT.get hg)
        obtain ⟨fl, e, hfl⟩ := ok.row rfl
        subst e
        obtain ⟨g, gi, gd, h1, h2, h3, h4, h5, h6⟩ := fieldsOf_get hfl hl
        have h1' : fl[f]? = some g := by simpa using h1
        have hne : gi.size ≠ 0 := by omega
        simp only [Instr.fieldAt, Sem.run_bind, underlying_run ok.hd, Result.andThen_ok, h1', Instr.sureAddr, Sem.run_pure, fieldPlace, sizeOf_run h2]
        simp [hne, Addr.add_none, h4]
      · cases h
    · cases h
  · cases h
theorem lsub_extract {cs : Array Value} {o n : Nat} {l : List Value} (h : lsub cs.toList o n = some l) : cs.extract o (o + n) = l.toArray := by
  obtain ⟨h1, h2⟩ := lsub_spec h
  apply Array.toList_inj.1
  subst h1
  simp [List.extract_eq_take_drop]
theorem lkField_run (hT : TabOK P T) {t f : Nat} {s : Slot} {r : LR} (h : lkField T t f s = some r) : (Instr.field t s.v f).run P w = .ok r.v w := by
  unfold lkField at h
  split at h
  · rename_i kk cs tg gg
    split at h
    · rename_i fs sz z bb hg
      obtain ⟨d, fi, zv, ok⟩ := tiOf_spec (hT.get hg)
      obtain ⟨fl, e, hfl⟩ := ok.row rfl
      subst e
      split at h
      · rename_i off k hl
        obtain ⟨g, gi, gd, h1, h2, h3, h4, h5, h6⟩ := fieldsOf_get hfl hl
        have h1' : fl[f]? = some g := by simpa using h1
        split at h
        · rename_i l hl2
          injection h with h; subst h
          simp only [Instr.field, Sem.run_bind, underlying_run ok.hd, Result.andThen_ok, h1', asAgg, Sem.run_pure, part_run h3 h2, h6, if_true, h4, h5, lsub_extract hl2]
        · cases h
      · rename_i off k hl
        obtain ⟨g, gi, gd, h1, h2, h3, h4, h5, h6⟩ := fieldsOf_get hfl hl
        have h1' : fl[f]? = some g := by simpa using h1
        split at h
        · rename_i v hl2
          injection h with h; subst h
          rw [lget_eq] at hl2
          have hl3 : cs[off]? = some v := by simpa using hl2
          simp only [Instr.field, Sem.run_bind, underlying_run ok.hd, Result.andThen_ok, h1', asAgg, Sem.run_pure, part_run h3 h2, h6, Bool.false_eq_true, if_false, h4, hl3]
        · cases h
      · cases h
    · cases h
  · cases h
theorem lkIndexAddr_run (hT : TabOK P T) {t : Nat} {s i : Slot} {r : LR} (h : lkIndexAddr T t s i = some r) (hob : Conj r.ob) : (Instr.indexAt t s.v i.v).run P w = .ok r.v w := by
  unfold lkIndexAddr at h
  split at h
  · rename_i kk b o tg gg kk' k x tg' gg'
    split at h
    · rename_i len esz sz z bb hg
      injection h with h; subst h
      obtain ⟨d, fi, zv, ok⟩ := tiOf_spec (hT.get hg)
      obtain ⟨e, fe, rfl, h1, h2⟩ := ok.arr rfl
      simp only [Instr.indexAt, asIntOf, Sem.run_bind, Sem.run_pure, Result.andThen_ok, underlying_run ok.hd, Instr.sureAddr]
      rw [if_pos ⟨hob.1, hob.2.1⟩]
      simp [sizeOf_run h1, h2, Addr.add_none]
    · cases h
  · rename_i kk b o len cap tg gg kk' k x tg' gg'
    split at h
    · rename_i el esz sz z bb hg
      injection h with h; subst h
      obtain ⟨d, fi, zv, ok⟩ := tiOf_spec (hT.get hg)
      obtain ⟨fe, rfl, h1, h2⟩ := ok.slice rfl
      simp only [Instr.indexAt, asIntOf, Sem.run_bind, Sem.run_pure, Result.andThen_ok, underlying_run ok.hd]
      rw [if_pos ⟨hob.1, hob.2.1⟩]
      simp [sizeOf_run h1, h2, Addr.add_none]
    · cases h
  · cases h
end
end Go.Proofs.YtoideahgjgaddaaGreat
