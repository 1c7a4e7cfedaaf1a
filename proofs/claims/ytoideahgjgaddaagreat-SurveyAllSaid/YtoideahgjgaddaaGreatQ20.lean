/- Helpers of the proofs about ostrakonlaw11, proved here: Tw, BgD, EffG, BgG, BgH, BgI, Ls, RfD. No condition. -/
import Derived.Test.YtoideahgjgaddaaGreatQ05
import Derived.Test.YtoideahgjgaddaaGreatQ11
import Derived.Test.YtoideahgjgaddaaGreatQ12
import Derived.Test.YtoideahgjgaddaaGreatQ18
import Derived.Test.YtoideahgjgaddaaGreatQ19
set_option maxRecDepth 20000
set_option linter.unusedVariables false
set_option linter.unusedSimpArgs false
set_option linter.unusedSectionVars false
set_option linter.unnecessarySimpa false
namespace Go.Proofs.YtoideahgjgaddaaGreat
open Go Go.RowKit
abbrev Pg := { l : List UInt8 // l.length = 32 }
def pgk (p : Pg) : Value := pgV p.1
theorem key32 : KeyOk Tryz.prog 94 pgk where
 now := ⟨_, Tryz.underlying94, fun _ _ => .inl rfl⟩
 eq := fun a b w => by
  have := eqIn_page a.1 b.1 a.2 b.2 w
  rw [pgV_eq _ a.2, pgV_eq _ b.2] at this
  have e : decide (a.1 = b.1) = decide (a = b) := by
   by_cases h : a = b
   ·simp [h]
   ·have : ¬ a.1 = b.1 := fun e => h (Subtype.ext e)
    simp [h, this]
  rw [← e]
  exact this
 check := fun e a w => by kernel_rfl
 bits := fun a => by simp [pgk, pageC, byC, bv, Instr.sameBits]
theorem umapT : Tryz.prog.underlying 304 = some (.map 94 32) := by kernel_rfl
theorem zeroI (w : World) : (zeroValue 32).run Tryz.prog w = .ok (.slice none 0 0) w := by kernel_rfl
def p1 : Pg := ⟨[1, 0, 0, 0, 0, 0, 0, 0, 0, 0, 0, 0, 0, 0, 0, 0, 0, 0, 0, 0, 0, 0, 0, 0, 0, 0, 0, 0, 0, 0, 0, 0], rfl⟩
def p2 : Pg := ⟨[2, 0, 0, 0, 0, 0, 0, 0, 0, 0, 0, 0, 0, 0, 0, 0, 0, 0, 0, 0, 0, 0, 0, 0, 0, 0, 0, 0, 0, 0, 0, 0], rfl⟩
def pg3 : List Value := pageC p1.1 ++ (pageC p2.1 ++ pageC p1.1)
def twL (k : Nat) (a b : Option Nat × Nat) : List (Pg × Value) := match k with
 | 0 => []
 | 1 => [(p1, slv a.1 1 a.2)]
 | 2 => [(p1, slv a.1 1 a.2), (p2, slv b.1 1 b.2)]
 | _ => [(p1, slv a.1 2 a.2), (p2, slv b.1 1 b.2)]
def twN (k : Nat) : Nat := match k with | 0 => 0 | 1 => 1 | 2 => 1 | _ => 2
def twM (k : Nat) : Nat := match k with | 0 => 0 | 1 => 0 | _ => 1
def twA (k : Nat) : List Value := match k with | 0 => [] | 1 => [.int .i64 0] | 2 => [.int .i64 0] | _ => [.int .i64 0, .int .i64 2]
def twB (k : Nat) : List Value := match k with | 0 => [] | 1 => [] | _ => [.int .i64 1]
def twO (k : Nat) (ga ca : Nat) : List Value := match k with | 0 => [] | _ => [slv (some ga) 2 ca]
theorem x_Twins (g : Nat) : Fn Tryz.prog 242 [.slice (some ⟨g, 0, none⟩) 3 3] [.pt g 94 pg3]
  (fun v As => ∃ o co a ca, v = slv o 1 co ∧ As = [ownA 32 1 o 1 co [slv a 2 ca], ownA 3 1 a 2 ca [.int .i64 0, .int .i64 2]]) := by
 refine Fn.enter [2] Tryz.func242 rfl rfl rfl fun X F hX => ?_
 refine J.r hX tk 400 (fun _ => rfl) fun mm => ?_
 refine J.turn1 [2] rfl (As := [mapA (mm 0) pgk (twL 0 (none, 0) (none, 0)), ownA 3 1 none 0 0 [], ownA 3 1 none 0 0 []]) (fun h s => ⟨fun _ => 0, fun i A hA => by
  match i, hA with
  | 0, hA => simp at hA; subst hA; exact ⟨#[], 0, res_some.2 ⟨rfl, s.get (i := 0) rfl⟩, rfl, by simp, by simp⟩
  | 1, hA => simp at hA; subst hA; exact ⟨rfl, rfl, rfl⟩
  | 2, hA => simp at hA; subst hA; exact ⟨rfl, rfl, rfl⟩
  | k + 3, hA => simp at hA⟩) rfl ?_
 refine J.r hX tk 400 (fun _ => rfl) fun b1 => ?_
 refine J.lo (α := (Nat × (Option Nat × Nat) × (Option Nat × Nat))) (fun z => z.1 ≤ 3 ∧ (z.1 = 0 → ∀ g, z.2.1.1 ≠ some g) ∧ (z.1 ≤ 1 → ∀ g, z.2.2.1 ≠ some g)) (fun z => [⟨13, .int .i64 z.1, 0, .tt⟩, ⟨12, .int .i64 3, 0, .tt⟩, ⟨11, .slice (some ⟨g, 0, none⟩) 3 3, 2, .tt⟩, ⟨0, .slice (some ⟨g, 0, none⟩) 3 3, 2, .tt⟩, ⟨3, .map (some (mm 0)), 3, .tt⟩]) [2, 3, 4] (fun z => [mapA (mm 0) pgk (twL z.1 z.2.1 z.2.2), ownA 3 1 z.2.1.1 (twN z.1) z.2.1.2 (twA z.1), ownA 3 1 z.2.2.1 (twM z.1) z.2.2.2 (twB z.1)]) (fun z => 3 - z.1) ((0, (none, 0), (none, 0))) (⟨by omega, by simp, by simp⟩) rfl ?_ (fun _ => rfl) fun z hI => ?_
 ·rfl
 obtain ⟨k, ⟨a, ca⟩, ⟨b, cb⟩⟩ := z
 dsimp only at hI ⊢
 obtain ⟨hI0, hI⟩ := hI
 rcases (by omega : k = 0 ∨ k = 1 ∨ k = 2 ∨ k = 3) with rfl | rfl | rfl | rfl
 ·-- 0
  refine J.r hX tk 400 (fun _ => rfl) fun b3 => ?_
  refine J.cond rfl (fun _ => ?_) (fun h => absurd h (by decide))
  obtain rfl : a = none := by cases a with
   | none => rfl
   | some g => exact absurd rfl (hI.1 rfl g)
  refine J.know (p := ca = 0) (fun h' s => (s.get (i := 3) rfl).2.2) fun hg => ?_
  subst hg
  refine J.r hX tk 400 (fun _ => rfl) fun b4 => ?_
  refine J.val hX (pgk p1) 0 rfl rfl (fun hg a w he hw => loadN_run tk rfl rfl he rfl rfl rfl (hw.get (i := 1) rfl) rfl rfl) rfl trivial ?_
  refine J.r hX tk 400 (fun _ => rfl) fun b5 => ?_
  refine J.mapEntry hX key32 umapT zeroI p1 2 rfl rfl rfl rfl rfl rfl rfl rfl rfl rfl (fun _ => rfl) (fun _ => rfl) fun st => ⟨trivial, ?_⟩
  refine J.r hX tk 400 (fun _ => rfl) fun b6 => ?_
  refine J.append hX tk (a := none) (n := 0) (cap := 0) 3 6 0 rfl rfl rfl rfl rfl rfl rfl rfl rfl rfl rfl rfl rfl rfl rfl rfl (by decide) (by decide) (fun _ => rfl) fun a2 c2 => ⟨_, rfl, trivial, ?_⟩
  refine J.r hX tk 400 (fun _ => rfl) fun b7 => ?_
  refine J.entryStore hX 2 rfl rfl rfl rfl rfl rfl rfl rfl rfl rfl rfl (fun _ => rfl) rfl ⟨trivial, ?_⟩
  refine J.r hX tk 400 (fun _ => rfl) fun b8 => ?_
  refine J.nS ((1, (a2, c2), (b, cb))) (⟨by dsimp only; omega, by simp, fun _ => hI.2 (by omega)⟩) (by dsimp only; omega) [0, 1, 2, 3, 4] rfl rfl
 ·-- 1
  refine J.r hX tk 400 (fun _ => rfl) fun b10 => ?_
  refine J.cond rfl (fun _ => ?_) (fun h => absurd h (by decide))
  obtain rfl : b = none := by cases b with
   | none => rfl
   | some g => exact absurd rfl (hI.2 (by omega) g)
  refine J.know (p := cb = 0) (fun h' s => (s.get (i := 4) rfl).2.2) fun hg => ?_
  subst hg
  refine J.r hX tk 400 (fun _ => rfl) fun b11 => ?_
  refine J.val hX (pgk p2) 0 rfl rfl (fun hg a w he hw => loadN_run tk rfl rfl he rfl rfl rfl (hw.get (i := 1) rfl) rfl rfl) rfl trivial ?_
  refine J.r hX tk 400 (fun _ => rfl) fun b12 => ?_
  refine J.mapEntry hX key32 umapT zeroI p2 2 rfl rfl rfl rfl rfl rfl rfl rfl rfl rfl (fun _ => rfl) (fun _ => rfl) fun st => ⟨trivial, ?_⟩
  refine J.r hX tk 400 (fun _ => rfl) fun b13 => ?_
  refine J.append hX tk (a := none) (n := 0) (cap := 0) 4 6 0 rfl rfl rfl rfl rfl rfl rfl rfl rfl rfl rfl rfl rfl rfl rfl rfl (by decide) (by decide) (fun _ => rfl) fun a2 c2 => ⟨_, rfl, trivial, ?_⟩
  refine J.r hX tk 400 (fun _ => rfl) fun b14 => ?_
  refine J.entryStore hX 2 rfl rfl rfl rfl rfl rfl rfl rfl rfl rfl rfl (fun _ => rfl) rfl ⟨trivial, ?_⟩
  refine J.r hX tk 400 (fun _ => rfl) fun b15 => ?_
  refine J.nS ((2, (a, ca), (a2, c2))) (⟨by dsimp only; omega, by simp, by simp⟩) (by dsimp only; omega) [0, 1, 2, 3, 4] rfl rfl
 ·-- 2
  refine J.r hX tk 400 (fun _ => rfl) fun b17 => ?_
  refine J.cond rfl (fun _ => ?_) (fun h => absurd h (by decide))
  refine J.know (fun h' s => own_some (c := (a, ca)) (by decide) (s.get (i := 3) rfl)) fun hg => ?_
  obtain ⟨ga, rfl⟩ := hg
  refine J.r hX tk 400 (fun _ => rfl) fun b18 => ?_
  refine J.val hX (pgk p1) 0 rfl rfl (fun hg a w he hw => loadN_run tk rfl rfl he rfl rfl rfl (hw.get (i := 1) rfl) rfl rfl) rfl trivial ?_
  refine J.r hX tk 400 (fun _ => rfl) fun b19 => ?_
  refine J.mapEntry hX key32 umapT zeroI p1 2 rfl rfl rfl rfl rfl rfl rfl rfl rfl rfl (fun _ => rfl) (fun _ => rfl) fun st => ⟨trivial, ?_⟩
  refine J.r hX tk 400 (fun _ => rfl) fun b20 => ?_
  refine J.append hX tk (a := (some ga)) (n := 1) (cap := ca) 3 6 0 rfl rfl rfl rfl rfl rfl rfl rfl rfl rfl rfl rfl rfl rfl rfl rfl (by decide) (by decide) (fun _ => rfl) fun a2 c2 => ⟨_, rfl, trivial, ?_⟩
  refine J.r hX tk 400 (fun _ => rfl) fun b21 => ?_
  refine J.entryStore hX 2 rfl rfl rfl rfl rfl rfl rfl rfl rfl rfl rfl (fun _ => rfl) rfl ⟨trivial, ?_⟩
  refine J.r hX tk 400 (fun _ => rfl) fun b22 => ?_
  refine J.nS ((3, (a2, c2), (b, cb))) (⟨by dsimp only; omega, by simp, by simp⟩) (by dsimp only; omega) [0, 1, 2, 3, 4] rfl rfl
 ·refine J.r hX tk 400 (fun _ => rfl) fun b24 => ?_
  refine J.cond rfl (fun h => absurd h (by decide)) (fun _ => ?_)
  refine J.know (fun h' s => own_some (c := (a, ca)) (by decide) (s.get (i := 3) rfl)) fun hg => ?_
  obtain ⟨ga, rfl⟩ := hg
  refine J.know (fun h' s => own_some (c := (b, cb)) (by decide) (s.get (i := 4) rfl)) fun hg => ?_
  obtain ⟨gb, rfl⟩ := hg
  refine J.turn1 [] rfl (As := [ownA 32 1 none 0 0 []]) (fun h s => Sep.one ⟨rfl, rfl, rfl⟩) rfl ?_
  refine J.r hX tk 400 (fun _ => rfl) fun b25 => ?_
  refine J.lo (α := (Nat × Option Nat × Nat)) (fun z => z.1 ≤ 3 ∧ (z.1 = 0 → ∀ g, z.2.1 ≠ some g)) (fun z => [⟨29, .int .i64 z.1, 0, .tt⟩, ⟨28, .int .i64 3, 0, .tt⟩, ⟨27, .slice (some ⟨g, 0, none⟩) 3 3, 2, .tt⟩, ⟨3, .map (some (mm 0)), 3, .tt⟩, ⟨6, slv z.2.1 (twM (z.1 + 1)) z.2.2, 0, .tt⟩]) [5] (fun z => [ownA 32 1 z.2.1 (twM (z.1 + 1)) z.2.2 (twO z.1 ga ca)]) (fun z => 3 - z.1) ((0, none, 0)) (⟨by omega, by simp⟩) rfl ?_ (fun _ => rfl) fun z hI => ?_
  ·rfl
  obtain ⟨k, o, co⟩ := z
  dsimp only at hI ⊢
  obtain ⟨hI0, hJ⟩ := hI
  rcases (by omega : k = 0 ∨ k = 1 ∨ k = 2 ∨ k = 3) with rfl | rfl | rfl | rfl
  ·refine J.r hX tk 400 (fun _ => rfl) fun b27 => ?_
   refine J.cond rfl (fun _ => ?_) (fun h => absurd h (by decide))
   refine J.r hX tk 400 (fun _ => rfl) fun b28 => ?_
   refine J.val hX (pgk p1) 0 rfl rfl (fun hg a w he hw => loadN_run tk rfl rfl he rfl rfl rfl (hw.get (i := 1) rfl) rfl rfl) rfl trivial ?_
   refine J.r hX tk 400 (fun _ => rfl) fun b29 => ?_
   refine J.val hX (slv (some ga) 2 ca) 0 rfl rfl (fun hg a w he hw => ?_) rfl trivial ?_
   ·exact (lookup_run (key := p1) key32 umapT (z := .slice none 0 0) zeroI rfl rfl rfl rfl he rfl rfl (hw.get (i := 2) rfl)).trans rfl
   refine J.r hX tk 400 (fun _ => rfl) fun b30 => ?_
   refine J.val hX (.int .i64 0) 0 rfl rfl (fun hg a w he hw => own1_run tk rfl rfl he rfl rfl rfl (hw.get (i := 3) rfl) rfl) rfl trivial ?_
   refine J.r hX tk 400 (fun _ => rfl) fun b31 => ?_
   refine J.cond rfl (fun _ => ?_) (fun h => absurd h (by decide))
   obtain rfl : o = none := by cases o with
    | none => rfl
    | some g => exact absurd rfl (hJ rfl g)
   refine J.know (p := co = 0) (fun h' s => (s.get (i := 5) rfl).2.2) fun hg => ?_
   subst hg
   refine J.r hX tk 400 (fun _ => rfl) fun b32 => ?_
   refine J.append hX tk (a := none) (n := 0) (cap := 0) 5 7 0 rfl rfl rfl rfl rfl rfl rfl rfl rfl rfl rfl rfl rfl rfl rfl rfl (by decide) (by decide) (fun _ => rfl) fun o2 c2 => ⟨_, rfl, trivial, ?_⟩
   refine J.r hX tk 400 (fun _ => rfl) fun b33 => ?_
   refine J.nS ((1, o2, c2)) (⟨by dsimp only; omega, by simp⟩) (by dsimp only; omega) [0, 1, 2, 3, 4, 5] rfl rfl
  ·refine J.r hX tk 400 (fun _ => rfl) fun b35 => ?_
   refine J.cond rfl (fun _ => ?_) (fun h => absurd h (by decide))
   refine J.r hX tk 400 (fun _ => rfl) fun b36 => ?_
   refine J.val hX (pgk p2) 0 rfl rfl (fun hg a w he hw => loadN_run tk rfl rfl he rfl rfl rfl (hw.get (i := 1) rfl) rfl rfl) rfl trivial ?_
   refine J.r hX tk 400 (fun _ => rfl) fun b37 => ?_
   refine J.val hX (slv (some gb) 1 cb) 0 rfl rfl (fun hg a w he hw => ?_) rfl trivial ?_
   ·exact (lookup_run (key := p2) key32 umapT (z := .slice none 0 0) zeroI rfl rfl rfl rfl he rfl rfl (hw.get (i := 2) rfl)).trans rfl
   refine J.r hX tk 400 (fun _ => rfl) fun b38 => ?_
   refine J.val hX (.int .i64 1) 0 rfl rfl (fun hg a w he hw => own1_run tk rfl rfl he rfl rfl rfl (hw.get (i := 4) rfl) rfl) rfl trivial ?_
   refine J.r hX tk 400 (fun _ => rfl) fun b39 => ?_
   refine J.cond rfl (fun h => absurd h (by decide)) (fun _ => ?_)
   refine J.r hX tk 400 (fun _ => rfl) fun b40 => ?_
   refine J.nS ((2, o, co)) (⟨by dsimp only; omega, by simp⟩) (by dsimp only; omega) [0, 1, 2, 3, 4, 5] rfl rfl
  ·refine J.r hX tk 400 (fun _ => rfl) fun b42 => ?_
   refine J.cond rfl (fun _ => ?_) (fun h => absurd h (by decide))
   refine J.r hX tk 400 (fun _ => rfl) fun b43 => ?_
   refine J.val hX (pgk p1) 0 rfl rfl (fun hg a w he hw => loadN_run tk rfl rfl he rfl rfl rfl (hw.get (i := 1) rfl) rfl rfl) rfl trivial ?_
   refine J.r hX tk 400 (fun _ => rfl) fun b44 => ?_
   refine J.val hX (slv (some ga) 2 ca) 0 rfl rfl (fun hg a w he hw => ?_) rfl trivial ?_
   ·exact (lookup_run (key := p1) key32 umapT (z := .slice none 0 0) zeroI rfl rfl rfl rfl he rfl rfl (hw.get (i := 2) rfl)).trans rfl
   refine J.r hX tk 400 (fun _ => rfl) fun b45 => ?_
   refine J.val hX (.int .i64 0) 0 rfl rfl (fun hg a w he hw => own1_run tk rfl rfl he rfl rfl rfl (hw.get (i := 3) rfl) rfl) rfl trivial ?_
   refine J.r hX tk 400 (fun _ => rfl) fun b46 => ?_
   refine J.cond rfl (fun h => absurd h (by decide)) (fun _ => ?_)
   refine J.r hX tk 400 (fun _ => rfl) fun b47 => ?_
   refine J.nS ((3, o, co)) (⟨by dsimp only; omega, by simp⟩) (by dsimp only; omega) [0, 1, 2, 3, 4, 5] rfl rfl
  ·refine J.r hX tk 400 (fun _ => rfl) fun b49 => ?_
   refine J.cond rfl (fun h => absurd h (by decide)) (fun _ => ?_)
   refine J.r hX tk 400 (fun _ => rfl) fun b50 => ?_
   refine J.rt hX tk [5, 3] rfl rfl rfl ?_
   exact ⟨o, co, some ga, ca, rfl, rfl⟩
theorem perm2 {α : Type} {l : List α} {a b : α} (h : l.Perm [a, b]) : l = [a, b] ∨ l = [b, a] := by
 match l, h.length_eq, h with
 | [x, y], _, h =>
  have hx := (h.mem_iff (a := x)).1 (by simp)
  simp only [List.mem_cons, List.not_mem_nil, or_false] at hx
  rcases hx with rfl | rfl
  ·left
   have := (List.perm_cons x).1 h
   rw [List.perm_singleton.1 this]
  ·right
   have := (List.perm_cons x).1 (h.trans (List.Perm.swap x a []))
   rw [List.perm_singleton.1 this]
theorem str_eql (a : ByteArray) (w : World) (o1 o2 : Operand) : (do eqGuard .eql 9 o1 o2 (.string a) (.string a); binOp .eql 9 (.string a) (.string a) : Sem Value).run Tryz.prog w = .ok (.bool true) w := by
 have hu : Tryz.prog.underlying 9 = some .string := by kernel_rfl
 simp [eqGuard, binOp, Op.stringOp, equal_step, Op.equalIn, underlying_run hu]
theorem strEq_run {E : Env} {n : Nat} {a : Act} {w : World} {o : Oper} {x y : Operand} {k1 k2 u1 u2 t2 : Nat} {g1 g2 : G} {s1 : ByteArray} (hop : o.op = .binOp .eql 9 x y t2) (hx : ev E x = some ⟨k1, .string s1, u1, g1⟩) (hy : ev E y = some ⟨k2, .string s1, u2, g2⟩) (he : EnvOK n E a) (v1 : g1.on = true) (v2 : g2.on = true) :
  (execOp a.eval o).run Tryz.prog w = .ok (.value (.bool true)) w := by
 have ex := ev_spec he hx
 have ey := ev_spec he hy
 simp only [Slot.val, v1, v2] at ex ey
 have h := str_eql s1 w x y
 simp only [execOp, hop, ex, ey]
 simp only [Sem.run_bind] at h ⊢
 rw [h]
 rfl
def sX : Value := .string ⟨#[120]⟩
def sY : Value := .string ⟨#[121]⟩
def sL : List (A3 × Value) := [((1, 2, 3), sX), ((0, 9, 9), sY)]
theorem sorted2 {l : List A3} (h : l.Perm [((1 : Int), (2 : Int), (3 : Int)), (0, 9, 9)]) : isort ordI l = [(0, 9, 9), (1, 2, 3)] := by
 rcases perm2 h with rfl | rfl <;> decide
theorem l5_begun : Fn Tryz.prog 228 [] [] (fun v As => v = .bool true ∧ As = []) := by
 refine Fn.enter [] Tryz.func228 rfl rfl rfl fun X F hX => ?_
 refine J.r hX tk 400 (fun _ => rfl) fun b1 => ?_
 refine J.ca hX (by kernel_rfl) (t_New) [] 0 rfl rfl rfl rfl rfl rfl (fun _ => rfl) ?_
 rintro v As ⟨q, rfl, rfl⟩
 refine ⟨_, rfl, trivial, ?_⟩
 refine J.r hX tk 400 (fun _ => rfl) fun b2 => ?_
 refine J.cond rfl (fun h => by simp at h) (fun _ => ?_)
 refine J.r hX tk 400 (fun _ => rfl) fun b3 => ?_
 refine J.ca hX (by kernel_rfl) (t_Set q [] 1 2 3 ⟨#[120]⟩) [1] 0 rfl rfl rfl rfl rfl rfl (fun _ => rfl) ?_
 rintro v As ⟨rfl, rfl⟩
 refine ⟨_, rfl, trivial, ?_⟩
 refine J.r hX tk 400 (fun _ => rfl) fun b4 => ?_
 refine J.ca hX (by kernel_rfl) (t_Set q [((1, 2, 3), sX)] 0 9 9 ⟨#[121]⟩) [1] 0 rfl rfl rfl rfl rfl rfl (fun _ => rfl) ?_
 rintro v As ⟨rfl, rfl⟩
 refine ⟨_, rfl, trivial, ?_⟩
 refine J.r hX tk 400 (fun _ => rfl) fun b6 => ?_
 refine J.ca hX (by kernel_rfl) (t_Get q sL 1 2 3) [1] 0 rfl rfl rfl rfl rfl rfl (fun _ => rfl) ?_
 rintro v As ⟨rfl, rfl⟩
 refine ⟨_, rfl, trivial, ?_⟩
 rw [show (alook sL (1, 2, 3)).getD sE = sX from rfl, show (alook sL (1, 2, 3)).isSome = true from rfl]
 refine J.r hX tk 400 (fun _ => rfl) fun b8 => ?_
 refine J.ca hX (by kernel_rfl) (t_All q sL (by decide)) [1] 0 rfl rfl rfl rfl rfl rfl (fun _ => rfl) ?_
 rintro v As ⟨a, cap, l0, l', hp, hl', rfl, rfl⟩
 refine ⟨_, rfl, trivial, ?_⟩
 obtain rfl : l' = [(0, 9, 9), (1, 2, 3)] := hl'.trans (sorted2 hp)
 refine J.know (fun h' s => own_some (c := (a, cap)) (by decide) (s.get (i := 2) rfl)) fun hg => ?_
 obtain ⟨ga, rfl⟩ := hg
 refine J.r hX tk 400 (fun _ => rfl) fun bp => ?_
 refine J.ca hX (by kernel_rfl) (x_Twins (bp 0)) [3] 0 rfl rfl rfl rfl rfl rfl (fun _ => rfl) ?_
 rintro v As ⟨o, co, a2, c2, rfl, rfl⟩
 refine ⟨_, rfl, trivial, ?_⟩
 refine J.know (fun h' s => own_some (c := (o, co)) (by decide) (s.get (i := 3) rfl)) fun hg => ?_
 obtain ⟨go, rfl⟩ := hg
 refine J.know (fun h' s => own_some (c := (a2, c2)) (by decide) (s.get (i := 4) rfl)) fun hg => ?_
 obtain ⟨g2, rfl⟩ := hg
 refine J.r hX tk 400 (fun _ => rfl) fun b11 => ?_
 refine J.val hX (.bool true) 0 rfl rfl (fun hg a w he hw => (strEq_run rfl rfl rfl he rfl rfl).trans rfl) rfl trivial ?_
 refine J.r hX tk 400 (fun _ => rfl) fun b12 => ?_
 refine J.ca hX (by kernel_rfl) (t_Len q sL) [1] 0 rfl rfl rfl rfl rfl rfl (fun _ => rfl) ?_
 rintro v As ⟨rfl, rfl⟩
 refine ⟨_, rfl, trivial, ?_⟩
 refine J.r hX tk 400 (fun _ => rfl) fun b13 => ?_
 refine J.val hX (.int .i64 0) 0 rfl rfl (fun hg a w he hw => own1_run tk rfl rfl he hg rfl rfl (hw.get (i := 2) rfl) rfl) rfl trivial ?_
 refine J.r hX tk 400 (fun _ => rfl) fun b14 => ?_
 refine J.ca hX (by kernel_rfl) (t_Block q sL (by decide) 1 2) [1] 0 rfl rfl rfl rfl rfl rfl (fun _ => rfl) ?_
 rintro v As ⟨a3, c3, l3, hp3, rfl, rfl⟩
 refine ⟨_, rfl, trivial, ?_⟩
 have h3 : l3.length = 1 := hp3.length_eq.trans rfl
 rw [h3]
 refine J.r hX tk 400 (fun _ => rfl) fun b15 => ?_
 refine J.val hX (aggA (0, 9, 9)) 0 rfl rfl (fun hg a w he hw => ownN_run tk rfl rfl he hg rfl rfl (hw.get (i := 2) rfl) rfl rfl) rfl trivial ?_
 refine J.r hX tk 400 (fun _ => rfl) fun b16 => ?_
 refine J.ca hX (by kernel_rfl) (t_Drop q sL 0 9 9) [1] 0 rfl rfl rfl rfl rfl rfl (fun _ => rfl) ?_
 rintro v As ⟨rfl, rfl⟩
 refine ⟨_, rfl, trivial, ?_⟩
 rw [show (alook sL (0, 9, 9)).isSome = true from rfl, show adel sL (0, 9, 9) = [((1, 2, 3), sX)] from rfl]
 refine J.r hX tk 400 (fun _ => rfl) fun b17 => ?_
 refine J.val hX (aggA (0, 9, 9)) 0 rfl rfl (fun hg a w he hw => ownN_run tk rfl rfl he hg rfl rfl (hw.get (i := 2) rfl) rfl rfl) rfl trivial ?_
 refine J.r hX tk 400 (fun _ => rfl) fun b18 => ?_
 refine J.ca hX (by kernel_rfl) (t_Drop q [((1, 2, 3), sX)] 0 9 9) [1] 0 rfl rfl rfl rfl rfl rfl (fun _ => rfl) ?_
 rintro v As ⟨rfl, rfl⟩
 refine ⟨_, rfl, trivial, ?_⟩
 rw [show (alook [(((1 : Int), (2 : Int), (3 : Int)), sX)] (0, 9, 9)).isSome = false from rfl]
 refine J.r hX tk 400 (fun _ => rfl) fun b19 => ?_
 refine J.val hX (slv (some g2) 2 c2) 0 rfl rfl (fun hg a w he hw => own1_run tk rfl rfl he hg rfl rfl (hw.get (i := 3) rfl) rfl) rfl trivial ?_
 refine J.r hX tk 400 (fun _ => rfl) fun b20 => ?_
 refine J.val hX (slv (some g2) 2 c2) 0 rfl rfl (fun hg a w he hw => own1_run tk rfl rfl he hg rfl rfl (hw.get (i := 3) rfl) rfl) rfl trivial ?_
 refine J.r hX tk 400 (fun _ => rfl) fun b21 => ?_
 refine J.val hX (.int .i64 2) 0 rfl rfl (fun hg a w he hw => own1_run tk rfl rfl he hg rfl rfl (hw.get (i := 4) rfl) rfl) rfl trivial ?_
 refine J.r hX tk 400 (fun _ => rfl) fun b22 => ?_
 refine J.rt hX tk [] rfl rfl rfl ?_
 exact ⟨rfl, rfl⟩
theorem l5_Begun : Fn Tryz.prog 205 [] [] (fun v As => v = .bool true ∧ As = []) := by
 refine Fn.enter [] Tryz.func205 rfl rfl rfl fun X F hX => ?_
 refine J.r hX tk 400 (fun _ => rfl) fun b23 => ?_
 refine J.ca hX (by kernel_rfl) (l5_begun) [] 0 rfl rfl rfl rfl rfl rfl (fun _ => rfl) ?_
 rintro v As ⟨rfl, rfl⟩
 refine ⟨_, rfl, trivial, ?_⟩
 refine J.r hX tk 400 (fun _ => rfl) fun b24 => ?_
 refine J.rt hX tk [] rfl rfl rfl ?_
 exact ⟨rfl, rfl⟩
section
variable {X : Cx} {P : Program} {T : Tab} {K : List KI} {E : Env} {L : List Atom} {N : Nat} {F : HP} {Post : Value → List Atom → Prop} {rs : List ResultVar}
theorem J.effG (hX : IsCx X P rs N F Post) (hT : TabOK P T) {ops : Array Oper} {C : Cl} {lt : Bool} {i : Nat} {t : PT} {o : Oper} {g : G} {v : Nat → Value} {tag : Nat} {L' : Nat → List Atom} {ob : List Prop} {E' : Value → Env}
  (ho : lget ops.toList i = some o) (hg : gd ops.toList E o = some g) (hgo : g.on = true) (hef : ∀ x : Nat, eff T (fun _ => x) E L 0 o.op = some ⟨v x, tag, L' x, ob, 1⟩) (hob : Conj ob)
  (hd : ∀ v, putE N o.dst v tag .tt E = some (E' v)) (hJ : ∀ x, Conj (staysL lt C (L' x)) ∧ J X (.reg ops C t :: K) (E' (v x)) (L' x)) : J X (.reg ops C (.alt lt i t .non) :: K) E L := by
 refine J.op hX (S := fun v' L2 => ∃ x, v' = v x ∧ L2 = L' x) tag ho hg hgo (fun a0 w hen hs => ?_) hd (fun v' L2 ⟨x, e1, e2⟩ => by subst e1; subst e2; exact hJ x)
 obtain ⟨nv, w', r1, r2, r3, r4⟩ := eff_run (P := P) hT hen (hef w.heap.size) hob hs (.inr rfl)
 exact ⟨v w.heap.size, L' w.heap.size, nv, w', ⟨w.heap.size, rfl, rfl⟩, r1, r2, r3, r4⟩
end
end Go.Proofs.YtoideahgjgaddaaGreat
namespace Go.Proofs.YtoideahgjgaddaaGreat
open Go Go.RowKit
def pgB (a b : UInt8) : List UInt8 := [a, b, 0, 0, 0, 0, 0, 0, 0, 0, 0, 0, 0, 0, 0, 0, 0, 0, 0, 0, 0, 0, 0, 0, 0, 0, 0, 0, 0, 0, 0, 0]
namespace B7
def N0 : Nand := Nand.new 3 8 2
def N1 : Nand := N0.progN 1 0 0 (pgB 7 0)
def N2 : Nand := N1.progN 1 0 0 (pgB 8 0)
def N3 : Nand := (N2.fault 3 1 0 0 0 0).2
def N4 : Nand := N3.eraseN 1 0
def N5 : Nand := N4.setCut 0 1
def N6 : Nand := N5.progN 1 0 0 (pgB 5 6)
def N7 : Nand := N6.onN
def N8 : Nand := (N7.fault 4 2 0 0 0 0).2
theorem G0 : N0.Gd 100 0 := Nand.Gd.new 3 8 2 rfl 100 (by decide)
theorem G1 : N1.Gd 99 0 := G0.prog 1 0 0 _ rfl
theorem G2 : N2.Gd 98 0 := G1.prog 1 0 0 _ rfl
theorem G3 : N3.Gd 98 0 := G2.fault0 3 1 0 0 0 0 (by decide)
theorem G4 : N4.Gd 97 0 := G3.erase 1 0
theorem G5 : N5.Gd 97 0 := G4.cut 0 1 (by decide) (by decide)
theorem G6 : N6.Gd 96 0 := G5.prog 1 0 0 _ rfl
theorem G7 : N7.Gd 96 0 := G6.on
theorem G8 : N8.Gd 96 0 := G7.fault0 4 2 0 0 0 0 (by decide)
end B7
open B7
theorem n_NewNo : Fn Tryz.prog 22 [.agg #[.int .i64 0, .int .i64 0, .int .i64 0]] [] (fun v As => v = .pointer none ∧ As = []) := by
 refine Fn.enter [0] Tryz.func22 rfl rfl rfl fun X F hX => ?_
 refine J.r hX tk 400 (fun _ => rfl) fun g1 => ?_
 refine J.ca hX (by kernel_rfl) (f_May 0 0 0) [] 0 rfl rfl rfl rfl rfl rfl (fun _ => rfl) ?_
 rintro v As ⟨rfl, rfl⟩
 refine ⟨_, rfl, trivial, ?_⟩
 rw [show geoMay 0 0 0 = false from rfl]
 refine J.r hX tk 400 (fun _ => rfl) fun b2 => ?_
 refine J.cond rfl (fun _ => ?_) (fun h => by simp at h)
 refine J.r hX tk 400 (fun _ => rfl) fun b3 => ?_
 refine J.rt hX tk [] rfl rfl rfl ?_
 exact ⟨rfl, rfl⟩
theorem l7_begun : Fn Tryz.prog 166 [] [] (fun v As => v = .bool true ∧ As = []) := by
 refine Fn.enter [] Tryz.func166 rfl rfl rfl fun X F hX => ?_
 refine J.r hX tk 400 (fun _ => rfl) fun b0 => ?_
 refine J.ca hX (by kernel_rfl) (n_New 3 8 2 rfl) [] 0 rfl rfl rfl rfl rfl rfl (fun _ => rfl) ?_
 rintro v As ⟨q, rfl, rfl⟩
 refine ⟨_, rfl, trivial, ?_⟩
 refine J.r hX tk 400 (fun _ => rfl) fun b5 => ?_
 refine J.ca hX (by kernel_rfl) (n_NewNo) [] 0 rfl rfl rfl rfl rfl rfl (fun _ => rfl) ?_
 rintro v As ⟨rfl, rfl⟩
 refine ⟨_, rfl, trivial, ?_⟩
 refine J.r hX tk 400 (fun _ => rfl) fun b7 => ?_
 refine J.cond rfl (fun h => absurd h (by decide)) (fun _ => ?_)
 refine J.r hX tk 400 (fun _ => rfl) fun b8 => ?_
 refine J.plan (.of [0,5,8,16,21,24,14,31,32,36]) [7,8,9] [3] (by rw [hX.hP]; kernel_rfl) (by kernel_rfl) ?_
 refine J.r hX tk 400 (fun _ => rfl) fun b9 => ?_
 refine J.ca hX (by kernel_rfl) (n_Program q N0 G0.ok G0.room 1 0 0 (pgB 7 0) rfl) [2] 0 rfl rfl rfl rfl rfl rfl (fun _ => rfl) ?_
 rintro v As ⟨rfl, rfl⟩
 refine ⟨_, rfl, ⟨rfl, trivial⟩, ?_⟩
 rw [show N0.progE 1 0 0 = 0 from by kernel_rfl]
 refine J.r hX tk 400 (fun _ => rfl) fun b11 => ?_
 refine J.ca hX (by kernel_rfl) (n_Program q N1 G1.ok G1.room 1 0 0 (pgB 8 0) rfl) [2] 0 rfl rfl rfl rfl rfl rfl (fun _ => rfl) ?_
 rintro v As ⟨rfl, rfl⟩
 refine ⟨_, rfl, trivial, ?_⟩
 rw [show N1.progE 1 0 0 = 4 from by kernel_rfl]
 refine J.r hX tk 400 (fun _ => rfl) fun b13 => ?_
 refine J.ca hX (by kernel_rfl) (n_Read q N2 G2.ok 1 0 0) [2] 0 rfl rfl rfl rfl rfl rfl (fun _ => rfl) ?_
 rintro v As ⟨rfl, rfl⟩
 refine ⟨_, rfl, trivial, ?_⟩
 rw [show N2.readE 1 0 0 = 0 from by kernel_rfl, show N2.readV 1 0 0 = pgB 7 0 from by kernel_rfl]
 refine J.r hX tk 400 (fun _ => rfl) fun b15 => ?_
 refine J.ca hX (by kernel_rfl) (n_Read q N2 G2.ok 2 0 0) [2] 0 rfl rfl rfl rfl rfl rfl (fun _ => rfl) ?_
 rintro v As ⟨rfl, rfl⟩
 refine ⟨_, rfl, trivial, ?_⟩
 rw [show N2.readE 2 0 0 = 5 from by kernel_rfl]
 refine J.r hX tk 400 (fun _ => rfl) fun b17 => ?_
 refine J.ca hX (by kernel_rfl) (n_Fault q N2 G2.ok 0 3 1 0 0 0 0) [2] 0 rfl rfl rfl rfl rfl rfl (fun _ => rfl) ?_
 rintro v As ⟨rfl, rfl⟩
 refine ⟨_, rfl, trivial, ?_⟩
 rw [show (N2.fault 3 1 0 0 0 0).1 = true from by kernel_rfl]
 refine J.r hX tk 400 (fun _ => rfl) fun b19 => ?_
 refine J.ca hX (by kernel_rfl) (n_Read q N3 G3.ok 1 0 0) [2] 0 rfl rfl rfl rfl rfl rfl (fun _ => rfl) ?_
 rintro v As ⟨rfl, rfl⟩
 refine ⟨_, rfl, trivial, ?_⟩
 rw [show N3.readE 1 0 0 = 6 from by kernel_rfl]
 refine J.r hX tk 400 (fun _ => rfl) fun b21 => ?_
 refine J.ca hX (by kernel_rfl) (n_Erase q N3 G3.ok G3.room G3.nodup (Nat.le_trans G3.few (by decide)) 1 0) [2] 0 rfl rfl rfl rfl rfl rfl (fun _ => rfl) ?_
 rintro v As ⟨rfl, rfl⟩
 refine ⟨_, rfl, trivial, ?_⟩
 rw [show N3.eraseE 1 0 = 0 from by kernel_rfl]
 refine J.r hX tk 400 (fun _ => rfl) fun b23 => ?_
 refine J.ca hX (by kernel_rfl) (n_Cut q N4 0 1) [2] 0 rfl rfl rfl rfl rfl rfl (fun _ => rfl) ?_
 rintro v As ⟨rfl, rfl⟩
 refine ⟨_, rfl, trivial, ?_⟩
 refine J.r hX tk 400 (fun _ => rfl) fun b25 => ?_
 refine J.ca hX (by kernel_rfl) (n_Program q N5 G5.ok G5.room 1 0 0 (pgB 5 6) rfl) [2] 0 rfl rfl rfl rfl rfl rfl (fun _ => rfl) ?_
 rintro v As ⟨rfl, rfl⟩
 refine ⟨_, rfl, trivial, ?_⟩
 rw [show N5.progE 1 0 0 = 9 from by kernel_rfl]
 refine J.r hX tk 400 (fun _ => rfl) fun b27 => ?_
 refine J.ca hX (by kernel_rfl) (n_On q N6) [2] 0 rfl rfl rfl rfl rfl rfl (fun _ => rfl) ?_
 rintro v As ⟨rfl, rfl⟩
 refine ⟨_, rfl, trivial, ?_⟩
 refine J.r hX tk 400 (fun _ => rfl) fun b29 => ?_
 refine J.ca hX (by kernel_rfl) (n_Read q N7 G7.ok 1 0 0) [2] 0 rfl rfl rfl rfl rfl rfl (fun _ => rfl) ?_
 rintro v As ⟨rfl, rfl⟩
 refine ⟨_, rfl, trivial, ?_⟩
 rw [show N7.readE 1 0 0 = 0 from by kernel_rfl, show N7.readV 1 0 0 = Nand.fillP 1 (pgB 5 6) from by kernel_rfl]
 refine J.r hX tk 400 (fun _ => rfl) fun bf => ?_
 refine J.ca hX (by kernel_rfl) (q_New (bf (0 + 1))) [8] 0 rfl rfl rfl rfl rfl rfl (fun _ => rfl) ?_
 rintro v As ⟨p, a, c, rfl, rfl⟩
 refine ⟨_, rfl, trivial, ?_⟩
 refine J.know (fun h' s => own_some (c := (a, c)) (by decide) (s.get (i := 9) rfl)) fun hg => ?_
 obtain ⟨g, rfl⟩ := hg
 refine J.r hX tk 400 (fun _ => rfl) fun b32 => ?_
 refine J.ca hX (by kernel_rfl) (l5_Begun) [] 0 rfl rfl rfl rfl rfl rfl (fun _ => rfl) ?_
 rintro v As ⟨rfl, rfl⟩
 refine ⟨_, rfl, trivial, ?_⟩
 refine J.r hX tk 400 (fun _ => rfl) fun b33 => ?_
 refine J.ca hX (by kernel_rfl) (l6_Begun) [] 0 rfl rfl rfl rfl rfl rfl (fun _ => rfl) ?_
 rintro v As ⟨rfl, rfl⟩
 refine ⟨_, rfl, trivial, ?_⟩
 refine J.r hX tk 400 (fun _ => rfl) fun b34 => ?_
 refine J.ca hX (by kernel_rfl) (n_Broken q N7) [2] 0 rfl rfl rfl rfl rfl rfl (fun _ => rfl) ?_
 rintro v As ⟨rfl, rfl⟩
 refine ⟨_, rfl, trivial, ?_⟩
 rw [show N7.broken = 1 from by kernel_rfl]
 refine J.r hX tk 400 (fun _ => rfl) fun b35 => ?_
 refine J.val hX (.bool true) 0 rfl rfl (fun hg a w he hw => (eqAgg_run (xs := pageC (pgB 7 0)) (ys := pageC (pgB 7 0)) rfl rfl rfl he hg rfl leavesPg (fitsPg _) (fitsPg _) mkPg gdPg).trans (by rw [eqPg _ _ rfl rfl]; simp)) rfl trivial ?_
 refine J.r hX tk 400 (fun _ => rfl) fun b36 => ?_
 refine J.ca hX (by kernel_rfl) (n_Ops q N7) [2] 0 rfl rfl rfl rfl rfl rfl (fun _ => rfl) ?_
 rintro v As ⟨rfl, rfl⟩
 refine ⟨_, rfl, trivial, ?_⟩
 rw [show N7.ops = 3 from by kernel_rfl]
 refine J.r hX tk 400 (fun _ => rfl) fun b37 => ?_
 refine J.ca hX (by kernel_rfl) (n_Worn q N7 G7.ok 1 0) [2] 0 rfl rfl rfl rfl rfl rfl (fun _ => rfl) ?_
 rintro v As ⟨rfl, rfl⟩
 refine ⟨_, rfl, trivial, ?_⟩
 rw [show N7.wornAt 1 0 = 1 from by kernel_rfl]
 refine J.r hX tk 400 (fun _ => rfl) fun b38 => ?_
 refine J.ca hX (by kernel_rfl) (n_Next q N7 G7.ok 1 0) [2] 0 rfl rfl rfl rfl rfl rfl (fun _ => rfl) ?_
 rintro v As ⟨rfl, rfl⟩
 refine ⟨_, rfl, trivial, ?_⟩
 rw [show N7.next 1 0 = 1 from by kernel_rfl]
 refine J.r hX tk 400 (fun _ => rfl) fun b39 => ?_
 refine J.ca hX (by kernel_rfl) (q_Left p (some ⟨g, 0, none⟩) 1 c) [8] 0 rfl rfl rfl rfl rfl rfl (fun _ => rfl) ?_
 rintro v As ⟨rfl, rfl⟩
 refine ⟨_, rfl, trivial, ?_⟩
 refine J.r hX tk 400 (fun _ => rfl) fun b40 => ?_
 refine J.ca hX (by kernel_rfl) (q_Run p g c q N7 G7.ok (by kernel_rfl)) [8, 9, 2] 0 rfl rfl rfl rfl rfl rfl (fun _ => rfl) ?_
 rintro v As ⟨rfl, rfl⟩
 refine ⟨_, rfl, trivial, ?_⟩
 refine J.r hX tk 400 (fun _ => rfl) fun b41 => ?_
 refine J.ca hX (by kernel_rfl) (n_Dead q N8 G8.ok 2) [2] 0 rfl rfl rfl rfl rfl rfl (fun _ => rfl) ?_
 rintro v As ⟨rfl, rfl⟩
 refine ⟨_, rfl, trivial, ?_⟩
 rw [show N8.deadAt 2 = true from by kernel_rfl]
 refine J.r hX tk 400 (fun _ => rfl) fun b42 => ?_
 refine J.effG hX tk rfl rfl rfl (fun _ => rfl) (by (repeat' (first | exact Conj.nil | refine Conj.cons ?_ ?_ | omega | exact hq0 | (simpa using hq0) | (exact fun h => h) | exact rfl | (intro hq; have hq0 := hq; try simp only [Bool.and_eq_true, Bool.or_eq_true, decide_eq_true_eq, Bool.not_eq_true', decide_eq_false_iff_not] at hq) | (simp; done) | (simp; omega) | decide))) (fun _ => rfl) fun bg => ⟨trivial, ?_⟩
 refine J.r hX tk 400 (fun _ => rfl) fun b43 => ?_
 refine J.ca hX (by kernel_rfl) (q_Dies bg) [10] 0 rfl rfl rfl rfl rfl rfl (fun _ => rfl) ?_
 rintro v As ⟨rfl, rfl⟩
 refine ⟨_, rfl, trivial, ?_⟩
 refine J.r hX tk 400 (fun _ => rfl) fun b44 => ?_
 refine J.rt hX tk [] rfl rfl rfl ?_
 exact ⟨rfl, rfl⟩
theorem l7_Begun : Fn Tryz.prog 117 [] [] (fun v As => v = .bool true ∧ As = []) := by
 refine Fn.enter [] Tryz.func117 rfl rfl rfl fun X F hX => ?_
 refine J.r hX tk 400 (fun _ => rfl) fun b45 => ?_
 refine J.ca hX (by kernel_rfl) (l7_begun) [] 0 rfl rfl rfl rfl rfl rfl (fun _ => rfl) ?_
 rintro v As ⟨rfl, rfl⟩
 refine ⟨_, rfl, trivial, ?_⟩
 refine J.r hX tk 400 (fun _ => rfl) fun b46 => ?_
 refine J.rt hX tk [] rfl rfl rfl ?_
 exact ⟨rfl, rfl⟩
end Go.Proofs.YtoideahgjgaddaaGreat
namespace Go.Proofs.YtoideahgjgaddaaGreat
open Go Go.RowKit
theorem y_Blank1 (x : Int) : Fn Tryz.prog 232 [.int .u8 x] [] (fun v As => v = .bool (x != 255) ∧ As = []) := by
 refine Fn.enter [0] Tryz.func232 rfl rfl rfl fun X F hX => ?_
 refine J.r hX tk 400 (fun _ => rfl) fun b1 => ?_
 refine J.rt hX tk [] rfl rfl rfl ?_
 exact ⟨rfl, rfl⟩
theorem y_Index (b : Nat) (p : List UInt8) (h : (((p.getD 0 0).toNat : Int) != 255) = true) : Fn Tryz.prog 250 [.slice (some ⟨b, 0, none⟩) 32 32, .func (.func 232) #[] #[]] [.pt b 94 (pageC p)] (fun v As => v = .int .i64 0 ∧ As = []) := by
 refine Fn.enter [2, 0] Tryz.func250 rfl rfl rfl fun X F hX => ?_
 refine J.r hX tk 400 (fun _ => rfl) fun b2 => ?_
 refine J.lo (α := Nat) (fun k => k = 0) (fun k => [⟨8, .int .i64 0, 0, .tt⟩, ⟨7, .int .i64 32, 0, .tt⟩, ⟨0, .slice (some ⟨b, 0, none⟩) 32 32, 2, .tt⟩, ⟨1, .func (.func 232) #[] #[], 0, .tt⟩]) [] (fun k => []) (fun k => 0) (0) (rfl) rfl ?_ (fun _ => rfl) fun k hI => ?_
 ·rfl
 refine J.r hX tk 400 (fun _ => rfl) fun b4 => ?_
 refine J.cond rfl (fun _ => ?_) (fun h => absurd h (by decide))
 refine J.r hX tk 400 (fun _ => rfl) fun b5 => ?_
 refine J.val hX (byC p 0) 0 rfl rfl (fun hg a w he hw => load1_run tk rfl rfl he rfl rfl rfl (hw.get (i := 1) rfl) rfl) rfl trivial ?_
 refine J.r hX tk 400 (fun _ => rfl) fun b6 => ?_
 refine J.ca hX (by kernel_rfl) (y_Blank1 ((p.getD 0 0).toNat : Int)) [] 0 rfl rfl rfl rfl rfl rfl (fun _ => rfl) ?_
 rintro v As ⟨rfl, rfl⟩
 refine ⟨_, rfl, trivial, ?_⟩
 rw [h]
 refine J.r hX tk 400 (fun _ => rfl) fun b7 => ?_
 refine J.cond rfl (fun _ => ?_) (fun h => absurd h (by decide))
 refine J.r hX tk 400 (fun _ => rfl) fun b8 => ?_
 refine J.rt hX tk [] rfl rfl rfl ?_
 exact ⟨rfl, rfl⟩
theorem y_Contains (b : Nat) (p : List UInt8) (h : (((p.getD 0 0).toNat : Int) != 255) = true) : Fn Tryz.prog 231 [.slice (some ⟨b, 0, none⟩) 32 32, .func (.func 232) #[] #[]] [.pt b 94 (pageC p)] (fun v As => v = .bool true ∧ As = []) := by
 refine Fn.enter [2, 0] Tryz.func231 rfl rfl rfl fun X F hX => ?_
 refine J.r hX tk 400 (fun _ => rfl) fun b9 => ?_
 refine J.ca hX (by kernel_rfl) (y_Index b p h) [1] 0 rfl rfl rfl rfl rfl rfl (fun _ => rfl) ?_
 rintro v As ⟨rfl, rfl⟩
 refine ⟨_, rfl, trivial, ?_⟩
 refine J.r hX tk 400 (fun _ => rfl) fun b11 => ?_
 refine J.rt hX tk [] rfl rfl rfl ?_
 exact ⟨rfl, rfl⟩
theorem y_Blank (p : List UInt8) (h : (((p.getD 0 0).toNat : Int) != 255) = true) : Fn Tryz.prog 213 [pgV p] [] (fun v As => v = .bool false ∧ As = []) := by
 refine Fn.enter [0] Tryz.func213 rfl rfl rfl fun X F hX => ?_
 refine J.r hX tk 400 (fun _ => rfl) fun bb => ?_
 refine J.ca hX (by kernel_rfl) (y_Contains (bb 0) p h) [1] 0 rfl rfl rfl rfl rfl rfl (fun _ => rfl) ?_
 rintro v As ⟨rfl, rfl⟩
 refine ⟨_, rfl, trivial, ?_⟩
 refine J.r hX tk 400 (fun _ => rfl) fun b13 => ?_
 refine J.rt hX tk [] rfl rfl rfl ?_
 exact ⟨rfl, rfl⟩
namespace B9
def e : En := ⟨3, 9, 1, [1, 2, 0, 0, 0, 0, 0, 0, 0, 0, 0, 0, 0, 0, 0, 0]⟩
def pad : En := ⟨0, 0, 3, zeros16⟩
def a : Sh := W.sh 2 1 7 e
def b : Sh := W.sh 2 1 7 pad
def p : Sh := W.par 2 1 7 [e, pad]
def pg : List UInt8 := putP a
theorem h_a : W.own 2 1 7 e = a := by kernel_rfl
theorem h_a2 : W.ok 2 1 7 e = true := by kernel_rfl
theorem h_b : W.own 2 1 7 pad = b := by kernel_rfl
theorem h_b2 : W.ok 2 1 7 pad = true := by kernel_rfl
theorem h_p2 : W.parB 2 1 7 [e, pad] = true := by kernel_rfl
theorem h_pl : p.data.length = 16 := by kernel_rfl
theorem h_m : S.may a = true := by kernel_rfl
theorem h_g : S.getV pg = a := by kernel_rfl
theorem h_g2 : S.getE pg = 0 := by kernel_rfl
theorem h_z2 : S.getE zeros32 = 1 := by kernel_rfl
theorem h_k : W.back p [b] = e := by kernel_rfl
theorem h_k2 : W.backB p [b] = true := by kernel_rfl
theorem h_meta : S.meta_ 2 5 77 = 144120685633994829 := by kernel_rfl
theorem h_mp : S.may p = true := by kernel_rfl
theorem h_mz : S.may Sh.zero = false := by kernel_rfl
theorem h_bl : (((pg.getD 0 0).toNat : Int) != 255) = true := by kernel_rfl
theorem h_pgl : pg.length = 32 := putP_len a rfl
end B9
open B9
theorem l9_begun : Fn Tryz.prog 167 [] [] (fun v As => v = .bool true ∧ As = []) := by
 refine Fn.enter [] Tryz.func167 rfl rfl rfl fun X F hX => ?_
 refine J.r hX tk 400 (fun _ => rfl) fun b14 => ?_
 refine J.ca hX (by kernel_rfl) (w_Own 2 1 7 e rfl) [] 0 rfl rfl rfl rfl rfl rfl (fun _ => rfl) ?_
 rintro v As ⟨rfl, rfl⟩
 refine ⟨_, rfl, trivial, ?_⟩
 rw [h_a, h_a2]
 refine J.r hX tk 400 (fun _ => rfl) fun b16 => ?_
 refine J.ca hX (by kernel_rfl) (w_Own 2 1 7 pad rfl) [] 0 rfl rfl rfl rfl rfl rfl (fun _ => rfl) ?_
 rintro v As ⟨rfl, rfl⟩
 refine ⟨_, rfl, trivial, ?_⟩
 rw [h_b, h_b2]
 refine J.r hX tk 400 (fun _ => rfl) fun b1 => ?_
 refine J.ca hX (by kernel_rfl) (w_Parity 2 1 7 (.pt (b1 (0 + 1)) 45 (cellsE [e, pad])) (some ⟨b1 (0 + 1), 0, none⟩) 2 2 [e, pad] (pt_rd _ _ _ _ _ rfl) rfl (by decide)) [5] 0 rfl rfl rfl rfl rfl rfl (fun _ => rfl) ?_
 rintro v As ⟨rfl, rfl⟩
 refine ⟨_, rfl, trivial, ?_⟩
 rw [show W.par 2 1 7 [e, pad] = p from rfl, h_p2]
 refine J.r hX tk 400 (fun _ => rfl) fun b19 => ?_
 refine J.ca hX (by kernel_rfl) (h_Put a rfl) [] 0 rfl rfl rfl rfl rfl rfl (fun _ => rfl) ?_
 rintro v As ⟨rfl, rfl⟩
 refine ⟨_, rfl, trivial, ?_⟩
 rw [show putP a = pg from rfl, h_m]
 refine J.r hX tk 400 (fun _ => rfl) fun b21 => ?_
 refine J.ca hX (by kernel_rfl) (h_Get pg h_pgl) [] 0 rfl rfl rfl rfl rfl rfl (fun _ => rfl) ?_
 rintro v As ⟨rfl, rfl⟩
 refine ⟨_, rfl, trivial, ?_⟩
 rw [h_g, h_g2]
 refine J.r hX tk 400 (fun _ => rfl) fun b23 => ?_
 refine J.ca hX (by kernel_rfl) (h_Get zeros32 rfl) [] 0 rfl rfl rfl rfl rfl rfl (fun _ => rfl) ?_
 rintro v As ⟨rfl, rfl⟩
 refine ⟨_, rfl, trivial, ?_⟩
 rw [h_z2]
 refine J.r hX tk 400 (fun _ => rfl) fun b2 => ?_
 refine J.closeOwn (e := 137) (size := 23) (n := 1) (cap := 1) (xs := cellsS [b]) 10 rfl rfl rfl (Nat.le_refl _) (by decide) rfl rfl rfl ?_
 refine J.r hX tk 400 (fun _ => rfl) fun b25 => ?_
 refine J.ca hX (by kernel_rfl) (w_Back p h_pl (some (b2 (0 + 1))) 1 1 [b] rfl (by decide) (by decide)) [10] 0 rfl rfl rfl rfl rfl rfl (fun _ => rfl) ?_
 rintro v As ⟨rfl, rfl⟩
 refine ⟨_, rfl, trivial, ?_⟩
 rw [h_k, h_k2]
 refine J.r hX tk 400 (fun _ => rfl) fun b26 => ?_
 refine J.ca hX (by kernel_rfl) (h_Meta 2 5 77) [] 0 rfl rfl rfl rfl rfl rfl (fun _ => rfl) ?_
 rintro v As ⟨rfl, rfl⟩
 refine ⟨_, rfl, trivial, ?_⟩
 rw [h_meta]
 refine J.r hX tk 400 (fun _ => rfl) fun b28 => ?_
 refine J.ca hX (by kernel_rfl) (h_Of 144120685633994829 (by decide)) [] 0 rfl rfl rfl rfl rfl rfl (fun _ => rfl) ?_
 rintro v As ⟨rfl, rfl⟩
 refine ⟨_, rfl, trivial, ?_⟩
 refine J.r hX tk 400 (fun _ => rfl) fun b30 => ?_
 refine J.ca hX (by kernel_rfl) (l6_Begun) [] 0 rfl rfl rfl rfl rfl rfl (fun _ => rfl) ?_
 rintro v As ⟨rfl, rfl⟩
 refine ⟨_, rfl, trivial, ?_⟩
 refine J.r hX tk 400 (fun _ => rfl) fun b32 => ?_
 refine J.val hX (.bool true) 0 rfl rfl (fun hg x w he hw => (eqAgg_run (xs := shL a) (ys := shL a) rfl rfl rfl he hg rfl leavesSh (fitsSh _) (fitsSh _) mkSh gdSh).trans (by rw [eqSh _ _ rfl rfl]; simp)) rfl trivial ?_
 refine J.r hX tk 400 (fun _ => rfl) fun b33 => ?_
 refine J.val hX (.bool true) 0 rfl rfl (fun hg x w he hw => (eqAgg_run (xs := enL e) (ys := enL e) rfl rfl rfl he hg rfl leavesEn (fitsEn _) (fitsEn _) mkEn gdEn).trans (by rw [(eqEn _ _ rfl rfl).2 rfl])) rfl trivial ?_
 refine J.r hX tk 400 (fun _ => rfl) fun b34 => ?_
 refine J.ca hX (by kernel_rfl) (h_May p h_pl) [] 0 rfl rfl rfl rfl rfl rfl (fun _ => rfl) ?_
 rintro v As ⟨rfl, rfl⟩
 refine ⟨_, rfl, trivial, ?_⟩
 rw [h_mp]
 refine J.r hX tk 400 (fun _ => rfl) fun b35 => ?_
 refine J.ca hX (by kernel_rfl) (h_May Sh.zero rfl) [] 0 rfl rfl rfl rfl rfl rfl (fun _ => rfl) ?_
 rintro v As ⟨rfl, rfl⟩
 refine ⟨_, rfl, trivial, ?_⟩
 rw [h_mz]
 refine J.r hX tk 400 (fun _ => rfl) fun b36 => ?_
 refine J.ca hX (by kernel_rfl) (y_Blank pg h_bl) [] 0 rfl rfl rfl rfl rfl rfl (fun _ => rfl) ?_
 rintro v As ⟨rfl, rfl⟩
 refine ⟨_, rfl, trivial, ?_⟩
 refine J.r hX tk 400 (fun _ => rfl) fun b37 => ?_
 refine J.rt hX tk [] rfl rfl rfl ?_
 exact ⟨by kernel_rfl, rfl⟩
theorem l9_Begun : Fn Tryz.prog 118 [] [] (fun v As => v = .bool true ∧ As = []) := by
 refine Fn.enter [] Tryz.func118 rfl rfl rfl fun X F hX => ?_
 refine J.r hX tk 400 (fun _ => rfl) fun b38 => ?_
 refine J.ca hX (by kernel_rfl) (l9_begun) [] 0 rfl rfl rfl rfl rfl rfl (fun _ => rfl) ?_
 rintro v As ⟨rfl, rfl⟩
 refine ⟨_, rfl, trivial, ?_⟩
 refine J.r hX tk 400 (fun _ => rfl) fun b39 => ?_
 refine J.rt hX tk [] rfl rfl rfl ?_
 exact ⟨rfl, rfl⟩
end Go.Proofs.YtoideahgjgaddaaGreat
namespace Go.Proofs.YtoideahgjgaddaaGreat
open Go Go.RowKit
namespace B11
def N0 : Nand := Nand.new 3 8 2
def N1 : Nand := (R.write N0 1 0 7 [B9.e, B9.pad]).1
def N2 : Nand := (N1.fault 4 0 0 0 0 0).2
def fn : Fnd := ⟨B9.e, 1, 0, 0, 7, true, true⟩
theorem G0 : N0.Gd 100 0 := Nand.Gd.new 3 8 2 rfl 100 (by decide)
theorem G1 : N1.Gd 92 0 := write_Gd (by decide) G0
theorem G2 : N2.Gd 92 0 := G1.fault0 4 0 0 0 0 0 (by decide)
theorem h_w : (R.write N0 1 0 7 [B9.e, B9.pad]).2 = (0, 0) := by kernel_rfl
theorem h_l1 : (M.look N1 0 1 0).2 = 1 := by kernel_rfl
theorem h_l2 : (M.look N1 0 1 0).1.lpn = 3 := by kernel_rfl
theorem h_l3 : (M.look N1 0 2 0).2 = 2 := by kernel_rfl
theorem h_r : R.read N2 1 0 0 7 = (B9.e, 0) := by kernel_rfl
theorem h_a : R.all N2 1 0 = [fn] := by kernel_rfl
theorem h_m : M.masks N2 1 0 = [7] := by kernel_rfl
end B11
open B11
theorem l11_begun : Fn Tryz.prog 78 [] [] (fun v As => v = .bool true ∧ As = []) := by
 refine Fn.enter [] Tryz.func78 rfl rfl rfl fun X F hX => ?_
 refine J.r hX tk 400 (fun _ => rfl) fun b1 => ?_
 refine J.ca hX (by kernel_rfl) (n_New 3 8 2 rfl) [] 0 rfl rfl rfl rfl rfl rfl (fun _ => rfl) ?_
 rintro v As ⟨q, rfl, rfl⟩
 refine ⟨_, rfl, trivial, ?_⟩
 refine J.r hX tk 400 (fun _ => rfl) fun b3 => ?_
 refine J.cond rfl (fun h => absurd h (by decide)) (fun _ => ?_)
 refine J.r hX tk 400 (fun _ => rfl) fun b1 => ?_
 refine J.ca hX (by kernel_rfl) (r_Write q N0 (.pt (b1 (0 + 1)) 45 (cellsE [B9.e, B9.pad])) 1 0 7 (some ⟨b1 (0 + 1), 0, none⟩) 2 2 0 [B9.e, B9.pad] (pt_rd _ _ _ _ _ rfl) rfl (by decide) (G0.less (by decide) (Nat.le_refl _))) [1, 3] 0 rfl rfl rfl rfl rfl rfl (fun _ => rfl) ?_
 rintro v As ⟨rfl, rfl⟩
 refine ⟨_, rfl, trivial, ?_⟩
 rw [h_w]
 refine J.r hX tk 400 (fun _ => rfl) fun b5 => ?_
 refine J.ca hX (by kernel_rfl) (m_Look q N1 G1.ok G1.room 0 1 0) [1] 0 rfl rfl rfl rfl rfl rfl (fun _ => rfl) ?_
 rintro v As ⟨rfl, rfl⟩
 refine ⟨_, rfl, trivial, ?_⟩
 rw [h_l1]
 refine J.r hX tk 400 (fun _ => rfl) fun b7 => ?_
 refine J.ca hX (by kernel_rfl) (m_Look q N1 G1.ok G1.room 0 2 0) [1] 0 rfl rfl rfl rfl rfl rfl (fun _ => rfl) ?_
 rintro v As ⟨rfl, rfl⟩
 refine ⟨_, rfl, trivial, ?_⟩
 rw [h_l3]
 refine J.r hX tk 400 (fun _ => rfl) fun b9 => ?_
 refine J.ca hX (by kernel_rfl) (n_Fault q N1 G1.ok 0 4 0 0 0 0 0) [1] 0 rfl rfl rfl rfl rfl rfl (fun _ => rfl) ?_
 rintro v As ⟨rfl, rfl⟩
 refine ⟨_, rfl, trivial, ?_⟩
 refine J.r hX tk 400 (fun _ => rfl) fun b11 => ?_
 refine J.ca hX (by kernel_rfl) (r_Read q N2 G2.ok G2.room 1 0 0 7 (by decide) (by decide)) [1] 0 rfl rfl rfl rfl rfl rfl (fun _ => rfl) ?_
 rintro v As ⟨rfl, rfl⟩
 refine ⟨_, rfl, trivial, ?_⟩
 rw [h_r]
 refine J.r hX tk 400 (fun _ => rfl) fun b13 => ?_
 refine J.ca hX (by kernel_rfl) (r_All q N2 G2.ok G2.room 1 0) [1] 0 rfl rfl rfl rfl rfl rfl (fun _ => rfl) ?_
 rintro v As ⟨a, c, rfl, rfl⟩
 refine ⟨_, rfl, trivial, ?_⟩
 rw [h_a]
 refine J.know (fun h' s => own_some (c := (a, c)) (by decide) (s.get (i := 7) rfl)) fun hg => ?_
 obtain ⟨ga, rfl⟩ := hg
 refine J.r hX tk 400 (fun _ => rfl) fun b15 => ?_
 refine J.ca hX (by kernel_rfl) (l7_Begun) [] 0 rfl rfl rfl rfl rfl rfl (fun _ => rfl) ?_
 rintro v As ⟨rfl, rfl⟩
 refine ⟨_, rfl, trivial, ?_⟩
 refine J.r hX tk 400 (fun _ => rfl) fun b17 => ?_
 refine J.ca hX (by kernel_rfl) (l9_Begun) [] 0 rfl rfl rfl rfl rfl rfl (fun _ => rfl) ?_
 rintro v As ⟨rfl, rfl⟩
 refine ⟨_, rfl, trivial, ?_⟩
 refine J.r hX tk 400 (fun _ => rfl) fun b18 => ?_
 rw [h_l2]
 refine J.val hX (.bool true) 0 rfl rfl (fun hg x w he hw => (eqAgg_run (xs := enL B9.e) (ys := enL B9.e) rfl rfl rfl he hg rfl leavesEn (fitsEn _) (fitsEn _) mkEn gdEn).trans (by rw [(eqEn _ _ rfl rfl).2 rfl])) rfl trivial ?_
 refine J.r hX tk 400 (fun _ => rfl) fun b19 => ?_
 refine J.val hX (.bool true) 0 rfl rfl (fun hg x w he hw => own1_run tk rfl rfl he hg rfl rfl (hw.get (i := 7) rfl) rfl) rfl trivial ?_
 refine J.r hX tk 400 (fun _ => rfl) fun b20 => ?_
 refine J.val hX (.bool true) 0 rfl rfl (fun hg x w he hw => own1_run tk rfl rfl he hg rfl rfl (hw.get (i := 7) rfl) rfl) rfl trivial ?_
 refine J.r hX tk 400 (fun _ => rfl) fun b21 => ?_
 refine J.val hX (.int .i64 7) 0 rfl rfl (fun hg x w he hw => own1_run tk rfl rfl he hg rfl rfl (hw.get (i := 7) rfl) rfl) rfl trivial ?_
 refine J.r hX tk 400 (fun _ => rfl) fun b22 => ?_
 refine J.ca hX (by kernel_rfl) (m_Masks q N2 G2.ok G2.room 1 0) [1] 0 rfl rfl rfl rfl rfl rfl (fun _ => rfl) ?_
 rintro v As ⟨a2, c2, rfl, rfl⟩
 refine ⟨_, rfl, trivial, ?_⟩
 rw [h_m]
 refine J.r hX tk 400 (fun _ => rfl) fun b23 => ?_
 refine J.rt hX tk [] rfl rfl rfl ?_
 exact ⟨rfl, rfl⟩
end Go.Proofs.YtoideahgjgaddaaGreat
namespace Go.Proofs.YtoideahgjgaddaaGreat
open Go Go.RowKit
theorem tm_bd (a : Int) (n : Int) (hn : 0 < n) : -n < a.tmod n ∧ a.tmod n < n := by
 refine ⟨?_, Int.tmod_lt_of_pos a hn⟩
 obtain ⟨k, rfl | rfl⟩ := Int.eq_nat_or_neg a
 ·have := Int.tmod_nonneg (a := (k : Int)) n (by omega); omega
 ·rw [Int.neg_tmod]
  have := Int.tmod_lt_of_pos (k : Int) hn
  omega
theorem tm_2 (a : Int) (n : Int) (hn : 0 < n) : 0 ≤ (a.tmod n + n).tmod n ∧ (a.tmod n + n).tmod n < n := by
 have := tm_bd a n hn
 exact ⟨Int.tmod_nonneg _ (by omega), Int.tmod_lt_of_pos _ hn⟩
theorem l6_Geo (a b c : Int) : Fn Tryz.prog 21 [.int .i64 a, .int .i64 b, .int .i64 c] [] (fun v As => ∃ D B P : Nat, v = .agg #[.int .i64 D, .int .i64 B, .int .i64 P] ∧ (3 ≤ D ∧ D ≤ 6) ∧ (8 ≤ B ∧ B ≤ 16) ∧ (2 ≤ P ∧ P ≤ 8) ∧ As = []) := by
 have a1 := tm_bd a 4 (by decide)
 have a2 := tm_2 a 4 (by decide)
 have b1 := tm_bd b 9 (by decide)
 have b2 := tm_2 b 9 (by decide)
 have c1 := tm_bd c 7 (by decide)
 have c2 := tm_2 c 7 (by decide)
 refine Fn.enter [0, 0, 0] Tryz.func21 rfl rfl rfl fun X F hX => ?_
 refine J.r hX tk 400 (fun _ => rfl) fun b1 => ?_
 refine J.rt hX tk [] rfl rfl rfl ?_
 obtain ⟨D, hD⟩ := Int.eq_ofNat_of_zero_le a2.1
 obtain ⟨B, hB⟩ := Int.eq_ofNat_of_zero_le b2.1
 obtain ⟨P, hP⟩ := Int.eq_ofNat_of_zero_le c2.1
 refine ⟨3 + D, 8 + B, 2 + P, ?_, by omega, by omega, by omega, rfl⟩
 rw [hD, hB, hP, Int.natCast_add, Int.natCast_add, Int.natCast_add]
 rfl
theorem pow_bd (D : Nat) (h : D ≤ 6) : (2 : Int) ^ (min (D : Int).toNat IntKind.i64.bits) = ((2 ^ D : Nat) : Int) ∧ (1 : Int) ≤ ((2 ^ D : Nat) : Int) ∧ ((2 ^ D : Nat) : Int) ≤ 64 := by
 have : ∀ D : Nat, D < 7 → (2 : Int) ^ (min (D : Int).toNat IntKind.i64.bits) = ((2 ^ D : Nat) : Int) ∧ (1 : Int) ≤ ((2 ^ D : Nat) : Int) ∧ ((2 ^ D : Nat) : Int) ≤ 64 := by decide
 exact this D (by omega)
theorem cellsF_cell : ∀ {l : List Fnd} {k : Nat} {x : Fnd}, l[k]? = some x → ∀ j, j < 25 → (cellsF l)[k * 25 + j]? = (fnL x)[j]? := by
 intro l k x h j hj
 have h1 := cellsF_get h
 rw [← h1, List.getElem?_take, if_pos hj, List.getElem?_drop]
theorem cellsF_en {l : List Fnd} {k : Nat} {x : Fnd} (h : l[k]? = some x) : ((cellsF l).drop (k * 25)).take 19 = enL x.en := by
 have h1 := congrArg (List.take 19) (cellsF_get h)
 rw [List.take_take] at h1
 exact h1
theorem cellsE_get {l : List En} {k : Nat} {x : En} (h : l[k]? = some x) : ((cellsE l).drop (k * 19)).take 19 = enL x := by
 have := cellsE_at l [] k x h; rwa [List.append_nil] at this
theorem dI_dies (m : Int) : dI m = (L.dies m).map (fun d : Nat => (d : Int)) := by
 unfold dI dsk L.dies
 congr 1
 cases hs : L.set m with
 | false =>
  rw [if_neg (by simp)]
  refine List.filter_eq_nil_iff.2 fun d _ => ?_
  simp [L.has, hs]
 | true =>
  rw [if_pos rfl]
  refine List.filter_congr fun d hd => ?_
  rw [List.mem_range] at hd
  simp [L.has, hs, hd]
  omega
theorem dI_at (m : Int) (i : Nat) (hi : i < L.count m) : (dI m)[i]? = some (L.at_ m i) := by
 have h1 : i < (L.dies m).length := hi
 rw [dI_dies, List.getElem?_map, L.at_, if_pos (by omega), Int.toNat_natCast, List.getElem?_eq_getElem h1]
 rfl
theorem par_idx (b r c : Int) (hb : 0 ≤ b) (hr : 0 ≤ r) (hc : 0 < c) : (b.tmod c + r.tmod c).tmod c = (b + r) % c ∧ (0 ≤ b.tmod c ∧ b.tmod c < c) ∧ (0 ≤ r.tmod c ∧ r.tmod c < c) := by
 rw [Int.tmod_eq_emod_of_nonneg hb, Int.tmod_eq_emod_of_nonneg hr]
 have h1 := Int.emod_nonneg b (show c ≠ 0 by omega)
 have h2 := Int.emod_nonneg r (show c ≠ 0 by omega)
 have h3 := Int.emod_lt_of_pos b hc
 have h4 := Int.emod_lt_of_pos r hc
 refine ⟨?_, ⟨h1, h3⟩, h2, h4⟩
 rw [Int.tmod_eq_emod_of_nonneg (by omega), ← Int.add_emod]
theorem f6_Parity (m b r : Int) : Fn Tryz.prog 101 [.int .i64 m, .int .i64 b, .int .i64 r] [] (fun v As => v = .int .i64 (G.parity m b r) ∧ As = []) := by
 have hcnt := dI_count m
 have hc8 := L.count_le m
 refine Fn.enter [0, 0, 0] Tryz.func101 rfl rfl rfl fun X F hX => ?_
 refine J.r hX tk 400 (fun _ => rfl) fun b1 => ?_
 refine J.ca hX (by kernel_rfl) (f1_Dies m) [] 0 rfl rfl rfl rfl rfl rfl (fun _ => rfl) ?_
 rintro v As ⟨a, c, rfl, rfl⟩
 refine ⟨_, rfl, trivial, ?_⟩
 rw [hcnt]
 refine J.r hX tk 400 (fun _ => rfl) fun b3 => ?_
 refine J.cond rfl (fun h1 => ?_) (fun h1 => ?_)
 ·refine J.r hX tk 400 (fun _ => rfl) fun b4 => ?_
  refine J.rt hX tk [] rfl rfl rfl ?_
  refine ⟨?_, rfl⟩
  unfold G.parity
  rw [if_pos]
  simp only [Bool.or_eq_true, decide_eq_true_eq] at h1
  omega
 ·simp only [Bool.or_eq_false_iff, decide_eq_false_iff_not] at h1
  obtain ⟨⟨h1, h2⟩, h3⟩ := h1
  have hp : G.parity m b r = L.at_ m ((b + r) % (L.count m : Int)) := by unfold G.parity; rw [if_neg (by omega)]
  obtain ⟨e1, e2, e3⟩ := par_idx b r (L.count m) (by omega) (by omega) (by omega)
  have e4 := Int.emod_nonneg (b + r) (show (L.count m : Int) ≠ 0 by omega)
  have e5 := Int.emod_lt_of_pos (b + r) (show 0 < (L.count m : Int) by omega)
  obtain ⟨i, hi⟩ := Int.eq_ofNat_of_zero_le e4
  rw [hi] at e1 e5 hp
  have hat := dI_at m i (by omega)
  refine J.know (fun h' s => own_some (c := (a, c)) (by omega) (s.get (i := 1) rfl)) fun hg => ?_
  obtain ⟨g1, rfl⟩ := hg
  have e6 := tm_bd b (L.count m) (by omega)
  refine J.r hX tk 400 (fun _ => rfl) fun b5 => ?_
  refine J.plan (.of [0,4,8,12,16,20,24,28,32,36,40,44,48,52,57,60]) [15] [1] (by rw [hX.hP]; kernel_rfl) (by kernel_rfl) ?_
  refine J.r hX tk 13 (fun _ => rfl) fun b6 => ?_
  rw [e1]
  refine J.r hX tk 400 (fun _ => rfl) fun b7 => ?_
  refine J.valT hX (.int .i64 (L.at_ m (i : Nat))) 0 rfl rfl (fun hg a w he hC => own1_run tk rfl rfl he rfl rfl rfl (hC rfl _ (cget_mem (i := 1) rfl)) (by rw [show 0 + (i : Int).toNat * 1 = i from by omega]; exact cellsI_get hat)) rfl ?_
  refine J.r hX tk 400 (fun _ => rfl) fun b8 => ?_
  refine J.rt hX tk [] rfl rfl rfl ?_
  exact ⟨by rw [hp], rfl⟩
end Go.Proofs.YtoideahgjgaddaaGreat
