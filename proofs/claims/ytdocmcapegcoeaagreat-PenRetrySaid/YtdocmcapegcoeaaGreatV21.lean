/- Helpers, proved here. No condition. -/
import Derived.Test.YtdocmcapegcoeaaGreatV06
import Derived.Test.YtdocmcapegcoeaaGreatV11
import Derived.Test.YtdocmcapegcoeaaGreatV12
import Derived.Test.YtdocmcapegcoeaaGreatV13
import Derived.Test.YtdocmcapegcoeaaGreatV14
import Derived.Test.YtdocmcapegcoeaaGreatV16
import Derived.Test.YtdocmcapegcoeaaGreatV19
import Derived.Test.YtdocmcapegcoeaaGreatV20
set_option maxRecDepth 20000
set_option linter.all false
namespace Go.Proofs.YtdocmcapegcoeaaGreat
open Go Go.RowKit
abbrev Pg := { l : List UInt8 // l.length = 32 }
def pgk (p : Pg) : Value := pgV p.1
theorem key32 : KeyOk Tryz.prog 118 pgk where
 now := ⟨_, Tryz.underlying118, fun _ _ => .inl rfl⟩
 eq := fun a b w => by
  have := eqIn_page a.1 b.1 a.2 b.2 w
  rw [pgV_eq _ a.2, pgV_eq _ b.2] at this
  have e : decide (a.1 = b.1) = decide (a = b) := by
   by_cases h : a = b
   ·simp [h]
   ·have : ¬ a.1 = b.1 := fun e => h (Subtype.ext e)
    simp [h, this]
  rw [← e]
  exact this
 check := fun e a w => by kernel_rfl
 bits := fun a => by simp [pgk, pageC, byC, bv, Instr.sameBits]
theorem umapT : Tryz.prog.underlying 323 = some (.map 118 24) := by kernel_rfl
theorem zeroI (w : World) : (zeroValue 24).run Tryz.prog w = .ok (.slice none 0 0) w := by kernel_rfl
def p1 : Pg := ⟨[1, 0, 0, 0, 0, 0, 0, 0, 0, 0, 0, 0, 0, 0, 0, 0, 0, 0, 0, 0, 0, 0, 0, 0, 0, 0, 0, 0, 0, 0, 0, 0], rfl⟩
def p2 : Pg := ⟨[2, 0, 0, 0, 0, 0, 0, 0, 0, 0, 0, 0, 0, 0, 0, 0, 0, 0, 0, 0, 0, 0, 0, 0, 0, 0, 0, 0, 0, 0, 0, 0], rfl⟩
def pg3 : List Value := pageC p1.1 ++ (pageC p2.1 ++ pageC p1.1)
def twL (k : Nat) (a b : Option Nat × Nat) : List (Pg × Value) := match k with
 | 0 => []
 | 1 => [(p1, slv a.1 1 a.2)]
 | 2 => [(p1, slv a.1 1 a.2), (p2, slv b.1 1 b.2)]
 | _ => [(p1, slv a.1 2 a.2), (p2, slv b.1 1 b.2)]
def twN (k : Nat) : Nat := match k with | 0 => 0 | 1 => 1 | 2 => 1 | _ => 2
def twM (k : Nat) : Nat := match k with | 0 => 0 | 1 => 0 | _ => 1
def twA (k : Nat) : List Value := match k with | 0 => [] | 1 => [.int .i64 0] | 2 => [.int .i64 0] | _ => [.int .i64 0, .int .i64 2]
def twB (k : Nat) : List Value := match k with | 0 => [] | 1 => [] | _ => [.int .i64 1]
def twO (k : Nat) (ga ca : Nat) : List Value := match k with | 0 => [] | _ => [slv (some ga) 2 ca]
theorem x_Twins (g : Nat) : Fn Tryz.prog 283 [.slice (some ⟨g, 0, none⟩) 3 3] [.pt g 118 pg3]
  (fun v As => ∃ o co a ca, v = slv o 1 co ∧ As = [ownA 24 1 o 1 co [slv a 2 ca], ownA 3 1 a 2 ca [.int .i64 0, .int .i64 2]]) := by
 refine Fn.enter [2] Tryz.func283 rfl rfl rfl fun X F hX => ?_
 refine J.q hX fun mm => ?_
 refine J.turn1 [2] rfl (As := [mapA (mm 0) pgk (twL 0 (none, 0) (none, 0)), ownA 3 1 none 0 0 [], ownA 3 1 none 0 0 []]) (fun h s => ⟨fun _ => 0, fun i A hA => by
  match i, hA with
  | 0, hA => simp at hA; subst hA; exact ⟨#[], 0, res_some.2 ⟨rfl, s.get (i := 0) rfl⟩, rfl, by simp, by simp⟩
  | 1, hA => simp at hA; subst hA; exact ⟨rfl, rfl, rfl⟩
  | 2, hA => simp at hA; subst hA; exact ⟨rfl, rfl, rfl⟩
  | k + 3, hA => simp at hA⟩) rfl ?_
 refine J.q hX fun b1 => ?_
 refine J.lo (α := (Nat × (Option Nat × Nat) × (Option Nat × Nat))) (fun z => z.1 ≤ 3 ∧ (z.1 = 0 → ∀ g, z.2.1.1 ≠ some g) ∧ (z.1 ≤ 1 → ∀ g, z.2.2.1 ≠ some g)) (fun z => [⟨13, .int .i64 z.1, 0, .tt⟩, ⟨12, .int .i64 3, 0, .tt⟩, ⟨11, .slice (some ⟨g, 0, none⟩) 3 3, 2, .tt⟩, ⟨0, .slice (some ⟨g, 0, none⟩) 3 3, 2, .tt⟩, ⟨3, .map (some (mm 0)), 3, .tt⟩]) [2, 3, 4] (fun z => [mapA (mm 0) pgk (twL z.1 z.2.1 z.2.2), ownA 3 1 z.2.1.1 (twN z.1) z.2.1.2 (twA z.1), ownA 3 1 z.2.2.1 (twM z.1) z.2.2.2 (twB z.1)]) (fun z => 3 - z.1) ((0, (none, 0), (none, 0))) (⟨by omega, by simp, by simp⟩) rfl ?_ (fun _ => rfl) fun z hI => ?_
 ·rfl
 obtain ⟨k, ⟨a, ca⟩, ⟨b, cb⟩⟩ := z
 dsimp only at hI ⊢
 obtain ⟨hI0, hI⟩ := hI
 rcases (by omega : k = 0 ∨ k = 1 ∨ k = 2 ∨ k = 3) with rfl | rfl | rfl | rfl
 ·
  refine J.q hX fun b3 => ?_
  refine J.cT ?_
  obtain rfl : a = none := by cases a with
   | none => rfl
   | some g => exact absurd rfl (hI.1 rfl g)
  refine J.know (p := ca = 0) (fun h' s => (s.get (i := 3) rfl).2.2) fun hg => ?_
  subst hg
  refine J.q hX fun b4 => ?_
  refine J.val hX (pgk p1) 0 rfl rfl (fun hg a w he hw => loadN_run tk rfl rfl he rfl rfl rfl (hw.get (i := 1) rfl) rfl rfl) rfl trivial ?_
  refine J.q hX fun b5 => ?_
  refine J.mapEntry hX key32 umapT zeroI p1 2 rfl rfl rfl rfl rfl rfl rfl rfl rfl rfl (fun _ => rfl) (fun _ => rfl) fun st => ⟨trivial, ?_⟩
  refine J.q hX fun b6 => ?_
  refine J.append hX tk (a := none) (n := 0) (cap := 0) 3 6 0 rfl rfl rfl rfl rfl rfl rfl rfl rfl rfl rfl rfl rfl rfl rfl rfl (by decide) (by decide) (fun _ => rfl) fun a2 c2 => ⟨_, rfl, trivial, ?_⟩
  refine J.q hX fun b7 => ?_
  refine J.entryStore hX 2 rfl rfl rfl rfl rfl rfl rfl rfl rfl rfl rfl (fun _ => rfl) rfl ⟨trivial, ?_⟩
  refine J.q hX fun b8 => ?_
  refine J.nS ((1, (a2, c2), (b, cb))) (⟨by dsimp only; omega, by simp, fun _ => hI.2 (by omega)⟩) (by dsimp only; omega) [0, 1, 2, 3, 4] rfl rfl
 ·
  refine J.q hX fun b10 => ?_
  refine J.cT ?_
  obtain rfl : b = none := by cases b with
   | none => rfl
   | some g => exact absurd rfl (hI.2 (by omega) g)
  refine J.know (p := cb = 0) (fun h' s => (s.get (i := 4) rfl).2.2) fun hg => ?_
  subst hg
  refine J.q hX fun b11 => ?_
  refine J.val hX (pgk p2) 0 rfl rfl (fun hg a w he hw => loadN_run tk rfl rfl he rfl rfl rfl (hw.get (i := 1) rfl) rfl rfl) rfl trivial ?_
  refine J.q hX fun b12 => ?_
  refine J.mapEntry hX key32 umapT zeroI p2 2 rfl rfl rfl rfl rfl rfl rfl rfl rfl rfl (fun _ => rfl) (fun _ => rfl) fun st => ⟨trivial, ?_⟩
  refine J.q hX fun b13 => ?_
  refine J.append hX tk (a := none) (n := 0) (cap := 0) 4 6 0 rfl rfl rfl rfl rfl rfl rfl rfl rfl rfl rfl rfl rfl rfl rfl rfl (by decide) (by decide) (fun _ => rfl) fun a2 c2 => ⟨_, rfl, trivial, ?_⟩
  refine J.q hX fun b14 => ?_
  refine J.entryStore hX 2 rfl rfl rfl rfl rfl rfl rfl rfl rfl rfl rfl (fun _ => rfl) rfl ⟨trivial, ?_⟩
  refine J.q hX fun b15 => ?_
  refine J.nS ((2, (a, ca), (a2, c2))) (⟨by dsimp only; omega, by simp, by simp⟩) (by dsimp only; omega) [0, 1, 2, 3, 4] rfl rfl
 ·
  refine J.q hX fun b17 => ?_
  refine J.cT ?_
  refine J.know (fun h' s => own_some (c := (a, ca)) (by decide) (s.get (i := 3) rfl)) fun hg => ?_
  obtain ⟨ga, rfl⟩ := hg
  refine J.q hX fun b18 => ?_
  refine J.val hX (pgk p1) 0 rfl rfl (fun hg a w he hw => loadN_run tk rfl rfl he rfl rfl rfl (hw.get (i := 1) rfl) rfl rfl) rfl trivial ?_
  refine J.q hX fun b19 => ?_
  refine J.mapEntry hX key32 umapT zeroI p1 2 rfl rfl rfl rfl rfl rfl rfl rfl rfl rfl (fun _ => rfl) (fun _ => rfl) fun st => ⟨trivial, ?_⟩
  refine J.q hX fun b20 => ?_
  refine J.append hX tk (a := (some ga)) (n := 1) (cap := ca) 3 6 0 rfl rfl rfl rfl rfl rfl rfl rfl rfl rfl rfl rfl rfl rfl rfl rfl (by decide) (by decide) (fun _ => rfl) fun a2 c2 => ⟨_, rfl, trivial, ?_⟩
  refine J.q hX fun b21 => ?_
  refine J.entryStore hX 2 rfl rfl rfl rfl rfl rfl rfl rfl rfl rfl rfl (fun _ => rfl) rfl ⟨trivial, ?_⟩
  refine J.q hX fun b22 => ?_
  refine J.nS ((3, (a2, c2), (b, cb))) (⟨by dsimp only; omega, by simp, by simp⟩) (by dsimp only; omega) [0, 1, 2, 3, 4] rfl rfl
 ·refine J.q hX fun b24 => ?_
  refine J.cF ?_
  refine J.know (fun h' s => own_some (c := (a, ca)) (by decide) (s.get (i := 3) rfl)) fun hg => ?_
  obtain ⟨ga, rfl⟩ := hg
  refine J.know (fun h' s => own_some (c := (b, cb)) (by decide) (s.get (i := 4) rfl)) fun hg => ?_
  obtain ⟨gb, rfl⟩ := hg
  refine J.turn1 [] rfl (As := [ownA 24 1 none 0 0 []]) (fun h s => Sep.one ⟨rfl, rfl, rfl⟩) rfl ?_
  refine J.q hX fun b25 => ?_
  refine J.lo (α := (Nat × Option Nat × Nat)) (fun z => z.1 ≤ 3 ∧ (z.1 = 0 → ∀ g, z.2.1 ≠ some g)) (fun z => [⟨29, .int .i64 z.1, 0, .tt⟩, ⟨28, .int .i64 3, 0, .tt⟩, ⟨27, .slice (some ⟨g, 0, none⟩) 3 3, 2, .tt⟩, ⟨3, .map (some (mm 0)), 3, .tt⟩, ⟨6, slv z.2.1 (twM (z.1 + 1)) z.2.2, 0, .tt⟩]) [5] (fun z => [ownA 24 1 z.2.1 (twM (z.1 + 1)) z.2.2 (twO z.1 ga ca)]) (fun z => 3 - z.1) ((0, none, 0)) (⟨by omega, by simp⟩) rfl ?_ (fun _ => rfl) fun z hI => ?_
  ·rfl
  obtain ⟨k, o, co⟩ := z
  dsimp only at hI ⊢
  obtain ⟨hI0, hJ⟩ := hI
  rcases (by omega : k = 0 ∨ k = 1 ∨ k = 2 ∨ k = 3) with rfl | rfl | rfl | rfl
  ·refine J.q hX fun b27 => ?_
   refine J.cT ?_
   refine J.q hX fun b28 => ?_
   refine J.val hX (pgk p1) 0 rfl rfl (fun hg a w he hw => loadN_run tk rfl rfl he rfl rfl rfl (hw.get (i := 1) rfl) rfl rfl) rfl trivial ?_
   refine J.q hX fun b29 => ?_
   refine J.val hX (slv (some ga) 2 ca) 0 rfl rfl (fun hg a w he hw => ?_) rfl trivial ?_
   ·exact (lookup_run (key := p1) key32 umapT (z := .slice none 0 0) zeroI rfl rfl rfl rfl he rfl rfl (hw.get (i := 2) rfl)).trans rfl
   refine J.q hX fun b30 => ?_
   refine J.val hX (.int .i64 0) 0 rfl rfl (fun hg a w he hw => own1_run tk rfl rfl he rfl rfl rfl (hw.get (i := 3) rfl) rfl) rfl trivial ?_
   refine J.q hX fun b31 => ?_
   refine J.cT ?_
   obtain rfl : o = none := by cases o with
    | none => rfl
    | some g => exact absurd rfl (hJ rfl g)
   refine J.know (p := co = 0) (fun h' s => (s.get (i := 5) rfl).2.2) fun hg => ?_
   subst hg
   refine J.q hX fun b32 => ?_
   refine J.append hX tk (a := none) (n := 0) (cap := 0) 5 7 0 rfl rfl rfl rfl rfl rfl rfl rfl rfl rfl rfl rfl rfl rfl rfl rfl (by decide) (by decide) (fun _ => rfl) fun o2 c2 => ⟨_, rfl, trivial, ?_⟩
   refine J.q hX fun b33 => ?_
   refine J.nS ((1, o2, c2)) (⟨by dsimp only; omega, by simp⟩) (by dsimp only; omega) [0, 1, 2, 3, 4, 5] rfl rfl
  ·refine J.q hX fun b35 => ?_
   refine J.cT ?_
   refine J.q hX fun b36 => ?_
   refine J.val hX (pgk p2) 0 rfl rfl (fun hg a w he hw => loadN_run tk rfl rfl he rfl rfl rfl (hw.get (i := 1) rfl) rfl rfl) rfl trivial ?_
   refine J.q hX fun b37 => ?_
   refine J.val hX (slv (some gb) 1 cb) 0 rfl rfl (fun hg a w he hw => ?_) rfl trivial ?_
   ·exact (lookup_run (key := p2) key32 umapT (z := .slice none 0 0) zeroI rfl rfl rfl rfl he rfl rfl (hw.get (i := 2) rfl)).trans rfl
   refine J.q hX fun b38 => ?_
   refine J.val hX (.int .i64 1) 0 rfl rfl (fun hg a w he hw => own1_run tk rfl rfl he rfl rfl rfl (hw.get (i := 4) rfl) rfl) rfl trivial ?_
   refine J.q hX fun b39 => ?_
   refine J.cF ?_
   refine J.q hX fun b40 => ?_
   refine J.nS ((2, o, co)) (⟨by dsimp only; omega, by simp⟩) (by dsimp only; omega) [0, 1, 2, 3, 4, 5] rfl rfl
  ·refine J.q hX fun b42 => ?_
   refine J.cT ?_
   refine J.q hX fun b43 => ?_
   refine J.val hX (pgk p1) 0 rfl rfl (fun hg a w he hw => loadN_run tk rfl rfl he rfl rfl rfl (hw.get (i := 1) rfl) rfl rfl) rfl trivial ?_
   refine J.q hX fun b44 => ?_
   refine J.val hX (slv (some ga) 2 ca) 0 rfl rfl (fun hg a w he hw => ?_) rfl trivial ?_
   ·exact (lookup_run (key := p1) key32 umapT (z := .slice none 0 0) zeroI rfl rfl rfl rfl he rfl rfl (hw.get (i := 2) rfl)).trans rfl
   refine J.q hX fun b45 => ?_
   refine J.val hX (.int .i64 0) 0 rfl rfl (fun hg a w he hw => own1_run tk rfl rfl he rfl rfl rfl (hw.get (i := 3) rfl) rfl) rfl trivial ?_
   refine J.q hX fun b46 => ?_
   refine J.cF ?_
   refine J.q hX fun b47 => ?_
   refine J.nS ((3, o, co)) (⟨by dsimp only; omega, by simp⟩) (by dsimp only; omega) [0, 1, 2, 3, 4, 5] rfl rfl
  ·refine J.q hX fun b49 => ?_
   refine J.cF ?_
   refine J.q hX fun b50 => ?_
   refine J.ru hX [5, 3] ?_
   exact ⟨o, co, some ga, ca, rfl, rfl⟩
theorem perm2 {α : Type} {l : List α} {a b : α} (h : l.Perm [a, b]) : l = [a, b] ∨ l = [b, a] := by
 match l, h.length_eq, h with
 | [x, y], _, h =>
  have hx := (h.mem_iff (a := x)).1 (by simp)
  simp only [List.mem_cons, List.not_mem_nil, or_false] at hx
  rcases hx with rfl | rfl
  ·left
   have := (List.perm_cons x).1 h
   rw [List.perm_singleton.1 this]
  ·right
   have := (List.perm_cons x).1 (h.trans (List.Perm.swap x a []))
   rw [List.perm_singleton.1 this]
theorem str_eql (a : ByteArray) (w : World) (o1 o2 : Operand) : (do eqGuard .eql 9 o1 o2 (.string a) (.string a); binOp .eql 9 (.string a) (.string a) : Sem Value).run Tryz.prog w = .ok (.bool true) w := by
 have hu : Tryz.prog.underlying 9 = some .string := by kernel_rfl
 simp [eqGuard, binOp, Op.stringOp, equal_step, Op.equalIn, underlying_run hu]
theorem strEq_run {E : Env} {n : Nat} {a : Act} {w : World} {o : Oper} {x y : Operand} {k1 k2 u1 u2 t2 : Nat} {g1 g2 : G} {s1 : ByteArray} (hop : o.op = .binOp .eql 9 x y t2) (hx : ev E x = some ⟨k1, .string s1, u1, g1⟩) (hy : ev E y = some ⟨k2, .string s1, u2, g2⟩) (he : EnvOK n E a) (v1 : g1.on = true) (v2 : g2.on = true) :
  (execOp a.eval o).run Tryz.prog w = .ok (.value (.bool true)) w := by
 have ex := ev_spec he hx
 have ey := ev_spec he hy
 simp only [Slot.val, v1, v2] at ex ey
 have h := str_eql s1 w x y
 simp only [execOp, hop, ex, ey]
 simp only [Sem.run_bind] at h ⊢
 rw [h]
 rfl
def sX : Value := .string ⟨#[120]⟩
def sY : Value := .string ⟨#[121]⟩
def sL : List (A3 × Value) := [((1, 2, 3), sX), ((0, 9, 9), sY)]
theorem sorted2 {l : List A3} (h : l.Perm [((1 : Int), (2 : Int), (3 : Int)), (0, 9, 9)]) : isort ordI l = [(0, 9, 9), (1, 2, 3)] := by
 rcases perm2 h with rfl | rfl <;> decide
theorem l5_begun : Fn Tryz.prog 270 [] [] (fun v As => v = .bool true ∧ As = []) := by
 refine Fn.enter [] Tryz.func270 rfl rfl rfl fun X F hX => ?_
 refine J.q hX fun b1 => ?_
 refine J.cb hX (t_New) [] ?_
 rintro v As ⟨q, rfl, rfl⟩
 refine ⟨_, rfl, trivial, ?_⟩
 refine J.q hX fun b2 => ?_
 refine J.cF ?_
 refine J.q hX fun b3 => ?_
 refine J.cb hX (t_Set q [] 1 2 3 ⟨#[120]⟩) [1] ?_
 refine cpq ⟨_, rfl, trivial, ?_⟩
 refine J.q hX fun b4 => ?_
 refine J.cb hX (t_Set q [((1, 2, 3), sX)] 0 9 9 ⟨#[121]⟩) [1] ?_
 refine cpq ⟨_, rfl, trivial, ?_⟩
 refine J.q hX fun b6 => ?_
 refine J.cb hX (t_Get q sL 1 2 3) [1] ?_
 refine cpq ⟨_, rfl, trivial, ?_⟩
 rw [show (alook sL (1, 2, 3)).getD sE = sX from rfl, show (alook sL (1, 2, 3)).isSome = true from rfl]
 refine J.q hX fun b8 => ?_
 refine J.cb hX (t_All q sL (by decide)) [1] ?_
 rintro v As ⟨a, cap, l0, l', hp, hl', rfl, rfl⟩
 refine ⟨_, rfl, trivial, ?_⟩
 obtain rfl : l' = [(0, 9, 9), (1, 2, 3)] := hl'.trans (sorted2 hp)
 refine J.know (fun h' s => own_some (c := (a, cap)) (by decide) (s.get (i := 2) rfl)) fun hg => ?_
 obtain ⟨ga, rfl⟩ := hg
 refine J.q hX fun bp => ?_
 refine J.cb hX (x_Twins (bp 0)) [3] ?_
 rintro v As ⟨o, co, a2, c2, rfl, rfl⟩
 refine ⟨_, rfl, trivial, ?_⟩
 refine J.know (fun h' s => own_some (c := (o, co)) (by decide) (s.get (i := 3) rfl)) fun hg => ?_
 obtain ⟨go, rfl⟩ := hg
 refine J.know (fun h' s => own_some (c := (a2, c2)) (by decide) (s.get (i := 4) rfl)) fun hg => ?_
 obtain ⟨g2, rfl⟩ := hg
 refine J.q hX fun b11 => ?_
 refine J.val hX (.bool true) 0 rfl rfl (fun hg a w he hw => (strEq_run rfl rfl rfl he rfl rfl).trans rfl) rfl trivial ?_
 refine J.q hX fun b12 => ?_
 refine J.cb hX (t_Len q sL) [1] ?_
 refine cpq ⟨_, rfl, trivial, ?_⟩
 refine J.q hX fun b13 => ?_
 refine J.val hX (.int .i64 0) 0 rfl rfl (fun hg a w he hw => own1_run tk rfl rfl he hg rfl rfl (hw.get (i := 2) rfl) rfl) rfl trivial ?_
 refine J.q hX fun b14 => ?_
 refine J.cb hX (t_Block q sL (by decide) 1 2) [1] ?_
 rintro v As ⟨a3, c3, l3, hp3, rfl, rfl⟩
 refine ⟨_, rfl, trivial, ?_⟩
 have h3 : l3.length = 1 := hp3.length_eq.trans rfl
 rw [h3]
 refine J.q hX fun b15 => ?_
 refine J.val hX (aggA (0, 9, 9)) 0 rfl rfl (fun hg a w he hw => ownN_run tk rfl rfl he hg rfl rfl (hw.get (i := 2) rfl) rfl rfl) rfl trivial ?_
 refine J.q hX fun b16 => ?_
 refine J.cb hX (t_Drop q sL 0 9 9) [1] ?_
 refine cpq ⟨_, rfl, trivial, ?_⟩
 rw [show (alook sL (0, 9, 9)).isSome = true from rfl, show adel sL (0, 9, 9) = [((1, 2, 3), sX)] from rfl]
 refine J.q hX fun b17 => ?_
 refine J.val hX (aggA (0, 9, 9)) 0 rfl rfl (fun hg a w he hw => ownN_run tk rfl rfl he hg rfl rfl (hw.get (i := 2) rfl) rfl rfl) rfl trivial ?_
 refine J.q hX fun b18 => ?_
 refine J.cb hX (t_Drop q [((1, 2, 3), sX)] 0 9 9) [1] ?_
 refine cpq ⟨_, rfl, trivial, ?_⟩
 rw [show (alook [(((1 : Int), (2 : Int), (3 : Int)), sX)] (0, 9, 9)).isSome = false from rfl]
 refine J.q hX fun b19 => ?_
 refine J.val hX (slv (some g2) 2 c2) 0 rfl rfl (fun hg a w he hw => own1_run tk rfl rfl he hg rfl rfl (hw.get (i := 3) rfl) rfl) rfl trivial ?_
 refine J.q hX fun b20 => ?_
 refine J.val hX (slv (some g2) 2 c2) 0 rfl rfl (fun hg a w he hw => own1_run tk rfl rfl he hg rfl rfl (hw.get (i := 3) rfl) rfl) rfl trivial ?_
 refine J.q hX fun b21 => ?_
 refine J.val hX (.int .i64 2) 0 rfl rfl (fun hg a w he hw => own1_run tk rfl rfl he hg rfl rfl (hw.get (i := 4) rfl) rfl) rfl trivial ?_
 refine J.q hX fun b22 => ?_
 exact J.ru hX [] ⟨rfl, rfl⟩
theorem l5_Begun : Fn Tryz.prog 250 [] [] (fun v As => v = .bool true ∧ As = []) := by
 refine Fn.enter [] Tryz.func250 rfl rfl rfl fun X F hX => ?_
 refine J.q hX fun b23 => ?_
 refine J.cb hX (l5_begun) [] ?_
 refine cpq ⟨_, rfl, trivial, ?_⟩
 refine J.q hX fun b24 => ?_
 exact J.ru hX [] ⟨rfl, rfl⟩
section
variable {P : Program} {E : Env} {n : Nat} {a : Act} {w : World}
theorem eqAgg_run {lv : List Lk} {o : Oper} {t : TypeId} {x y : Operand} {k1 k2 u1 u2 t2 : Nat} {g1 g2 : G} {xs ys : List Value} (hop : o.op = .binOp .eql t x y t2) (hx : ev E x = some ⟨k1, .agg xs.toArray, u1, g1⟩) (hy : ev E y = some ⟨k2, .agg ys.toArray, u2, g2⟩) (he : EnvOK n E a) (v1 : g1.on = true) (v2 : g2.on = true)
  (hl : leaves P 100 t = some lv) (fx : Fits lv xs) (fy : Fits lv ys) (hm : ∀ zs, mkV P t zs = .agg zs.toArray) (hg : P.eqGuardType P.depth t = false) : (execOp a.eval o).run P w = .ok (.value (.bool (eqCells xs ys))) w := by
 have ex := ev_spec he hx
 have ey := ev_spec he hy
 simp only [Slot.val, v1, v2] at ex ey
 have h := run_eql_leaves (w := w) hl fx fy (hm _) (hm _)
 simp [execOp, hop, ex, ey, eqGuard, hg, h, Sem.run_bind]
end
def lvPg : List Lk := [.int .u8, .int .u8, .int .u8, .int .u8, .int .u8, .int .u8, .int .u8, .int .u8, .int .u8, .int .u8, .int .u8, .int .u8, .int .u8, .int .u8, .int .u8, .int .u8, .int .u8, .int .u8, .int .u8, .int .u8, .int .u8, .int .u8, .int .u8, .int .u8, .int .u8, .int .u8, .int .u8, .int .u8, .int .u8, .int .u8, .int .u8, .int .u8]
theorem leavesPg : leaves Tryz.prog 100 118 = some lvPg := by kernel_rfl
theorem fitsPg (p : List UInt8) : Fits lvPg (pageC p) := ⟨rfl, rfl, rfl, rfl, rfl, rfl, rfl, rfl, rfl, rfl, rfl, rfl, rfl, rfl, rfl, rfl, rfl, rfl, rfl, rfl, rfl, rfl, rfl, rfl, rfl, rfl, rfl, rfl, rfl, rfl, rfl, rfl, trivial⟩
theorem mkPg (zs : List Value) : mkV Tryz.prog 118 zs = .agg zs.toArray := by simp [mkV, Tryz.underlying118]
theorem gdPg : Tryz.prog.eqGuardType Tryz.prog.depth 118 = false := by kernel_rfl
theorem eqPg (x y : List UInt8) (hx : x.length = 32) (hy : y.length = 32) : eqCells (pageC x) (pageC y) = decide (x = y) := by rw [pageC_eq x hx, pageC_eq y hy, eqCells_bytes]
def lvD : List Lk := [.int .u8, .int .u8, .int .u8, .int .u8, .int .u8, .int .u8, .int .u8, .int .u8, .int .u8, .int .u8, .int .u8, .int .u8, .int .u8, .int .u8, .int .u8, .int .u8]
theorem fitsD (p : List UInt8) : Fits lvD (dataC p) := ⟨rfl, rfl, rfl, rfl, rfl, rfl, rfl, rfl, rfl, rfl, rfl, rfl, rfl, rfl, rfl, rfl, trivial⟩
theorem eqD (x y : List UInt8) (hx : x.length = 16) (hy : y.length = 16) : eqCells (dataC x) (dataC y) = decide (x = y) := by rw [dataC_eq x hx, dataC_eq y hy, eqCells_bytes]
def lvSh : List Lk := lvD ++ [.int .i64, .int .i64, .int .i64, .int .i64, .int .i64, .int .i64, .int .i64]
theorem leavesSh : leaves Tryz.prog 100 132 = some lvSh := by kernel_rfl
theorem fitsSh (s : Sh) : Fits lvSh (shL s) := Fits.append (fitsD s.data) (show Fits [.int .i64, .int .i64, .int .i64, .int .i64, .int .i64, .int .i64, .int .i64] [.int .i64 s.role, .int .i64 s.lpn, .int .i64 s.seq, .int .i64 s.kind, .int .i64 s.block, .int .i64 s.row, .int .i64 s.mask] from ⟨rfl, rfl, rfl, rfl, rfl, rfl, rfl, trivial⟩)
theorem mkSh (zs : List Value) : mkV Tryz.prog 132 zs = .agg zs.toArray := by simp [mkV, Tryz.underlying132]
theorem gdSh : Tryz.prog.eqGuardType Tryz.prog.depth 132 = false := by kernel_rfl
theorem eqSh (x y : Sh) (hx : x.data.length = 16) (hy : y.data.length = 16) : eqCells (shL x) (shL y) = decide (x = y) := by
 have h1 : shL x = dataC x.data ++ [.int .i64 x.role, .int .i64 x.lpn, .int .i64 x.seq, .int .i64 x.kind, .int .i64 x.block, .int .i64 x.row, .int .i64 x.mask] := rfl
 have h2 : shL y = dataC y.data ++ [.int .i64 y.role, .int .i64 y.lpn, .int .i64 y.seq, .int .i64 y.kind, .int .i64 y.block, .int .i64 y.row, .int .i64 y.mask] := rfl
 rw [h1, h2, eqCells_append (a := dataC x.data) (c := dataC y.data) rfl, eqD _ _ hx hy]
 obtain ⟨d, r, l, s, k, b, ro, m⟩ := x
 obtain ⟨d', r', l', s', k', b', ro', m'⟩ := y
 rw [Bool.eq_iff_iff]
 simp [eqCells, cellEq, Sh.mk.injEq]
def lvEn : List Lk := [.int .i64, .int .i64, .int .i64] ++ lvD
theorem leavesEn : leaves Tryz.prog 100 38 = some lvEn := by kernel_rfl
theorem fitsEn (e : En) : Fits lvEn (enL e) := Fits.append (show Fits [.int .i64, .int .i64, .int .i64] [.int .i64 e.lpn, .int .i64 e.seq, .int .i64 e.role] from ⟨rfl, rfl, rfl, trivial⟩) (fitsD e.data)
theorem mkEn (zs : List Value) : mkV Tryz.prog 38 zs = .agg zs.toArray := by simp [mkV, Tryz.underlying38]
theorem gdEn : Tryz.prog.eqGuardType Tryz.prog.depth 38 = false := by kernel_rfl
theorem eqEn (x y : En) (hx : x.data.length = 16) (hy : y.data.length = 16) : eqCells (enL x) (enL y) = true ↔ x = y := by
 have h1 : enL x = [.int .i64 x.lpn, .int .i64 x.seq, .int .i64 x.role] ++ dataC x.data := rfl
 have h2 : enL y = [.int .i64 y.lpn, .int .i64 y.seq, .int .i64 y.role] ++ dataC y.data := rfl
 rw [h1, h2, eqCells_append (a := [.int .i64 x.lpn, .int .i64 x.seq, .int .i64 x.role]) (c := [.int .i64 y.lpn, .int .i64 y.seq, .int .i64 y.role]) rfl, eqD _ _ hx hy]
 obtain ⟨l, s, r, d⟩ := x
 obtain ⟨l', s', r', d'⟩ := y
 simp [eqCells, cellEq, En.mk.injEq, and_assoc]
section
variable {X : Cx} {P : Program} {T : Tab} {K : List KI} {E : Env} {L : List Atom} {N : Nat} {F : HP} {Post : Value → List Atom → Prop} {rs : List ResultVar}
theorem J.effG (hX : IsCx X P rs N F Post) (hT : TabOK P T) {ops : Array Oper} {C : Cl} {lt : Bool} {i : Nat} {t : PT} {o : Oper} {g : G} {v : Nat → Value} {tag : Nat} {L' : Nat → List Atom} {ob : List Prop} {E' : Value → Env}
  (ho : lget ops.toList i = some o) (hg : gd ops.toList E o = some g) (hgo : g.on = true) (hef : ∀ x : Nat, eff T (fun _ => x) E L 0 o.op = some ⟨v x, tag, L' x, ob, 1⟩) (hob : Conj ob)
  (hd : ∀ v, putE N o.dst v tag .tt E = some (E' v)) (hJ : ∀ x, Conj (staysL lt C (L' x)) ∧ J X (.reg ops C t :: K) (E' (v x)) (L' x)) : J X (.reg ops C (.alt lt i t .non) :: K) E L := by
 refine J.op hX (S := fun v' L2 => ∃ x, v' = v x ∧ L2 = L' x) tag ho hg hgo (fun a0 w hen hs => ?_) hd (fun v' L2 ⟨x, e1, e2⟩ => by subst e1; subst e2; exact hJ x)
 obtain ⟨nv, w', r1, r2, r3, r4⟩ := eff_run (P := P) hT hen (hef w.heap.size) hob hs (.inr rfl)
 exact ⟨v w.heap.size, L' w.heap.size, nv, w', ⟨w.heap.size, rfl, rfl⟩, r1, r2, r3, r4⟩
end
end Go.Proofs.YtdocmcapegcoeaaGreat
namespace Go.Proofs.YtdocmcapegcoeaaGreat
open Go Go.RowKit
def pgB (a b : UInt8) : List UInt8 := [a, b, 0, 0, 0, 0, 0, 0, 0, 0, 0, 0, 0, 0, 0, 0, 0, 0, 0, 0, 0, 0, 0, 0, 0, 0, 0, 0, 0, 0, 0, 0]
namespace B7
def N0 : Nand := Nand.new 3 8 2
def N1 : Nand := N0.progN 1 0 0 (pgB 7 0)
def N2 : Nand := N1.progN 1 0 0 (pgB 8 0)
def N3 : Nand := (N2.fault 3 1 0 0 0 0).2
def N4 : Nand := N3.eraseN 1 0
def N5 : Nand := N4.setCut 0 1
def N6 : Nand := N5.progN 1 0 0 (pgB 5 6)
def N7 : Nand := N6.onN
def N8 : Nand := (N7.fault 4 2 0 0 0 0).2
theorem G0 : N0.Gd 100 0 := Nand.Gd.new 3 8 2 rfl 100 (by decide)
theorem G1 : N1.Gd 99 0 := G0.prog 1 0 0 _ rfl
theorem G2 : N2.Gd 98 0 := G1.prog 1 0 0 _ rfl
theorem G3 : N3.Gd 98 0 := G2.fault0 3 1 0 0 0 0 (by decide)
theorem G4 : N4.Gd 97 0 := G3.erase 1 0
theorem G5 : N5.Gd 97 0 := G4.cut 0 1 (by decide) (by decide)
theorem G6 : N6.Gd 96 0 := G5.prog 1 0 0 _ rfl
theorem G7 : N7.Gd 96 0 := G6.on
theorem G8 : N8.Gd 96 0 := G7.fault0 4 2 0 0 0 0 (by decide)
end B7
open B7
theorem n_NewNo : Fn Tryz.prog 28 [.agg #[.int .i64 0, .int .i64 0, .int .i64 0]] [] (fun v As => v = .pointer none ∧ As = []) := by
 refine Fn.enter [0] Tryz.func28 rfl rfl rfl fun X F hX => ?_
 refine J.q hX fun g1 => ?_
 refine J.cb hX (f_May 0 0 0) [] ?_
 refine cpq ⟨_, rfl, trivial, ?_⟩
 rw [show geoMay 0 0 0 = false from rfl]
 refine J.q hX fun b2 => ?_
 refine J.cT ?_
 refine J.q hX fun b3 => ?_
 exact J.ru hX [] ⟨rfl, rfl⟩
theorem l7_begun : Fn Tryz.prog 237 [] [] (fun v As => v = .bool true ∧ As = []) := by
 refine Fn.enter [] Tryz.func237 rfl rfl rfl fun X F hX => ?_
 refine J.q hX fun b0 => ?_
 refine J.cb hX (n_New 3 8 2 rfl) [] ?_
 rintro v As ⟨q, rfl, rfl⟩
 refine ⟨_, rfl, trivial, ?_⟩
 refine J.q hX fun b5 => ?_
 refine J.cb hX (n_NewNo) [] ?_
 refine cpq ⟨_, rfl, trivial, ?_⟩
 refine J.q hX fun b7 => ?_
 refine J.cF ?_
 refine J.q hX fun b8 => ?_
 refine J.plan (.of [0,5,8,16,21,24,14,31,32,36]) [7,8,9] [3] (by rw [hX.hP]; kernel_rfl) (by kernel_rfl) ?_
 refine J.q hX fun b9 => ?_
 refine J.cb hX (n_Program q N0 G0.ok G0.room 1 0 0 (pgB 7 0) rfl) [2] ?_
 refine cpq ⟨_, rfl, ⟨rfl, trivial⟩, ?_⟩
 rw [show N0.progE 1 0 0 = 0 from by kernel_rfl]
 refine J.q hX fun b11 => ?_
 refine J.cb hX (n_Program q N1 G1.ok G1.room 1 0 0 (pgB 8 0) rfl) [2] ?_
 refine cpq ⟨_, rfl, trivial, ?_⟩
 rw [show N1.progE 1 0 0 = 4 from by kernel_rfl]
 refine J.q hX fun b13 => ?_
 refine J.cb hX (n_Read q N2 G2.ok 1 0 0) [2] ?_
 refine cpq ⟨_, rfl, trivial, ?_⟩
 rw [show N2.readE 1 0 0 = 0 from by kernel_rfl, show N2.readV 1 0 0 = pgB 7 0 from by kernel_rfl]
 refine J.q hX fun b15 => ?_
 refine J.cb hX (n_Read q N2 G2.ok 2 0 0) [2] ?_
 refine cpq ⟨_, rfl, trivial, ?_⟩
 rw [show N2.readE 2 0 0 = 5 from by kernel_rfl]
 refine J.q hX fun b17 => ?_
 refine J.cb hX (n_Fault q N2 G2.ok 0 3 1 0 0 0 0) [2] ?_
 refine cpq ⟨_, rfl, trivial, ?_⟩
 rw [show (N2.fault 3 1 0 0 0 0).1 = true from by kernel_rfl]
 refine J.q hX fun b19 => ?_
 refine J.cb hX (n_Read q N3 G3.ok 1 0 0) [2] ?_
 refine cpq ⟨_, rfl, trivial, ?_⟩
 rw [show N3.readE 1 0 0 = 6 from by kernel_rfl]
 refine J.q hX fun b21 => ?_
 refine J.cb hX (n_Erase q N3 G3.ok G3.room G3.nodup (Nat.le_trans G3.few (by decide)) 1 0) [2] ?_
 refine cpq ⟨_, rfl, trivial, ?_⟩
 rw [show N3.eraseE 1 0 = 0 from by kernel_rfl]
 refine J.q hX fun b23 => ?_
 refine J.cb hX (n_Cut q N4 0 1) [2] ?_
 refine cpq ⟨_, rfl, trivial, ?_⟩
 refine J.q hX fun b25 => ?_
 refine J.cb hX (n_Program q N5 G5.ok G5.room 1 0 0 (pgB 5 6) rfl) [2] ?_
 refine cpq ⟨_, rfl, trivial, ?_⟩
 rw [show N5.progE 1 0 0 = 9 from by kernel_rfl]
 refine J.q hX fun b27 => ?_
 refine J.cb hX (n_On q N6) [2] ?_
 refine cpq ⟨_, rfl, trivial, ?_⟩
 refine J.q hX fun b29 => ?_
 refine J.cb hX (n_Read q N7 G7.ok 1 0 0) [2] ?_
 refine cpq ⟨_, rfl, trivial, ?_⟩
 rw [show N7.readE 1 0 0 = 0 from by kernel_rfl, show N7.readV 1 0 0 = Nand.fillP 1 (pgB 5 6) from by kernel_rfl]
 refine J.q hX fun bf => ?_
 refine J.cb hX (q_New (bf (0 + 1))) [8] ?_
 rintro v As ⟨p, a, c, rfl, rfl⟩
 refine ⟨_, rfl, trivial, ?_⟩
 refine J.know (fun h' s => own_some (c := (a, c)) (by decide) (s.get (i := 9) rfl)) fun hg => ?_
 obtain ⟨g, rfl⟩ := hg
 refine J.q hX fun b32 => ?_
 refine J.cb hX (l5_Begun) [] ?_
 refine cpq ⟨_, rfl, trivial, ?_⟩
 refine J.q hX fun b33 => ?_
 refine J.cb hX (l6_Begun) [] ?_
 refine cpq ⟨_, rfl, trivial, ?_⟩
 refine J.q hX fun b34 => ?_
 refine J.cb hX (n_Broken q N7) [2] ?_
 refine cpq ⟨_, rfl, trivial, ?_⟩
 rw [show N7.broken = 1 from by kernel_rfl]
 refine J.q hX fun b35 => ?_
 refine J.val hX (.bool true) 0 rfl rfl (fun hg a w he hw => (eqAgg_run (xs := pageC (pgB 7 0)) (ys := pageC (pgB 7 0)) rfl rfl rfl he hg rfl leavesPg (fitsPg _) (fitsPg _) mkPg gdPg).trans (by rw [eqPg _ _ rfl rfl]; simp)) rfl trivial ?_
 refine J.q hX fun b36 => ?_
 refine J.cb hX (n_Ops q N7) [2] ?_
 refine cpq ⟨_, rfl, trivial, ?_⟩
 rw [show N7.ops = 3 from by kernel_rfl]
 refine J.q hX fun b37 => ?_
 refine J.cb hX (n_Worn q N7 G7.ok 1 0) [2] ?_
 refine cpq ⟨_, rfl, trivial, ?_⟩
 rw [show N7.wornAt 1 0 = 1 from by kernel_rfl]
 refine J.q hX fun b38 => ?_
 refine J.cb hX (n_Next q N7 G7.ok 1 0) [2] ?_
 refine cpq ⟨_, rfl, trivial, ?_⟩
 rw [show N7.next 1 0 = 1 from by kernel_rfl]
 refine J.q hX fun b39 => ?_
 refine J.cb hX (q_Left p (some ⟨g, 0, none⟩) 1 c) [8] ?_
 refine cpq ⟨_, rfl, trivial, ?_⟩
 refine J.q hX fun b40 => ?_
 refine J.cb hX (q_Run p g c q N7 G7.ok (by kernel_rfl)) [8, 9, 2] ?_
 refine cpq ⟨_, rfl, trivial, ?_⟩
 refine J.q hX fun b41 => ?_
 refine J.cb hX (n_Dead q N8 G8.ok 2) [2] ?_
 refine cpq ⟨_, rfl, trivial, ?_⟩
 rw [show N8.deadAt 2 = true from by kernel_rfl]
 refine J.q hX fun b42 => ?_
 refine J.effG hX tk rfl rfl rfl (fun _ => rfl) (by (repeat' (first | exact Conj.nil | refine Conj.cons ?_ ?_ | omega | exact hq0 | (simpa using hq0) | (exact fun h => h) | exact rfl | (intro hq; have hq0 := hq; try simp only [Bool.and_eq_true, Bool.or_eq_true, decide_eq_true_eq, Bool.not_eq_true', decide_eq_false_iff_not] at hq) | (simp; done) | (simp; omega) | decide))) (fun _ => rfl) fun bg => ⟨trivial, ?_⟩
 refine J.q hX fun b43 => ?_
 refine J.cb hX (q_Dies bg) [10] ?_
 refine cpq ⟨_, rfl, trivial, ?_⟩
 refine J.q hX fun b44 => ?_
 exact J.ru hX [] ⟨rfl, rfl⟩
theorem l7_Begun : Fn Tryz.prog 211 [] [] (fun v As => v = .bool true ∧ As = []) := by
 refine Fn.enter [] Tryz.func211 rfl rfl rfl fun X F hX => ?_
 refine J.q hX fun b45 => ?_
 refine J.cb hX (l7_begun) [] ?_
 refine cpq ⟨_, rfl, trivial, ?_⟩
 refine J.q hX fun b46 => ?_
 exact J.ru hX [] ⟨rfl, rfl⟩
end Go.Proofs.YtdocmcapegcoeaaGreat
namespace Go.Proofs.YtdocmcapegcoeaaGreat
open Go Go.RowKit
theorem y_Blank1 (x : Int) : Fn Tryz.prog 274 [.int .u8 x] [] (fun v As => v = .bool (x != 255) ∧ As = []) := by
 refine Fn.enter [0] Tryz.func274 rfl rfl rfl fun X F hX => ?_
 refine J.q hX fun b1 => ?_
 exact J.ru hX [] ⟨rfl, rfl⟩
theorem y_Index (b : Nat) (p : List UInt8) (h : (((p.getD 0 0).toNat : Int) != 255) = true) : Fn Tryz.prog 291 [.slice (some ⟨b, 0, none⟩) 32 32, .func (.func 274) #[] #[]] [.pt b 118 (pageC p)] (fun v As => v = .int .i64 0 ∧ As = []) := by
 refine Fn.enter [2, 0] Tryz.func291 rfl rfl rfl fun X F hX => ?_
 refine J.q hX fun b2 => ?_
 refine J.lo (α := Nat) (fun k => k = 0) (fun k => [⟨8, .int .i64 0, 0, .tt⟩, ⟨7, .int .i64 32, 0, .tt⟩, ⟨0, .slice (some ⟨b, 0, none⟩) 32 32, 2, .tt⟩, ⟨1, .func (.func 274) #[] #[], 0, .tt⟩]) [] (fun k => []) (fun k => 0) (0) (rfl) rfl ?_ (fun _ => rfl) fun k hI => ?_
 ·rfl
 refine J.q hX fun b4 => ?_
 refine J.cT ?_
 refine J.q hX fun b5 => ?_
 refine J.val hX (byC p 0) 0 rfl rfl (fun hg a w he hw => load1_run tk rfl rfl he rfl rfl rfl (hw.get (i := 1) rfl) rfl) rfl trivial ?_
 refine J.q hX fun b6 => ?_
 refine J.cb hX (y_Blank1 ((p.getD 0 0).toNat : Int)) [] ?_
 refine cpq ⟨_, rfl, trivial, ?_⟩
 rw [h]
 refine J.q hX fun b7 => ?_
 refine J.cT ?_
 refine J.q hX fun b8 => ?_
 exact J.ru hX [] ⟨rfl, rfl⟩
theorem y_Contains (b : Nat) (p : List UInt8) (h : (((p.getD 0 0).toNat : Int) != 255) = true) : Fn Tryz.prog 273 [.slice (some ⟨b, 0, none⟩) 32 32, .func (.func 274) #[] #[]] [.pt b 118 (pageC p)] (fun v As => v = .bool true ∧ As = []) := by
 refine Fn.enter [2, 0] Tryz.func273 rfl rfl rfl fun X F hX => ?_
 refine J.q hX fun b9 => ?_
 refine J.cb hX (y_Index b p h) [1] ?_
 refine cpq ⟨_, rfl, trivial, ?_⟩
 refine J.q hX fun b11 => ?_
 exact J.ru hX [] ⟨rfl, rfl⟩
theorem y_Blank (p : List UInt8) (h : (((p.getD 0 0).toNat : Int) != 255) = true) : Fn Tryz.prog 256 [pgV p] [] (fun v As => v = .bool false ∧ As = []) := by
 refine Fn.enter [0] Tryz.func256 rfl rfl rfl fun X F hX => ?_
 refine J.q hX fun bb => ?_
 refine J.cb hX (y_Contains (bb 0) p h) [1] ?_
 refine cpq ⟨_, rfl, trivial, ?_⟩
 refine J.q hX fun b13 => ?_
 exact J.ru hX [] ⟨rfl, rfl⟩
namespace B9
def e : En := ⟨3, 9, 1, [1, 2, 0, 0, 0, 0, 0, 0, 0, 0, 0, 0, 0, 0, 0, 0]⟩
def pad : En := ⟨0, 0, 3, zeros16⟩
def a : Sh := W.sh 2 1 7 e
def b : Sh := W.sh 2 1 7 pad
def p : Sh := W.par 2 1 7 [e, pad]
def pg : List UInt8 := putP a
theorem h_a : W.own 2 1 7 e = a := by kernel_rfl
theorem h_a2 : W.ok 2 1 7 e = true := by kernel_rfl
theorem h_b : W.own 2 1 7 pad = b := by kernel_rfl
theorem h_b2 : W.ok 2 1 7 pad = true := by kernel_rfl
theorem h_p2 : W.parB 2 1 7 [e, pad] = true := by kernel_rfl
theorem h_pl : p.data.length = 16 := by kernel_rfl
theorem h_m : S.may a = true := by kernel_rfl
theorem h_g : S.getV pg = a := by kernel_rfl
theorem h_g2 : S.getE pg = 0 := by kernel_rfl
theorem h_z2 : S.getE zeros32 = 1 := by kernel_rfl
theorem h_k : W.back p [b] = e := by kernel_rfl
theorem h_k2 : W.backB p [b] = true := by kernel_rfl
theorem h_meta : S.meta_ 2 5 77 = 144120685633994829 := by kernel_rfl
theorem h_mp : S.may p = true := by kernel_rfl
theorem h_mz : S.may Sh.zero = false := by kernel_rfl
theorem h_bl : (((pg.getD 0 0).toNat : Int) != 255) = true := by kernel_rfl
theorem h_pgl : pg.length = 32 := putP_len a rfl
end B9
open B9
theorem l9_begun : Fn Tryz.prog 238 [] [] (fun v As => v = .bool true ∧ As = []) := by
 refine Fn.enter [] Tryz.func238 rfl rfl rfl fun X F hX => ?_
 refine J.q hX fun b14 => ?_
 refine J.cb hX (w_Own 2 1 7 e rfl) [] ?_
 refine cpq ⟨_, rfl, trivial, ?_⟩
 rw [h_a, h_a2]
 refine J.q hX fun b16 => ?_
 refine J.cb hX (w_Own 2 1 7 pad rfl) [] ?_
 refine cpq ⟨_, rfl, trivial, ?_⟩
 rw [h_b, h_b2]
 refine J.q hX fun b1 => ?_
 refine J.ca hX (by kernel_rfl) (w_Parity 2 1 7 (.pt (b1 (0 + 1)) 38 (cellsE [e, pad])) (some ⟨b1 (0 + 1), 0, none⟩) 2 2 [e, pad] (pt_rd _ _ _ _ _ rfl) rfl (by decide)) [5] 0 rfl rfl rfl rfl rfl rfl (fun _ => rfl) ?_
 refine cpq ⟨_, rfl, trivial, ?_⟩
 rw [show W.par 2 1 7 [e, pad] = p from rfl, h_p2]
 refine J.q hX fun b19 => ?_
 refine J.cb hX (h_Put a rfl) [] ?_
 refine cpq ⟨_, rfl, trivial, ?_⟩
 rw [show putP a = pg from rfl, h_m]
 refine J.q hX fun b21 => ?_
 refine J.cb hX (h_Get pg h_pgl) [] ?_
 refine cpq ⟨_, rfl, trivial, ?_⟩
 rw [h_g, h_g2]
 refine J.q hX fun b23 => ?_
 refine J.cb hX (h_Get zeros32 rfl) [] ?_
 refine cpq ⟨_, rfl, trivial, ?_⟩
 rw [h_z2]
 refine J.q hX fun b2 => ?_
 refine J.closeOwn (e := 132) (size := 23) (n := 1) (cap := 1) (xs := cellsS [b]) 10 rfl rfl rfl (Nat.le_refl _) (by decide) rfl rfl rfl ?_
 refine J.q hX fun b25 => ?_
 refine J.cb hX (w_Back p h_pl (some (b2 (0 + 1))) 1 1 [b] rfl (by decide) (by decide)) [10] ?_
 refine cpq ⟨_, rfl, trivial, ?_⟩
 rw [h_k, h_k2]
 refine J.q hX fun b26 => ?_
 refine J.cb hX (h_Meta 2 5 77) [] ?_
 refine cpq ⟨_, rfl, trivial, ?_⟩
 rw [h_meta]
 refine J.q hX fun b28 => ?_
 refine J.cb hX (h_Of 144120685633994829 (by decide)) [] ?_
 refine cpq ⟨_, rfl, trivial, ?_⟩
 refine J.q hX fun b30 => ?_
 refine J.cb hX (l6_Begun) [] ?_
 refine cpq ⟨_, rfl, trivial, ?_⟩
 refine J.q hX fun b32 => ?_
 refine J.val hX (.bool true) 0 rfl rfl (fun hg x w he hw => (eqAgg_run (xs := shL a) (ys := shL a) rfl rfl rfl he hg rfl leavesSh (fitsSh _) (fitsSh _) mkSh gdSh).trans (by rw [eqSh _ _ rfl rfl]; simp)) rfl trivial ?_
 refine J.q hX fun b33 => ?_
 refine J.val hX (.bool true) 0 rfl rfl (fun hg x w he hw => (eqAgg_run (xs := enL e) (ys := enL e) rfl rfl rfl he hg rfl leavesEn (fitsEn _) (fitsEn _) mkEn gdEn).trans (by rw [(eqEn _ _ rfl rfl).2 rfl])) rfl trivial ?_
 refine J.q hX fun b34 => ?_
 refine J.cb hX (h_May p h_pl) [] ?_
 refine cpq ⟨_, rfl, trivial, ?_⟩
 rw [h_mp]
 refine J.q hX fun b35 => ?_
 refine J.cb hX (h_May Sh.zero rfl) [] ?_
 refine cpq ⟨_, rfl, trivial, ?_⟩
 rw [h_mz]
 refine J.q hX fun b36 => ?_
 refine J.cb hX (y_Blank pg h_bl) [] ?_
 refine cpq ⟨_, rfl, trivial, ?_⟩
 refine J.q hX fun b37 => ?_
 refine J.ru hX [] ?_
 exact ⟨by kernel_rfl, rfl⟩
theorem l9_Begun : Fn Tryz.prog 212 [] [] (fun v As => v = .bool true ∧ As = []) := by
 refine Fn.enter [] Tryz.func212 rfl rfl rfl fun X F hX => ?_
 refine J.q hX fun b38 => ?_
 refine J.cb hX (l9_begun) [] ?_
 refine cpq ⟨_, rfl, trivial, ?_⟩
 refine J.q hX fun b39 => ?_
 exact J.ru hX [] ⟨rfl, rfl⟩
end Go.Proofs.YtdocmcapegcoeaaGreat
namespace Go.Proofs.YtdocmcapegcoeaaGreat
open Go Go.RowKit
namespace B11
def N0 : Nand := Nand.new 3 8 2
def N1 : Nand := (R.write N0 1 0 7 [B9.e, B9.pad]).1
def N2 : Nand := (N1.fault 4 0 0 0 0 0).2
def fn : Fnd := ⟨B9.e, 1, 0, 0, 7, true, true⟩
theorem G0 : N0.Gd 100 0 := Nand.Gd.new 3 8 2 rfl 100 (by decide)
theorem G1 : N1.Gd 92 0 := write_Gd (by decide) G0
theorem G2 : N2.Gd 92 0 := G1.fault0 4 0 0 0 0 0 (by decide)
theorem h_w : (R.write N0 1 0 7 [B9.e, B9.pad]).2 = (0, 0) := by kernel_rfl
theorem h_l1 : (M.look N1 0 1 0).2 = 1 := by kernel_rfl
theorem h_l2 : (M.look N1 0 1 0).1.lpn = 3 := by kernel_rfl
theorem h_l3 : (M.look N1 0 2 0).2 = 2 := by kernel_rfl
theorem h_r : R.read N2 1 0 0 7 = (B9.e, 0) := by kernel_rfl
theorem h_a : R.all N2 1 0 = [fn] := by kernel_rfl
theorem h_m : M.masks N2 1 0 = [7] := by kernel_rfl
end B11
open B11
theorem l11_begun : Fn Tryz.prog 181 [] [] (fun v As => v = .bool true ∧ As = []) := by
 refine Fn.enter [] Tryz.func181 rfl rfl rfl fun X F hX => ?_
 refine J.q hX fun b1 => ?_
 refine J.cb hX (n_New 3 8 2 rfl) [] ?_
 rintro v As ⟨q, rfl, rfl⟩
 refine ⟨_, rfl, trivial, ?_⟩
 refine J.q hX fun b3 => ?_
 refine J.cF ?_
 refine J.q hX fun b1 => ?_
 refine J.ca hX (by kernel_rfl) (r_Write q N0 (.pt (b1 (0 + 1)) 38 (cellsE [B9.e, B9.pad])) 1 0 7 (some ⟨b1 (0 + 1), 0, none⟩) 2 2 0 [B9.e, B9.pad] (pt_rd _ _ _ _ _ rfl) rfl (by decide) (G0.less (by decide) (Nat.le_refl _))) [1, 3] 0 rfl rfl rfl rfl rfl rfl (fun _ => rfl) ?_
 refine cpq ⟨_, rfl, trivial, ?_⟩
 rw [h_w]
 refine J.q hX fun b5 => ?_
 refine J.cb hX (m_Look q N1 G1.ok G1.room 0 1 0) [1] ?_
 refine cpq ⟨_, rfl, trivial, ?_⟩
 rw [h_l1]
 refine J.q hX fun b7 => ?_
 refine J.cb hX (m_Look q N1 G1.ok G1.room 0 2 0) [1] ?_
 refine cpq ⟨_, rfl, trivial, ?_⟩
 rw [h_l3]
 refine J.q hX fun b9 => ?_
 refine J.cb hX (n_Fault q N1 G1.ok 0 4 0 0 0 0 0) [1] ?_
 refine cpq ⟨_, rfl, trivial, ?_⟩
 refine J.q hX fun b11 => ?_
 refine J.cb hX (r_Read q N2 G2.ok G2.room 1 0 0 7 (by decide) (by decide)) [1] ?_
 refine cpq ⟨_, rfl, trivial, ?_⟩
 rw [h_r]
 refine J.q hX fun b13 => ?_
 refine J.cb hX (r_All q N2 G2.ok G2.room 1 0) [1] ?_
 rintro v As ⟨a, c, rfl, rfl⟩
 refine ⟨_, rfl, trivial, ?_⟩
 rw [h_a]
 refine J.know (fun h' s => own_some (c := (a, c)) (by decide) (s.get (i := 7) rfl)) fun hg => ?_
 obtain ⟨ga, rfl⟩ := hg
 refine J.q hX fun b15 => ?_
 refine J.cb hX (l7_Begun) [] ?_
 refine cpq ⟨_, rfl, trivial, ?_⟩
 refine J.q hX fun b17 => ?_
 refine J.cb hX (l9_Begun) [] ?_
 refine cpq ⟨_, rfl, trivial, ?_⟩
 refine J.q hX fun b18 => ?_
 rw [h_l2]
 refine J.val hX (.bool true) 0 rfl rfl (fun hg x w he hw => (eqAgg_run (xs := enL B9.e) (ys := enL B9.e) rfl rfl rfl he hg rfl leavesEn (fitsEn _) (fitsEn _) mkEn gdEn).trans (by rw [(eqEn _ _ rfl rfl).2 rfl])) rfl trivial ?_
 refine J.q hX fun b19 => ?_
 refine J.val hX (.bool true) 0 rfl rfl (fun hg x w he hw => own1_run tk rfl rfl he hg rfl rfl (hw.get (i := 7) rfl) rfl) rfl trivial ?_
 refine J.q hX fun b20 => ?_
 refine J.val hX (.bool true) 0 rfl rfl (fun hg x w he hw => own1_run tk rfl rfl he hg rfl rfl (hw.get (i := 7) rfl) rfl) rfl trivial ?_
 refine J.q hX fun b21 => ?_
 refine J.val hX (.int .i64 7) 0 rfl rfl (fun hg x w he hw => own1_run tk rfl rfl he hg rfl rfl (hw.get (i := 7) rfl) rfl) rfl trivial ?_
 refine J.q hX fun b22 => ?_
 refine J.cb hX (m_Masks q N2 G2.ok G2.room 1 0) [1] ?_
 rintro v As ⟨a2, c2, rfl, rfl⟩
 refine ⟨_, rfl, trivial, ?_⟩
 rw [h_m]
 refine J.q hX fun b23 => ?_
 exact J.ru hX [] ⟨rfl, rfl⟩
end Go.Proofs.YtdocmcapegcoeaaGreat
namespace Go.Proofs.YtdocmcapegcoeaaGreat
open Go Go.RowKit
theorem tm_bd (a : Int) (n : Int) (hn : 0 < n) : -n < a.tmod n ∧ a.tmod n < n := by
 refine ⟨?_, Int.tmod_lt_of_pos a hn⟩
 obtain ⟨k, rfl | rfl⟩ := Int.eq_nat_or_neg a
 ·have := Int.tmod_nonneg (a := (k : Int)) n (by omega); omega
 ·rw [Int.neg_tmod]
  have := Int.tmod_lt_of_pos (k : Int) hn
  omega
theorem tm_2 (a : Int) (n : Int) (hn : 0 < n) : 0 ≤ (a.tmod n + n).tmod n ∧ (a.tmod n + n).tmod n < n := by
 have := tm_bd a n hn
 exact ⟨Int.tmod_nonneg _ (by omega), Int.tmod_lt_of_pos _ hn⟩
theorem l6_Geo (a b c : Int) : Fn Tryz.prog 16 [.int .i64 a, .int .i64 b, .int .i64 c] [] (fun v As => ∃ D B P : Nat, v = .agg #[.int .i64 D, .int .i64 B, .int .i64 P] ∧ (3 ≤ D ∧ D ≤ 6) ∧ (8 ≤ B ∧ B ≤ 16) ∧ (2 ≤ P ∧ P ≤ 8) ∧ As = []) := by
 have a1 := tm_bd a 4 (by decide)
 have a2 := tm_2 a 4 (by decide)
 have b1 := tm_bd b 9 (by decide)
 have b2 := tm_2 b 9 (by decide)
 have c1 := tm_bd c 7 (by decide)
 have c2 := tm_2 c 7 (by decide)
 refine Fn.enter [0, 0, 0] Tryz.func16 rfl rfl rfl fun X F hX => ?_
 refine J.q hX fun b1 => ?_
 refine J.ru hX [] ?_
 obtain ⟨D, hD⟩ := Int.eq_ofNat_of_zero_le a2.1
 obtain ⟨B, hB⟩ := Int.eq_ofNat_of_zero_le b2.1
 obtain ⟨P, hP⟩ := Int.eq_ofNat_of_zero_le c2.1
 refine ⟨3 + D, 8 + B, 2 + P, ?_, by omega, by omega, by omega, rfl⟩
 rw [hD, hB, hP, Int.natCast_add, Int.natCast_add, Int.natCast_add]
 rfl
theorem pow_bd (D : Nat) (h : D ≤ 6) : (2 : Int) ^ (min (D : Int).toNat IntKind.i64.bits) = ((2 ^ D : Nat) : Int) ∧ (1 : Int) ≤ ((2 ^ D : Nat) : Int) ∧ ((2 ^ D : Nat) : Int) ≤ 64 := by
 have : ∀ D : Nat, D < 7 → (2 : Int) ^ (min (D : Int).toNat IntKind.i64.bits) = ((2 ^ D : Nat) : Int) ∧ (1 : Int) ≤ ((2 ^ D : Nat) : Int) ∧ ((2 ^ D : Nat) : Int) ≤ 64 := by decide
 exact this D (by omega)
namespace B13
def e1 : En := { En.zero with lpn := 4, seq := 7, role := 1 }
def e2 : En := { En.zero with lpn := 4, seq := 6, role := 1 }
def e3 : En := { En.zero with lpn := 10, seq := 9, role := 1 }
def T0 : Tb := ⟨10, [], [], 1⟩
def T1 : Tb := ⟨10, [(4, ⟨2, 1, 0, 7, 7, 1⟩)], [(2, 1)], 8⟩
def t0 : Tl := Tl.new 3 8 2
def t1 : Tl := ⟨3, 8, 2, ⟨3, 0, false, false⟩ :: List.replicate 7 Sb.zero, 0⟩
def t2 : Tl := ⟨3, 8, 2, [⟨3, 0, false, false⟩, Sb.zero, ⟨0, 2, false, false⟩, Sb.zero, Sb.zero, Sb.zero, Sb.zero, Sb.zero], 0⟩
theorem h0 : Tb.new 10 = T0 := by kernel_rfl
theorem h1 : Tb.put T0 e1 2 1 0 7 = T1 := by kernel_rfl
theorem h2 : Tb.put T1 e2 0 0 0 7 = T1 := by kernel_rfl
theorem h3 : Tb.put T1 e3 0 0 0 7 = T1 := by kernel_rfl
theorem p1 : Tb.putB T0 e1 = true := by kernel_rfl
theorem p2 : Tb.putB T1 e2 = false := by kernel_rfl
theorem p3 : Tb.putB T1 e3 = false := by kernel_rfl
theorem w1 : t0.wore 0 3 = t1 := by kernel_rfl
theorem w2 : t1.bad 1 2 = t2 := by kernel_rfl
theorem c0 (k : Int) : 0 ≤ T0.count k ∧ T0.count k ≤ 1000000 := by
 have : T0.count k = 0 := rfl
 rw [this]; omega
theorem c1 (k : Int) : 0 ≤ T1.count k ∧ T1.count k ≤ 1000000 := by
 have : T1.count k = (if k = 2 then some (1 : Int) else none).getD 0 := rfl
 rw [this]
 split <;> simp
theorem o1 : pkLeast (fun x y => cmpI (t2.wear x) (t2.wear y)) (pkSome (pkFree t2 T1) (-1) t2.b) = 1 := by kernel_rfl
theorem o2 : pkLeast (fun x y => orI [cmpI (T1.count x) (T1.count y), cmpI (t2.wear x) (t2.wear y)]) (pkSome (pkUsed t2 T1) (-1) t2.b) = 2 := by kernel_rfl
theorem o3 : (pkSome (pkFree t2 T1) (-1) t2.b).length = 7 := by kernel_rfl
theorem o4 : pkSome (pkSpent t2 T1) (-1) t2.b = [] := by kernel_rfl
theorem o5 : pkSome (pkHurt t2 T1) (-1) t2.b = [2] := by kernel_rfl
theorem o6 : T1.ins 2 = [4] := by kernel_rfl
theorem o7 : t2.mask 2 = 5 := by kernel_rfl
theorem o8 : t2.usable 2 = true := by kernel_rfl
theorem o9 : t2.alive = 7 := by kernel_rfl
theorem o10 : t2.wear 0 = 3 := by kernel_rfl
theorem o11 : t2.blank 3 = true := by kernel_rfl
theorem o12 : T1.count 2 = 1 := by kernel_rfl
end B13
theorem l13_begun : Fn Tryz.prog 182 [] [] (fun v As => v = .bool true ∧ As = []) := by
 refine Fn.enter [] Tryz.func182 rfl rfl rfl fun X F hX => ?_
 refine J.q hX fun b1 => ?_
 refine J.cb hX (tb_New 10) [] ?_
 rintro v As ⟨r, rfl, rfl⟩
 refine ⟨_, rfl, trivial, ?_⟩
 rw [B13.h0]
 refine J.q hX fun b3 => ?_
 refine J.cb hX (tl_New 3 8 2 rfl) [] ?_
 rintro v As ⟨q, rfl, rfl⟩
 refine ⟨_, rfl, trivial, ?_⟩
 rw [show Tl.new 3 8 2 = B13.t0 from rfl]
 refine J.q hX fun b5 => ?_
 refine J.cb hX (tl_NewZ) [] ?_
 refine cpq ⟨_, rfl, trivial, ?_⟩
 refine J.q hX fun b7 => ?_
 refine J.cF ?_
 refine J.q hX fun b8 => ?_
 refine J.cb hX (tb_Put r B13.T0 B13.e1 2 1 0 7 (by decide) B13.c0) [1] ?_
 refine cpq ⟨_, rfl, trivial, ?_⟩
 rw [B13.h1, B13.p1]
 refine J.q hX fun b10 => ?_
 refine J.cb hX (tb_Put r B13.T1 B13.e2 0 0 0 7 (by decide) B13.c1) [1] ?_
 refine cpq ⟨_, rfl, trivial, ?_⟩
 rw [B13.h2, B13.p2]
 refine J.q hX fun b12 => ?_
 refine J.cb hX (tb_Put r B13.T1 B13.e3 0 0 0 7 (by decide) B13.c1) [1] ?_
 refine cpq ⟨_, rfl, trivial, ?_⟩
 rw [B13.h3, B13.p3]
 refine J.q hX fun b14 => ?_
 refine J.cb hX (tb_Get r B13.T1 4) [1] ?_
 refine cpq ⟨_, rfl, trivial, ?_⟩
 rw [show Tb.look B13.T1.at_ 4 = some ⟨2, 1, 0, 7, 7, 1⟩ from rfl, Option.getD_some, Option.isSome_some]
 refine J.q hX fun b16 => ?_
 refine J.cb hX (tl_Wore q B13.t0 (by decide) rfl 0 3) [2] ?_
 refine cpq ⟨_, rfl, trivial, ?_⟩
 rw [B13.w1]
 refine J.q hX fun b18 => ?_
 refine J.cb hX (tl_Bad q B13.t1 (by decide) rfl 1 2) [2] ?_
 refine cpq ⟨_, rfl, trivial, ?_⟩
 rw [B13.w2]
 refine J.q hX fun b20 => ?_
 refine J.cb hX (l7_Begun) [] ?_
 refine cpq ⟨_, rfl, trivial, ?_⟩
 refine J.q hX fun b22 => ?_
 refine J.cb hX (l9_Begun) [] ?_
 refine cpq ⟨_, rfl, trivial, ?_⟩
 refine J.q hX fun b24 => ?_
 refine J.cb hX (tb_Len r B13.T1) [1] ?_
 refine cpq ⟨_, rfl, trivial, ?_⟩
 refine J.q hX fun b26 => ?_
 refine J.cb hX (tb_Count r B13.T1 2) [1] ?_
 refine cpq ⟨_, rfl, trivial, ?_⟩
 rw [B13.o12]
 refine J.q hX fun b28 => ?_
 refine J.cb hX (tb_In r B13.T1 10 rfl (by decide) 2) [1] ?_
 rintro v As ⟨a1, c1, rfl, rfl⟩
 refine ⟨_, rfl, trivial, ?_⟩
 rw [B13.o6]
 refine J.q hX fun b30 => ?_
 refine J.cb hX (tb_Next r B13.T1) [1] ?_
 refine cpq ⟨_, rfl, trivial, ?_⟩
 refine J.q hX fun b32 => ?_
 refine J.cb hX (tl_Wear q B13.t2 (by decide) rfl 0) [2] ?_
 refine cpq ⟨_, rfl, trivial, ?_⟩
 rw [B13.o10]
 refine J.q hX fun b34 => ?_
 refine J.cb hX (tl_Mask q B13.t2 (by decide) rfl 2) [2] ?_
 refine cpq ⟨_, rfl, trivial, ?_⟩
 rw [B13.o7]
 refine J.q hX fun b36 => ?_
 refine J.cb hX (tl_Usable q B13.t2 (by decide) rfl 2) [2] ?_
 refine cpq ⟨_, rfl, trivial, ?_⟩
 rw [B13.o8]
 refine J.q hX fun b38 => ?_
 refine J.cb hX (tl_Alive q B13.t2) [2] ?_
 refine cpq ⟨_, rfl, trivial, ?_⟩
 rw [B13.o9]
 refine J.q hX fun b40 => ?_
 refine J.cb hX (p_Open q B13.t2 (by decide) rfl r B13.T1 (-1)) [2, 1] ?_
 refine cpq ⟨_, rfl, trivial, ?_⟩
 rw [B13.o1]
 refine J.q hX fun b42 => ?_
 refine J.cb hX (p_Victim q B13.t2 (by decide) rfl r B13.T1 (-1)) [2, 1] ?_
 refine cpq ⟨_, rfl, trivial, ?_⟩
 rw [B13.o2]
 refine J.q hX fun b44 => ?_
 refine J.cb hX (p_Free q B13.t2 (by decide) rfl r B13.T1 (-1)) [2, 1] ?_
 refine cpq ⟨_, rfl, trivial, ?_⟩
 rw [B13.o3]
 refine J.q hX fun b46 => ?_
 refine J.cb hX (p_Spent q B13.t2 (by decide) rfl r B13.T1 (-1)) [2, 1] ?_
 rintro v As ⟨a2, c2, rfl, rfl⟩
 refine ⟨_, rfl, trivial, ?_⟩
 rw [B13.o4]
 refine J.q hX fun b48 => ?_
 refine J.cb hX (p_Hurt q B13.t2 (by decide) rfl r B13.T1 10 rfl (by decide)) [2, 1] ?_
 rintro v As ⟨a3, c3, rfl, rfl⟩
 refine ⟨_, rfl, trivial, ?_⟩
 rw [B13.o5]
 refine J.q hX fun b50 => ?_
 refine J.cb hX (tl_Blank q B13.t2 (by decide) rfl 3) [2] ?_
 refine cpq ⟨_, rfl, trivial, ?_⟩
 rw [B13.o11]
 refine J.q hX fun b52 => ?_
 exact J.ru hX [] ⟨rfl, rfl⟩
theorem l13_Begun : Fn Tryz.prog 140 [] [] (fun v As => v = .bool true ∧ As = []) := by
 refine Fn.enter [] Tryz.func140 rfl rfl rfl fun X F hX => ?_
 refine J.q hX fun b53 => ?_
 refine J.cb hX (l13_begun) [] ?_
 refine cpq ⟨_, rfl, trivial, ?_⟩
 refine J.q hX fun b55 => ?_
 exact J.ru hX [] ⟨rfl, rfl⟩
end Go.Proofs.YtdocmcapegcoeaaGreat
namespace Go.Proofs.YtdocmcapegcoeaaGreat
open Go
def EnBd (e : En) : Prop := (0 ≤ e.lpn ∧ e.lpn ≤ 65535) ∧ (0 ≤ e.seq ∧ e.seq ≤ 1099511627775)
theorem may_en {s : Sh} (h : S.may s = true) : EnBd s.en := by
 simp only [S.may, S.numbers, S.inB, Bool.and_eq_true, decide_eq_true_eq] at h
 exact ⟨h.1.2.1.2, h.1.2.1.1⟩
theorem get_may {p : List UInt8} {s : Sh} (h : S.get p = some s) : S.may s = true := by
 unfold S.get at h
 split at h
 ·rename_i hh
  injection h with h
  subst h
  exact hh.1
 ·cases h
theorem look_may {N : Nand} {x y z : Int} (h : (M.look N x y z).2 = 1) : S.may (M.look N x y z).1 = true := by
 unfold M.look at h ⊢
 dsimp only at h ⊢
 split
 ·rename_i h0
  rw [if_pos h0] at h
  split
  ·rename_i h1
   rw [if_pos h1] at h
   simp at h
  ·rename_i h1
   simp only [not_or] at h1
   have hg : S.getE (N.readV x y z) = 0 := by simpa using h1.1
   unfold S.getE at hg
   cases hs : S.get (N.readV x y z) with
   | none => rw [hs] at hg; simp at hg
   | some s => simp only [S.getV, hs, Option.getD_some]; exact get_may hs
 ·rename_i h0
  rw [if_neg h0] at h
  split at h
  ·simp at h
  ·split at h <;> simp at h
theorem ok_en {b r m : Int} {e : En} (h : W.ok b r m e = true) : EnBd e := may_en (s := W.sh b r m e) h
theorem fnd_bd {N : Nand} {b r : Int} {f : Fnd} (h : f ∈ R.all N b r) : f.block = b ∧ f.row = r ∧ EnBd f.en := by
 unfold R.all at h
 rw [List.mem_flatMap] at h
 obtain ⟨m, _, h⟩ := h
 unfold R.allM at h
 rw [List.mem_filterMap] at h
 obtain ⟨k, hk, h⟩ := h
 rw [List.mem_range] at hk
 unfold R.fnd at h
 split at h
 ·rename_i hc
  injection h with h
  subst h
  refine ⟨rfl, rfl, ?_⟩
  simp only [Bool.and_eq_true] at hc
  obtain ⟨h1, _⟩ := hc
  dsimp only
  unfold R.enAt
  unfold R.okAt at h1
  split
  ·rename_i hg
   have hlen : k < (R.ones N b r m (G.slots m).toNat).length := by simpa [R.look] using hk
   have e1 : (R.look N b r m).good.getD k false = ((R.ones N b r m (G.slots m).toNat)[k]).2 := by simp [R.look, hlen]
   have e2 : (R.look N b r m).slots.getD k Sh.zero = ((R.ones N b r m (G.slots m).toNat)[k]).1 := by simp [R.look, hlen]
   rw [e1] at hg
   rw [e2]
   simp only [R.ones, List.getElem_map, R.one, Bool.and_eq_true, beq_iff_eq] at hg ⊢
   exact may_en (look_may hg.1)
  ·rename_i hg
   rw [Bool.not_eq_true] at hg
   rw [hg, Bool.false_or] at h1
   unfold R.mendB at h1
   simp only [Bool.and_eq_true] at h1
   have hb := h1.2
   unfold R.mend
   rw [if_pos (by rw [Bool.and_eq_true]; exact h1.1), W.back, if_pos hb]
   unfold W.backB at hb
   simp only [Bool.and_eq_true] at hb
   exact ok_en hb.2
 ·cases h
theorem all_len (N : Nand) (hN : N.Ok) : (V.all N).length ≤ 6000 := by
 have hbd := hN.bd
 have h0 : ∀ b r, (R.all N b r).length ≤ 42 := fun b r => by
  have := outI_len N b r (M.masks N b r).length (by omega)
  unfold outI at this
  rwa [List.take_length] at this
 have h1 : ∀ (l : List Nat) (b : Int), (l.flatMap fun r => R.all N b (r : Nat)).length ≤ 42 * l.length := by
  intro l b
  induction l with
  | nil => simp
  | cons x l ih => rw [List.flatMap_cons, List.length_append, List.length_cons]; have := h0 b x; omega
 have h2 : ∀ l : List Nat, (l.flatMap fun b => (List.range N.pages).flatMap fun r => R.all N (b : Nat) (r : Nat)).length ≤ 336 * l.length := by
  intro l
  induction l with
  | nil => simp
  | cons x l ih =>
   rw [List.flatMap_cons, List.length_append, List.length_cons]
   have := h1 (List.range N.pages) x
   rw [List.length_range] at this
   omega
 have := h2 (List.range N.blocks)
 rw [List.length_range] at this
 unfold V.all
 omega
theorem all_bd {N : Nand} {f : Fnd} (h : f ∈ V.all N) : (∃ r : Nat, f.row = (r : Int) ∧ r < N.pages) ∧ EnBd f.en := by
 unfold V.all at h
 rw [List.mem_flatMap] at h
 obtain ⟨b, _, h⟩ := h
 rw [List.mem_flatMap] at h
 obtain ⟨r, hr, h⟩ := h
 have := fnd_bd h
 exact ⟨⟨r, this.2.1, List.mem_range.1 hr⟩, this.2.2⟩
end Go.Proofs.YtdocmcapegcoeaaGreat
