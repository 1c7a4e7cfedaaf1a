/- Helpers, proved here. No condition. -/
import Derived.Test.YtdocmcapegcoeaaGreatV06
import Derived.Test.YtdocmcapegcoeaaGreatV08
import Derived.Test.YtdocmcapegcoeaaGreatV09
import Derived.Test.YtdocmcapegcoeaaGreatV11
import Derived.Test.YtdocmcapegcoeaaGreatV12
import Derived.Test.YtdocmcapegcoeaaGreatV13
set_option maxRecDepth 20000
set_option linter.all false
namespace Go.Proofs.YtdocmcapegcoeaaGreat
open Go Go.RowKit
structure Sb where
 wear : Int
 bad : Int
 used : Bool
 held : Bool
def Sb.zero : Sb := ⟨0, 0, false, false⟩
def sbL (s : Sb) : List Value := [.int .i64 s.wear, .int .i64 s.bad, .bool s.used, .bool s.held]
structure Tl where
 d : Nat
 b : Nat
 p : Nat
 l : List Sb
 dead : Int
namespace Tl
def new (d b p : Nat) : Tl := ⟨d, b, p, List.replicate b Sb.zero, 0⟩
def has (t : Tl) (k : Int) : Bool := decide (0 ≤ k) && decide (k < t.b)
def at_ (t : Tl) (k : Int) : Sb := t.l.getD k.toNat Sb.zero
def adr (t : Tl) (g : Nat) (k : Int) : Option Addr := if t.has k = true then some ⟨g, k.toNat * 4, none⟩ else none
def set (t : Tl) (k : Int) (s : Sb) : Tl := if t.has k = true then ⟨t.d, t.b, t.p, t.l.set k.toNat s, t.dead⟩ else t
def wear (t : Tl) (k : Int) : Int := if t.has k = true then (t.at_ k).wear else 0
def hasDie (t : Tl) (d : Int) : Bool := decide (0 ≤ d) && decide (d < t.d)
end Tl
def TlP (q : Nat) (t : Tl) (g : Nat) : List Atom := [.pt q 151 [.int .i64 t.d, .int .i64 t.b, .int .i64 t.p, .slice (some ⟨g, 0, none⟩) t.b t.b, .int .i64 t.dead], .pt g 124 (t.l.flatMap sbL)]
def TlA (q : Nat) (t : Tl) : Atom := exA fun g : Nat => TlP q t g
theorem flat_cell {α : Type} (f : α → List Value) (w : Nat) (hw : ∀ x, (f x).length = w) : ∀ {l : List α} {k : Nat} {x : α}, l[k]? = some x → ∀ j, j < w → (l.flatMap f)[k * w + j]? = (f x)[j]?
 | [], k, x, h, j, hj => by simp at h
 | y :: l, 0, x, h, j, hj => by
  simp only [List.getElem?_cons_zero, Option.some.injEq] at h
  subst h
  rw [Nat.zero_mul, Nat.zero_add, List.flatMap_cons, List.getElem?_append_left (by rw [hw]; exact hj)]
 | y :: l, k + 1, x, h, j, hj => by
  rw [List.flatMap_cons, List.getElem?_append_right (by rw [hw, Nat.succ_mul]; omega), hw, show (k + 1) * w + j - w = k * w + j by rw [Nat.succ_mul]; omega]
  exact flat_cell f w hw (by simpa using h) j hj
theorem flat_setc {α : Type} (f : α → List Value) (w : Nat) (hw : ∀ x, (f x).length = w) (j : Nat) (v : Value) : ∀ {l : List α} {k : Nat} {x y : α}, l[k]? = some x → j < w → (f x).set j v = f y → (l.flatMap f).set (k * w + j) v = (l.set k y).flatMap f
 | [], k, x, y, h, hj, e => by simp at h
 | z :: l, 0, x, y, h, hj, e => by
  simp only [List.getElem?_cons_zero, Option.some.injEq] at h
  subst h
  rw [Nat.zero_mul, Nat.zero_add, List.flatMap_cons, List.set_append_left _ _ (by rw [hw]; exact hj), e]; rfl
 | z :: l, k + 1, x, y, h, hj, e => by
  rw [List.flatMap_cons, List.set_append_right _ _ (by rw [hw, Nat.succ_mul]; omega), hw, show (k + 1) * w + j - w = k * w + j by rw [Nat.succ_mul]; omega, flat_setc f w hw j v (by simpa using h) hj e]; rfl
theorem sbL_len (s : Sb) : (sbL s).length = 4 := rfl
namespace Tl
theorem get_at {t : Tl} (hl : t.l.length = t.b) {k : Int} (h : t.has k = true) : t.l[k.toNat]? = some (t.at_ k) := by
 simp only [has, Bool.and_eq_true, decide_eq_true_eq] at h
 rw [at_, List.getD_eq_getElem?_getD, List.getElem?_eq_getElem (by omega), Option.getD_some]
theorem cell_at {t : Tl} (hl : t.l.length = t.b) {k : Int} (h : t.has k = true) (j : Nat) (hj : j < 4) : (t.l.flatMap sbL)[k.toNat * 4 + j]? = (sbL (t.at_ k))[j]? := flat_cell sbL 4 sbL_len (get_at hl h) j hj
theorem set_at {t : Tl} (hl : t.l.length = t.b) {k : Int} (h : t.has k = true) (j : Nat) (hj : j < 4) (v : Value) (s : Sb) (e : (sbL (t.at_ k)).set j v = sbL s) : (t.l.flatMap sbL).set (k.toNat * 4 + j) v = ((t.set k s).l.flatMap sbL) := by
 rw [set, if_pos h]
 exact flat_setc sbL 4 sbL_len j v (get_at hl h) hj e
end Tl
namespace Tl
theorem len_l (t : Tl) : (t.l.flatMap sbL).length = t.l.length * 4 := by
 induction t.l with
 | nil => rfl
 | cons x l ih => rw [List.flatMap_cons, List.length_append, ih, sbL_len, List.length_cons]; omega
theorem set_d (t : Tl) (k : Int) (s : Sb) : (t.set k s).d = t.d := by unfold set; split <;> rfl
theorem set_b (t : Tl) (k : Int) (s : Sb) : (t.set k s).b = t.b := by unfold set; split <;> rfl
theorem set_p (t : Tl) (k : Int) (s : Sb) : (t.set k s).p = t.p := by unfold set; split <;> rfl
theorem set_dead (t : Tl) (k : Int) (s : Sb) : (t.set k s).dead = t.dead := by unfold set; split <;> rfl
def wore (t : Tl) (k n : Int) : Tl := t.set k { t.at_ k with wear := if n > (t.at_ k).wear then n else (t.at_ k).wear }
def bad (t : Tl) (d k : Int) : Tl := if t.hasDie d = true then t.set k { t.at_ k with bad := L.with_ (t.at_ k).bad d } else t
def andN (a b : Int) : Int := IntKind.i64.wrap ((BitVec.ofInt IntKind.i64.bits a &&& ~~~BitVec.ofInt IntKind.i64.bits b).toNat : Int)
def alive (t : Tl) : Int := andN (L.all t.d) t.dead
def mask (t : Tl) (k : Int) : Int := if t.has k = true then andN t.alive (t.at_ k).bad else 0
def usable (t : Tl) (k : Int) : Bool := decide (G.slots (t.mask k) > 0)
def blank (t : Tl) (k : Int) : Bool := t.has k && !(t.at_ k).used
def held (t : Tl) (k : Int) : Bool := t.has k && (t.at_ k).held
end Tl
theorem tl_New (d b p : Nat) (hg : geoMay d b p = true) : Fn Tryz.prog 51 [.agg #[.int .i64 d, .int .i64 b, .int .i64 p]] [] (fun v As => ∃ q, v = .pointer (some ⟨q, 0, none⟩) ∧ As = [TlA q (Tl.new d b p)]) := by
 have hbd : (3 ≤ d ∧ d ≤ 6) ∧ (8 ≤ b ∧ b ≤ 16) ∧ (2 ≤ p ∧ p ≤ 8) := by simp [geoMay] at hg; omega
 refine Fn.enter [0] Tryz.func51 rfl rfl rfl fun X F hX => ?_
 refine J.q hX fun bb => ?_
 refine J.cb hX (f_May d b p) [] ?_
 refine cpq ⟨_, rfl, trivial, ?_⟩
 rw [hg]
 refine J.q hX fun b2 => ?_
 refine J.cF ?_
 refine J.q hX fun b3 => ?_
 refine J.plan (.of [1,4,9,14,16,23,24]) [4,5,6] [1] (by rw [hX.hP]; kernel_rfl) (by kernel_rfl) ?_
 refine J.q hX fun b4 => ?_
 refine J.makeMany hX tk 3 rfl rfl rfl rfl rfl rfl rfl rfl rfl rfl rfl ?_ ?_ (fun _ => rfl) (fun _ => rfl) fun dd => ⟨⟨rfl, trivial⟩, ?_⟩
 ·simp only [maxLen]; omega
 ·omega
 refine J.q hX fun nn => ?_
 rw [show (List.replicate b [Value.int .i64 0, Value.int .i64 0, Value.bool false, Value.bool false]).flatten = (Tl.new d b p).l.flatMap sbL from by rw [Tl.new, List.flatMap_def, List.map_replicate]; rfl]
 refine J.close (f := fun g : Nat => TlP (nn 0) (Tl.new d b p) g) dd [3, 2] rfl rfl rfl ?_
 refine J.q hX fun b5 => ?_
 refine J.ru hX [3] ?_
 exact ⟨nn 0, rfl, rfl⟩
theorem tl_NewZ : Fn Tryz.prog 51 [.agg #[.int .i64 0, .int .i64 0, .int .i64 0]] [] (fun v As => v = .pointer none ∧ As = []) := by
 refine Fn.enter [0] Tryz.func51 rfl rfl rfl fun X F hX => ?_
 refine J.q hX fun bb => ?_
 refine J.cb hX (f_May 0 0 0) [] ?_
 refine cpq ⟨_, rfl, trivial, ?_⟩
 rw [show geoMay 0 0 0 = false from by decide]
 refine J.q hX fun b7 => ?_
 refine J.cT ?_
 refine J.q hX fun b8 => ?_
 exact J.ru hX [] ⟨rfl, rfl⟩
theorem tl_at (q : Nat) (t : Tl) (hb : t.b ≤ 1000) (g : Nat) (k : Int) : Fn Tryz.prog 64 [.pointer (some ⟨q, 0, none⟩), .int .i64 k] (TlP q t g) (fun v As => v = .pointer (t.adr g k) ∧ As = TlP q t g) := by
 refine Fn.enter [2, 0] Tryz.func64 rfl rfl rfl fun X F hX => ?_
 refine J.run hX tk 400 (fun b9 => rfl) (fun b9 => ?_) (fun b9 => ?_)
 ·(repeat' (first | exact Conj.nil | refine Conj.cons ?_ ?_ | exact rfl | exact hq | (rw [hq]; rfl) | (rw [(Bool.not_eq_true' _).mp hq]) | intro hq | omega | (simp; done) | (simp_all; done)))
 refine J.q hX fun b10 => ?_
 refine J.cond rfl (fun h1 => ?_) (fun h1 => ?_)
 ·have hh : t.has k = false := by simp [Tl.has] at h1 ⊢; omega
  refine J.q hX fun b11 => ?_
  refine J.ru hX [1, 2] ?_
  exact ⟨by rw [Tl.adr, hh]; rfl, rfl⟩
 ·have hh : t.has k = true := by simp [Tl.has] at h1 ⊢; omega
  have hh2 := hh
  simp only [Tl.has, Bool.and_eq_true, decide_eq_true_eq] at hh2
  refine J.q hX fun b12 => ?_
  refine J.ru hX [1, 2] ?_
  exact ⟨by rw [Tl.adr, hh, if_pos rfl]; simp, rfl⟩
theorem tl_Wear (q : Nat) (t : Tl) (hb : t.b ≤ 1000) (hl : t.l.length = t.b) (k : Int) : Fn Tryz.prog 44 [.pointer (some ⟨q, 0, none⟩), .int .i64 k] [TlA q t] (fun v As => v = .int .i64 (t.wear k) ∧ As = [TlA q t]) := by
 refine Fn.enter [2, 0] Tryz.func44 rfl rfl rfl fun X F hX => ?_
 refine J.open_ (α := Nat) 1 rfl rfl (fun _ => rfl) fun g => ?_
 refine J.q hX fun b13 => ?_
 refine J.cb hX (tl_at q t hb g k) [1, 2] ?_
 refine cpq ⟨_, rfl, trivial, ?_⟩
 cases hh : t.has k with
 | false =>
  rw [Tl.adr, hh, if_neg (by simp)]
  refine J.q hX fun b15 => ?_
  refine J.cF ?_
  refine J.q hX fun b16 => ?_
  refine J.close (f := fun g : Nat => TlP q t g) g [1, 2] rfl rfl rfl ?_
  refine J.q hX fun b17 => ?_
  refine J.ru hX [1] ?_
  exact ⟨by rw [Tl.wear, hh]; rfl, rfl⟩
 | true =>
  rw [Tl.adr, hh, if_pos rfl]
  refine J.q hX fun b18 => ?_
  refine J.cT ?_
  refine J.q hX fun b19 => ?_
  refine J.val hX (.int .i64 (t.at_ k).wear) 0 rfl rfl (fun hg a w he hs => ?_) rfl trivial ?_
  ·exact load1_run tk rfl rfl he rfl rfl rfl (hs.get (i := 2) rfl) (t.cell_at hl hh 0 (by omega))
  refine J.close (f := fun g : Nat => TlP q t g) g [1, 2] rfl rfl rfl ?_
  refine J.q hX fun b20 => ?_
  refine J.ru hX [1] ?_
  exact ⟨by rw [Tl.wear, hh]; rfl, rfl⟩
theorem tl_Wore (q : Nat) (t : Tl) (hb : t.b ≤ 1000) (hl : t.l.length = t.b) (k n : Int) : Fn Tryz.prog 129 [.pointer (some ⟨q, 0, none⟩), .int .i64 k, .int .i64 n] [TlA q t] (fun v As => v = .tuple #[] ∧ As = [TlA q (t.wore k n)]) := by
 refine Fn.enter [2, 0, 0] Tryz.func129 rfl rfl rfl fun X F hX => ?_
 refine J.open_ (α := Nat) 1 rfl rfl (fun _ => rfl) fun g => ?_
 refine J.q hX fun b21 => ?_
 refine J.cb hX (tl_at q t hb g k) [1, 2] ?_
 refine cpq ⟨_, rfl, trivial, ?_⟩
 cases hh : t.has k with
 | false =>
  rw [Tl.adr, hh, if_neg (by simp)]
  refine J.q hX fun b23 => ?_
  refine J.cF ?_
  refine J.q hX fun b24 => ?_
  refine J.close (f := fun g : Nat => TlP q t g) g [1, 2] rfl rfl rfl ?_
  refine J.q hX fun b25 => ?_
  refine J.fi hX tk [1] rfl rfl rfl ?_
  exact ⟨rfl, by rw [Tl.wore, Tl.set, hh]; rfl⟩
 | true =>
  rw [Tl.adr, hh, if_pos rfl]
  refine J.q hX fun b26 => ?_
  refine J.cT ?_
  refine J.q hX fun b27 => ?_
  refine J.val hX (.int .i64 (t.at_ k).wear) 0 rfl rfl (fun hg a w he hs => ?_) rfl trivial ?_
  ·exact load1_run tk rfl rfl he rfl rfl rfl (hs.get (i := 2) rfl) (t.cell_at hl hh 0 (by omega))
  refine J.q hX fun b28 => ?_
  refine J.store1 hX tk 2 rfl rfl rfl rfl rfl rfl rfl rfl rfl rfl rfl rfl rfl ?_ ((t.wore k n).l.flatMap sbL) ?_ rfl (fun _ => rfl) ⟨trivial, ?_⟩
  ·rw [t.len_l, hl]; simp only [Tl.has, Bool.and_eq_true, decide_eq_true_eq] at hh; omega
  ·exact t.set_at hl hh 0 (by omega) _ _ rfl
  refine J.close (f := fun g : Nat => TlP q (t.wore k n) g) g [1, 2] rfl (by simp only [TlP, Tl.wore, Tl.set_d, Tl.set_b, Tl.set_p, Tl.set_dead]; rfl) rfl ?_
  refine J.q hX fun b29 => ?_
  refine J.fi hX tk [1] rfl rfl rfl ?_
  exact ⟨rfl, rfl⟩
theorem tl_die (q : Nat) (t : Tl) (g : Nat) (k : Int) : Fn Tryz.prog 93 [.pointer (some ⟨q, 0, none⟩), .int .i64 k] (TlP q t g) (fun v As => v = .bool (t.hasDie k) ∧ As = TlP q t g) := by
 refine Fn.enter [2, 0] Tryz.func93 rfl rfl rfl fun X F hX => ?_
 refine J.run hX tk 400 (fun b30 => rfl) (fun b30 => ?_) (fun b30 => ?_)
 ·(repeat' (first | exact Conj.nil | refine Conj.cons ?_ ?_ | exact rfl | exact hq | (rw [hq]; rfl) | (rw [(Bool.not_eq_true' _).mp hq]) | intro hq | omega | (simp; done) | (simp_all; done)))
 refine J.q hX fun b31 => ?_
 refine J.ru hX [1, 2] ?_
 exact ⟨by simp [Tl.hasDie], rfl⟩
theorem tl_Bad (q : Nat) (t : Tl) (hb : t.b ≤ 1000) (hl : t.l.length = t.b) (d k : Int) : Fn Tryz.prog 112 [.pointer (some ⟨q, 0, none⟩), .int .i64 d, .int .i64 k] [TlA q t] (fun v As => v = .tuple #[] ∧ As = [TlA q (t.bad d k)]) := by
 refine Fn.enter [2, 0, 0] Tryz.func112 rfl rfl rfl fun X F hX => ?_
 refine J.open_ (α := Nat) 1 rfl rfl (fun _ => rfl) fun g => ?_
 refine J.q hX fun b32 => ?_
 refine J.cb hX (tl_at q t hb g k) [1, 2] ?_
 refine cpq ⟨_, rfl, trivial, ?_⟩
 cases hh : t.has k with
 | false =>
  rw [Tl.adr, hh, if_neg (by simp)]
  refine J.q hX fun b34 => ?_
  refine J.val hX (.bool false) 0 rfl rfl (fun hg a w he hs => absurd hg (by simp [G.on])) rfl trivial ?_
  refine J.q hX fun b35 => ?_
  refine J.cF ?_
  refine J.q hX fun b36 => ?_
  refine J.close (f := fun g : Nat => TlP q t g) g [1, 2] rfl rfl rfl ?_
  refine J.q hX fun b37 => ?_
  refine J.fi hX tk [1] rfl rfl rfl ?_
  exact ⟨rfl, by rw [Tl.bad, Tl.set, hh]; simp; rfl⟩
 | true =>
  rw [Tl.adr, hh, if_pos rfl]
  refine J.q hX fun b38 => ?_
  refine J.cb hX (tl_die q t g d) [1, 2] ?_
  refine cpq ⟨_, rfl, trivial, ?_⟩
  refine J.q hX fun b40 => ?_
  refine J.cond rfl (fun h2 => ?_) (fun h2 => ?_)
  ·simp only [Bool.not_false, Bool.true_and] at h2
   refine J.q hX fun b41 => ?_
   refine J.val hX (.int .i64 (t.at_ k).bad) 0 rfl rfl (fun hg a w he hs => ?_) rfl trivial ?_
   ·exact load1_run tk rfl rfl he rfl rfl rfl (hs.get (i := 2) rfl) (t.cell_at hl hh 1 (by omega))
   refine J.q hX fun b42 => ?_
   refine J.cb hX (l_With (t.at_ k).bad d) [] ?_
   refine cpq ⟨_, rfl, trivial, ?_⟩
   refine J.q hX fun b44 => ?_
   have he : t.bad d k = t.set k { t.at_ k with bad := L.with_ (t.at_ k).bad d } := by rw [Tl.bad, h2]; rfl
   refine J.store1 hX tk 2 rfl rfl rfl rfl rfl rfl rfl rfl rfl rfl rfl rfl rfl ?_ ((t.bad d k).l.flatMap sbL) ?_ rfl (fun _ => rfl) ⟨trivial, ?_⟩
   ·rw [t.len_l, hl]; simp only [Tl.has, Bool.and_eq_true, decide_eq_true_eq] at hh; omega
   ·rw [he]; exact t.set_at hl hh 1 (by omega) _ _ rfl
   refine J.close (f := fun g : Nat => TlP q (t.bad d k) g) g [1, 2] rfl (by simp only [he, TlP, Tl.set_d, Tl.set_b, Tl.set_p, Tl.set_dead]; rfl) rfl ?_
   refine J.q hX fun b45 => ?_
   refine J.fi hX tk [1] rfl rfl rfl ?_
   exact ⟨rfl, rfl⟩
  ·simp only [Bool.not_false, Bool.true_and] at h2
   refine J.close (f := fun g : Nat => TlP q t g) g [1, 2] rfl rfl rfl ?_
   refine J.q hX fun b46 => ?_
   refine J.fi hX tk [1] rfl rfl rfl ?_
   exact ⟨rfl, by rw [Tl.bad, h2]; rfl⟩
theorem tl_AliveP (q : Nat) (t : Tl) (g : Nat) : Fn Tryz.prog 65 [.pointer (some ⟨q, 0, none⟩)] (TlP q t g) (fun v As => v = .int .i64 t.alive ∧ As = TlP q t g) := by
 refine Fn.enter [2] Tryz.func65 rfl rfl rfl fun X F hX => ?_
 refine J.q hX fun b47 => ?_
 refine J.cF ?_
 refine J.q hX fun b48 => ?_
 refine J.plan (.of [0,4,8,12,17,24,28,32,37,22,40,44]) [11] [1,2] (by rw [hX.hP]; kernel_rfl) (by kernel_rfl) ?_
 refine J.q hX fun b49 => ?_
 refine J.cb hX (l_All t.d) [] ?_
 refine cpq ⟨_, rfl, ⟨rfl, rfl, trivial⟩, ?_⟩
 refine J.q hX fun b51 => ?_
 exact J.ru hX [1, 2] ⟨rfl, rfl⟩
theorem tl_Blank (q : Nat) (t : Tl) (hb : t.b ≤ 1000) (hl : t.l.length = t.b) (k : Int) : Fn Tryz.prog 45 [.pointer (some ⟨q, 0, none⟩), .int .i64 k] [TlA q t] (fun v As => v = .bool (t.blank k) ∧ As = [TlA q t]) := by
 refine Fn.enter [2, 0] Tryz.func45 rfl rfl rfl fun X F hX => ?_
 refine J.open_ (α := Nat) 1 rfl rfl (fun _ => rfl) fun g => ?_
 refine J.q hX fun b52 => ?_
 refine J.cb hX (tl_at q t hb g k) [1, 2] ?_
 refine cpq ⟨_, rfl, trivial, ?_⟩
 cases hh : t.has k with
 | false =>
  rw [Tl.adr, hh, if_neg (by simp)]
  refine J.q hX fun b54 => ?_
  refine J.val hX (.pointer (some ⟨g, 0, none⟩)) 0 rfl rfl (fun hg a w he hs => absurd hg (by simp [G.on])) rfl trivial ?_
  refine J.q hX fun b55 => ?_
  refine J.val hX (.bool false) 0 rfl rfl (fun hg a w he hs => absurd hg (by simp [G.on])) rfl trivial ?_
  refine J.q hX fun b56 => ?_
  refine J.close (f := fun g : Nat => TlP q t g) g [1, 2] rfl rfl rfl ?_
  refine J.q hX fun b57 => ?_
  refine J.ru hX [1] ?_
  exact ⟨by rw [Tl.blank, hh]; rfl, rfl⟩
 | true =>
  rw [Tl.adr, hh, if_pos rfl]
  refine J.q hX fun b58 => ?_
  refine J.val hX (.bool (t.at_ k).used) 0 rfl rfl (fun hg a w he hs => ?_) rfl trivial ?_
  ·exact load1_run tk rfl rfl he rfl rfl rfl (hs.get (i := 2) rfl) (t.cell_at hl hh 2 (by omega))
  refine J.q hX fun b59 => ?_
  refine J.close (f := fun g : Nat => TlP q t g) g [1, 2] rfl rfl rfl ?_
  refine J.q hX fun b60 => ?_
  refine J.ru hX [1] ?_
  exact ⟨by rw [Tl.blank, hh]; rfl, rfl⟩
theorem tl_Held (q : Nat) (t : Tl) (hb : t.b ≤ 1000) (hl : t.l.length = t.b) (k : Int) : Fn Tryz.prog 91 [.pointer (some ⟨q, 0, none⟩), .int .i64 k] [TlA q t] (fun v As => v = .bool (t.held k) ∧ As = [TlA q t]) := by
 refine Fn.enter [2, 0] Tryz.func91 rfl rfl rfl fun X F hX => ?_
 refine J.open_ (α := Nat) 1 rfl rfl (fun _ => rfl) fun g => ?_
 refine J.q hX fun b61 => ?_
 refine J.cb hX (tl_at q t hb g k) [1, 2] ?_
 refine cpq ⟨_, rfl, trivial, ?_⟩
 cases hh : t.has k with
 | false =>
  rw [Tl.adr, hh, if_neg (by simp)]
  refine J.q hX fun b63 => ?_
  refine J.val hX (.pointer (some ⟨g, 0, none⟩)) 0 rfl rfl (fun hg a w he hs => absurd hg (by simp [G.on])) rfl trivial ?_
  refine J.q hX fun b64 => ?_
  refine J.val hX (.bool false) 0 rfl rfl (fun hg a w he hs => absurd hg (by simp [G.on])) rfl trivial ?_
  refine J.q hX fun b65 => ?_
  refine J.close (f := fun g : Nat => TlP q t g) g [1, 2] rfl rfl rfl ?_
  refine J.q hX fun b66 => ?_
  refine J.ru hX [1] ?_
  exact ⟨by rw [Tl.held, hh]; rfl, rfl⟩
 | true =>
  rw [Tl.adr, hh, if_pos rfl]
  refine J.q hX fun b67 => ?_
  refine J.val hX (.bool (t.at_ k).held) 0 rfl rfl (fun hg a w he hs => ?_) rfl trivial ?_
  ·exact load1_run tk rfl rfl he rfl rfl rfl (hs.get (i := 2) rfl) (t.cell_at hl hh 3 (by omega))
  refine J.q hX fun b68 => ?_
  refine J.close (f := fun g : Nat => TlP q t g) g [1, 2] rfl rfl rfl ?_
  refine J.q hX fun b69 => ?_
  refine J.ru hX [1] ?_
  exact ⟨by rw [Tl.held, hh]; rfl, rfl⟩
theorem tl_Alive (q : Nat) (t : Tl) : Fn Tryz.prog 65 [.pointer (some ⟨q, 0, none⟩)] [TlA q t] (fun v As => v = .int .i64 t.alive ∧ As = [TlA q t]) := by
 refine Fn.enter [2] Tryz.func65 rfl rfl rfl fun X F hX => ?_
 refine J.open_ (α := Nat) 1 rfl rfl (fun _ => rfl) fun g => ?_
 refine J.q hX fun b70 => ?_
 refine J.cF ?_
 refine J.q hX fun b71 => ?_
 refine J.plan (.of [0,4,8,12,17,24,28,32,37,22,40,44]) [11] [1,2] (by rw [hX.hP]; kernel_rfl) (by kernel_rfl) ?_
 refine J.q hX fun b72 => ?_
 refine J.cb hX (l_All t.d) [] ?_
 refine cpq ⟨_, rfl, ⟨rfl, rfl, trivial⟩, ?_⟩
 refine J.q hX fun b74 => ?_
 refine J.close (f := fun g : Nat => TlP q t g) g [1, 2] rfl rfl rfl ?_
 refine J.q hX fun b75 => ?_
 exact J.ru hX [1] ⟨rfl, rfl⟩
theorem tl_Geo (q : Nat) (t : Tl) : Fn Tryz.prog 70 [.pointer (some ⟨q, 0, none⟩)] [TlA q t] (fun v As => v = .agg #[.int .i64 t.d, .int .i64 t.b, .int .i64 t.p] ∧ As = [TlA q t]) := by
 refine Fn.enter [2] Tryz.func70 rfl rfl rfl fun X F hX => ?_
 refine J.open_ (α := Nat) 1 rfl rfl (fun _ => rfl) fun g => ?_
 refine J.q hX fun b76 => ?_
 refine J.cF ?_
 refine J.q hX fun b77 => ?_
 refine J.close (f := fun g : Nat => TlP q t g) g [1, 2] rfl rfl rfl ?_
 refine J.q hX fun b78 => ?_
 exact J.ru hX [1] ⟨rfl, rfl⟩
theorem tl_Mask (q : Nat) (t : Tl) (hb : t.b ≤ 1000) (hl : t.l.length = t.b) (k : Int) : Fn Tryz.prog 26 [.pointer (some ⟨q, 0, none⟩), .int .i64 k] [TlA q t] (fun v As => v = .int .i64 (t.mask k) ∧ As = [TlA q t]) := by
 refine Fn.enter [2, 0] Tryz.func26 rfl rfl rfl fun X F hX => ?_
 refine J.open_ (α := Nat) 1 rfl rfl (fun _ => rfl) fun g => ?_
 refine J.q hX fun b79 => ?_
 refine J.cb hX (tl_at q t hb g k) [1, 2] ?_
 refine cpq ⟨_, rfl, trivial, ?_⟩
 cases hh : t.has k with
 | false =>
  rw [Tl.adr, hh, if_neg (by simp)]
  refine J.q hX fun b81 => ?_
  refine J.cT ?_
  refine J.close (f := fun g : Nat => TlP q t g) g [1, 2] rfl rfl rfl ?_
  refine J.q hX fun b82 => ?_
  refine J.ru hX [1] ?_
  exact ⟨by rw [Tl.mask, hh]; rfl, rfl⟩
 | true =>
  rw [Tl.adr, hh, if_pos rfl]
  refine J.q hX fun b83 => ?_
  refine J.cF ?_
  refine J.q hX fun b84 => ?_
  refine J.plan (.of [0,8,12,16,21,6,24,28]) [6,7] [1,2] (by rw [hX.hP]; kernel_rfl) (by kernel_rfl) ?_
  refine J.q hX fun b85 => ?_
  refine J.valT hX (.int .i64 (t.at_ k).bad) 0 rfl rfl (fun hg a w he hC => ?_) rfl ?_
  ·exact load1_run tk rfl rfl he hg rfl rfl (hC rfl _ (cget_mem (i := 2) rfl)) (t.cell_at hl hh 1 (by omega))
  refine J.q hX fun b86 => ?_
  refine J.cb hX (tl_AliveP q t g) [1, 2] ?_
  refine cpq ⟨_, rfl, ⟨rfl, rfl, trivial⟩, ?_⟩
  refine J.q hX fun b88 => ?_
  refine J.close (f := fun g : Nat => TlP q t g) g [1, 2] rfl rfl rfl ?_
  refine J.q hX fun b89 => ?_
  refine J.ru hX [1] ?_
  exact ⟨by rw [Tl.mask, hh]; rfl, rfl⟩
theorem tl_Usable (q : Nat) (t : Tl) (hb : t.b ≤ 1000) (hl : t.l.length = t.b) (k : Int) : Fn Tryz.prog 90 [.pointer (some ⟨q, 0, none⟩), .int .i64 k] [TlA q t] (fun v As => v = .bool (t.usable k) ∧ As = [TlA q t]) := by
 refine Fn.enter [2, 0] Tryz.func90 rfl rfl rfl fun X F hX => ?_
 refine J.q hX fun b90 => ?_
 refine J.cb hX (tl_Mask q t hb hl k) [1] ?_
 refine cpq ⟨_, rfl, trivial, ?_⟩
 refine J.q hX fun b92 => ?_
 refine J.cb hX (g_Slots (t.mask k)) [] ?_
 refine cpq ⟨_, rfl, trivial, ?_⟩
 refine J.q hX fun b93 => ?_
 exact J.ru hX [1] ⟨rfl, rfl⟩
def pkSome (kind : Int → Bool) (open_ : Int) (k : Nat) : List Int := ((List.range k).filter fun i : Nat => ((i : Int) != open_) && kind i).map fun i : Nat => (i : Int)
theorem pkSome_succ (kind : Int → Bool) (o : Int) (k : Nat) : pkSome kind o (k + 1) = if (((k : Int) != o) && kind k) = true then pkSome kind o k ++ [(k : Int)] else pkSome kind o k := by
 unfold pkSome
 rw [List.range_succ, List.filter_append, List.map_append]
 cases h : (((k : Int) != o) && kind k) <;> simp [List.filter_cons, h]
theorem pkSome_len (kind : Int → Bool) (o : Int) (k : Nat) : (pkSome kind o k).length ≤ k := by
 unfold pkSome
 rw [List.length_map]
 exact Nat.le_trans (List.length_filter_le _ _) (by rw [List.length_range]; exact Nat.le_refl _)
theorem p_some (q : Nat) (t : Tl) (hb : t.b ≤ 1000) (o : Int) (c : Nat) (cs : List Value) (kind : Int → Bool) (A : Atom) (hcal : callable Tryz.prog c = true) (hf : ∀ x, Fn Tryz.prog c (.int .i64 x :: cs) [TlA q t, A] (fun v As => v = .bool (kind x) ∧ As = [TlA q t, A])) : Fn Tryz.prog 88 [.pointer (some ⟨q, 0, none⟩), .int .i64 o, fnC c cs] [TlA q t, A]
  (fun v As => ∃ a cc, v = slv a (pkSome kind o t.b).length cc ∧ As = [TlA q t, A, ownA 3 1 a (pkSome kind o t.b).length cc (cellsI (pkSome kind o t.b))]) := by
 refine Fn.enter [2, 0, 0] Tryz.func88 rfl rfl rfl fun X F hX => ?_
 refine J.q hX fun b1 => ?_
 refine J.cb hX (tl_Geo q t) [1] ?_
 refine cpq ⟨_, rfl, trivial, ?_⟩
 refine J.turn1 [] rfl (As := [ownA 3 1 none 0 0 (cellsI [])]) (fun h s => Sep.one ⟨rfl, rfl, rfl⟩) rfl ?_
 refine J.q hX fun b3 => ?_
 refine J.lo (α := (Nat × Option Nat × Nat)) (fun z => z.1 ≤ t.b) (fun z => [⟨12, .int .i64 z.1, 0, .tt⟩, ⟨11, .int .i64 t.b, 0, .tt⟩, ⟨7, slv z.2.1 (pkSome kind o z.1).length z.2.2, 0, .tt⟩, ⟨1, .int .i64 o, 0, .tt⟩, ⟨2, fnC c cs, 0, .tt⟩]) [3] (fun z => [ownA 3 1 z.2.1 (pkSome kind o z.1).length z.2.2 (cellsI (pkSome kind o z.1))]) (fun z => t.b - z.1) ((0, none, 0)) (Nat.zero_le _) rfl ?_ (fun _ => rfl) fun z hI => ?_
 ·rfl
 obtain ⟨k, a1, c1⟩ := z
 dsimp only at hI ⊢
 refine J.q hX fun b5 => ?_
 refine J.cond rfl (fun h2 => ?_) (fun h2 => ?_)
 ·simp only [decide_eq_true_eq, Int.ofNat_lt] at h2
  have hkl := pkSome_len kind o k
  refine J.q hX fun b6 => ?_
  cases ho : ((k : Int) != o) with
  | false =>
   refine J.val hX (.bool false) 0 rfl rfl (fun hg a w he hs => absurd hg (by simp [G.on])) rfl trivial ?_
   refine J.q hX fun b7 => ?_
   refine J.cF ?_
   have hs : pkSome kind o (k + 1) = pkSome kind o k := by rw [pkSome_succ, if_neg (by rw [ho]; simp)]
   rw [← hs]
   refine J.q hX fun b8 => ?_
   refine J.nS ((k + 1, a1, c1)) (by dsimp only; omega) (by dsimp only; omega) [0, 1, 2, 3] rfl rfl
  | true =>
   refine J.call hX hcal (hf (k : Int)) [1, 2] 0 rfl rfl rfl rfl (by (repeat' (first | exact Conj.nil | refine Conj.cons ?_ ?_ | omega | exact hq0 | (simpa using hq0) | (exact fun h => h) | exact rfl | (intro hq; have hq0 := hq; try simp only [Bool.and_eq_true, Bool.or_eq_true, decide_eq_true_eq, Bool.not_eq_true', decide_eq_false_iff_not] at hq) | (simp; done) | (simp; omega) | decide))) rfl rfl (fun _ => rfl) ?_
   refine cpq ⟨_, rfl, trivial, ?_⟩
   refine J.q hX fun b9 => ?_
   refine J.cond rfl (fun h3 => ?_) (fun h3 => ?_)
   ·have hs : pkSome kind o (k + 1) = pkSome kind o k ++ [(k : Int)] := by rw [pkSome_succ, if_pos (by rw [ho]; exact h3)]
    refine J.q hX fun b10 => ?_
    refine J.append hX tk 3 4 0 rfl rfl rfl rfl rfl rfl rfl rfl rfl rfl rfl rfl rfl rfl rfl rfl ?_ ?_ (fun _ => rfl) fun a3 c3 => ⟨_, (congrArg (fun z => lset _ 3 (ownA _ _ _ _ _ z)) (cellsI_snoc _ (k : Int)).symm).trans rfl, trivial, ?_⟩
    ·simp only [maxLen]; omega
    ·omega
    rw [← hs, show (pkSome kind o k).length + 1 = (pkSome kind o (k + 1)).length from by rw [hs]; simp]
    refine J.q hX fun b11 => ?_
    refine J.nS ((k + 1, a3, c3)) (by dsimp only; omega) (by dsimp only; omega) [0, 1, 2, 3] rfl rfl
   ·have hs : pkSome kind o (k + 1) = pkSome kind o k := by rw [pkSome_succ, if_neg (by rw [ho, h3]; simp)]
    rw [← hs]
    refine J.q hX fun b12 => ?_
    refine J.nS ((k + 1, a1, c1)) (by dsimp only; omega) (by dsimp only; omega) [0, 1, 2, 3] rfl rfl
 ·simp only [decide_eq_false_iff_not, Int.ofNat_lt] at h2
  obtain rfl : k = t.b := by omega
  refine J.q hX fun b13 => ?_
  refine J.ru hX [1, 2, 3] ?_
  exact ⟨a1, c1, rfl, rfl⟩
def pkMin (f : Int → Int → Int) : List Int → Int → Int
 | [], m => m
 | x :: l, m => pkMin f l (if f x m < 0 then x else m)
theorem x_Min (c : Nat) (cs : List Value) (f : Int → Int → Int) (A : Atom) (hcal : callable Tryz.prog c = true) (hf : ∀ x y, Fn Tryz.prog c (.int .i64 x :: .int .i64 y :: cs) [A] (fun v As => v = .int .i64 (f x y) ∧ As = [A]))
  (a : Option Nat) (cap : Nat) (x : Int) (l : List Int) (hn : l.length < 1000000) : Fn Tryz.prog 144 [slv a (x :: l).length cap, fnC c cs] [ownA 3 1 a (x :: l).length cap (cellsI (x :: l)), A]
  (fun v As => v = .int .i64 (pkMin f l x) ∧ As = [ownA 3 1 a (x :: l).length cap (cellsI (x :: l)), A]) := by
 refine Fn.enter [0, 0] Tryz.func144 rfl rfl rfl fun X F hX => ?_
 cases a with
 | none =>
  refine J.know (fun h' s => (s.get (i := 1) rfl).2.1) fun hn0 => ?_
  simp at hn0
 | some g =>
  refine J.q hX fun b14 => ?_
  refine J.cond rfl (fun h0 => ?_) (fun h0 => ?_)
  ·simp only [decide_eq_true_eq, List.length_cons] at h0; omega
  refine J.q hX fun b15 => ?_
  refine J.val hX (.int .i64 x) 0 rfl rfl (fun hg a w he hs => ?_) rfl trivial ?_
  ·exact own1_run tk rfl rfl he rfl rfl rfl (hs.get (i := 1) rfl) rfl
  refine J.q hX fun b16 => ?_
  refine J.lo (α := (Nat × Int)) (fun z => z.1 ≤ l.length ∧ pkMin f (l.drop z.1) z.2 = pkMin f l x) (fun z => [⟨6, .int .i64 ((z.1 + 1 : Nat) : Int), 0, .tt⟩, ⟨5, .int .i64 z.2, 0, .tt⟩, ⟨0, slv (some g) (x :: l).length cap, 0, .tt⟩, ⟨1, fnC c cs, 0, .tt⟩]) [] (fun z => []) (fun z => l.length - z.1) ((0, x)) (⟨Nat.zero_le _, rfl⟩) rfl ?_ (fun _ => rfl) fun z hI => ?_
  ·rfl
  obtain ⟨j, m⟩ := z
  dsimp only at hI ⊢
  refine J.q hX fun b18 => ?_
  refine J.cond rfl (fun h1 => ?_) (fun h1 => ?_)
  ·simp only [decide_eq_true_eq, Int.ofNat_lt, List.length_cons] at h1
   have hj : j < l.length := by omega
   have hk : (x :: l)[j + 1]? = some (l.getD j 0) := by rw [List.getElem?_cons_succ, List.getD_eq_getElem?_getD, List.getElem?_eq_getElem hj, Option.getD_some]
   have hget : (cellsI (x :: l))[0 + ((j + 1 : Nat) : Int).toNat * 1]? = some (.int .i64 (l.getD j 0)) := by
    rw [show 0 + ((j + 1 : Nat) : Int).toNat * 1 = j + 1 from by omega, cellsI, List.getElem?_map, hk]; rfl
   have hstep : pkMin f (l.drop (j + 1)) (if f (l.getD j 0) m < 0 then l.getD j 0 else m) = pkMin f l x := by
    rw [← hI.2, List.drop_eq_getElem_cons hj, pkMin]
    have : l.getD j 0 = l[j] := by rw [List.getD_eq_getElem?_getD, List.getElem?_eq_getElem hj, Option.getD_some]
    rw [this]
   refine J.q hX fun b19 => ?_
   refine J.val hX (.int .i64 (l.getD j 0)) 0 rfl rfl (fun hg a w he hs => ?_) rfl trivial ?_
   ·exact own1_run tk rfl rfl he rfl rfl rfl (hs.get (i := 1) rfl) hget
   refine J.q hX fun b20 => ?_
   refine J.call hX hcal (hf (l.getD j 0) m) [2] 0 rfl rfl rfl rfl (by (repeat' (first | exact Conj.nil | refine Conj.cons ?_ ?_ | omega | exact hq0 | (simpa using hq0) | (exact fun h => h) | exact rfl | (intro hq; have hq0 := hq; try simp only [Bool.and_eq_true, Bool.or_eq_true, decide_eq_true_eq, Bool.not_eq_true', decide_eq_false_iff_not] at hq) | (simp; done) | (simp; omega) | decide))) rfl rfl (fun _ => rfl) ?_
   refine cpq ⟨_, rfl, trivial, ?_⟩
   refine J.q hX fun b21 => ?_
   refine J.cond rfl (fun h2 => ?_) (fun h2 => ?_)
   ·simp only [decide_eq_true_eq] at h2
    refine J.q hX fun b22 => ?_
    refine J.val hX (.int .i64 (l.getD j 0)) 0 rfl rfl (fun hg a w he hs => ?_) rfl trivial ?_
    ·exact own1_run tk rfl rfl he rfl rfl rfl (hs.get (i := 1) rfl) hget
    rw [if_pos h2] at hstep
    refine J.q hX fun b23 => ?_
    refine J.nS ((j + 1, l.getD j 0)) (⟨by dsimp only; omega, hstep⟩) (by dsimp only; omega) [0, 1, 2] rfl rfl
   ·simp only [decide_eq_false_iff_not] at h2
    rw [if_neg h2] at hstep
    refine J.q hX fun b24 => ?_
    refine J.nS ((j + 1, m)) (⟨by dsimp only; omega, hstep⟩) (by dsimp only; omega) [0, 1, 2] rfl rfl
  ·simp only [decide_eq_false_iff_not, Int.ofNat_lt, List.length_cons] at h1
   obtain rfl : j = l.length := by omega
   have := hI.2
   rw [List.drop_length, pkMin] at this
   refine J.q hX fun b25 => ?_
   refine J.ru hX [1, 2] ?_
   exact ⟨by rw [this], rfl⟩
def pkLeast (f : Int → Int → Int) (l : List Int) : Int := match l with
 | [] => -1
 | x :: l => pkMin f l x
theorem p_least (c : Nat) (cs : List Value) (f : Int → Int → Int) (A : Atom) (hcal : callable Tryz.prog c = true) (hf : ∀ x y, Fn Tryz.prog c (.int .i64 x :: .int .i64 y :: cs) [A] (fun v As => v = .int .i64 (f x y) ∧ As = [A]))
  (a : Option Nat) (cap : Nat) (l : List Int) (hn : l.length < 1000000) : Fn Tryz.prog 101 [slv a l.length cap, fnC c cs] [ownA 3 1 a l.length cap (cellsI l), A]
  (fun v As => v = .int .i64 (pkLeast f l) ∧ As = [ownA 3 1 a l.length cap (cellsI l), A]) := by
 refine Fn.enter [0, 0] Tryz.func101 rfl rfl rfl fun X F hX => ?_
 cases l with
 | nil =>
  refine J.q hX fun b26 => ?_
  refine J.cT ?_
  refine J.q hX fun b27 => ?_
  exact J.ru hX [1, 2] ⟨rfl, rfl⟩
 | cons x l =>
  refine J.q hX fun b28 => ?_
  refine J.cond rfl (fun h0 => ?_) (fun h0 => ?_)
  ·simp only [beq_iff_eq, List.length_cons] at h0; omega
  refine J.q hX fun b29 => ?_
  refine J.cb hX (x_Min c cs f A hcal hf a cap x l (by simp at hn; omega)) [1, 2] ?_
  refine cpq ⟨_, rfl, trivial, ?_⟩
  refine J.q hX fun b31 => ?_
  exact J.ru hX [1, 2] ⟨rfl, rfl⟩
def PkE (bt q bl r : Nat) (T : Tb) : Atom := .hp (HP.of [.pt bt 28 [.pointer (some ⟨q, 0, none⟩)], .pt bl 29 [.pointer (some ⟨r, 0, none⟩)], TbA r T])
theorem PkE_un {bt q bl r : Nat} {T : Tb} {h : Hl} : Sep [PkE bt q bl r T] h ↔ Sep [.pt bt 28 [.pointer (some ⟨q, 0, none⟩)], .pt bl 29 [.pointer (some ⟨r, 0, none⟩)], TbA r T] h := Sep.hpOf
def pkFree (t : Tl) (T : Tb) (k : Int) : Bool := t.usable k && t.blank k && (T.count k == 0)
def pkUsed (t : Tl) (T : Tb) (k : Int) : Bool := decide (T.count k > 0) && !t.held k
def pkSpent (t : Tl) (T : Tb) (k : Int) : Bool := t.usable k && !t.blank k && !t.held k && (T.count k == 0)
theorem p_free1 (q : Nat) (t : Tl) (hb : t.b ≤ 1000) (hl : t.l.length = t.b) (bt bl r : Nat) (T : Tb) (k : Int) : Fn Tryz.prog 119 [.int .i64 k, .pointer (some ⟨bt, 0, none⟩), .pointer (some ⟨bl, 0, none⟩)] [TlA q t, PkE bt q bl r T]
  (fun v As => v = .bool (pkFree t T k) ∧ As = [TlA q t, PkE bt q bl r T]) := by
 refine Fn.enter [0, 3, 4] Tryz.func119 rfl rfl rfl fun X F hX => ?_
 refine J.turn1 [2] rfl (fun h s => PkE_un.1 s) rfl ?_
 refine J.q hX fun b32 => ?_
 refine J.cb hX (tl_Usable q t hb hl k) [1] ?_
 refine cpq ⟨_, rfl, trivial, ?_⟩
 cases h3 : t.usable k with
 | false =>
  refine J.q hX fun b34 => ?_
  refine J.val hX (.bool false) 0 rfl rfl (fun hg a w he hs => absurd hg (by simp [G.on])) rfl trivial ?_
  refine J.q hX fun b35 => ?_
  refine J.val hX (.int .i64 0) 0 rfl rfl (fun hg a w he hs => absurd hg (by simp [G.on])) rfl trivial ?_
  refine J.q hX fun b36 => ?_
  refine J.turn1 [2, 3, 4] rfl (fun h s => PkE_un.2 s) rfl ?_
  refine J.q hX fun b37 => ?_
  refine J.ru hX [1, 2] ?_
  exact ⟨by simp [pkFree, h3], rfl⟩
 | true =>
  refine J.q hX fun b38 => ?_
  refine J.cb hX (tl_Blank q t hb hl k) [1] ?_
  refine cpq ⟨_, rfl, trivial, ?_⟩
  cases h2 : t.blank k with
  | false =>
   refine J.q hX fun b40 => ?_
   refine J.val hX (.int .i64 0) 0 rfl rfl (fun hg a w he hs => absurd hg (by simp [G.on])) rfl trivial ?_
   refine J.q hX fun b41 => ?_
   refine J.turn1 [2, 3, 4] rfl (fun h s => PkE_un.2 s) rfl ?_
   refine J.q hX fun b42 => ?_
   refine J.ru hX [1, 2] ?_
   exact ⟨by simp [pkFree, h3, h2], rfl⟩
  | true =>
   refine J.q hX fun b43 => ?_
   refine J.cb hX (tb_Count r T k) [4] ?_
   refine cpq ⟨_, rfl, trivial, ?_⟩
   refine J.q hX fun b45 => ?_
   refine J.turn1 [2, 3, 4] rfl (fun h s => PkE_un.2 s) rfl ?_
   refine J.q hX fun b46 => ?_
   refine J.ru hX [1, 2] ?_
   exact ⟨by simp [pkFree, h3, h2], rfl⟩
theorem p_spent1 (q : Nat) (t : Tl) (hb : t.b ≤ 1000) (hl : t.l.length = t.b) (bt bl r : Nat) (T : Tb) (k : Int) : Fn Tryz.prog 89 [.int .i64 k, .pointer (some ⟨bt, 0, none⟩), .pointer (some ⟨bl, 0, none⟩)] [TlA q t, PkE bt q bl r T]
  (fun v As => v = .bool (pkSpent t T k) ∧ As = [TlA q t, PkE bt q bl r T]) := by
 refine Fn.enter [0, 3, 4] Tryz.func89 rfl rfl rfl fun X F hX => ?_
 refine J.turn1 [2] rfl (fun h s => PkE_un.1 s) rfl ?_
 refine J.q hX fun b47 => ?_
 refine J.cb hX (tl_Usable q t hb hl k) [1] ?_
 refine cpq ⟨_, rfl, trivial, ?_⟩
 cases h4 : t.usable k with
 | false =>
  refine J.q hX fun b49 => ?_
  refine J.val hX (.bool false) 0 rfl rfl (fun hg a w he hs => absurd hg (by simp [G.on])) rfl trivial ?_
  refine J.q hX fun b50 => ?_
  refine J.val hX (.bool false) 0 rfl rfl (fun hg a w he hs => absurd hg (by simp [G.on])) rfl trivial ?_
  refine J.q hX fun b51 => ?_
  refine J.val hX (.int .i64 0) 0 rfl rfl (fun hg a w he hs => absurd hg (by simp [G.on])) rfl trivial ?_
  refine J.q hX fun b52 => ?_
  refine J.turn1 [2, 3, 4] rfl (fun h s => PkE_un.2 s) rfl ?_
  refine J.q hX fun b53 => ?_
  refine J.ru hX [1, 2] ?_
  exact ⟨by simp [pkSpent, h4], rfl⟩
 | true =>
  refine J.q hX fun b54 => ?_
  refine J.cb hX (tl_Blank q t hb hl k) [1] ?_
  refine cpq ⟨_, rfl, trivial, ?_⟩
  cases h3 : t.blank k with
  | true =>
   refine J.q hX fun b56 => ?_
   refine J.val hX (.bool false) 0 rfl rfl (fun hg a w he hs => absurd hg (by simp [G.on])) rfl trivial ?_
   refine J.q hX fun b57 => ?_
   refine J.val hX (.int .i64 0) 0 rfl rfl (fun hg a w he hs => absurd hg (by simp [G.on])) rfl trivial ?_
   refine J.q hX fun b58 => ?_
   refine J.turn1 [2, 3, 4] rfl (fun h s => PkE_un.2 s) rfl ?_
   refine J.q hX fun b59 => ?_
   refine J.ru hX [1, 2] ?_
   exact ⟨by simp [pkSpent, h4, h3], rfl⟩
  | false =>
   refine J.q hX fun b60 => ?_
   refine J.cb hX (tl_Held q t hb hl k) [1] ?_
   refine cpq ⟨_, rfl, trivial, ?_⟩
   cases h2 : t.held k with
   | true =>
    refine J.q hX fun b62 => ?_
    refine J.val hX (.int .i64 0) 0 rfl rfl (fun hg a w he hs => absurd hg (by simp [G.on])) rfl trivial ?_
    refine J.q hX fun b63 => ?_
    refine J.turn1 [2, 3, 4] rfl (fun h s => PkE_un.2 s) rfl ?_
    refine J.q hX fun b64 => ?_
    refine J.ru hX [1, 2] ?_
    exact ⟨by simp [pkSpent, h4, h3, h2], rfl⟩
   | false =>
    refine J.q hX fun b65 => ?_
    refine J.cb hX (tb_Count r T k) [4] ?_
    refine cpq ⟨_, rfl, trivial, ?_⟩
    refine J.q hX fun b67 => ?_
    refine J.turn1 [2, 3, 4] rfl (fun h s => PkE_un.2 s) rfl ?_
    refine J.q hX fun b68 => ?_
    refine J.ru hX [1, 2] ?_
    exact ⟨by simp [pkSpent, h4, h3, h2], rfl⟩
theorem p_used1 (q : Nat) (t : Tl) (hb : t.b ≤ 1000) (hl : t.l.length = t.b) (bt bl r : Nat) (T : Tb) (k : Int) : Fn Tryz.prog 116 [.int .i64 k, .pointer (some ⟨bl, 0, none⟩), .pointer (some ⟨bt, 0, none⟩)] [TlA q t, PkE bt q bl r T]
  (fun v As => v = .bool (pkUsed t T k) ∧ As = [TlA q t, PkE bt q bl r T]) := by
 refine Fn.enter [0, 4, 3] Tryz.func116 rfl rfl rfl fun X F hX => ?_
 refine J.turn1 [2] rfl (fun h s => PkE_un.1 s) rfl ?_
 refine J.q hX fun b69 => ?_
 refine J.cb hX (tb_Count r T k) [4] ?_
 refine cpq ⟨_, rfl, trivial, ?_⟩
 refine J.q hX fun b71 => ?_
 cases hc : decide (T.count k > 0) with
 | false =>
  refine J.val hX (.bool false) 0 rfl rfl (fun hg a w he hs => absurd hg (by simp [G.on])) rfl trivial ?_
  refine J.q hX fun b72 => ?_
  refine J.turn1 [2, 3, 4] rfl (fun h s => PkE_un.2 s) rfl ?_
  refine J.q hX fun b73 => ?_
  refine J.ru hX [1, 2] ?_
  exact ⟨by simp only [pkUsed, hc]; rfl, rfl⟩
 | true =>
  refine J.q hX fun b74 => ?_
  refine J.cb hX (tl_Held q t hb hl k) [1] ?_
  refine cpq ⟨_, rfl, trivial, ?_⟩
  refine J.q hX fun b75 => ?_
  refine J.turn1 [2, 3, 4] rfl (fun h s => PkE_un.2 s) rfl ?_
  refine J.q hX fun b76 => ?_
  refine J.ru hX [1, 2] ?_
  exact ⟨by simp only [pkUsed, hc], rfl⟩
def idxN (p : Int → Bool) (l : List Int) : Int := match l.findIdx? p with
 | some k => k
 | none => -1
theorem idxN_step {p : Int → Bool} {l : List Int} {k : Nat} {x : Int} (h : l[k]? = some x) (h0 : ∀ i < k, p (l.getD i 0) = false) (hp : p x = true) : l.findIdx? p = some k := by
 rw [List.findIdx?_eq_some_iff_getElem]
 obtain ⟨h1, h2⟩ := List.getElem?_eq_some_iff.1 h
 refine ⟨h1, by rw [h2]; exact hp, fun j hj => ?_⟩
 have := h0 j hj
 rw [List.getD_eq_getElem?_getD, List.getElem?_eq_getElem (by omega), Option.getD_some] at this
 simp [this]
theorem idxN_none {p : Int → Bool} {l : List Int} (h0 : ∀ i < l.length, p (l.getD i 0) = false) : l.findIdx? p = none := by
 rw [List.findIdx?_eq_none_iff]
 intro x hx
 obtain ⟨i, hi, rfl⟩ := List.mem_iff_getElem.1 hx
 have := h0 i hi
 rwa [List.getD_eq_getElem?_getD, List.getElem?_eq_getElem hi, Option.getD_some] at this
theorem idxN_any (p : Int → Bool) (l : List Int) : decide (idxN p l ≥ 0) = l.any p := by
 unfold idxN
 cases h : l.findIdx? p with
 | none =>
  rw [List.findIdx?_eq_none_iff] at h
  have : l.any p = false := by rw [List.any_eq_false]; exact fun x hx => by simp [h x hx]
  rw [this]; rfl
 | some k =>
  rw [List.findIdx?_eq_some_iff_getElem] at h
  obtain ⟨h1, h2, _⟩ := h
  have : l.any p = true := List.any_eq_true.2 ⟨l[k], List.getElem_mem _, h2⟩
  rw [this]; simp
theorem x_IndexI (c : Nat) (cs : List Value) (p : Int → Bool) (A : Atom) (hcal : callable Tryz.prog c = true) (l : List Int) (hf : ∀ x ∈ l, Fn Tryz.prog c (.int .i64 x :: cs) [A] (fun v As => v = .bool (p x) ∧ As = [A]))
  (a : Option Nat) (n cap : Nat) (hl : l.length = n) (hn : n ≤ 4611686018427387904) : Fn Tryz.prog 133 [slv a n cap, fnC c cs] [ownA 3 1 a n cap (cellsI l), A]
  (fun v As => v = .int .i64 (idxN p l) ∧ As = [ownA 3 1 a n cap (cellsI l), A]) := by
 refine Fn.enter [0, 0] Tryz.func133 rfl rfl rfl fun X F hX => ?_
 refine J.q hX fun b1 => ?_
 refine J.lo (α := Nat) (fun k => k ≤ n ∧ ∀ i < k, p (l.getD i 0) = false) (fun k => [⟨8, .int .i64 k, 0, .tt⟩, ⟨7, .int .i64 n, 0, .tt⟩, ⟨0, slv a n cap, 0, .tt⟩, ⟨1, fnC c cs, 0, .tt⟩]) [] (fun k => []) (fun k => n - k) (0) (⟨by omega, by omega⟩) rfl ?_ (fun _ => rfl) fun k hI => ?_
 ·rfl
 refine J.q hX fun b3 => ?_
 refine J.cond rfl (fun h1 => ?_) (fun h1 => ?_)
 ·simp only [decide_eq_true_eq, Int.ofNat_lt] at h1
  cases a with
  | none =>
   refine J.know (fun h' s => (s.get (i := 1) rfl).2.1) fun hn0 => ?_
   omega
  | some g =>
   have hk : l[k]? = some (l.getD k 0) := by rw [List.getD_eq_getElem?_getD, List.getElem?_eq_getElem (by omega), Option.getD_some]
   refine J.q hX fun b4 => ?_
   refine J.val hX (.int .i64 (l.getD k 0)) 0 rfl rfl (fun hg a w he hs => ?_) rfl trivial ?_
   ·exact own1_run tk rfl rfl he rfl rfl rfl (hs.get (i := 1) rfl) (by rw [show 0 + (k : Int).toNat * 1 = k from by omega, cellsI, List.getElem?_map, hk]; rfl)
   refine J.q hX fun b5 => ?_
   refine J.call hX hcal (hf (l.getD k 0) (List.mem_of_getElem? hk)) [2] 0 rfl rfl rfl rfl (by (repeat' (first | exact Conj.nil | refine Conj.cons ?_ ?_ | omega | exact hq0 | (simpa using hq0) | (exact fun h => h) | exact rfl | (intro hq; have hq0 := hq; try simp only [Bool.and_eq_true, Bool.or_eq_true, decide_eq_true_eq, Bool.not_eq_true', decide_eq_false_iff_not] at hq) | (simp; done) | (simp; omega) | decide))) rfl rfl (fun _ => rfl) ?_
   refine cpq ⟨_, rfl, trivial, ?_⟩
   refine J.q hX fun b6 => ?_
   refine J.cond rfl (fun h2 => ?_) (fun h2 => ?_)
   ·refine J.q hX fun b7 => ?_
    refine J.ru hX [1, 2] ?_
    exact ⟨by rw [idxN, idxN_step hk hI.2 h2], rfl⟩
   ·refine J.q hX fun b8 => ?_
    refine J.nx (k + 1) (⟨by omega, fun i hi => by
     rcases Nat.lt_succ_iff_lt_or_eq.1 hi with h3 | h3
     ·exact hI.2 i h3
     ·rw [h3]; exact h2⟩) (by omega) (fun _ s => s)
 ·simp only [decide_eq_false_iff_not, Int.ofNat_lt] at h1
  refine J.q hX fun b9 => ?_
  refine J.ru hX [1, 2] ?_
  exact ⟨by rw [idxN, idxN_none (fun i hi => hI.2 i (by omega))], rfl⟩
theorem x_ContainsI (c : Nat) (cs : List Value) (p : Int → Bool) (A : Atom) (hcal : callable Tryz.prog c = true) (l : List Int) (hf : ∀ x ∈ l, Fn Tryz.prog c (.int .i64 x :: cs) [A] (fun v As => v = .bool (p x) ∧ As = [A]))
  (a : Option Nat) (n cap : Nat) (hl : l.length = n) (hn : n ≤ 4611686018427387904) : Fn Tryz.prog 96 [slv a n cap, fnC c cs] [ownA 3 1 a n cap (cellsI l), A]
  (fun v As => v = .bool (l.any p) ∧ As = [ownA 3 1 a n cap (cellsI l), A]) := by
 refine Fn.enter [0, 0] Tryz.func96 rfl rfl rfl fun X F hX => ?_
 refine J.q hX fun b10 => ?_
 refine J.cb hX (x_IndexI c cs p A hcal l hf a n cap hl hn) [1, 2] ?_
 refine cpq ⟨_, rfl, trivial, ?_⟩
 refine J.q hX fun b12 => ?_
 refine J.ru hX [1, 2] ?_
 exact ⟨by rw [← idxN_any], rfl⟩
theorem p_free (q : Nat) (t : Tl) (hb : t.b ≤ 1000) (hl : t.l.length = t.b) (r : Nat) (T : Tb) (o : Int) : Fn Tryz.prog 73 [.pointer (some ⟨q, 0, none⟩), .pointer (some ⟨r, 0, none⟩), .int .i64 o] [TlA q t, TbA r T]
  (fun v As => ∃ a c, v = slv a (pkSome (pkFree t T) o t.b).length c ∧ As = [TlA q t, TbA r T, ownA 3 1 a (pkSome (pkFree t T) o t.b).length c (cellsI (pkSome (pkFree t T) o t.b))]) := by
 refine Fn.enter [2, 3, 0] Tryz.func73 rfl rfl rfl fun X F hX => ?_
 refine J.q hX fun bb => ?_
 refine J.turn1 [3, 4, 2] rfl (As := [PkE (bb 0) q (bb (0 + 1)) r T]) (fun h s => PkE_un.2 s) rfl ?_
 refine J.q hX fun b1 => ?_
 refine J.cb hX (p_some q t hb o 119 [.pointer (some ⟨bb 0, 0, none⟩), .pointer (some ⟨bb (0 + 1), 0, none⟩)] (pkFree t T) (PkE (bb 0) q (bb (0 + 1)) r T) (by kernel_rfl) (fun x => p_free1 q t hb hl (bb 0) (bb (0 + 1)) r T x)) [1, 3] ?_
 rintro v As ⟨a, c, rfl, rfl⟩
 refine ⟨_, rfl, trivial, ?_⟩
 refine J.turn1 [3] rfl (fun h s => PkE_un.1 s) rfl ?_
 refine J.q hX fun b2 => ?_
 refine J.ru hX [1, 7, 5] ?_
 exact ⟨a, c, rfl, rfl⟩
theorem p_Free (q : Nat) (t : Tl) (hb : t.b ≤ 1000) (hl : t.l.length = t.b) (r : Nat) (T : Tb) (o : Int) : Fn Tryz.prog 30 [.pointer (some ⟨q, 0, none⟩), .pointer (some ⟨r, 0, none⟩), .int .i64 o] [TlA q t, TbA r T]
  (fun v As => v = .int .i64 (pkSome (pkFree t T) o t.b).length ∧ As = [TlA q t, TbA r T]) := by
 refine Fn.enter [2, 3, 0] Tryz.func30 rfl rfl rfl fun X F hX => ?_
 refine J.q hX fun b3 => ?_
 refine J.cb hX (p_free q t hb hl r T o) [1, 2] ?_
 rintro v As ⟨a, c, rfl, rfl⟩
 refine ⟨_, rfl, trivial, ?_⟩
 refine J.q hX fun b5 => ?_
 exact J.ru hX [1, 2] ⟨rfl, rfl⟩
theorem p_Open1 (q : Nat) (t : Tl) (hb : t.b ≤ 1000) (hl : t.l.length = t.b) (bt : Nat) (x y : Int) : Fn Tryz.prog 102 [.int .i64 x, .int .i64 y, .pointer (some ⟨bt, 0, none⟩)] [.pt bt 28 [.pointer (some ⟨q, 0, none⟩)], TlA q t]
  (fun v As => v = .int .i64 (cmpI (t.wear x) (t.wear y)) ∧ As = [.pt bt 28 [.pointer (some ⟨q, 0, none⟩)], TlA q t]) := by
 refine Fn.enter [0, 0, 2] Tryz.func102 rfl rfl rfl fun X F hX => ?_
 refine J.q hX fun b6 => ?_
 refine J.plan (.of [1,4,13,16,10,23,27,28]) [5,6,7] [1,2] (by rw [hX.hP]; kernel_rfl) (by kernel_rfl) ?_
 refine J.q hX fun b7 => ?_
 refine J.cb hX (tl_Wear q t hb hl x) [2] ?_
 refine cpq ⟨_, rfl, (by first | exact trivial | (repeat' (first | exact trivial | refine ⟨rfl, ?_⟩))), ?_⟩
 refine J.q hX fun b9 => ?_
 refine J.cb hX (tl_Wear q t hb hl y) [2] ?_
 refine cpq ⟨_, rfl, (by first | exact trivial | (repeat' (first | exact trivial | refine ⟨rfl, ?_⟩))), ?_⟩
 refine J.q hX fun b11 => ?_
 refine J.cb hX (c_Compare (t.wear x) (t.wear y)) [] ?_
 refine cpq ⟨_, rfl, (by first | exact trivial | (repeat' (first | exact trivial | refine ⟨rfl, ?_⟩))), ?_⟩
 refine J.q hX fun b13 => ?_
 exact J.ru hX [1, 2] ⟨rfl, rfl⟩
theorem p_Open (q : Nat) (t : Tl) (hb : t.b ≤ 1000) (hl : t.l.length = t.b) (r : Nat) (T : Tb) (o : Int) : Fn Tryz.prog 55 [.pointer (some ⟨q, 0, none⟩), .pointer (some ⟨r, 0, none⟩), .int .i64 o] [TlA q t, TbA r T]
  (fun v As => v = .int .i64 (pkLeast (fun x y => cmpI (t.wear x) (t.wear y)) (pkSome (pkFree t T) o t.b)) ∧ As = [TlA q t, TbA r T]) := by
 have hlen := pkSome_len (pkFree t T) o t.b
 refine Fn.enter [2, 3, 0] Tryz.func55 rfl rfl rfl fun X F hX => ?_
 refine J.q hX fun bb => ?_
 refine J.cb hX (p_free q t hb hl r T o) [1, 2] ?_
 rintro v As ⟨a, c, rfl, rfl⟩
 refine ⟨_, rfl, trivial, ?_⟩
 refine J.q hX fun b15 => ?_
 refine J.turn1 [3, 1] rfl (As := [.hp (HP.of [.pt (bb 0) 28 [.pointer (some ⟨q, 0, none⟩)], TlA q t])]) (fun h s => Sep.hpOf.2 s) rfl ?_
 refine J.q hX fun b16 => ?_
 refine J.ca hX (by kernel_rfl) (p_least 102 [.pointer (some ⟨bb 0, 0, none⟩)] (fun x y => cmpI (t.wear x) (t.wear y)) _ (by kernel_rfl) (fun x y => Fn.pack (p_Open1 q t hb hl (bb 0) x y)) a c (pkSome (pkFree t T) o t.b) (by omega)) [4, 3] 0 rfl rfl rfl rfl rfl rfl (fun _ => rfl) ?_
 refine cpq ⟨_, rfl, trivial, ?_⟩
 refine J.turn1 [3] rfl (As := [.pt (bb 0) 28 [.pointer (some ⟨q, 0, none⟩)], TlA q t]) (fun h s => Sep.hpOf.1 s) rfl ?_
 refine J.q hX fun b17 => ?_
 exact J.ru hX [5, 2] ⟨rfl, rfl⟩
theorem c_Or2 (b : Nat) (x y : Int) : Fn Tryz.prog 118 [.slice (some ⟨b, 0, none⟩) 2 2] [.pt b 3 [.int .i64 x, .int .i64 y]] (fun v As => v = .int .i64 (orI [x, y]) ∧ As = [.pt b 3 [.int .i64 x, .int .i64 y]]) := by
 refine Fn.enter [2] Tryz.func118 rfl rfl rfl fun X F hX => ?_
 refine J.q hX fun b18 => ?_
 refine J.lo (α := Nat) (fun k => k ≤ 2 ∧ orI ([x, y].drop k) = orI [x, y]) (fun k => [⟨8, .int .i64 k, 0, .tt⟩, ⟨7, .int .i64 2, 0, .tt⟩, ⟨6, .slice (some ⟨b, 0, none⟩) 2 2, 2, .tt⟩, ⟨3, .int .i64 0, 0, .tt⟩]) [] (fun k => []) (fun k => 2 - k) (0) (⟨by omega, rfl⟩) rfl ?_ (fun _ => rfl) fun k hI => ?_
 ·rfl
 refine J.q hX fun b20 => ?_
 refine J.cond rfl (fun h1 => ?_) (fun h1 => ?_)
 ·simp only [decide_eq_true_eq] at h1
  obtain ⟨v, hv⟩ : ∃ v, ([x, y] : List Int)[k]? = some v := ⟨_, List.getElem?_eq_getElem (by simp; omega)⟩
  have hd : ([x, y] : List Int).drop k = v :: ([x, y] : List Int).drop (k + 1) := by
   obtain ⟨h2, h3⟩ := List.getElem?_eq_some_iff.1 hv
   rw [List.drop_eq_getElem_cons h2, h3]
  refine J.q hX fun b21 => ?_
  refine J.val hX (.int .i64 v) 0 rfl rfl (fun hg a w he hs => ?_) rfl trivial ?_
  ·exact load1_run tk rfl rfl he rfl rfl rfl (hs.get (i := 1) rfl) (by
    rw [show 0 + (k : Int).toNat * 1 = k from by omega, show ([.int .i64 x, .int .i64 y] : List Value) = ([x, y] : List Int).map (.int .i64) from rfl, List.getElem?_map, hv]; rfl)
  refine J.q hX fun b22 => ?_
  refine J.cond rfl (fun h2 => ?_) (fun h2 => ?_)
  ·simp only [bne_iff_ne, ne_eq] at h2
   refine J.q hX fun b23 => ?_
   refine J.ru hX [1] ?_
   refine ⟨?_, rfl⟩
   rw [← hI.2, hd]
   simp [orI, h2]
  ·simp only [bne_eq_false_iff_eq] at h2
   refine J.q hX fun b24 => ?_
   refine J.nx (k + 1) (⟨by omega, by rw [← hI.2, hd, orI, if_neg (by simp [h2])]⟩) (by omega) (fun _ s => s)
 ·simp only [decide_eq_false_iff_not] at h1
  refine J.q hX fun b25 => ?_
  refine J.ru hX [1] ?_
  refine ⟨?_, rfl⟩
  rw [← hI.2, List.drop_of_length_le (by simp; omega)]
  rfl
theorem p_Victim2 (q : Nat) (t : Tl) (hb : t.b ≤ 1000) (hl : t.l.length = t.b) (bt bl r : Nat) (T : Tb) (x y : Int) : Fn Tryz.prog 117 [.int .i64 x, .int .i64 y, .pointer (some ⟨bl, 0, none⟩), .pointer (some ⟨bt, 0, none⟩)] [TlA q t, PkE bt q bl r T]
  (fun v As => v = .int .i64 (orI [cmpI (T.count x) (T.count y), cmpI (t.wear x) (t.wear y)]) ∧ As = [TlA q t, PkE bt q bl r T]) := by
 refine Fn.enter [0, 0, 4, 3] Tryz.func117 rfl rfl rfl fun X F hX => ?_
 refine J.turn1 [2] rfl (fun h s => PkE_un.1 s) rfl ?_
 refine J.q hX fun b26 => ?_
 refine J.plan (.of [1,4,13,16,29,32,41,44,10,22,26,38,51,55,59,63,64]) [12,13,14,15,16] [1,2,3,4] (by rw [hX.hP]; kernel_rfl) (by kernel_rfl) ?_
 refine J.q hX fun b27 => ?_
 refine J.cb hX (tb_Count r T x) [4] ?_
 refine cpq ⟨_, rfl, (by first | exact trivial | (repeat' (first | exact trivial | refine ⟨rfl, ?_⟩))), ?_⟩
 refine J.q hX fun b29 => ?_
 refine J.cb hX (tb_Count r T y) [4] ?_
 refine cpq ⟨_, rfl, (by first | exact trivial | (repeat' (first | exact trivial | refine ⟨rfl, ?_⟩))), ?_⟩
 refine J.q hX fun b31 => ?_
 refine J.cb hX (c_Compare (T.count x) (T.count y)) [] ?_
 refine cpq ⟨_, rfl, (by first | exact trivial | (repeat' (first | exact trivial | refine ⟨rfl, ?_⟩))), ?_⟩
 refine J.q hX fun b33 => ?_
 refine J.cb hX (tl_Wear q t hb hl x) [1] ?_
 refine cpq ⟨_, rfl, (by first | exact trivial | (repeat' (first | exact trivial | refine ⟨rfl, ?_⟩))), ?_⟩
 refine J.q hX fun b35 => ?_
 refine J.cb hX (tl_Wear q t hb hl y) [1] ?_
 refine cpq ⟨_, rfl, (by first | exact trivial | (repeat' (first | exact trivial | refine ⟨rfl, ?_⟩))), ?_⟩
 refine J.q hX fun b37 => ?_
 refine J.cb hX (c_Compare (t.wear x) (t.wear y)) [] ?_
 refine cpq ⟨_, rfl, (by first | exact trivial | (repeat' (first | exact trivial | refine ⟨rfl, ?_⟩))), ?_⟩
 refine J.q hX fun bs => ?_
 refine J.cb hX (c_Or2 (bs 0) (cmpI (T.count x) (T.count y)) (cmpI (t.wear x) (t.wear y))) [5] ?_
 refine cpq ⟨_, rfl, (by first | exact trivial | (repeat' (first | exact trivial | refine ⟨rfl, ?_⟩))), ?_⟩
 refine J.q hX fun b40 => ?_
 refine J.turn1 [2, 3, 4] rfl (fun h s => PkE_un.2 s) rfl ?_
 refine J.q hX fun b41 => ?_
 exact J.ru hX [1, 2] ⟨rfl, rfl⟩
theorem p_Victim (q : Nat) (t : Tl) (hb : t.b ≤ 1000) (hl : t.l.length = t.b) (r : Nat) (T : Tb) (o : Int) : Fn Tryz.prog 71 [.pointer (some ⟨q, 0, none⟩), .pointer (some ⟨r, 0, none⟩), .int .i64 o] [TlA q t, TbA r T]
  (fun v As => v = .int .i64 (pkLeast (fun x y => orI [cmpI (T.count x) (T.count y), cmpI (t.wear x) (t.wear y)]) (pkSome (pkUsed t T) o t.b)) ∧ As = [TlA q t, TbA r T]) := by
 have hlen := pkSome_len (pkUsed t T) o t.b
 refine Fn.enter [2, 3, 0] Tryz.func71 rfl rfl rfl fun X F hX => ?_
 refine J.q hX fun bb => ?_
 refine J.turn1 [3, 4, 2] rfl (As := [PkE (bb 0) q (bb (0 + 1)) r T]) (fun h s => PkE_un.2 s) rfl ?_
 refine J.q hX fun b42 => ?_
 refine J.cb hX (p_some q t hb o 116 [.pointer (some ⟨bb (0 + 1), 0, none⟩), .pointer (some ⟨bb 0, 0, none⟩)] (pkUsed t T) (PkE (bb 0) q (bb (0 + 1)) r T) (by kernel_rfl) (fun x => p_used1 q t hb hl (bb 0) (bb (0 + 1)) r T x)) [1, 3] ?_
 rintro v As ⟨a, c, rfl, rfl⟩
 refine ⟨_, rfl, trivial, ?_⟩
 refine J.q hX fun b43 => ?_
 refine J.turn1 [1, 3] rfl (As := [.hp (HP.of [TlA q t, PkE (bb 0) q (bb (0 + 1)) r T])]) (fun h s => Sep.hpOf.2 s) rfl ?_
 refine J.q hX fun b44 => ?_
 refine J.ca hX (by kernel_rfl) (p_least 117 [.pointer (some ⟨bb (0 + 1), 0, none⟩), .pointer (some ⟨bb 0, 0, none⟩)] (fun x y => orI [cmpI (T.count x) (T.count y), cmpI (t.wear x) (t.wear y)]) _ (by kernel_rfl) (fun x y => Fn.pack (p_Victim2 q t hb hl (bb 0) (bb (0 + 1)) r T x y)) a c (pkSome (pkUsed t T) o t.b) (by omega)) [5, 1] 0 rfl rfl rfl rfl rfl rfl (fun _ => rfl) ?_
 refine cpq ⟨_, rfl, trivial, ?_⟩
 refine J.turn1 [1] rfl (As := [TlA q t, PkE (bb 0) q (bb (0 + 1)) r T]) (fun h s => Sep.hpOf.1 s) rfl ?_
 refine J.turn1 [6] rfl (fun h s => PkE_un.1 s) rfl ?_
 refine J.q hX fun b45 => ?_
 exact J.ru hX [1, 8] ⟨rfl, rfl⟩
theorem p_Spent (q : Nat) (t : Tl) (hb : t.b ≤ 1000) (hl : t.l.length = t.b) (r : Nat) (T : Tb) (o : Int) : Fn Tryz.prog 42 [.pointer (some ⟨q, 0, none⟩), .pointer (some ⟨r, 0, none⟩), .int .i64 o] [TlA q t, TbA r T]
  (fun v As => ∃ a c, v = slv a (pkSome (pkSpent t T) o t.b).length c ∧ As = [TlA q t, TbA r T, ownA 3 1 a (pkSome (pkSpent t T) o t.b).length c (cellsI (pkSome (pkSpent t T) o t.b))]) := by
 refine Fn.enter [2, 3, 0] Tryz.func42 rfl rfl rfl fun X F hX => ?_
 refine J.q hX fun bb => ?_
 refine J.turn1 [3, 4, 2] rfl (As := [PkE (bb 0) q (bb (0 + 1)) r T]) (fun h s => PkE_un.2 s) rfl ?_
 refine J.q hX fun b46 => ?_
 refine J.cb hX (p_some q t hb o 89 [.pointer (some ⟨bb 0, 0, none⟩), .pointer (some ⟨bb (0 + 1), 0, none⟩)] (pkSpent t T) (PkE (bb 0) q (bb (0 + 1)) r T) (by kernel_rfl) (fun x => p_spent1 q t hb hl (bb 0) (bb (0 + 1)) r T x)) [1, 3] ?_
 rintro v As ⟨a, c, rfl, rfl⟩
 refine ⟨_, rfl, trivial, ?_⟩
 refine J.turn1 [3] rfl (fun h s => PkE_un.1 s) rfl ?_
 refine J.q hX fun b47 => ?_
 refine J.ru hX [1, 7, 5] ?_
 exact ⟨a, c, rfl, rfl⟩
def pkLost (t : Tl) (T : Tb) (b i : Int) : Bool := IntKind.i64.wrap ((BitVec.ofInt IntKind.i64.bits ((Tb.look T.at_ i).getD AtV.zero).mask &&& BitVec.ofInt IntKind.i64.bits (Tl.andN (L.all t.d) (t.mask b))).toNat : Int) != 0
theorem p_Hurt2 (q : Nat) (t : Tl) (hb : t.b ≤ 1000) (hl : t.l.length = t.b) (bt bl bb r : Nat) (T : Tb) (b i : Int) : Fn Tryz.prog 97 [.int .i64 i, .pointer (some ⟨bl, 0, none⟩), .pointer (some ⟨bt, 0, none⟩), .pointer (some ⟨bb, 0, none⟩)] [TlA q t, .pt bt 28 [.pointer (some ⟨q, 0, none⟩)], .pt bl 29 [.pointer (some ⟨r, 0, none⟩)], TbA r T, .pt bb 3 [.int .i64 b]]
  (fun v As => v = .bool (pkLost t T b i) ∧ As = [TlA q t, .pt bt 28 [.pointer (some ⟨q, 0, none⟩)], .pt bl 29 [.pointer (some ⟨r, 0, none⟩)], TbA r T, .pt bb 3 [.int .i64 b]]) := by
 refine Fn.enter [0, 4, 3, 6] Tryz.func97 rfl rfl rfl fun X F hX => ?_
 refine J.q hX fun b48 => ?_
 refine J.cb hX (tb_Get r T i) [4] ?_
 refine cpq ⟨_, rfl, trivial, ?_⟩
 refine J.q hX fun b50 => ?_
 refine J.plan (.of [1,17,21,6,8,14,27,28,32]) [6,7,8] [1,2,3,4,5] (by rw [hX.hP]; kernel_rfl) (by kernel_rfl) ?_
 refine J.q hX fun b51 => ?_
 refine J.cb hX (tl_Geo q t) [1] ?_
 refine cpq ⟨_, rfl, (by first | exact trivial | (repeat' (first | exact trivial | refine ⟨rfl, ?_⟩))), ?_⟩
 refine J.q hX fun b53 => ?_
 refine J.cb hX (l_All t.d) [] ?_
 refine cpq ⟨_, rfl, (by first | exact trivial | (repeat' (first | exact trivial | refine ⟨rfl, ?_⟩))), ?_⟩
 refine J.q hX fun b55 => ?_
 refine J.cb hX (tl_Mask q t hb hl b) [1] ?_
 refine cpq ⟨_, rfl, (by first | exact trivial | (repeat' (first | exact trivial | refine ⟨rfl, ?_⟩))), ?_⟩
 refine J.q hX fun b57 => ?_
 exact J.ru hX [1, 2, 3, 4, 5] ⟨rfl, rfl⟩
def pkHurt (t : Tl) (T : Tb) (b : Int) : Bool := (T.ins b).any (pkLost t T b)
theorem p_Hurt1 (q : Nat) (t : Tl) (hb : t.b ≤ 1000) (hl : t.l.length = t.b) (bt bl r : Nat) (T : Tb) (n : Nat) (hlog : T.logical = (n : Int)) (hn : n ≤ 65536) (b : Int) : Fn Tryz.prog 95 [.int .i64 b, .pointer (some ⟨bl, 0, none⟩), .pointer (some ⟨bt, 0, none⟩)] [TlA q t, PkE bt q bl r T]
  (fun v As => v = .bool (pkHurt t T b) ∧ As = [TlA q t, PkE bt q bl r T]) := by
 have hlen : (T.ins b).length ≤ 65536 := by
  unfold Tb.ins
  split
  ·simp
  ·refine Nat.le_trans (T.inK_len b _) ?_; rw [hlog]; omega
 refine Fn.enter [0, 4, 3] Tryz.func95 rfl rfl rfl fun X F hX => ?_
 refine J.turn1 [2] rfl (fun h s => PkE_un.1 s) rfl ?_
 refine J.q hX fun bb => ?_
 refine J.cb hX (tb_In r T n hlog hn b) [4] ?_
 rintro v As ⟨a, c, rfl, rfl⟩
 refine ⟨_, rfl, trivial, ?_⟩
 refine J.q hX fun b59 => ?_
 refine J.turn1 [1, 2, 3, 4, 5] rfl (As := [.hp (HP.of [TlA q t, .pt bt 28 [.pointer (some ⟨q, 0, none⟩)], .pt bl 29 [.pointer (some ⟨r, 0, none⟩)], TbA r T, .pt (bb 0) 3 [.int .i64 b]])]) (fun h s => Sep.hpOf.2 s) rfl ?_
 refine J.q hX fun b60 => ?_
 refine J.ca hX (by kernel_rfl) (x_ContainsI 97 [.pointer (some ⟨bl, 0, none⟩), .pointer (some ⟨bt, 0, none⟩), .pointer (some ⟨bb 0, 0, none⟩)] (pkLost t T b) _ (by kernel_rfl) (T.ins b) (fun i _ => Fn.pack (p_Hurt2 q t hb hl bt bl (bb 0) r T b i)) a (T.ins b).length c rfl (by omega)) [6, 1] 0 rfl rfl rfl rfl rfl rfl (fun _ => rfl) ?_
 refine cpq ⟨_, rfl, trivial, ?_⟩
 refine J.turn1 [1] rfl (As := [TlA q t, .pt bt 28 [.pointer (some ⟨q, 0, none⟩)], .pt bl 29 [.pointer (some ⟨r, 0, none⟩)], TbA r T, .pt (bb 0) 3 [.int .i64 b]]) (fun h s => Sep.hpOf.1 s) rfl ?_
 refine J.turn1 [7, 8, 9] rfl (fun h s => PkE_un.2 s) rfl ?_
 refine J.q hX fun b61 => ?_
 exact J.ru hX [1, 7] ⟨rfl, rfl⟩
theorem p_Hurt (q : Nat) (t : Tl) (hb : t.b ≤ 1000) (hl : t.l.length = t.b) (r : Nat) (T : Tb) (n : Nat) (hlog : T.logical = (n : Int)) (hn : n ≤ 65536) : Fn Tryz.prog 48 [.pointer (some ⟨q, 0, none⟩), .pointer (some ⟨r, 0, none⟩)] [TlA q t, TbA r T]
  (fun v As => ∃ a c, v = slv a (pkSome (pkHurt t T) (-1) t.b).length c ∧ As = [TlA q t, TbA r T, ownA 3 1 a (pkSome (pkHurt t T) (-1) t.b).length c (cellsI (pkSome (pkHurt t T) (-1) t.b))]) := by
 refine Fn.enter [2, 3] Tryz.func48 rfl rfl rfl fun X F hX => ?_
 refine J.q hX fun bb => ?_
 refine J.turn1 [3, 4, 2] rfl (As := [PkE (bb 0) q (bb (0 + 1)) r T]) (fun h s => PkE_un.2 s) rfl ?_
 refine J.q hX fun b62 => ?_
 refine J.cb hX (p_some q t hb (-1) 95 [.pointer (some ⟨bb (0 + 1), 0, none⟩), .pointer (some ⟨bb 0, 0, none⟩)] (pkHurt t T) (PkE (bb 0) q (bb (0 + 1)) r T) (by kernel_rfl) (fun x => p_Hurt1 q t hb hl (bb 0) (bb (0 + 1)) r T n hlog hn x)) [1, 3] ?_
 rintro v As ⟨a, c, rfl, rfl⟩
 refine ⟨_, rfl, trivial, ?_⟩
 refine J.turn1 [3] rfl (fun h s => PkE_un.1 s) rfl ?_
 refine J.q hX fun b63 => ?_
 refine J.ru hX [1, 7, 5] ?_
 exact ⟨a, c, rfl, rfl⟩
end Go.Proofs.YtdocmcapegcoeaaGreat
