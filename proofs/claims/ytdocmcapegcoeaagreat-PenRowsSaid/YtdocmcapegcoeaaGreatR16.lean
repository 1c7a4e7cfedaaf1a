/- Helpers of the proofs about ostrakonlaw11, proved here: Bk, Rw, Rx, Ry. No condition. -/
import Derived.Test.YtdocmcapegcoeaaGreatR09
import Derived.Test.YtdocmcapegcoeaaGreatR12
import Derived.Test.YtdocmcapegcoeaaGreatR13
import Derived.Test.YtdocmcapegcoeaaGreatR15
set_option maxRecDepth 20000
set_option linter.unusedVariables false
set_option linter.unusedSimpArgs false
set_option linter.unusedSectionVars false
set_option linter.unnecessarySimpa false
namespace Go.Proofs.YtdocmcapegcoeaaGreat
open Go Go.RowKit
def W.backC (p : Sh) (l : List Sh) : Bool := p.kind == 2 && S.may p && !l.any (alien p) && decide ((l.length : Int) = G.slots p.mask - 1)
def idxS (p : Sh → Bool) (l : List Sh) : Int := match l.findIdx? p with
 | some k => k
 | none => -1
theorem idxS_step {p : Sh → Bool} {l : List Sh} {k : Nat} {x : Sh} (h : l[k]? = some x) (h0 : ∀ i < k, p (l.getD i Sh.zero) = false) (hp : p x = true) : l.findIdx? p = some k := by
 rw [List.findIdx?_eq_some_iff_getElem]
 obtain ⟨h1, h2⟩ := List.getElem?_eq_some_iff.1 h
 refine ⟨h1, by rw [h2]; exact hp, fun j hj => ?_⟩
 have := h0 j hj
 rw [List.getD_eq_getElem?_getD, List.getElem?_eq_getElem (by omega), Option.getD_some] at this
 simp [this]
theorem idxS_none {p : Sh → Bool} {l : List Sh} (h0 : ∀ i < l.length, p (l.getD i Sh.zero) = false) : l.findIdx? p = none := by
 rw [List.findIdx?_eq_none_iff]
 intro x hx
 obtain ⟨i, hi, rfl⟩ := List.mem_iff_getElem.1 hx
 have := h0 i hi
 rwa [List.getD_eq_getElem?_getD, List.getElem?_eq_getElem hi, Option.getD_some] at this
theorem idxS_any (p : Sh → Bool) (l : List Sh) : decide (idxS p l ≥ 0) = l.any p := by
 unfold idxS
 cases h : l.findIdx? p with
 | none =>
  rw [List.findIdx?_eq_none_iff] at h
  have : l.any p = false := by rw [List.any_eq_false]; exact fun x hx => by simp [h x hx]
  rw [this]; rfl
 | some k =>
  rw [List.findIdx?_eq_some_iff_getElem] at h
  obtain ⟨h1, h2, _⟩ := h
  have : l.any p = true := List.any_eq_true.2 ⟨l[k], List.getElem_mem _, h2⟩
  rw [this]; simp
theorem x_IndexS (c : Nat) (cs : List Value) (p : Sh → Bool) (A : Atom) (hcal : callable Tryz.prog c = true) (l : List Sh) (hf : ∀ x ∈ l, Fn Tryz.prog c (shV x :: cs) [A] (fun v As => v = .bool (p x) ∧ As = [A]))
  (a : Option Nat) (n cap : Nat) (hl : l.length = n) (hn : n ≤ 4611686018427387904) : Fn Tryz.prog 241 [slv a n cap, fnC c cs] [ownA 132 23 a n cap (cellsS l), A]
  (fun v As => v = .int .i64 (idxS p l) ∧ As = [ownA 132 23 a n cap (cellsS l), A]) := by
 refine Fn.enter [0, 0] Tryz.func241 rfl rfl rfl fun X F hX => ?_
 refine J.r hX tk 400 (fun _ => rfl) fun b1 => ?_
 refine J.lo (α := Nat) (fun k => k ≤ n ∧ ∀ i < k, p (l.getD i Sh.zero) = false) (fun k => [⟨8, .int .i64 k, 0, .tt⟩, ⟨7, .int .i64 n, 0, .tt⟩, ⟨0, slv a n cap, 0, .tt⟩, ⟨1, fnC c cs, 0, .tt⟩]) [] (fun k => []) (fun k => n - k) (0) (⟨by omega, by omega⟩) rfl ?_ (fun _ => rfl) fun k hI => ?_
 ·rfl
 refine J.r hX tk 400 (fun _ => rfl) fun b3 => ?_
 refine J.cond rfl (fun h1 => ?_) (fun h1 => ?_)
 ·simp only [decide_eq_true_eq, Int.ofNat_lt] at h1
  cases a with
  | none =>
   refine J.know (fun h' s => (s.get (i := 1) rfl).2.1) fun hn0 => ?_
   omega
  | some g =>
   have hk : l[k]? = some (l.getD k Sh.zero) := by rw [List.getD_eq_getElem?_getD, List.getElem?_eq_getElem (by omega), Option.getD_some]
   refine J.r hX tk 400 (fun _ => rfl) fun b4 => ?_
   refine J.val hX (shV (l.getD k Sh.zero)) 0 rfl rfl (fun hg a w he hs => ?_) rfl trivial ?_
   ·exact ownN_run tk rfl rfl he rfl rfl rfl (hs.get (i := 1) rfl) (by rw [show 0 + (k : Int).toNat * 23 = k * 23 from by omega]; have := cellsS_at l [] k _ hk; rwa [List.append_nil] at this) rfl
   refine J.r hX tk 400 (fun _ => rfl) fun b5 => ?_
   refine J.call hX hcal (hf (l.getD k Sh.zero) (List.mem_of_getElem? hk)) [2] 0 rfl rfl rfl rfl (by (repeat' (first | exact Conj.nil | refine Conj.cons ?_ ?_ | omega | exact hq0 | (simpa using hq0) | (exact fun h => h) | exact rfl | (intro hq; have hq0 := hq; try simp only [Bool.and_eq_true, Bool.or_eq_true, decide_eq_true_eq, Bool.not_eq_true', decide_eq_false_iff_not] at hq) | (simp; done) | (simp; omega) | decide))) rfl rfl (fun _ => rfl) ?_
   rintro v As ⟨rfl, rfl⟩
   refine ⟨_, rfl, trivial, ?_⟩
   refine J.r hX tk 400 (fun _ => rfl) fun b6 => ?_
   refine J.cond rfl (fun h2 => ?_) (fun h2 => ?_)
   ·refine J.r hX tk 400 (fun _ => rfl) fun b7 => ?_
    refine J.rt hX tk [1, 2] rfl rfl rfl ?_
    exact ⟨by rw [idxS, idxS_step hk hI.2 h2], rfl⟩
   ·refine J.r hX tk 400 (fun _ => rfl) fun b8 => ?_
    refine J.nx (k + 1) (⟨by omega, fun i hi => by
     rcases Nat.lt_succ_iff_lt_or_eq.1 hi with h3 | h3
     ·exact hI.2 i h3
     ·rw [h3]; exact h2⟩) (by omega) (fun _ s => s)
 ·simp only [decide_eq_false_iff_not, Int.ofNat_lt] at h1
  refine J.r hX tk 400 (fun _ => rfl) fun b9 => ?_
  refine J.rt hX tk [1, 2] rfl rfl rfl ?_
  exact ⟨by rw [idxS, idxS_none (fun i hi => hI.2 i (by omega))], rfl⟩
theorem x_ContainsS (c : Nat) (cs : List Value) (p : Sh → Bool) (A : Atom) (hcal : callable Tryz.prog c = true) (l : List Sh) (hf : ∀ x ∈ l, Fn Tryz.prog c (shV x :: cs) [A] (fun v As => v = .bool (p x) ∧ As = [A]))
  (a : Option Nat) (n cap : Nat) (hl : l.length = n) (hn : n ≤ 4611686018427387904) : Fn Tryz.prog 215 [slv a n cap, fnC c cs] [ownA 132 23 a n cap (cellsS l), A]
  (fun v As => v = .bool (l.any p) ∧ As = [ownA 132 23 a n cap (cellsS l), A]) := by
 refine Fn.enter [0, 0] Tryz.func215 rfl rfl rfl fun X F hX => ?_
 refine J.r hX tk 400 (fun _ => rfl) fun b10 => ?_
 refine J.ca hX (by kernel_rfl) (x_IndexS c cs p A hcal l hf a n cap hl hn) [1, 2] 0 rfl rfl rfl rfl rfl rfl (fun _ => rfl) ?_
 rintro v As ⟨rfl, rfl⟩
 refine ⟨_, rfl, trivial, ?_⟩
 refine J.r hX tk 400 (fun _ => rfl) fun b12 => ?_
 refine J.rt hX tk [1, 2] rfl rfl rfl ?_
 exact ⟨by rw [← idxS_any], rfl⟩
theorem cellsS_one (l : List Sh) : ∀ u ∈ cellsS l, u.oneCell' = true := by
 intro u hu
 simp only [cellsS, List.mem_flatMap] at hu
 obtain ⟨s, _, hu⟩ := hu
 simp only [shL, List.mem_cons, List.not_mem_nil, or_false] at hu
 rcases hu with rfl | rfl | rfl | rfl | rfl | rfl | rfl | rfl | rfl | rfl | rfl | rfl | rfl | rfl | rfl | rfl | rfl | rfl | rfl | rfl | rfl | rfl | rfl <;> rfl
theorem x_CloneS (a : Option Nat) (n cap : Nat) (l : List Sh) (hl : l.length = n) (hn : n ≤ 1000000) : Fn Tryz.prog 217 [slv a n cap] [ownA 132 23 a n cap (cellsS l)]
  (fun v As => ∃ a' c', v = slv a' n c' ∧ As = [ownA 132 23 a n cap (cellsS l), ownA 132 23 a' n c' (cellsS l)]) := by
 refine Fn.enter [0] Tryz.func217 rfl rfl rfl fun X F hX => ?_
 cases a with
 | none =>
  refine J.know (fun h' s => (s.get (i := 1) rfl).2) fun hn0 => ?_
  obtain ⟨rfl, rfl⟩ := hn0
  have : l = [] := List.eq_nil_of_length_eq_zero hl
  subst this
  refine J.r hX tk 400 (fun _ => rfl) fun b13 => ?_
  refine J.cond rfl (fun _ => ?_) (fun h => by simp at h)
  refine J.turn1 [] rfl (As := [ownA 132 23 none 0 0 (cellsS [])]) (fun h s => Sep.one ⟨rfl, rfl, rfl⟩) rfl ?_
  refine J.r hX tk 400 (fun _ => rfl) fun b14 => ?_
  refine J.rt hX tk [1, 2] rfl rfl rfl ?_
  exact ⟨none, 0, rfl, rfl⟩
 | some g =>
  refine J.r hX tk 400 (fun _ => rfl) fun b15 => ?_
  refine J.cond rfl (fun h => by simp at h) (fun _ => ?_)
  refine J.r hX tk 5 (fun _ => rfl) fun bb => ?_
  refine J.closeOwn (e := 132) (size := 23) (n := 0) (cap := 0) (xs := []) 2 rfl rfl rfl (Nat.le_refl _) (Nat.zero_le _) rfl rfl rfl ?_
  refine J.r hX tk 400 (fun _ => rfl) fun b16 => ?_
  refine J.appendR hX tk (a := some (bb 0)) (n := 0) (cap := 0) (xs := []) (oo := 0) (Ay := ownA 132 23 (some g) n cap (cellsS l)) 2 1 0 rfl rfl rfl rfl rfl rfl rfl rfl rfl rfl (own_rd _ _ (some g) _ _ _) rfl rfl rfl rfl (cellsS_one l) ?_ ?_ (fun _ => rfl) fun a' c' => ⟨_, rfl, trivial, ?_⟩
  ·simp only [maxLen]; omega
  ·omega
  rw [Nat.zero_add n, List.nil_append]
  refine J.r hX tk 400 (fun _ => rfl) fun b17 => ?_
  refine J.rt hX tk [1, 2] rfl rfl rfl ?_
  exact ⟨a', c', rfl, rfl⟩
theorem w_Back1 (b2 : Nat) (p s : Sh) (h : s.data.length = 16) : Fn Tryz.prog 216 [shV s, .pointer (some ⟨b2, 0, none⟩)] [.pt b2 132 (shL p)] (fun v As => v = .bool (W.alien p s) ∧ As = [.pt b2 132 (shL p)]) := by
 refine Fn.enter [0, 2] Tryz.func216 rfl rfl rfl fun X F hX => ?_
 refine J.r hX tk 400 (fun _ => rfl) fun b18 => ?_
 refine J.gcase hX rfl rfl rfl trivial (fun hb => ?_) (fun hb => ?_)
 ·have hb2 : (s.kind != 1) = false := by rwa [Bool.not_eq_true'] at hb
  rw [hb2]
  refine J.r hX tk 400 (fun _ => rfl) fun b19 => ?_
  refine J.ca hX (by kernel_rfl) (h_May s h) [] 0 rfl rfl rfl rfl rfl rfl (fun _ => rfl) ?_
  rintro v As ⟨rfl, rfl⟩
  refine ⟨_, rfl, trivial, ?_⟩
  refine J.r hX tk 400 (fun _ => rfl) fun b20 => ?_
  refine J.rt hX tk [1] rfl rfl rfl ?_
  exact ⟨by simp only [W.alien]; rw [hb2], rfl⟩
 ·have hb2 : (s.kind != 1) = true := by rwa [Bool.not_eq_false'] at hb
  rw [hb2]
  refine J.r hX tk 400 (fun _ => rfl) fun b21 => ?_
  refine J.val hX (.bool false) 0 rfl rfl (fun hg a w he hw => by simp [G.on] at hg) rfl trivial ?_
  refine J.r hX tk 400 (fun _ => rfl) fun b22 => ?_
  refine J.rt hX tk [1] rfl rfl rfl ?_
  exact ⟨by simp only [W.alien]; rw [hb2]; simp, rfl⟩
theorem over_len {l : List Sh} (hd : ∀ s ∈ l, s.data.length = 16) : (W.over l).1.length = 16 := fold_len hd _ rfl
theorem w_Back (p : Sh) (hp : p.data.length = 16) (a : Option Nat) (n cap : Nat) (l : List Sh) (hl : l.length = n) (hn : n ≤ 100) (hd : ∀ s ∈ l, s.data.length = 16) : Fn Tryz.prog 195 [shV p, slv a n cap] [ownA 132 23 a n cap (cellsS l)]
  (fun v As => v = .tuple #[enV (W.back p l), .bool (W.backB p l)] ∧ As = [ownA 132 23 a n cap (cellsS l)]) := by
 have hsb := gslots_bd p.mask
 have hdp : ∀ s ∈ l ++ [p], s.data.length = 16 := fun s hs => by
  rw [List.mem_append, List.mem_singleton] at hs
  rcases hs with hs | rfl
  ·exact hd s hs
  ·exact hp
 have key : ∀ (b : Bool), W.backB p l = b → W.back p l = if b then W.backS p l else En.zero := fun b hb => by rw [W.back, hb]
 refine Fn.enter [0, 0] Tryz.func195 rfl rfl rfl fun X F hX => ?_
 refine J.r hX tk 400 (fun _ => rfl) fun bb => ?_
 refine J.ca hX (by kernel_rfl) (x_ContainsS 216 [.pointer (some ⟨bb 0, 0, none⟩)] (W.alien p) _ (by kernel_rfl) l (fun x hx => w_Back1 (bb 0) p x (hd x hx)) a n cap hl (by omega)) [1, 2] 0 rfl rfl rfl rfl rfl rfl (fun _ => rfl) ?_
 rintro v As ⟨rfl, rfl⟩
 refine ⟨_, rfl, trivial, ?_⟩
 refine J.r hX tk 400 (fun _ => rfl) fun b24 => ?_
 refine J.join (α := Unit) (fun _ => [⟨34, .bool (!W.backC p l), 0, .tt⟩, ⟨1, slv a n cap, 0, .tt⟩, ⟨5, .bool false, 0, .tt⟩, ⟨2, .pointer (some ⟨bb 0, 0, none⟩), 3, .tt⟩, ⟨4, .pointer (some ⟨bb (0 + 1), 0, none⟩), 4, .tt⟩]) (fun _ => [.hp F, ownA 132 23 a n cap (cellsS l), .pt (bb 0) 132 (shL p), .pt (bb (0 + 1)) 38 (enL En.zero)]) (fun hj => ?_) (fun _ => ?_)
 ·have hnil : ∀ b : Bool, (!W.backC p l) = b → ∀ x : Bool, b = x → (!W.backC p l) = x := fun b h x e => h.trans e
  have hC : (!W.backC p l) = ((p.kind != 2) || !S.may p || l.any (W.alien p) || ((n : Int) != G.slots p.mask - 1)) := by
   simp only [W.backC, Bool.not_and, Bool.not_not, hl, bne]
   congr 1
  refine J.gcase hX rfl rfl rfl trivial (fun hb => ?_) (fun hb => ?_)
  ·have hb2 : (p.kind != 2) = false := by rwa [Bool.not_eq_true'] at hb
   rw [hb2] at hC ⊢
   refine J.r hX tk 400 (fun _ => rfl) fun b25 => ?_
   refine J.ca hX (by kernel_rfl) (h_May p hp) [] 0 rfl rfl rfl rfl rfl rfl (fun _ => rfl) ?_
   rintro v As ⟨rfl, rfl⟩
   refine ⟨_, rfl, trivial, ?_⟩
   refine J.r hX tk 400 (fun _ => rfl) fun b26 => ?_
   refine J.gcase hX rfl rfl rfl trivial (fun hb => ?_) (fun hb => ?_)
   ·have hb3 : (false || !S.may p || l.any (W.alien p)) = false := by rwa [Bool.not_eq_true'] at hb
    rw [hb3] at hC ⊢
    refine J.r hX tk 400 (fun _ => rfl) fun b27 => ?_
    refine J.ca hX (by kernel_rfl) (g_Slots p.mask) [] 0 rfl rfl rfl rfl rfl rfl (fun _ => rfl) ?_
    rintro v As ⟨rfl, rfl⟩
    refine ⟨_, rfl, trivial, ?_⟩
    refine J.r hX tk 400 (fun _ => rfl) fun b28 => ?_
    exact J.goto [0, 1, 2, 3] (hj ()) ⟨congrArg (fun b => some (Value.bool b)) hC.symm, rfl, rfl, rfl, rfl, trivial⟩ rfl rfl
   ·have hb3 : (false || !S.may p || l.any (W.alien p)) = true := by rwa [Bool.not_eq_false'] at hb
    rw [hb3] at hC ⊢
    refine J.r hX tk 400 (fun _ => rfl) fun b29 => ?_
    refine J.val hX (.int .i64 0) 0 rfl rfl (fun hg a w he hw => by simp [G.on] at hg) rfl trivial ?_
    refine J.r hX tk 400 (fun _ => rfl) fun b30 => ?_
    exact J.goto [0, 1, 2, 3] (hj ()) ⟨congrArg (fun b => some (Value.bool b)) (show _ = !W.backC p l from by rw [hC]; rfl), rfl, rfl, rfl, rfl, trivial⟩ rfl rfl
  ·have hb2 : (p.kind != 2) = true := by rwa [Bool.not_eq_false'] at hb
   rw [hb2] at hC ⊢
   refine J.r hX tk 400 (fun _ => rfl) fun b31 => ?_
   refine J.val hX (.bool false) 0 rfl rfl (fun hg a w he hw => by simp [G.on] at hg) rfl trivial ?_
   refine J.r hX tk 400 (fun _ => rfl) fun b32 => ?_
   refine J.gcase hX rfl rfl rfl trivial (fun hb => by simp at hb) (fun hb => ?_)
   refine J.r hX tk 400 (fun _ => rfl) fun b33 => ?_
   refine J.val hX (.int .i64 0) 0 rfl rfl (fun hg a w he hw => by simp [G.on] at hg) rfl trivial ?_
   refine J.r hX tk 400 (fun _ => rfl) fun b34 => ?_
   exact J.goto [0, 1, 2, 3] (hj ()) ⟨congrArg (fun b => some (Value.bool b)) (show _ = !W.backC p l from by rw [hC]; rfl), rfl, rfl, rfl, rfl, trivial⟩ rfl rfl
 refine J.r hX tk 400 (fun _ => rfl) fun b35 => ?_
 refine J.cond rfl (fun h1 => ?_) (fun h1 => ?_)
 ·have hB : W.backB p l = false := by
   have : W.backB p l = (W.backC p l && W.ok p.block p.row p.mask (W.backS p l)) := rfl
   rw [this, show W.backC p l = false from by simpa using h1]; rfl
  refine J.r hX tk 400 (fun _ => rfl) fun b36 => ?_
  refine J.rt hX tk [1] rfl rfl rfl ?_
  exact ⟨by rw [key _ hB, hB]; rfl, rfl⟩
 have h2 : W.backC p l = true := by simpa using h1
 have hB : W.backB p l = W.ok p.block p.row p.mask (W.backS p l) := by
  have : W.backB p l = (W.backC p l && W.ok p.block p.row p.mask (W.backS p l)) := rfl
  rw [this, h2]; rfl
 refine J.r hX tk 400 (fun _ => rfl) fun b37 => ?_
 refine J.plan (.take true 0 (.take false 2 (.alt false 1 ((.alt false 3 ((.alt false 4 ((.alt false 5 ((.of [24,28,32,38,42,44])) (.alt false 9 ((.of [22,24,28,32,42,44])) .non))) (.alt false 9 ((.of [18,22,24,28,32,42,44])) .non))) (.alt false 9 ((.of [14,18,22,24,28,32,42,44])) .non))) (.alt false 3 ((.alt false 1 ((.alt false 4 ((.alt false 5 ((.of [24,28,32,38,42,44])) (.alt false 9 ((.of [22,24,28,32,42,44])) .non))) (.alt false 9 ((.of [18,22,24,28,32,42,44])) .non))) (.alt false 9 ((.of [6,18,22,24,28,32,42,44])) .non))) (.alt false 9 ((.alt false 1 ((.of [14,18,22,24,28,32,42,44])) (.alt false 3 ((.of [6,18,22,24,28,32,42,44])) .non))) .non))))) [11] [2] (by rw [hX.hP]; kernel_rfl) (by kernel_rfl) ?_
 refine J.join (α := Nat) (fun x => [⟨7, .pointer (some ⟨x, 0, none⟩), 5, .tt⟩, ⟨8, .int .u64 (W.over (l ++ [p])).2, 0, .tt⟩, ⟨2, .pointer (some ⟨bb 0, 0, none⟩), 3, .tt⟩, ⟨4, .pointer (some ⟨bb (0 + 1), 0, none⟩), 4, .tt⟩]) (fun x => [.hp F, ownA 132 23 a n cap (cellsS l), .pt (bb 0) 132 (shL p), .pt (bb (0 + 1)) 38 (enL En.zero), .pt x 36 (dataC (W.over (l ++ [p])).1)]) (fun hj => ?_) (fun x => ?_)
 ·skip
  refine J.r hX tk 2 (fun _ => rfl) fun b38 => ?_
  refine J.alts ?_ (J.alts ?_ ?_)
  ·skip
   refine J.r hX tk 400 (fun _ => rfl) fun b39 => ?_
   refine J.ca hX (by kernel_rfl) (x_CloneS a n cap l hl (by omega)) [1] 0 rfl rfl rfl rfl rfl rfl (fun _ => rfl) ?_
   rintro v As ⟨a1, c1, rfl, rfl⟩
   refine ⟨_, rfl, ⟨rfl, trivial⟩, ?_⟩
   refine J.alts ?_ ?_
   ·skip
    refine J.r hX tk 1 (fun _ => rfl) fun b3 => ?_
    refine J.alts ?_ ?_
    ·skip
     refine J.append hX tk 4 5 0 rfl rfl rfl rfl rfl rfl rfl rfl rfl rfl rfl rfl rfl rfl rfl rfl ?_ ?_ (fun _ => rfl) fun a2 c2 => ⟨_, (congrArg (fun z => lset _ 4 (ownA _ _ _ _ _ z)) (cellsS_snoc l p).symm).trans rfl, ⟨rfl, trivial⟩, ?_⟩
     ·simp only [maxLen]; omega
     ·omega
     refine J.alts ?_ ?_
     ·skip
      refine J.r hX tk 400 (fun _ => rfl) fun b40 => ?_
      refine J.ca hX (by kernel_rfl) (w_Over a2 (n + 1) c2 (l ++ [p]) (by simp [hl]) (by omega) hdp) [4] 0 rfl rfl rfl rfl rfl rfl (fun _ => rfl) ?_
      rintro v As ⟨rfl, rfl⟩
      refine ⟨_, rfl, ⟨rfl, trivial⟩, ?_⟩
      refine J.r hX tk 3 (fun _ => rfl) fun b41 => ?_
      refine J.r hX tk 1 (fun _ => rfl) fun b9 => ?_
      refine J.r hX tk 3 (fun _ => rfl) fun b42 => ?_
      exact J.goto [0, 1, 2, 3, 6] (hj (b9 0)) ⟨rfl, rfl, rfl, rfl, trivial⟩ rfl rfl
     ·skip
      refine J.r hX tk 1 (fun _ => rfl) fun b9 => ?_
      refine J.r hX tk 400 (fun _ => rfl) fun b43 => ?_
      refine J.ca hX (by kernel_rfl) (w_Over a2 (n + 1) c2 (l ++ [p]) (by simp [hl]) (by omega) hdp) [4] 0 rfl rfl rfl rfl rfl rfl (fun _ => rfl) ?_
      rintro v As ⟨rfl, rfl⟩
      refine ⟨_, rfl, ⟨rfl, trivial⟩, ?_⟩
      refine J.r hX tk 6 (fun _ => rfl) fun b44 => ?_
      exact J.goto [0, 1, 2, 3, 6] (hj (b9 0)) ⟨rfl, rfl, rfl, rfl, trivial⟩ rfl rfl
    ·skip
     refine J.r hX tk 1 (fun _ => rfl) fun b9 => ?_
     refine J.append hX tk 4 5 0 rfl rfl rfl rfl rfl rfl rfl rfl rfl rfl rfl rfl rfl rfl rfl rfl ?_ ?_ (fun _ => rfl) fun a2 c2 => ⟨_, (congrArg (fun z => lset _ 4 (ownA _ _ _ _ _ z)) (cellsS_snoc l p).symm).trans rfl, ⟨rfl, trivial⟩, ?_⟩
     ·simp only [maxLen]; omega
     ·omega
     refine J.r hX tk 400 (fun _ => rfl) fun b45 => ?_
     refine J.ca hX (by kernel_rfl) (w_Over a2 (n + 1) c2 (l ++ [p]) (by simp [hl]) (by omega) hdp) [4] 0 rfl rfl rfl rfl rfl rfl (fun _ => rfl) ?_
     rintro v As ⟨rfl, rfl⟩
     refine ⟨_, rfl, ⟨rfl, trivial⟩, ?_⟩
     refine J.r hX tk 6 (fun _ => rfl) fun b46 => ?_
     exact J.goto [0, 1, 2, 3, 6] (hj (b9 0)) ⟨rfl, rfl, rfl, rfl, trivial⟩ rfl rfl
   ·skip
    refine J.r hX tk 1 (fun _ => rfl) fun b9 => ?_
    refine J.r hX tk 1 (fun _ => rfl) fun b3 => ?_
    refine J.append hX tk 4 6 0 rfl rfl rfl rfl rfl rfl rfl rfl rfl rfl rfl rfl rfl rfl rfl rfl ?_ ?_ (fun _ => rfl) fun a2 c2 => ⟨_, (congrArg (fun z => lset _ 4 (ownA _ _ _ _ _ z)) (cellsS_snoc l p).symm).trans rfl, ⟨rfl, trivial⟩, ?_⟩
    ·simp only [maxLen]; omega
    ·omega
    refine J.r hX tk 400 (fun _ => rfl) fun b47 => ?_
    refine J.ca hX (by kernel_rfl) (w_Over a2 (n + 1) c2 (l ++ [p]) (by simp [hl]) (by omega) hdp) [4] 0 rfl rfl rfl rfl rfl rfl (fun _ => rfl) ?_
    rintro v As ⟨rfl, rfl⟩
    refine ⟨_, rfl, ⟨rfl, trivial⟩, ?_⟩
    refine J.r hX tk 6 (fun _ => rfl) fun b48 => ?_
    exact J.goto [0, 1, 2, 3, 5] (hj (b9 0)) ⟨rfl, rfl, rfl, rfl, trivial⟩ rfl rfl
  ·skip
   refine J.r hX tk 1 (fun _ => rfl) fun b3 => ?_
   refine J.alts ?_ ?_
   ·skip
    refine J.r hX tk 400 (fun _ => rfl) fun b49 => ?_
    refine J.ca hX (by kernel_rfl) (x_CloneS a n cap l hl (by omega)) [1] 0 rfl rfl rfl rfl rfl rfl (fun _ => rfl) ?_
    rintro v As ⟨a1, c1, rfl, rfl⟩
    refine ⟨_, rfl, ⟨rfl, trivial⟩, ?_⟩
    refine J.alts ?_ ?_
    ·skip
     refine J.append hX tk 5 4 0 rfl rfl rfl rfl rfl rfl rfl rfl rfl rfl rfl rfl rfl rfl rfl rfl ?_ ?_ (fun _ => rfl) fun a2 c2 => ⟨_, (congrArg (fun z => lset _ 5 (ownA _ _ _ _ _ z)) (cellsS_snoc l p).symm).trans rfl, ⟨rfl, trivial⟩, ?_⟩
     ·simp only [maxLen]; omega
     ·omega
     refine J.alts ?_ ?_
     ·skip
      refine J.r hX tk 400 (fun _ => rfl) fun b50 => ?_
      refine J.ca hX (by kernel_rfl) (w_Over a2 (n + 1) c2 (l ++ [p]) (by simp [hl]) (by omega) hdp) [5] 0 rfl rfl rfl rfl rfl rfl (fun _ => rfl) ?_
      rintro v As ⟨rfl, rfl⟩
      refine ⟨_, rfl, ⟨rfl, trivial⟩, ?_⟩
      refine J.r hX tk 3 (fun _ => rfl) fun b51 => ?_
      refine J.r hX tk 1 (fun _ => rfl) fun b9 => ?_
      refine J.r hX tk 3 (fun _ => rfl) fun b52 => ?_
      exact J.goto [0, 1, 2, 3, 6] (hj (b9 0)) ⟨rfl, rfl, rfl, rfl, trivial⟩ rfl rfl
     ·skip
      refine J.r hX tk 1 (fun _ => rfl) fun b9 => ?_
      refine J.r hX tk 400 (fun _ => rfl) fun b53 => ?_
      refine J.ca hX (by kernel_rfl) (w_Over a2 (n + 1) c2 (l ++ [p]) (by simp [hl]) (by omega) hdp) [5] 0 rfl rfl rfl rfl rfl rfl (fun _ => rfl) ?_
      rintro v As ⟨rfl, rfl⟩
      refine ⟨_, rfl, ⟨rfl, trivial⟩, ?_⟩
      refine J.r hX tk 6 (fun _ => rfl) fun b54 => ?_
      exact J.goto [0, 1, 2, 3, 6] (hj (b9 0)) ⟨rfl, rfl, rfl, rfl, trivial⟩ rfl rfl
    ·skip
     refine J.r hX tk 1 (fun _ => rfl) fun b9 => ?_
     refine J.append hX tk 5 4 0 rfl rfl rfl rfl rfl rfl rfl rfl rfl rfl rfl rfl rfl rfl rfl rfl ?_ ?_ (fun _ => rfl) fun a2 c2 => ⟨_, (congrArg (fun z => lset _ 5 (ownA _ _ _ _ _ z)) (cellsS_snoc l p).symm).trans rfl, ⟨rfl, trivial⟩, ?_⟩
     ·simp only [maxLen]; omega
     ·omega
     refine J.r hX tk 400 (fun _ => rfl) fun b55 => ?_
     refine J.ca hX (by kernel_rfl) (w_Over a2 (n + 1) c2 (l ++ [p]) (by simp [hl]) (by omega) hdp) [5] 0 rfl rfl rfl rfl rfl rfl (fun _ => rfl) ?_
     rintro v As ⟨rfl, rfl⟩
     refine ⟨_, rfl, ⟨rfl, trivial⟩, ?_⟩
     refine J.r hX tk 6 (fun _ => rfl) fun b56 => ?_
     exact J.goto [0, 1, 2, 3, 6] (hj (b9 0)) ⟨rfl, rfl, rfl, rfl, trivial⟩ rfl rfl
   ·skip
    refine J.r hX tk 1 (fun _ => rfl) fun b9 => ?_
    refine J.r hX tk 400 (fun _ => rfl) fun b57 => ?_
    refine J.ca hX (by kernel_rfl) (x_CloneS a n cap l hl (by omega)) [1] 0 rfl rfl rfl rfl rfl rfl (fun _ => rfl) ?_
    rintro v As ⟨a1, c1, rfl, rfl⟩
    refine ⟨_, rfl, ⟨rfl, trivial⟩, ?_⟩
    refine J.append hX tk 6 4 0 rfl rfl rfl rfl rfl rfl rfl rfl rfl rfl rfl rfl rfl rfl rfl rfl ?_ ?_ (fun _ => rfl) fun a2 c2 => ⟨_, (congrArg (fun z => lset _ 6 (ownA _ _ _ _ _ z)) (cellsS_snoc l p).symm).trans rfl, ⟨rfl, trivial⟩, ?_⟩
    ·simp only [maxLen]; omega
    ·omega
    refine J.r hX tk 400 (fun _ => rfl) fun b58 => ?_
    refine J.ca hX (by kernel_rfl) (w_Over a2 (n + 1) c2 (l ++ [p]) (by simp [hl]) (by omega) hdp) [6] 0 rfl rfl rfl rfl rfl rfl (fun _ => rfl) ?_
    rintro v As ⟨rfl, rfl⟩
    refine ⟨_, rfl, ⟨rfl, trivial⟩, ?_⟩
    refine J.r hX tk 6 (fun _ => rfl) fun b59 => ?_
    exact J.goto [0, 1, 2, 3, 5] (hj (b9 0)) ⟨rfl, rfl, rfl, rfl, trivial⟩ rfl rfl
  ·skip
   refine J.r hX tk 1 (fun _ => rfl) fun b9 => ?_
   refine J.alts ?_ ?_
   ·skip
    refine J.r hX tk 400 (fun _ => rfl) fun b60 => ?_
    refine J.ca hX (by kernel_rfl) (x_CloneS a n cap l hl (by omega)) [1] 0 rfl rfl rfl rfl rfl rfl (fun _ => rfl) ?_
    rintro v As ⟨a1, c1, rfl, rfl⟩
    refine ⟨_, rfl, ⟨rfl, trivial⟩, ?_⟩
    refine J.r hX tk 1 (fun _ => rfl) fun b3 => ?_
    refine J.append hX tk 5 6 0 rfl rfl rfl rfl rfl rfl rfl rfl rfl rfl rfl rfl rfl rfl rfl rfl ?_ ?_ (fun _ => rfl) fun a2 c2 => ⟨_, (congrArg (fun z => lset _ 5 (ownA _ _ _ _ _ z)) (cellsS_snoc l p).symm).trans rfl, ⟨rfl, trivial⟩, ?_⟩
    ·simp only [maxLen]; omega
    ·omega
    refine J.r hX tk 400 (fun _ => rfl) fun b61 => ?_
    refine J.ca hX (by kernel_rfl) (w_Over a2 (n + 1) c2 (l ++ [p]) (by simp [hl]) (by omega) hdp) [5] 0 rfl rfl rfl rfl rfl rfl (fun _ => rfl) ?_
    rintro v As ⟨rfl, rfl⟩
    refine ⟨_, rfl, ⟨rfl, trivial⟩, ?_⟩
    refine J.r hX tk 6 (fun _ => rfl) fun b62 => ?_
    exact J.goto [0, 1, 2, 3, 4] (hj (b9 0)) ⟨rfl, rfl, rfl, rfl, trivial⟩ rfl rfl
   ·skip
    refine J.r hX tk 1 (fun _ => rfl) fun b3 => ?_
    refine J.r hX tk 400 (fun _ => rfl) fun b63 => ?_
    refine J.ca hX (by kernel_rfl) (x_CloneS a n cap l hl (by omega)) [1] 0 rfl rfl rfl rfl rfl rfl (fun _ => rfl) ?_
    rintro v As ⟨a1, c1, rfl, rfl⟩
    refine ⟨_, rfl, ⟨rfl, trivial⟩, ?_⟩
    refine J.append hX tk 6 5 0 rfl rfl rfl rfl rfl rfl rfl rfl rfl rfl rfl rfl rfl rfl rfl rfl ?_ ?_ (fun _ => rfl) fun a2 c2 => ⟨_, (congrArg (fun z => lset _ 6 (ownA _ _ _ _ _ z)) (cellsS_snoc l p).symm).trans rfl, ⟨rfl, trivial⟩, ?_⟩
    ·simp only [maxLen]; omega
    ·omega
    refine J.r hX tk 400 (fun _ => rfl) fun b64 => ?_
    refine J.ca hX (by kernel_rfl) (w_Over a2 (n + 1) c2 (l ++ [p]) (by simp [hl]) (by omega) hdp) [6] 0 rfl rfl rfl rfl rfl rfl (fun _ => rfl) ?_
    rintro v As ⟨rfl, rfl⟩
    refine ⟨_, rfl, ⟨rfl, trivial⟩, ?_⟩
    refine J.r hX tk 6 (fun _ => rfl) fun b65 => ?_
    exact J.goto [0, 1, 2, 3, 4] (hj (b9 0)) ⟨rfl, rfl, rfl, rfl, trivial⟩ rfl rfl

 obtain ⟨mm, hm1, hm2⟩ := over_nat (l ++ [p]) (zeros16, 0) ⟨by decide, by decide⟩
 have hm1 : (W.over (l ++ [p])).2 = (mm : Int) := hm1
 have hS : W.backS p l = ⟨(mm / 1099511627776 % 65536 : Nat), (mm % 1099511627776 : Nat), (mm / 72057594037927936 : Nat), (W.over (l ++ [p])).1⟩ := by
  have hx : mm = (W.over (l ++ [p])).2.toNat := by rw [hm1]; rfl
  rw [W.backS, ← hx]
 rw [hm1]
 refine J.r hX tk 400 (fun _ => rfl) fun b66 => ?_
 refine J.ca hX (by kernel_rfl) (h_Of mm hm2) [] 0 rfl rfl rfl rfl rfl rfl (fun _ => rfl) ?_
 rintro v As ⟨rfl, rfl⟩
 refine ⟨_, rfl, trivial, ?_⟩
 refine J.r hX tk 400 (fun _ => rfl) fun b68 => ?_
 refine J.ca hX (by kernel_rfl) (w_Own p.block p.row p.mask ⟨(mm / 1099511627776 % 65536 : Nat), (mm % 1099511627776 : Nat), (mm / 72057594037927936 : Nat), (W.over (l ++ [p])).1⟩ (over_len hdp)) [] 0 rfl rfl rfl rfl rfl rfl (fun _ => rfl) ?_
 rintro v As ⟨rfl, rfl⟩
 refine ⟨_, rfl, trivial, ?_⟩
 rw [← hS, ← hB]
 refine J.r hX tk 400 (fun _ => rfl) fun b70 => ?_
 refine J.cond rfl (fun h3 => ?_) (fun h3 => ?_)
 ·simp only [Bool.not_eq_true'] at h3
  refine J.r hX tk 400 (fun _ => rfl) fun b71 => ?_
  refine J.rt hX tk [1] rfl rfl rfl ?_
  exact ⟨by rw [key _ h3, h3]; rfl, rfl⟩
 ·simp only [Bool.not_eq_false'] at h3
  refine J.r hX tk 400 (fun _ => rfl) fun b72 => ?_
  refine J.rt hX tk [1] rfl rfl rfl ?_
  exact ⟨by rw [key _ h3, h3, if_pos rfl, hS]; rfl, rfl⟩
def cellsB (l : List Bool) : List Value := l.map .bool
theorem cellsB_snoc (l : List Bool) (x : Bool) : cellsB (l ++ [x]) = cellsB l ++ [.bool x] := by simp [cellsB]
theorem cellsB_get {l : List Bool} {k : Nat} {x : Bool} (h : l[k]? = some x) : (cellsB l)[k]? = some (.bool x) := by simp [cellsB, h]
def fdL (a1 : Option Nat) (c1 : Nat) (a2 : Option Nat) (c2 n : Nat) (s : Sh) (w : Bool) : List Value := [slv a1 n c1, slv a2 n c2, byC s.data 0, byC s.data 1, byC s.data 2, byC s.data 3, byC s.data 4, byC s.data 5, byC s.data 6, byC s.data 7, byC s.data 8, byC s.data 9, byC s.data 10, byC s.data 11, byC s.data 12, byC s.data 13, byC s.data 14, byC s.data 15,
 .int .i64 s.role, .int .i64 s.lpn, .int .i64 s.seq, .int .i64 s.kind, .int .i64 s.block, .int .i64 s.row, .int .i64 s.mask, .bool w]
theorem r_entry (s : Sh) : Fn Tryz.prog 160 [shV s] [] (fun v As => v = enV s.en ∧ As = []) := by
 refine Fn.enter [0] Tryz.func160 rfl rfl rfl fun X F hX => ?_
 refine J.r hX tk 400 (fun _ => rfl) fun b1 => ?_
 refine J.rt hX tk [] rfl rfl rfl ?_
 exact ⟨rfl, rfl⟩
theorem r_look1 (p : Nat) (N : Nand) (hN : N.Ok) (hR : N.Room) (b r m d : Int) (b1 b2 b3 b4 : Nat) : Fn Tryz.prog 193 [.int .i64 d, .pointer (some ⟨b1, 0, none⟩), .pointer (some ⟨b2, 0, none⟩), .pointer (some ⟨b3, 0, none⟩), .pointer (some ⟨b4, 0, none⟩)] [NandA p N, .pt b1 27 [.pointer (some ⟨p, 0, none⟩)], .pt b2 3 [.int .i64 b], .pt b3 3 [.int .i64 r], .pt b4 3 [.int .i64 m]]
  (fun v As => v = .tuple #[shV (R.one N b r m d).1, .bool (R.one N b r m d).2] ∧ As = [NandA p N, .pt b1 27 [.pointer (some ⟨p, 0, none⟩)], .pt b2 3 [.int .i64 b], .pt b3 3 [.int .i64 r], .pt b4 3 [.int .i64 m]]) := by
 refine Fn.enter [0, 3, 4, 5, 6] Tryz.func193 rfl rfl rfl fun X F hX => ?_
 refine J.r hX tk 400 (fun _ => rfl) fun b2 => ?_
 refine J.r hX tk 400 (fun _ => rfl) fun b3 => ?_
 refine J.ca hX (by kernel_rfl) (m_Look p N hN hR d b r) [1] 0 rfl rfl rfl rfl rfl rfl (fun _ => rfl) ?_
 rintro v As ⟨rfl, rfl⟩
 refine ⟨_, rfl, trivial, ?_⟩
 refine J.r hX tk 400 (fun _ => rfl) fun b4 => ?_
 refine J.plan (.of [1,4,8,12,16,21,25,28,32,38,40]) [10] [5,7] (by rw [hX.hP]; kernel_rfl) (by kernel_rfl) ?_
 refine J.r hX tk 400 (fun _ => rfl) fun b5 => ?_
 refine J.rt hX tk [1, 2, 3, 4, 5] rfl rfl rfl ?_
 exact ⟨rfl, rfl⟩
theorem ones_succ (N : Nand) (b r m : Int) (k : Nat) : R.ones N b r m (k + 1) = R.ones N b r m k ++ [R.one N b r m (G.die m b r (k : Nat))] := by simp [R.ones, List.range_succ]
theorem r_look (p : Nat) (N : Nand) (hN : N.Ok) (hR : N.Room) (b r m : Int) : Fn Tryz.prog 159 [.pointer (some ⟨p, 0, none⟩), .int .i64 b, .int .i64 r, .int .i64 m] [NandA p N]
  (fun v As => ∃ a1 c1 a2 c2, v = .agg (fdL a1 c1 a2 c2 (G.slots m).toNat (R.look N b r m).parity (R.look N b r m).whole).toArray ∧ As = [NandA p N, ownA 132 23 a1 (G.slots m).toNat c1 (cellsS (R.look N b r m).slots), ownA 4 1 a2 (G.slots m).toNat c2 (cellsB (R.look N b r m).good)]) := by
 have hsb := gslots_bd m
 obtain ⟨P, hP⟩ : ∃ P, R.one N b r m (G.parity m b r) = P := ⟨_, rfl⟩
 refine Fn.enter [2, 0, 0, 0] Tryz.func159 rfl rfl rfl fun X F hX => ?_
 refine J.r hX tk 400 (fun _ => rfl) fun bb => ?_
 refine J.ca hX (by kernel_rfl) (g_Parity m b r) [] 0 rfl rfl rfl rfl rfl rfl (fun _ => rfl) ?_
 rintro v As ⟨rfl, rfl⟩
 refine ⟨_, rfl, trivial, ?_⟩
 refine J.r hX tk 400 (fun _ => rfl) fun b8 => ?_
 refine J.ca hX (by kernel_rfl) (r_look1 p N hN hR b r m (G.parity m b r) (bb 0) (bb 1) (bb 2) (bb 3)) [1, 2, 3, 4, 5] 0 rfl rfl rfl rfl rfl rfl (fun _ => rfl) ?_
 rintro v As ⟨rfl, rfl⟩
 refine ⟨_, rfl, trivial, ?_⟩
 rw [hP]
 refine J.r hX tk 400 (fun _ => rfl) fun b10 => ?_
 refine J.ca hX (by kernel_rfl) (g_Slots m) [] 0 rfl rfl rfl rfl rfl rfl (fun _ => rfl) ?_
 rintro v As ⟨rfl, rfl⟩
 refine ⟨_, rfl, trivial, ?_⟩
 refine J.turn1 [] rfl (As := [ownA 132 23 none 0 0 (cellsS []), ownA 4 1 none 0 0 (cellsB [])]) (fun h s => ⟨fun _ => 0, fun i A hA => by
  match i, hA with
  | 0, hA => simp at hA; subst hA; exact ⟨rfl, rfl, rfl⟩
  | 1, hA => simp at hA; subst hA; exact ⟨rfl, rfl, rfl⟩
  | k + 2, hA => simp at hA⟩) rfl ?_
 refine J.r hX tk 400 (fun _ => rfl) fun b12 => ?_
 refine J.lo (α := (Nat × Option Nat × Nat × Option Nat × Nat)) (fun z => z.1 ≤ (G.slots m).toNat) (fun z => [⟨28, .int .i64 z.1, 0, .tt⟩, ⟨27, .int .i64 (G.slots m), 0, .tt⟩, ⟨9, fnC 193 [.pointer (some ⟨bb 0, 0, none⟩), .pointer (some ⟨bb 1, 0, none⟩), .pointer (some ⟨bb 2, 0, none⟩), .pointer (some ⟨bb 3, 0, none⟩)], 0, .tt⟩, ⟨4, .pointer (some ⟨bb 0, 0, none⟩), 3, .tt⟩, ⟨5, .pointer (some ⟨bb 1, 0, none⟩), 4, .tt⟩, ⟨6, .pointer (some ⟨bb 2, 0, none⟩), 5, .tt⟩, ⟨7, .pointer (some ⟨bb 3, 0, none⟩), 6, .tt⟩, ⟨8, .pointer (some ⟨bb 4, 0, none⟩), 7, .tt⟩, ⟨10, .pointer (some ⟨bb 5, 0, none⟩), 8, .tt⟩]) [7, 8, 9] (fun z => [.pt (bb 5) 208 (fdL z.2.1 z.2.2.1 z.2.2.2.1 z.2.2.2.2 z.1 P.1 P.2), ownA 132 23 z.2.1 z.1 z.2.2.1 (cellsS ((R.ones N b r m z.1).map (·.1))), ownA 4 1 z.2.2.2.1 z.1 z.2.2.2.2 (cellsB ((R.ones N b r m z.1).map (·.2)))]) (fun z => (G.slots m).toNat - z.1) ((0, none, 0, none, 0)) (Nat.zero_le _) rfl ?_ (fun _ => rfl) fun z hI => ?_
 ·rfl
 obtain ⟨k, a1, c1, a2, c2⟩ := z
 dsimp only at hI ⊢
 refine J.r hX tk 400 (fun _ => rfl) fun b14 => ?_
 refine J.cond rfl (fun h1 => ?_) (fun h1 => ?_)
 ·simp only [decide_eq_true_eq] at h1
  have hS1 : cellsS ((R.ones N b r m k).map (·.1)) ++ shL (R.one N b r m (G.die m b r k)).1 = cellsS ((R.ones N b r m (k + 1)).map (·.1)) := by rw [ones_succ, List.map_append, ← cellsS_snoc]; rfl
  have hS2 : cellsB ((R.ones N b r m k).map (·.2)) ++ [.bool (R.one N b r m (G.die m b r k)).2] = cellsB ((R.ones N b r m (k + 1)).map (·.2)) := by rw [ones_succ, List.map_append, ← cellsB_snoc]; rfl
  refine J.r hX tk 400 (fun _ => rfl) fun b15 => ?_
  refine J.ca hX (by kernel_rfl) (g_Die m b r k (by omega) (by omega)) [] 0 rfl rfl rfl rfl rfl rfl (fun _ => rfl) ?_
  rintro v As ⟨rfl, rfl⟩
  refine ⟨_, rfl, trivial, ?_⟩
  refine J.r hX tk 400 (fun _ => rfl) fun b17 => ?_
  refine J.ca hX (by kernel_rfl) (r_look1 p N hN hR b r m (G.die m b r k) (bb 0) (bb 1) (bb 2) (bb 3)) [1, 2, 3, 4, 5] 0 rfl rfl rfl rfl rfl rfl (fun _ => rfl) ?_
  rintro v As ⟨rfl, rfl⟩
  refine ⟨_, rfl, trivial, ?_⟩
  refine J.r hX tk 400 (fun _ => rfl) fun b19 => ?_
  refine J.plan (.take true 0 (.take false 1 (.take false 2 (.take true 5 (.take false 6 (.take true 7 (.alt false 3 ((.alt false 4 ((.of [40,34,38,47,48,55])) (.alt false 8 ((.of [18,40,38,47,48,55])) .non))) (.alt false 8 ((.of [14,18,40,38,47,48,55])) .non)))))))) [11,12,13] [7, 10] (by rw [hX.hP]; kernel_rfl) (by kernel_rfl) ?_
  refine J.join (α := Option Nat × Nat × Option Nat × Nat) (fun x => [⟨28, .int .i64 k, 0, .tt⟩, ⟨27, .int .i64 (G.slots m), 0, .tt⟩, ⟨9, fnC 193 [.pointer (some ⟨bb 0, 0, none⟩), .pointer (some ⟨bb 1, 0, none⟩), .pointer (some ⟨bb 2, 0, none⟩), .pointer (some ⟨bb 3, 0, none⟩)], 0, .tt⟩, ⟨4, .pointer (some ⟨bb 0, 0, none⟩), 3, .tt⟩, ⟨5, .pointer (some ⟨bb 1, 0, none⟩), 4, .tt⟩, ⟨6, .pointer (some ⟨bb 2, 0, none⟩), 5, .tt⟩, ⟨7, .pointer (some ⟨bb 3, 0, none⟩), 6, .tt⟩, ⟨8, .pointer (some ⟨bb 4, 0, none⟩), 7, .tt⟩, ⟨10, .pointer (some ⟨bb 5, 0, none⟩), 8, .tt⟩]) (fun x => [.hp F, NandA p N, .pt (bb 0) 27 [.pointer (some ⟨p, 0, none⟩)], .pt (bb 1) 3 [.int .i64 b], .pt (bb 2) 3 [.int .i64 r], .pt (bb 3) 3 [.int .i64 m], .pt (bb 4) 208 (fdL none 0 none 0 0 Sh.zero false), .pt (bb 5) 208 (fdL x.1 x.2.1 x.2.2.1 x.2.2.2 (k + 1) P.1 P.2), ownA 132 23 x.1 (k + 1) x.2.1 (cellsS ((R.ones N b r m (k + 1)).map (·.1))), ownA 4 1 x.2.2.1 (k + 1) x.2.2.2 (cellsB ((R.ones N b r m (k + 1)).map (·.2)))]) (fun hj => ?_) (fun x => ?_)
  ·skip
   refine J.r hX tk 6 (fun _ => rfl) fun b20 => ?_
   refine J.alts ?_ ?_
   ·skip
    refine J.r hX tk 1 (fun _ => rfl) fun b3 => ?_
    refine J.alts ?_ ?_
    ·skip
     refine J.append hX tk 8 11 0 rfl rfl rfl rfl rfl rfl rfl rfl rfl rfl rfl rfl rfl rfl rfl rfl ?_ ?_ (fun _ => rfl) fun a3 c3 => ⟨_, (congrArg (fun z => lset _ 8 (ownA _ _ _ _ _ z)) hS1).trans rfl, ⟨rfl, rfl, trivial⟩, ?_⟩
     ·simp only [maxLen]; omega
     ·omega
     refine J.r hX tk 1 (fun _ => rfl) fun b21 => ?_
     refine J.r hX tk 1 (fun _ => rfl) fun b8 => ?_
     refine J.append hX tk 9 12 0 rfl rfl rfl rfl rfl rfl rfl rfl rfl rfl rfl rfl rfl rfl rfl rfl ?_ ?_ (fun _ => rfl) fun a4 c4 => ⟨_, (congrArg (fun z => lset _ 9 (ownA _ _ _ _ _ z)) hS2).trans rfl, ⟨rfl, rfl, trivial⟩, ?_⟩
     ·simp only [maxLen]; omega
     ·omega
     refine J.r hX tk 4 (fun _ => rfl) fun b22 => ?_
     exact J.goto [0, 1, 2, 3, 4, 5, 6, 7, 8, 9] (hj (a3, c3, a4, c4)) ⟨rfl, rfl, rfl, rfl, rfl, rfl, rfl, rfl, rfl, trivial⟩ rfl rfl
    ·skip
     refine J.r hX tk 1 (fun _ => rfl) fun b8 => ?_
     refine J.append hX tk 8 11 0 rfl rfl rfl rfl rfl rfl rfl rfl rfl rfl rfl rfl rfl rfl rfl rfl ?_ ?_ (fun _ => rfl) fun a3 c3 => ⟨_, (congrArg (fun z => lset _ 8 (ownA _ _ _ _ _ z)) hS1).trans rfl, ⟨rfl, rfl, trivial⟩, ?_⟩
     ·simp only [maxLen]; omega
     ·omega
     refine J.r hX tk 1 (fun _ => rfl) fun b23 => ?_
     refine J.append hX tk 9 12 0 rfl rfl rfl rfl rfl rfl rfl rfl rfl rfl rfl rfl rfl rfl rfl rfl ?_ ?_ (fun _ => rfl) fun a4 c4 => ⟨_, (congrArg (fun z => lset _ 9 (ownA _ _ _ _ _ z)) hS2).trans rfl, ⟨rfl, rfl, trivial⟩, ?_⟩
     ·simp only [maxLen]; omega
     ·omega
     refine J.r hX tk 4 (fun _ => rfl) fun b24 => ?_
     exact J.goto [0, 1, 2, 3, 4, 5, 6, 7, 8, 9] (hj (a3, c3, a4, c4)) ⟨rfl, rfl, rfl, rfl, rfl, rfl, rfl, rfl, rfl, trivial⟩ rfl rfl
   ·skip
    refine J.r hX tk 1 (fun _ => rfl) fun b8 => ?_
    refine J.r hX tk 1 (fun _ => rfl) fun b3 => ?_
    refine J.append hX tk 8 12 0 rfl rfl rfl rfl rfl rfl rfl rfl rfl rfl rfl rfl rfl rfl rfl rfl ?_ ?_ (fun _ => rfl) fun a3 c3 => ⟨_, (congrArg (fun z => lset _ 8 (ownA _ _ _ _ _ z)) hS1).trans rfl, ⟨rfl, rfl, trivial⟩, ?_⟩
    ·simp only [maxLen]; omega
    ·omega
    refine J.r hX tk 1 (fun _ => rfl) fun b25 => ?_
    refine J.append hX tk 9 11 0 rfl rfl rfl rfl rfl rfl rfl rfl rfl rfl rfl rfl rfl rfl rfl rfl ?_ ?_ (fun _ => rfl) fun a4 c4 => ⟨_, (congrArg (fun z => lset _ 9 (ownA _ _ _ _ _ z)) hS2).trans rfl, ⟨rfl, rfl, trivial⟩, ?_⟩
    ·simp only [maxLen]; omega
    ·omega
    refine J.r hX tk 4 (fun _ => rfl) fun b26 => ?_
    exact J.goto [0, 1, 2, 3, 4, 5, 6, 7, 8, 9] (hj (a3, c3, a4, c4)) ⟨rfl, rfl, rfl, rfl, rfl, rfl, rfl, rfl, rfl, trivial⟩ rfl rfl
  obtain ⟨a3, c3, a4, c4⟩ := x
  dsimp only
  refine J.r hX tk 400 (fun _ => rfl) fun b27 => ?_
  refine J.nS ((k + 1, a3, c3, a4, c4)) (by dsimp only; omega) (by dsimp only; omega) [0, 1, 2, 3, 4, 5, 6, 7, 8, 9] rfl rfl
 ·simp only [decide_eq_false_iff_not] at h1
  have hk : k = (G.slots m).toNat := by omega
  subst hk
  refine J.r hX tk 400 (fun _ => rfl) fun b29 => ?_
  refine J.rt hX tk [1, 8, 9] rfl rfl rfl ?_
  refine ⟨a1, c1, a2, c2, ?_, rfl⟩
  rw [show (R.look N b r m).parity = P.1 from congrArg Prod.fst hP, show (R.look N b r m).whole = P.2 from congrArg Prod.snd hP]
  rfl
def othN (l : List Sh) (k i : Nat) : List Sh := (l.take i).eraseIdx k
theorem othN_eq (l : List Sh) (i : Nat) (h : i < l.length) : othN l i (i + 1) = othN l i i := by
 unfold othN
 have hl : (l.take i).length = i := by rw [List.length_take]; omega
 rw [List.eraseIdx_of_length_le (l := l.take i) (by omega), List.take_add_one, List.getElem?_eq_getElem h, Option.toList_some]
 rw [List.eraseIdx_append_of_length_le (by omega), hl, Nat.sub_self]
 simp
theorem othN_ne (l : List Sh) (k i : Nat) (x : Sh) (h : l[i]? = some x) (hk : i ≠ k) : othN l k (i + 1) = othN l k i ++ [x] := by
 unfold othN
 rw [List.take_add_one, h, Option.toList_some]
 have hi := (List.getElem?_eq_some_iff.1 h).1
 have hl : (l.take i).length = i := by rw [List.length_take]; omega
 by_cases hlt : k < i
 ·rw [List.eraseIdx_append_of_lt_length (by omega)]
 ·rw [List.eraseIdx_of_length_le (l := l.take i ++ [x]) (by rw [List.length_append, List.length_singleton]; omega), List.eraseIdx_of_length_le (by omega)]
theorem othN_len (l : List Sh) (k i : Nat) : (othN l k i).length ≤ l.length := by
 unfold othN
 refine Nat.le_trans (List.length_eraseIdx_le _ _) ?_
 rw [List.length_take]; omega
theorem othN_mem {l : List Sh} {k i : Nat} {x : Sh} (h : x ∈ othN l k i) : x ∈ l := List.mem_of_mem_take (List.mem_of_mem_eraseIdx h)
theorem r_mended (f : Fd) (n : Nat) (hn : n ≤ 8) (h1l : f.slots.length = n) (h2l : f.good.length = n) (hd : ∀ s ∈ f.slots, s.data.length = 16) (hp : f.parity.data.length = 16) (a1 a2 : Option Nat) (c1 c2 k : Nat) : Fn Tryz.prog 161 [.agg (fdL a1 c1 a2 c2 n f.parity f.whole).toArray, .int .i64 k] [ownA 132 23 a1 n c1 (cellsS f.slots), ownA 4 1 a2 n c2 (cellsB f.good)]
  (fun v As => v = .tuple #[enV (R.mend f k), .bool (R.mendB f k)] ∧ As = [ownA 132 23 a1 n c1 (cellsS f.slots), ownA 4 1 a2 n c2 (cellsB f.good)]) := by
 refine Fn.enter [0, 0] Tryz.func161 rfl rfl rfl fun X F hX => ?_
 refine J.r hX tk 400 (fun _ => rfl) fun bb => ?_
 refine J.turn1 [] rfl (As := [ownA 132 23 none 0 0 (cellsS (othN f.slots k 0))]) (fun h s => Sep.one ⟨rfl, rfl, rfl⟩) rfl ?_
 refine J.r hX tk 400 (fun _ => rfl) fun b1 => ?_
 refine J.lo (α := (Nat × Option Nat × Nat)) (fun z => z.1 ≤ n ∧ ∀ j < z.1, j = k ∨ f.good.getD j false = true) (fun z => [⟨12, .int .i64 z.1, 0, .tt⟩, ⟨11, .int .i64 n, 0, .tt⟩, ⟨10, slv a1 n c1, 0, .tt⟩, ⟨1, .int .i64 k, 0, .tt⟩, ⟨2, .pointer (some ⟨bb 0, 0, none⟩), 4, .tt⟩, ⟨4, .pointer (some ⟨bb 1, 0, none⟩), 5, .tt⟩, ⟨5, .bool false, 0, .tt⟩, ⟨6, slv z.2.1 (othN f.slots k z.1).length z.2.2, 0, .tt⟩]) [5] (fun z => [ownA 132 23 z.2.1 (othN f.slots k z.1).length z.2.2 (cellsS (othN f.slots k z.1))]) (fun z => n - z.1) ((0, none, 0)) (⟨Nat.zero_le _, by omega⟩) rfl ?_ (fun _ => rfl) fun z hI => ?_
 ·rfl
 obtain ⟨i, a3, c3⟩ := z
 dsimp only at hI ⊢
 have hol := othN_len f.slots k i
 refine J.r hX tk 400 (fun _ => rfl) fun b3 => ?_
 refine J.cond rfl (fun h1 => ?_) (fun h1 => ?_)
 ·simp only [decide_eq_true_eq, Int.ofNat_lt] at h1
  refine J.know (fun h' s => own_some (c := (a1, c1)) (by omega) (s.get (i := 1) rfl)) fun hg => ?_
  obtain ⟨g1, rfl⟩ := hg
  refine J.know (fun h' s => own_some (c := (a2, c2)) (by omega) (s.get (i := 2) rfl)) fun hg => ?_
  obtain ⟨g2, rfl⟩ := hg
  obtain ⟨s, hs⟩ : ∃ s, f.slots[i]? = some s := ⟨_, List.getElem?_eq_getElem (by omega)⟩
  have hgd : f.good[i]? = some (f.good.getD i false) := by rw [List.getD_eq_getElem?_getD, List.getElem?_eq_getElem (by omega), Option.getD_some]
  refine J.r hX tk 400 (fun _ => rfl) fun b4 => ?_
  refine J.val hX (shV s) 0 rfl rfl (fun hg a w he hw => ?_) rfl trivial ?_
  ·exact ownN_run tk rfl rfl he rfl rfl rfl (hw.get (i := 1) rfl) (by rw [show 0 + (i : Int).toNat * 23 = i * 23 from by omega]; exact cellsS_get hs) rfl
  refine J.r hX tk 400 (fun _ => rfl) fun b5 => ?_
  refine J.cond rfl (fun h2 => ?_) (fun h2 => ?_)
  ·simp only [beq_iff_eq, Int.natCast_inj] at h2
   subst h2
   rw [← othN_eq f.slots i (by omega)]
   refine J.r hX tk 400 (fun _ => rfl) fun b6 => ?_
   refine J.nS ((i + 1, a3, c3)) (⟨by dsimp only; omega, fun j hj => by
    rcases Nat.lt_succ_iff_lt_or_eq.1 hj with h | h
    ·exact hI.2 j h
    ·exact .inl h⟩) (by dsimp only; omega) [0, 1, 2, 3, 4, 5] rfl rfl
  simp only [beq_eq_false_iff_ne, ne_eq, Int.natCast_inj] at h2
  refine J.r hX tk 400 (fun _ => rfl) fun b8 => ?_
  refine J.val hX (.bool (f.good.getD i false)) 0 rfl rfl (fun hg a w he hw => ?_) rfl trivial ?_
  ·exact own1_run tk rfl rfl he rfl rfl rfl (hw.get (i := 2) rfl) (by rw [show 0 + (i : Int).toNat * 1 = i from by omega]; exact cellsB_get hgd)
  refine J.r hX tk 400 (fun _ => rfl) fun b9 => ?_
  refine J.cond rfl (fun h3 => ?_) (fun h3 => ?_)
  ·simp only [Bool.not_eq_true'] at h3
   refine J.r hX tk 400 (fun _ => rfl) fun b10 => ?_
   refine J.rt hX tk [1, 2] rfl rfl rfl ?_
   have hr : R.rest f k = false := by
    unfold R.rest
    rw [List.all_eq_false]
    exact ⟨i, by rw [List.mem_range]; omega, by rw [h3]; simpa using h2⟩
   simp only [R.mend, R.mendB, hr, Bool.false_and]
   exact ⟨rfl, rfl⟩
  ·simp only [Bool.not_eq_false'] at h3
   have hsn := othN_ne f.slots k i s hs h2
   have hsl : (othN f.slots k i).length + 1 = (othN f.slots k (i + 1)).length := by rw [hsn]; simp
   refine J.r hX tk 400 (fun _ => rfl) fun b11 => ?_
   refine J.append hX tk 5 7 0 rfl rfl rfl rfl rfl rfl rfl rfl rfl rfl rfl rfl rfl rfl rfl rfl ?_ ?_ (fun _ => rfl) fun a4 c4 => ⟨_, (congrArg (fun z => lset _ 5 (ownA _ _ _ _ _ z)) ((cellsS_snoc _ s).symm.trans (congrArg cellsS hsn.symm))).trans rfl, trivial, ?_⟩
   ·simp only [maxLen]; omega
   ·omega
   rw [hsl]
   refine J.r hX tk 400 (fun _ => rfl) fun b12 => ?_
   refine J.nS ((i + 1, a4, c4)) (⟨by dsimp only; omega, fun j hj => by
    rcases Nat.lt_succ_iff_lt_or_eq.1 hj with h | h
    ·exact hI.2 j h
    ·exact .inr (h ▸ h3)⟩) (by dsimp only; omega) [0, 1, 2, 3, 4, 5] rfl rfl
 ·simp only [decide_eq_false_iff_not, Int.ofNat_lt] at h1
  obtain rfl : i = n := by omega
  have hr : R.rest f k = true := by
   unfold R.rest
   rw [List.all_eq_true]
   intro j hj
   rcases hI.2 j (by simp at hj; omega) with h | h
   ·simp [h]
   ·rw [h]; simp
  have ho : othN f.slots k i = f.slots.eraseIdx k := by unfold othN; rw [List.take_of_length_le (by omega)]
  refine J.r hX tk 400 (fun _ => rfl) fun b14 => ?_
  refine J.cond rfl (fun h4 => ?_) (fun h4 => ?_)
  ·simp only [Bool.not_eq_true'] at h4
   refine J.r hX tk 400 (fun _ => rfl) fun b15 => ?_
   refine J.rt hX tk [1, 2] rfl rfl rfl ?_
   simp only [R.mend, R.mendB, h4, Bool.and_false, Bool.false_and]
   exact ⟨rfl, rfl⟩
  ·simp only [Bool.not_eq_false'] at h4
   refine J.r hX tk 400 (fun _ => rfl) fun b16 => ?_
   refine J.ca hX (by kernel_rfl) (w_Back f.parity hp a3 (othN f.slots k i).length c3 (othN f.slots k i) rfl (by omega) (fun s hs => hd s (othN_mem hs))) [5] 0 rfl rfl rfl rfl rfl rfl (fun _ => rfl) ?_
   rintro v As ⟨rfl, rfl⟩
   refine ⟨_, rfl, trivial, ?_⟩
   refine J.r hX tk 400 (fun _ => rfl) fun b18 => ?_
   refine J.rt hX tk [1, 2] rfl rfl rfl ?_
   simp only [R.mend, R.mendB, hr, h4, Bool.and_self, Bool.true_and, if_true, ← ho]
   exact ⟨rfl, rfl⟩
theorem without_count : ∀ m, m < 256 → ∀ k, k < 8 → 0 ≤ L.at_ (m : Nat) (k : Nat) → L.count (L.without (m : Nat) (L.at_ (m : Nat) (k : Nat))) = L.count (m : Nat) - 1 := by decide +kernel
theorem die_lt {m b r s : Int} (h : 0 ≤ G.die m b r s) : 0 ≤ s ∧ s < G.slots m := by
 unfold G.die at h
 split at h
 ·omega
 ·rename_i hp
  have hp0 : 0 ≤ G.parity m b r := by omega
  have hs : 0 ≤ s ∧ s < (L.count (L.without m (G.parity m b r)) : Int) := by
   by_cases hh : s < 0 ∨ (L.count (L.without m (G.parity m b r)) : Int) ≤ s
   ·rw [L.at_ge _ _ hh] at h; omega
   ·omega
  unfold G.parity at hp0 hs
  split at hp0
  ·omega
  ·rename_i hc
   rw [if_neg hc] at hs
   have hm : 0 ≤ m ∧ m < 256 := by
    by_cases hh : 0 ≤ m ∧ m < 256
    ·exact hh
    ·have := L.count_no m hh; omega
   obtain ⟨M, rfl⟩ := Int.eq_ofNat_of_zero_le hm.1
   have hcl := L.count_le (M : Int)
   have hq : 0 ≤ (b + r) % (L.count (M : Int) : Int) ∧ (b + r) % (L.count (M : Int) : Int) < L.count (M : Int) := ⟨Int.emod_nonneg _ (by omega), Int.emod_lt_of_pos _ (by omega)⟩
   obtain ⟨q, hq2⟩ := Int.eq_ofNat_of_zero_le hq.1
   rw [hq2] at hs hp0 hq
   rw [without_count M (by omega) q (by omega) hp0] at hs
   unfold G.slots
   rw [if_neg (by omega)]
   omega
theorem look_data {N : Nand} (hN : N.Ok) (b r m : Int) : (∀ s ∈ (R.look N b r m).slots, s.data.length = 16) ∧ (R.look N b r m).parity.data.length = 16 := by
 refine ⟨fun s hs => ?_, mlook_len hN _ _ _⟩
 simp only [R.look, R.ones, List.map_map, List.mem_map] at hs
 obtain ⟨k, _, rfl⟩ := hs
 exact mlook_len hN _ _ _
theorem r_Read (p : Nat) (N : Nand) (hN : N.Ok) (hR : N.Room) (b r s m : Int) (h0 : -1000000 ≤ s) (h1 : s ≤ 1000000) : Fn Tryz.prog 120 [.pointer (some ⟨p, 0, none⟩), .agg #[.int .i64 b, .int .i64 r, .int .i64 s], .int .i64 m] [NandA p N]
  (fun v As => v = .tuple #[enV (R.read N b r s m).1, .int .i64 (R.read N b r s m).2] ∧ As = [NandA p N]) := by
 have hbd := hN.bd
 refine Fn.enter [2, 0, 0] Tryz.func120 rfl rfl rfl fun X F hX => ?_
 refine J.r hX tk 400 (fun _ => rfl) fun bb => ?_
 refine J.join (α := Unit) (fun _ => [⟨30, .bool (decide (G.die m b r s < 0) || !geoIn N.dies N.blocks N.pages 0 b r), 0, .tt⟩, ⟨0, .pointer (some ⟨p, 0, none⟩), 2, .tt⟩, ⟨2, .int .i64 m, 0, .tt⟩, ⟨4, .pointer (some ⟨bb 0, 0, none⟩), 3, .tt⟩, ⟨6, .pointer (some ⟨bb 1, 0, none⟩), 4, .tt⟩]) (fun _ => [.hp F, NandA p N, .pt (bb 0) 44 [.int .i64 b, .int .i64 r, .int .i64 s], .pt (bb 1) 38 (enL En.zero)]) (fun hj => ?_) (fun _ => ?_)
 ·refine J.r hX tk 400 (fun _ => rfl) fun b1 => ?_
  refine J.plan (.of [0,4,9,12,17,20,25,30,32,36,40,48,53,56,61,64,46,70,72,76]) [] [2] (by rw [hX.hP]; kernel_rfl) (by kernel_rfl) ?_
  refine J.r hX tk 400 (fun _ => rfl) fun b2 => ?_
  refine J.ca hX (by kernel_rfl) (g_Die m b r s h0 h1) [] 0 rfl rfl rfl rfl rfl rfl (fun _ => rfl) ?_
  rintro v As ⟨rfl, rfl⟩
  refine ⟨_, rfl, ⟨rfl, trivial⟩, ?_⟩
  refine J.r hX tk 400 (fun _ => rfl) fun b4 => ?_
  refine J.gcase hX rfl rfl rfl ⟨rfl, trivial⟩ (fun hb => ?_) (fun hb => ?_)
  ·have hb2 : decide (G.die m b r s < 0) = false := by rwa [Bool.not_eq_true'] at hb
   rw [hb2] at hj ⊢
   refine J.r hX tk 400 (fun _ => rfl) fun b5 => ?_
   refine J.ca hX (by kernel_rfl) (n_Geo p N) [1] 0 rfl rfl rfl rfl rfl rfl (fun _ => rfl) ?_
   rintro v As ⟨rfl, rfl⟩
   refine ⟨_, rfl, ⟨rfl, trivial⟩, ?_⟩
   refine J.r hX tk 400 (fun _ => rfl) fun b6 => ?_
   refine J.ca hX (by kernel_rfl) (f_In N.dies N.blocks N.pages 0 b r (by omega) (by omega) (by omega)) [] 0 rfl rfl rfl rfl rfl rfl (fun _ => rfl) ?_
   rintro v As ⟨rfl, rfl⟩
   refine ⟨_, rfl, ⟨rfl, trivial⟩, ?_⟩
   refine J.r hX tk 400 (fun _ => rfl) fun b8 => ?_
   exact J.goto [0, 1, 2, 3] (hj ()) ⟨rfl, rfl, rfl, rfl, rfl, trivial⟩ rfl rfl
  ·have hb2 : decide (G.die m b r s < 0) = true := by rwa [Bool.not_eq_false'] at hb
   rw [hb2] at hj ⊢
   refine J.r hX tk 400 (fun _ => rfl) fun b9 => ?_
   refine J.gcase hX rfl rfl rfl ⟨rfl, trivial⟩ (fun hb => by simp at hb) (fun hb => ?_)
   refine J.r hX tk 400 (fun _ => rfl) fun b10 => ?_
   refine J.valT hX (.bool false) 0 rfl rfl (fun hg a w he hw => by simp [G.on] at hg) rfl ?_
   refine J.r hX tk 400 (fun _ => rfl) fun b11 => ?_
   exact J.goto [0, 1, 2, 3] (hj ()) ⟨rfl, rfl, rfl, rfl, rfl, trivial⟩ rfl rfl
 refine J.r hX tk 400 (fun _ => rfl) fun b12 => ?_
 refine J.cond rfl (fun h2 => ?_) (fun h2 => ?_)
 ·refine J.r hX tk 400 (fun _ => rfl) fun b13 => ?_
  refine J.rt hX tk [1] rfl rfl rfl ?_
  have : G.die m b r s < 0 ∨ geoIn N.dies N.blocks N.pages 0 b r = false := by simpa using h2
  rw [R.read, if_pos this]
  exact ⟨rfl, rfl⟩
 have hc : ¬(G.die m b r s < 0 ∨ geoIn N.dies N.blocks N.pages 0 b r = false) := by simpa using h2
 have hd := die_lt (m := m) (b := b) (r := r) (s := s) (by omega)
 have hsb := gslots_bd m
 refine J.r hX tk 400 (fun _ => rfl) fun b14 => ?_
 refine J.ca hX (by kernel_rfl) (n_Power p N) [1] 0 rfl rfl rfl rfl rfl rfl (fun _ => rfl) ?_
 rintro v As ⟨rfl, rfl⟩
 refine ⟨_, rfl, trivial, ?_⟩
 refine J.r hX tk 400 (fun _ => rfl) fun b16 => ?_
 refine J.cond rfl (fun h3 => ?_) (fun h3 => ?_)
 ·refine J.r hX tk 400 (fun _ => rfl) fun b17 => ?_
  refine J.rt hX tk [1] rfl rfl rfl ?_
  have : N.off = true := by simpa using h3
  rw [R.read, if_neg hc, if_pos this]
  exact ⟨rfl, rfl⟩
 have hoff : ¬N.off = true := by simpa using h3
 obtain ⟨k, rfl⟩ := Int.eq_ofNat_of_zero_le hd.1
 have hlen := look_len N b r m
 have hdat := look_data hN b r m
 have hkn : k < (G.slots m).toNat := by omega
 refine J.r hX tk 400 (fun _ => rfl) fun b18 => ?_
 refine J.ca hX (by kernel_rfl) (r_look p N hN hR b r m) [1] 0 rfl rfl rfl rfl rfl rfl (fun _ => rfl) ?_
 rintro v As ⟨a1, c1, a2, c2, rfl, rfl⟩
 refine ⟨_, rfl, trivial, ?_⟩
 refine J.know (fun h' s => own_some (c := (a1, c1)) (by omega) (s.get (i := 4) rfl)) fun hg => ?_
 obtain ⟨g1, rfl⟩ := hg
 refine J.know (fun h' s => own_some (c := (a2, c2)) (by omega) (s.get (i := 5) rfl)) fun hg => ?_
 obtain ⟨g2, rfl⟩ := hg
 have hgd : (R.look N b r m).good[k]? = some ((R.look N b r m).good.getD k false) := by rw [List.getD_eq_getElem?_getD, List.getElem?_eq_getElem (by omega), Option.getD_some]
 have hsd : (R.look N b r m).slots[k]? = some ((R.look N b r m).slots.getD k Sh.zero) := by rw [List.getD_eq_getElem?_getD, List.getElem?_eq_getElem (by omega), Option.getD_some]
 have hr : R.read N b r k m = if (R.look N b r m).good.getD k false then (((R.look N b r m).slots.getD k Sh.zero).en, 0) else if R.mendB (R.look N b r m) k then (R.mend (R.look N b r m) k, 0) else (En.zero, 10) := by
  rw [R.read, if_neg hc, if_neg hoff, Int.toNat_natCast]
 refine J.r hX tk 400 (fun _ => rfl) fun b20 => ?_
 refine J.val hX (.bool ((R.look N b r m).good.getD k false)) 0 rfl rfl (fun hg a w he hw => ?_) rfl trivial ?_
 ·exact own1_run tk rfl rfl he rfl rfl rfl (hw.get (i := 5) rfl) (by rw [show 0 + (k : Int).toNat * 1 = k from by omega]; exact cellsB_get hgd)
 refine J.r hX tk 400 (fun _ => rfl) fun b21 => ?_
 refine J.cond rfl (fun h4 => ?_) (fun h4 => ?_)
 ·refine J.r hX tk 400 (fun _ => rfl) fun b22 => ?_
  refine J.val hX (shV ((R.look N b r m).slots.getD k Sh.zero)) 0 rfl rfl (fun hg a w he hw => ?_) rfl trivial ?_
  ·exact ownN_run tk rfl rfl he rfl rfl rfl (hw.get (i := 4) rfl) (by rw [show 0 + (k : Int).toNat * 23 = k * 23 from by omega]; exact cellsS_get hsd) rfl
  refine J.r hX tk 400 (fun _ => rfl) fun b23 => ?_
  refine J.ca hX (by kernel_rfl) (r_entry ((R.look N b r m).slots.getD k Sh.zero)) [] 0 rfl rfl rfl rfl rfl rfl (fun _ => rfl) ?_
  rintro v As ⟨rfl, rfl⟩
  refine ⟨_, rfl, trivial, ?_⟩
  refine J.r hX tk 400 (fun _ => rfl) fun b25 => ?_
  refine J.rt hX tk [1] rfl rfl rfl ?_
  rw [hr, if_pos h4]
  exact ⟨rfl, rfl⟩
 refine J.r hX tk 400 (fun _ => rfl) fun b26 => ?_
 refine J.ca hX (by kernel_rfl) (r_mended (R.look N b r m) (G.slots m).toNat (by omega) hlen.1 hlen.2 hdat.1 hdat.2 (some g1) (some g2) c1 c2 k) [4, 5] 0 rfl rfl rfl rfl rfl rfl (fun _ => rfl) ?_
 rintro v As ⟨rfl, rfl⟩
 refine ⟨_, rfl, trivial, ?_⟩
 refine J.r hX tk 400 (fun _ => rfl) fun b28 => ?_
 refine J.cond rfl (fun h5 => ?_) (fun h5 => ?_)
 ·refine J.r hX tk 400 (fun _ => rfl) fun b29 => ?_
  refine J.rt hX tk [1] rfl rfl rfl ?_
  rw [hr, if_neg (by rw [h4]; exact Bool.false_ne_true), if_pos h5]
  exact ⟨rfl, rfl⟩
 ·refine J.r hX tk 400 (fun _ => rfl) fun b30 => ?_
  refine J.rt hX tk [1] rfl rfl rfl ?_
  rw [hr, if_neg (by rw [h4]; exact Bool.false_ne_true), if_neg (by rw [h5]; exact Bool.false_ne_true)]
  exact ⟨rfl, rfl⟩
end Go.Proofs.YtdocmcapegcoeaaGreat
