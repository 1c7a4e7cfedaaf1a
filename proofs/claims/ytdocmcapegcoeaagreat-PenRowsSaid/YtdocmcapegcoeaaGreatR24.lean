/- Helpers of the proofs about ostrakonlaw11, proved here: BgB, BgC, BgE, BgF, Sps. No condition. -/
import Derived.Test.YtdocmcapegcoeaaGreatR09
import Derived.Test.YtdocmcapegcoeaaGreatR15
import Derived.Test.YtdocmcapegcoeaaGreatR17
import Derived.Test.YtdocmcapegcoeaaGreatR23
set_option maxRecDepth 20000
set_option linter.unusedVariables false
set_option linter.unusedSimpArgs false
set_option linter.unusedSectionVars false
set_option linter.unnecessarySimpa false
namespace Go.Proofs.YtdocmcapegcoeaaGreat
open Go Go.RowKit
def nk (k : Nat) : Nat := match k with | 0 => 0 | _ + 1 => 1
def vb (k : Nat) : Int := match k with | 0 => 0 | 1 => 128 | 2 => 128 | _ => 160
def vq (k : Nat) : Int := match k with | 0 => 0 | _ => 128
def vl (k : Nat) : List Value := match k with | 0 => [] | k + 1 => [.int .u8 (vb (k + 1))]
theorem b_may (n : Int) : Fn Tryz.prog 190 [.int .i64 n] [] (fun v As => v = .bool (decide (n ≥ 1) && decide (n ≤ 64)) ∧ As = []) := by
 refine Fn.enter [0] Tryz.func190 rfl rfl rfl fun X F hX => ?_
 refine J.r hX tk 400 (fun _ => rfl) fun b1 => ?_
 refine J.rt hX tk [] rfl rfl rfl ?_
 exact ⟨rfl, rfl⟩
theorem b_Put1 (g : Nat) : Fn Tryz.prog 150 [.pointer (some ⟨g, 0, none⟩), .int .u64 5, .int .i64 3] [.pt g 196 [.slice none 0 0, .int .i64 0]]
  (fun v As => v = .bool true ∧ ∃ a cap, As = [.pt g 196 [slv a 1 cap, .int .i64 3], ownA 5 1 a 1 cap [.int .u8 160]]) := by
 refine Fn.enter [2, 0, 0] Tryz.func150 rfl rfl rfl fun X F hX => ?_
 refine J.r hX tk 400 (fun _ => rfl) fun b2 => ?_
 refine J.ca hX (by kernel_rfl) (b_may 3) [] 0 rfl rfl rfl rfl rfl rfl (fun _ => rfl) ?_
 rintro v As ⟨rfl, rfl⟩
 refine ⟨_, rfl, trivial, ?_⟩
 refine J.r hX tk 400 (fun _ => rfl) fun b3 => ?_
 refine J.cond rfl (fun h => absurd h (by decide)) (fun _ => ?_)
 refine J.turn1 [] rfl (As := [ownA 5 1 none 0 0 (vl 0)]) (fun h s => Sep.one ⟨rfl, rfl, rfl⟩) rfl ?_
 refine J.r hX tk 400 (fun _ => rfl) fun b4 => ?_
 refine J.lo (α := (Nat × Option Nat × Nat)) (fun z => z.1 ≤ 3) (fun z => [⟨7, .int .i64 (2 - z.1), 0, .tt⟩, ⟨0, .pointer (some ⟨g, 0, none⟩), 2, .tt⟩, ⟨1, .int .u64 5, 0, .tt⟩]) [1, 2] (fun z => [.pt g 196 [slv z.2.1 (nk z.1) z.2.2, .int .i64 z.1], ownA 5 1 z.2.1 (nk z.1) z.2.2 (vl z.1)]) (fun z => 3 - z.1) ((0, none, 0)) (Nat.zero_le _) rfl ?_ (fun _ => rfl) fun z hI => ?_
 ·rfl
 obtain ⟨k, a, cap⟩ := z
 dsimp only at hI ⊢
 rcases (by omega : k = 0 ∨ k = 1 ∨ k = 2 ∨ k = 3) with rfl | rfl | rfl | rfl
 ·
  refine J.r hX tk 400 (fun _ => rfl) fun b6 => ?_
  refine J.cond rfl (fun _ => ?_) (fun h => absurd h (by decide))
  refine J.r hX tk 400 (fun _ => rfl) fun b7 => ?_
  refine J.cond rfl (fun _ => ?_) (fun h => absurd h (by decide))
  refine J.r hX tk 400 (fun _ => rfl) fun b8 => ?_
  refine J.append hX tk 2 3 0 rfl rfl rfl rfl rfl rfl rfl rfl rfl rfl rfl rfl rfl rfl rfl rfl (by decide) (by decide) (fun _ => rfl) fun a cap => ⟨_, rfl, trivial, ?_⟩
  refine J.know (fun h' s => own_some (c := (a, cap)) (by decide) (s.get (i := 2) rfl)) fun hg => ?_
  obtain ⟨ga, rfl⟩ := hg
  refine J.openOwn 2 rfl rfl (fun _ => rfl) fun r q1 q2 q3 q4 => ?_
  refine J.r hX tk 400 (fun _ => rfl) fun b9 => ?_
  refine J.plan (.of [0,4,8,13,16,20,24,29,32,36,41,44,48,52,56,60,64,68,72,77,80,84,88,92,96,103]) [24,25] [1,2] (by rw [hX.hP]; kernel_rfl) (by kernel_rfl) ?_
  refine J.r hX tk 400 (fun _ => rfl) fun b10 => ?_
  refine J.valT hX (.int .u8 (vq 0)) 0 rfl rfl (fun hg a w he hC => ?_) rfl ?_
  ·exact load1_run tk rfl rfl he hg rfl rfl (hC rfl _ (cget_mem (i := 2) rfl)) rfl
  refine J.r hX tk 400 (fun _ => rfl) fun b11 => ?_
  refine J.store1 hX tk 2 rfl rfl rfl rfl rfl rfl rfl rfl rfl rfl rfl rfl rfl ?_ (.int .u8 (vb 1) :: r) ?_ rfl (fun _ => rfl) ⟨trivial, ?_⟩
  ·exact Nat.succ_pos _
  ·rfl
  refine J.closeOwn (e := 5) (size := 1) (n := 1) (cap := cap) (xs := [.int .u8 (vb 1)]) 2 rfl rfl rfl q2 q3 (by rw [List.length_cons, Nat.add_comm]; exact q4) rfl rfl ?_
  refine J.r hX tk 400 (fun _ => rfl) fun b12 => ?_
  refine J.nS ((1, some ga, cap)) (by dsimp only; omega) (by dsimp only; omega) [0, 1, 2] rfl rfl
 ·
  refine J.r hX tk 400 (fun _ => rfl) fun b14 => ?_
  refine J.cond rfl (fun _ => ?_) (fun h => absurd h (by decide))
  refine J.r hX tk 400 (fun _ => rfl) fun b15 => ?_
  refine J.cond rfl (fun h => absurd h (by decide)) (fun _ => ?_)
  refine J.know (fun h' s => own_some (c := (a, cap)) (by decide) (s.get (i := 2) rfl)) fun hg => ?_
  obtain ⟨ga, rfl⟩ := hg
  refine J.openOwn 2 rfl rfl (fun _ => rfl) fun r q1 q2 q3 q4 => ?_
  refine J.r hX tk 400 (fun _ => rfl) fun b16 => ?_
  refine J.plan (.of [0,4,8,13,16,20,24,29,32,36,41,44,48,52,56,60,64,68,72,77,80,84,88,92,96,103]) [24,25] [1,2] (by rw [hX.hP]; kernel_rfl) (by kernel_rfl) ?_
  refine J.r hX tk 400 (fun _ => rfl) fun b17 => ?_
  refine J.valT hX (.int .u8 (vq 1)) 0 rfl rfl (fun hg a w he hC => ?_) rfl ?_
  ·exact load1_run tk rfl rfl he hg rfl rfl (hC rfl _ (cget_mem (i := 2) rfl)) rfl
  refine J.r hX tk 400 (fun _ => rfl) fun b18 => ?_
  refine J.store1 hX tk 2 rfl rfl rfl rfl rfl rfl rfl rfl rfl rfl rfl rfl rfl ?_ (.int .u8 (vb 2) :: r) ?_ rfl (fun _ => rfl) ⟨trivial, ?_⟩
  ·exact Nat.succ_pos _
  ·rfl
  refine J.closeOwn (e := 5) (size := 1) (n := 1) (cap := cap) (xs := [.int .u8 (vb 2)]) 2 rfl rfl rfl q2 q3 (by rw [List.length_cons, Nat.add_comm]; exact q4) rfl rfl ?_
  refine J.r hX tk 400 (fun _ => rfl) fun b19 => ?_
  refine J.nS ((2, some ga, cap)) (by dsimp only; omega) (by dsimp only; omega) [0, 1, 2] rfl rfl
 ·
  refine J.r hX tk 400 (fun _ => rfl) fun b21 => ?_
  refine J.cond rfl (fun _ => ?_) (fun h => absurd h (by decide))
  refine J.r hX tk 400 (fun _ => rfl) fun b22 => ?_
  refine J.cond rfl (fun h => absurd h (by decide)) (fun _ => ?_)
  refine J.know (fun h' s => own_some (c := (a, cap)) (by decide) (s.get (i := 2) rfl)) fun hg => ?_
  obtain ⟨ga, rfl⟩ := hg
  refine J.openOwn 2 rfl rfl (fun _ => rfl) fun r q1 q2 q3 q4 => ?_
  refine J.r hX tk 400 (fun _ => rfl) fun b23 => ?_
  refine J.plan (.of [0,4,8,13,16,20,24,29,32,36,41,44,48,52,56,60,64,68,72,77,80,84,88,92,96,103]) [24,25] [1,2] (by rw [hX.hP]; kernel_rfl) (by kernel_rfl) ?_
  refine J.r hX tk 400 (fun _ => rfl) fun b24 => ?_
  refine J.valT hX (.int .u8 (vq 2)) 0 rfl rfl (fun hg a w he hC => ?_) rfl ?_
  ·exact load1_run tk rfl rfl he hg rfl rfl (hC rfl _ (cget_mem (i := 2) rfl)) rfl
  refine J.r hX tk 400 (fun _ => rfl) fun b25 => ?_
  refine J.store1 hX tk 2 rfl rfl rfl rfl rfl rfl rfl rfl rfl rfl rfl rfl rfl ?_ (.int .u8 (vb 3) :: r) ?_ rfl (fun _ => rfl) ⟨trivial, ?_⟩
  ·exact Nat.succ_pos _
  ·rfl
  refine J.closeOwn (e := 5) (size := 1) (n := 1) (cap := cap) (xs := [.int .u8 (vb 3)]) 2 rfl rfl rfl q2 q3 (by rw [List.length_cons, Nat.add_comm]; exact q4) rfl rfl ?_
  refine J.r hX tk 400 (fun _ => rfl) fun b26 => ?_
  refine J.nS ((3, some ga, cap)) (by dsimp only; omega) (by dsimp only; omega) [0, 1, 2] rfl rfl
 ·refine J.r hX tk 400 (fun _ => rfl) fun b28 => ?_
  refine J.cond rfl (fun h => absurd h (by decide)) (fun _ => ?_)
  refine J.r hX tk 400 (fun _ => rfl) fun b29 => ?_
  refine J.rt hX tk [1, 2] rfl rfl rfl ?_
  exact ⟨rfl, a, cap, rfl⟩
theorem b_Put2 (g : Nat) (a : Option Nat) (cap : Nat) : Fn Tryz.prog 150 [.pointer (some ⟨g, 0, none⟩), .int .u64 2, .int .i64 1] [.pt g 196 [slv a 1 cap, .int .i64 3]]
  (fun v As => v = .bool false ∧ As = [.pt g 196 [slv a 1 cap, .int .i64 3]]) := by
 refine Fn.enter [2, 0, 0] Tryz.func150 rfl rfl rfl fun X F hX => ?_
 refine J.r hX tk 400 (fun _ => rfl) fun b30 => ?_
 refine J.ca hX (by kernel_rfl) (b_may 1) [] 0 rfl rfl rfl rfl rfl rfl (fun _ => rfl) ?_
 rintro v As ⟨rfl, rfl⟩
 refine ⟨_, rfl, trivial, ?_⟩
 refine J.r hX tk 400 (fun _ => rfl) fun b31 => ?_
 refine J.cond rfl (fun _ => ?_) (fun h => absurd h (by decide))
 refine J.r hX tk 400 (fun _ => rfl) fun b32 => ?_
 refine J.rt hX tk [1] rfl rfl rfl ?_
 exact ⟨rfl, rfl⟩
theorem o_Len (g : Nat) (a : Option Nat) (m cap : Nat) (k : Int) : Fn Tryz.prog 303 [.pointer (some ⟨g, 0, none⟩)] [.pt g 196 [slv a m cap, .int .i64 k]]
  (fun v As => v = .int .i64 k ∧ As = [.pt g 196 [slv a m cap, .int .i64 k]]) := by
 refine Fn.enter [2] Tryz.func303 rfl rfl rfl fun X F hX => ?_
 refine J.r hX tk 400 (fun _ => rfl) fun b33 => ?_
 refine J.cond rfl (fun h => by simp at h) (fun _ => ?_)
 refine J.r hX tk 400 (fun _ => rfl) fun b34 => ?_
 refine J.rt hX tk [1] rfl rfl rfl ?_
 exact ⟨rfl, rfl⟩
theorem x_CloneB (a : Option Nat) (n cap : Nat) (l : List Value) (hl : l.length = n) (h1 : ∀ u ∈ l, u.oneCell' = true) (hn : n ≤ 1000000) : Fn Tryz.prog 191 [slv a n cap] [ownA 5 1 a n cap l]
  (fun v As => ∃ a' c', v = slv a' n c' ∧ As = [ownA 5 1 a n cap l, ownA 5 1 a' n c' l]) := by
 refine Fn.enter [0] Tryz.func191 rfl rfl rfl fun X F hX => ?_
 cases a with
 | none =>
  refine J.know (fun h' s => (s.get (i := 1) rfl).2) fun hn0 => ?_
  obtain ⟨rfl, rfl⟩ := hn0
  have : l = [] := List.eq_nil_of_length_eq_zero hl
  subst this
  refine J.r hX tk 400 (fun _ => rfl) fun b35 => ?_
  refine J.cond rfl (fun _ => ?_) (fun h => by simp at h)
  refine J.turn1 [] rfl (As := [ownA 5 1 none 0 0 []]) (fun h s => Sep.one ⟨rfl, rfl, rfl⟩) rfl ?_
  refine J.r hX tk 400 (fun _ => rfl) fun b36 => ?_
  refine J.rt hX tk [1, 2] rfl rfl rfl ?_
  exact ⟨none, 0, rfl, rfl⟩
 | some g =>
  refine J.r hX tk 400 (fun _ => rfl) fun b37 => ?_
  refine J.cond rfl (fun h => by simp at h) (fun _ => ?_)
  refine J.r hX tk 5 (fun _ => rfl) fun bb => ?_
  refine J.closeOwn (e := 5) (size := 1) (n := 0) (cap := 0) (xs := []) 2 rfl rfl rfl (Nat.le_refl _) (Nat.zero_le _) rfl rfl rfl ?_
  refine J.r hX tk 400 (fun _ => rfl) fun b38 => ?_
  refine J.appendR hX tk (a := some (bb 0)) (n := 0) (cap := 0) (xs := []) (oo := 0) (Ay := ownA 5 1 (some g) n cap l) 2 1 0 rfl rfl rfl rfl rfl rfl rfl rfl rfl rfl (own_rd _ _ (some g) _ _ _) rfl rfl rfl rfl h1 ?_ ?_ (fun _ => rfl) fun a' c' => ⟨_, rfl, trivial, ?_⟩
  ·simp only [maxLen]; omega
  ·omega
  rw [Nat.zero_add n, List.nil_append]
  refine J.r hX tk 400 (fun _ => rfl) fun b39 => ?_
  refine J.rt hX tk [1, 2] rfl rfl rfl ?_
  exact ⟨a', c', rfl, rfl⟩
theorem b_Bytes (g : Nat) (a : Option Nat) (m cap : Nat) (k : Int) (l : List Value) (hl : l.length = m) (h1 : ∀ u ∈ l, u.oneCell' = true) (hn : m ≤ 1000000) : Fn Tryz.prog 152 [.pointer (some ⟨g, 0, none⟩)] [.pt g 196 [slv a m cap, .int .i64 k], ownA 5 1 a m cap l]
  (fun v As => ∃ a' c', v = slv a' m c' ∧ As = [.pt g 196 [slv a m cap, .int .i64 k], ownA 5 1 a m cap l, ownA 5 1 a' m c' l]) := by
 refine Fn.enter [2] Tryz.func152 rfl rfl rfl fun X F hX => ?_
 refine J.r hX tk 400 (fun _ => rfl) fun b40 => ?_
 refine J.cond rfl (fun h => by simp at h) (fun _ => ?_)
 refine J.r hX tk 400 (fun _ => rfl) fun b41 => ?_
 refine J.ca hX (by kernel_rfl) (x_CloneB a m cap l hl h1 hn) [2] 0 rfl rfl rfl rfl rfl rfl (fun _ => rfl) ?_
 rintro v As ⟨a', c', rfl, rfl⟩
 refine ⟨_, rfl, trivial, ?_⟩
 refine J.r hX tk 400 (fun _ => rfl) fun b43 => ?_
 refine J.rt hX tk [1, 2, 3] rfl rfl rfl ?_
 exact ⟨a', c', rfl, rfl⟩
theorem b_Read (a : Option Addr) (n cap : Nat) : Fn Tryz.prog 239 [.slice a n cap] [] (fun v As => ∃ g, v = .pointer (some ⟨g, 0, none⟩) ∧ As = [.pt g 287 [.slice a n cap, .int .i64 0]]) := by
 refine Fn.enter [0] Tryz.func239 rfl rfl rfl fun X F hX => ?_
 refine J.r hX tk 400 (fun _ => rfl) fun bb => ?_
 refine J.rt hX tk [1] rfl rfl rfl ?_
 exact ⟨bb 0, rfl, rfl⟩
theorem b_Left (g b : Nat) (k : Int) (h0 : 0 ≤ k) (h1 : k ≤ 8) : Fn Tryz.prog 257 [.pointer (some ⟨g, 0, none⟩)] [.pt g 287 [.slice (some ⟨b, 0, none⟩) 1 1, .int .i64 k]]
  (fun v As => v = .int .i64 (8 - k) ∧ As = [.pt g 287 [.slice (some ⟨b, 0, none⟩) 1 1, .int .i64 k]]) := by
 refine Fn.enter [2] Tryz.func257 rfl rfl rfl fun X F hX => ?_
 refine J.r hX tk 400 (fun _ => rfl) fun b45 => ?_
 refine J.cond rfl (fun h => by simp at h) (fun _ => ?_)
 refine J.r hX tk 400 (fun _ => rfl) fun b46 => ?_
 refine J.plan (.of [0,4,8,13,16,20,24,28,32,37,40,44]) [11] [1] (by rw [hX.hP]; kernel_rfl) (by kernel_rfl) ?_
 refine J.r hX tk 400 (fun _ => rfl) fun b47 => ?_
 refine J.rt hX tk [1] rfl rfl rfl ?_
 exact ⟨rfl, rfl⟩
theorem b_Get9 (g b : Nat) : Fn Tryz.prog 240 [.pointer (some ⟨g, 0, none⟩), .int .i64 9] [.pt g 287 [.slice (some ⟨b, 0, none⟩) 1 1, .int .i64 4]]
  (fun v As => v = .tuple #[.int .u64 0, .bool false] ∧ As = [.pt g 287 [.slice (some ⟨b, 0, none⟩) 1 1, .int .i64 4]]) := by
 refine Fn.enter [2, 0] Tryz.func240 rfl rfl rfl fun X F hX => ?_
 refine J.r hX tk 400 (fun _ => rfl) fun b49 => ?_
 refine J.ca hX (by kernel_rfl) (b_may 9) [] 0 rfl rfl rfl rfl rfl rfl (fun _ => rfl) ?_
 rintro v As ⟨rfl, rfl⟩
 refine ⟨_, rfl, trivial, ?_⟩
 refine J.r hX tk 400 (fun _ => rfl) fun b51 => ?_
 refine J.ca hX (by kernel_rfl) (b_Left g b 4 (by decide) (by decide)) [1] 0 rfl rfl rfl rfl rfl rfl (fun _ => rfl) ?_
 rintro v As ⟨rfl, rfl⟩
 refine ⟨_, rfl, trivial, ?_⟩
 refine J.r hX tk 400 (fun _ => rfl) fun b53 => ?_
 refine J.cond rfl (fun _ => ?_) (fun h => absurd h (by decide))
 refine J.r hX tk 400 (fun _ => rfl) fun b54 => ?_
 refine J.rt hX tk [1] rfl rfl rfl ?_
 exact ⟨rfl, rfl⟩
def vg (k : Nat) : Int := match k with | 0 => 0 | 1 => 1 | 2 => 2 | 3 => 5 | _ => 10
theorem b_Get4 (g b : Nat) : Fn Tryz.prog 240 [.pointer (some ⟨g, 0, none⟩), .int .i64 4] [.pt g 287 [.slice (some ⟨b, 0, none⟩) 1 1, .int .i64 0], .pt b 5 [.int .u8 165]]
  (fun v As => v = .tuple #[.int .u64 10, .bool true] ∧ As = [.pt g 287 [.slice (some ⟨b, 0, none⟩) 1 1, .int .i64 4], .pt b 5 [.int .u8 165]]) := by
 refine Fn.enter [2, 0] Tryz.func240 rfl rfl rfl fun X F hX => ?_
 refine J.r hX tk 400 (fun _ => rfl) fun b55 => ?_
 refine J.ca hX (by kernel_rfl) (b_may 4) [] 0 rfl rfl rfl rfl rfl rfl (fun _ => rfl) ?_
 rintro v As ⟨rfl, rfl⟩
 refine ⟨_, rfl, trivial, ?_⟩
 refine J.r hX tk 400 (fun _ => rfl) fun b57 => ?_
 refine J.ca hX (by kernel_rfl) (b_Left g b 0 (by decide) (by decide)) [1] 0 rfl rfl rfl rfl rfl rfl (fun _ => rfl) ?_
 rintro v As ⟨rfl, rfl⟩
 refine ⟨_, rfl, trivial, ?_⟩
 refine J.r hX tk 400 (fun _ => rfl) fun b59 => ?_
 refine J.cond rfl (fun h => absurd h (by decide)) (fun _ => ?_)
 refine J.r hX tk 400 (fun _ => rfl) fun b60 => ?_
 refine J.lo (α := Nat) (fun k => k ≤ 4) (fun k => [⟨6, .int .u64 (vg k), 0, .tt⟩, ⟨7, .int .i64 4, 0, .tt⟩, ⟨0, .pointer (some ⟨g, 0, none⟩), 2, .tt⟩]) [1] (fun k => [.pt g 287 [.slice (some ⟨b, 0, none⟩) 1 1, .int .i64 k]]) (fun k => 4 - k) (0) (Nat.zero_le _) rfl ?_ (fun _ => rfl) fun k hI => ?_
 ·rfl
 rcases (by omega : k = 0 ∨ k = 1 ∨ k = 2 ∨ k = 3 ∨ k = 4) with rfl | rfl | rfl | rfl | rfl
 ·refine J.r hX tk 400 (fun _ => rfl) fun b62 => ?_
  refine J.cond rfl (fun _ => ?_) (fun h => absurd h (by decide))
  refine J.r hX tk 400 (fun _ => rfl) fun b63 => ?_
  refine J.plan (.of [0,4,8,12,16,21,24,28,32,37,40,44,49,52,56,60,65,68,72,76,80,84,88,92]) [23] [1,2] (by rw [hX.hP]; kernel_rfl) (by kernel_rfl) ?_
  refine J.r hX tk 400 (fun _ => rfl) fun b64 => ?_
  refine J.valT hX (.int .u8 165) 0 rfl rfl (fun hg a w he hC => ?_) rfl ?_
  ·exact load1_run tk rfl rfl he hg rfl rfl (hC rfl _ (cget_mem (i := 2) rfl)) rfl
  refine J.r hX tk 400 (fun _ => rfl) fun b65 => ?_
  refine J.nS (1) (by omega) (by omega) [0, 1, 2] rfl rfl
 ·refine J.r hX tk 400 (fun _ => rfl) fun b67 => ?_
  refine J.cond rfl (fun _ => ?_) (fun h => absurd h (by decide))
  refine J.r hX tk 400 (fun _ => rfl) fun b68 => ?_
  refine J.plan (.of [0,4,8,12,16,21,24,28,32,37,40,44,49,52,56,60,65,68,72,76,80,84,88,92]) [23] [1,2] (by rw [hX.hP]; kernel_rfl) (by kernel_rfl) ?_
  refine J.r hX tk 400 (fun _ => rfl) fun b69 => ?_
  refine J.valT hX (.int .u8 165) 0 rfl rfl (fun hg a w he hC => ?_) rfl ?_
  ·exact load1_run tk rfl rfl he hg rfl rfl (hC rfl _ (cget_mem (i := 2) rfl)) rfl
  refine J.r hX tk 400 (fun _ => rfl) fun b70 => ?_
  refine J.nS (2) (by omega) (by omega) [0, 1, 2] rfl rfl
 ·refine J.r hX tk 400 (fun _ => rfl) fun b72 => ?_
  refine J.cond rfl (fun _ => ?_) (fun h => absurd h (by decide))
  refine J.r hX tk 400 (fun _ => rfl) fun b73 => ?_
  refine J.plan (.of [0,4,8,12,16,21,24,28,32,37,40,44,49,52,56,60,65,68,72,76,80,84,88,92]) [23] [1,2] (by rw [hX.hP]; kernel_rfl) (by kernel_rfl) ?_
  refine J.r hX tk 400 (fun _ => rfl) fun b74 => ?_
  refine J.valT hX (.int .u8 165) 0 rfl rfl (fun hg a w he hC => ?_) rfl ?_
  ·exact load1_run tk rfl rfl he hg rfl rfl (hC rfl _ (cget_mem (i := 2) rfl)) rfl
  refine J.r hX tk 400 (fun _ => rfl) fun b75 => ?_
  refine J.nS (3) (by omega) (by omega) [0, 1, 2] rfl rfl
 ·refine J.r hX tk 400 (fun _ => rfl) fun b77 => ?_
  refine J.cond rfl (fun _ => ?_) (fun h => absurd h (by decide))
  refine J.r hX tk 400 (fun _ => rfl) fun b78 => ?_
  refine J.plan (.of [0,4,8,12,16,21,24,28,32,37,40,44,49,52,56,60,65,68,72,76,80,84,88,92]) [23] [1,2] (by rw [hX.hP]; kernel_rfl) (by kernel_rfl) ?_
  refine J.r hX tk 400 (fun _ => rfl) fun b79 => ?_
  refine J.valT hX (.int .u8 165) 0 rfl rfl (fun hg a w he hC => ?_) rfl ?_
  ·exact load1_run tk rfl rfl he hg rfl rfl (hC rfl _ (cget_mem (i := 2) rfl)) rfl
  refine J.r hX tk 400 (fun _ => rfl) fun b80 => ?_
  refine J.nS (4) (by omega) (by omega) [0, 1, 2] rfl rfl
 ·refine J.r hX tk 400 (fun _ => rfl) fun b82 => ?_
  refine J.cond rfl (fun h => absurd h (by decide)) (fun _ => ?_)
  refine J.r hX tk 400 (fun _ => rfl) fun b83 => ?_
  refine J.rt hX tk [1, 2] rfl rfl rfl ?_
  exact ⟨rfl, rfl⟩
theorem k_nil : Fn Tryz.prog 153 [.slice none 0 0] [] (fun v As => v = .int .u32 4294967295 ∧ As = []) := by
 refine Fn.enter [0] Tryz.func153 rfl rfl rfl fun X F hX => ?_
 refine J.r hX tk 400 (fun _ => rfl) fun b84 => ?_
 refine J.lo (α := Nat) (fun k => k ≤ 0) (fun k => [⟨8, .int .i64 0, 0, .tt⟩, ⟨7, .int .i64 0, 0, .tt⟩, ⟨3, .int .u32 4294967295, 0, .tt⟩]) [] (fun k => []) (fun k => 0) (0) (Nat.zero_le _) rfl ?_ (fun _ => rfl) fun k hI => ?_
 ·rfl
 refine J.r hX tk 400 (fun _ => rfl) fun b86 => ?_
 refine J.cond rfl (fun h => absurd h (by decide)) (fun _ => ?_)
 refine J.r hX tk 400 (fun _ => rfl) fun b87 => ?_
 refine J.rt hX tk [] rfl rfl rfl ?_
 exact ⟨rfl, rfl⟩
theorem k_step : Fn Tryz.prog 192 [.int .u32 0, .int .u8 128] [] (fun v As => v = .int .u32 (K.step 0 128 : Nat) ∧ As = []) := Fn.of_same (koop_Step 0 128 (by decide) (by decide))
theorem z_Zig : Fn Tryz.prog 299 [.int .i64 (-1)] [] (fun v As => v = .int .u64 1 ∧ As = []) := Fn.of_same zig_1
theorem z_Zag : Fn Tryz.prog 300 [.int .u64 1] [] (fun v As => v = .int .i64 (-1) ∧ As = []) := Fn.of_same zag_1
theorem z_Narrow1 : Fn Tryz.prog 301 [.int .i64 255, .int .i64 8] [] (fun v As => v = .int .i64 (-1) ∧ As = []) := Fn.of_same narrow_1
theorem z_Narrow2 : Fn Tryz.prog 301 [.int .i64 1, .int .i64 0] [] (fun v As => v = .int .i64 0 ∧ As = []) := Fn.of_same narrow_2
theorem z_Turn : Fn Tryz.prog 302 [.int .u32 1, .int .i64 33] [] (fun v As => v = .int .u32 2 ∧ As = []) := by
 refine Fn.enter [0, 0] Tryz.func302 rfl rfl rfl fun X F hX => ?_
 refine J.r hX tk 400 (fun _ => rfl) fun b1 => ?_
 refine J.plan (.of [0,4,8,12,16,20,24,28,32]) [7,8] [] (by rw [hX.hP]; kernel_rfl) (by kernel_rfl) ?_
 refine J.r hX tk 400 (fun _ => rfl) fun b2 => ?_
 refine J.rt hX tk [] rfl rfl rfl ?_
 exact ⟨rfl, rfl⟩
theorem l1_begun : Fn Tryz.prog 296 [] [] (fun v As => v = .bool true ∧ As = []) := by
 refine Fn.enter [] Tryz.func296 rfl rfl rfl fun X F hX => ?_
 refine J.r hX tk 400 (fun _ => rfl) fun b1 => ?_
 refine J.ca hX (by kernel_rfl) (b_Put1 (b1 0)) [1] 0 rfl rfl rfl rfl rfl rfl (fun _ => rfl) ?_
 rintro v As ⟨rfl, a, cap, rfl⟩
 refine ⟨_, rfl, trivial, ?_⟩
 refine J.r hX tk 400 (fun _ => rfl) fun b5 => ?_
 refine J.ca hX (by kernel_rfl) (b_Put2 (b1 0) a cap) [1] 0 rfl rfl rfl rfl rfl rfl (fun _ => rfl) ?_
 rintro v As ⟨rfl, rfl⟩
 refine ⟨_, rfl, trivial, ?_⟩
 refine J.r hX tk 400 (fun _ => rfl) fun b2 => ?_
 refine J.ca hX (by kernel_rfl) (b_Read (some ⟨b2 0, 0, none⟩) 1 1) [] 0 rfl rfl rfl rfl rfl rfl (fun _ => rfl) ?_
 rintro v As ⟨g, rfl, rfl⟩
 refine ⟨_, rfl, trivial, ?_⟩
 refine J.r hX tk 400 (fun _ => rfl) fun b8 => ?_
 refine J.ca hX (by kernel_rfl) (b_Get4 g (b2 0)) [4, 3] 0 rfl rfl rfl rfl rfl rfl (fun _ => rfl) ?_
 rintro v As ⟨rfl, rfl⟩
 refine ⟨_, rfl, trivial, ?_⟩
 refine J.r hX tk 400 (fun _ => rfl) fun b10 => ?_
 refine J.ca hX (by kernel_rfl) (b_Get9 g (b2 0)) [4] 0 rfl rfl rfl rfl rfl rfl (fun _ => rfl) ?_
 rintro v As ⟨rfl, rfl⟩
 refine ⟨_, rfl, trivial, ?_⟩
 refine J.r hX tk 400 (fun _ => rfl) fun b12 => ?_
 refine J.ca hX (by kernel_rfl) (b_Bytes (b1 0) a 1 cap 3 [.int .u8 160] rfl (by decide) (by decide)) [1, 2] 0 rfl rfl rfl rfl rfl rfl (fun _ => rfl) ?_
 rintro v As ⟨a2, c2, rfl, rfl⟩
 refine ⟨_, rfl, trivial, ?_⟩
 refine J.know (fun h' s => own_some (c := (a2, c2)) (by decide) (s.get (i := 5) rfl)) fun hg => ?_
 obtain ⟨g2, rfl⟩ := hg
 refine J.r hX tk 400 (fun _ => rfl) fun b14 => ?_
 refine J.ca hX (by kernel_rfl) (z_Zig) [] 0 rfl rfl rfl rfl rfl rfl (fun _ => rfl) ?_
 rintro v As ⟨rfl, rfl⟩
 refine ⟨_, rfl, trivial, ?_⟩
 refine J.r hX tk 400 (fun _ => rfl) fun b15 => ?_
 refine J.ca hX (by kernel_rfl) (z_Zag) [] 0 rfl rfl rfl rfl rfl rfl (fun _ => rfl) ?_
 rintro v As ⟨rfl, rfl⟩
 refine ⟨_, rfl, trivial, ?_⟩
 refine J.r hX tk 400 (fun _ => rfl) fun b16 => ?_
 refine J.ca hX (by kernel_rfl) (z_Narrow1) [] 0 rfl rfl rfl rfl rfl rfl (fun _ => rfl) ?_
 rintro v As ⟨rfl, rfl⟩
 refine ⟨_, rfl, trivial, ?_⟩
 refine J.r hX tk 400 (fun _ => rfl) fun b17 => ?_
 refine J.ca hX (by kernel_rfl) (z_Narrow2) [] 0 rfl rfl rfl rfl rfl rfl (fun _ => rfl) ?_
 rintro v As ⟨rfl, rfl⟩
 refine ⟨_, rfl, trivial, ?_⟩
 refine J.r hX tk 400 (fun _ => rfl) fun b18 => ?_
 refine J.ca hX (by kernel_rfl) (z_Turn) [] 0 rfl rfl rfl rfl rfl rfl (fun _ => rfl) ?_
 rintro v As ⟨rfl, rfl⟩
 refine ⟨_, rfl, trivial, ?_⟩
 refine J.r hX tk 400 (fun _ => rfl) fun b19 => ?_
 refine J.ca hX (by kernel_rfl) (o_Len (b1 0) a 1 cap 3) [1] 0 rfl rfl rfl rfl rfl rfl (fun _ => rfl) ?_
 rintro v As ⟨rfl, rfl⟩
 refine ⟨_, rfl, trivial, ?_⟩
 refine J.r hX tk 400 (fun _ => rfl) fun b20 => ?_
 refine J.val hX (.int .u8 160) 0 rfl rfl (fun hg a w he hw => ?_) rfl trivial ?_
 ·exact own1_run tk rfl rfl he hg rfl rfl (hw.get (i := 5) rfl) rfl
 refine J.r hX tk 400 (fun _ => rfl) fun b21 => ?_
 refine J.ca hX (by kernel_rfl) (b_Left g (b2 0) 4 (by decide) (by decide)) [4] 0 rfl rfl rfl rfl rfl rfl (fun _ => rfl) ?_
 rintro v As ⟨rfl, rfl⟩
 refine ⟨_, rfl, trivial, ?_⟩
 refine J.r hX tk 400 (fun _ => rfl) fun b22 => ?_
 refine J.ca hX (by kernel_rfl) (k_nil) [] 0 rfl rfl rfl rfl rfl rfl (fun _ => rfl) ?_
 rintro v As ⟨rfl, rfl⟩
 refine ⟨_, rfl, trivial, ?_⟩
 refine J.r hX tk 400 (fun _ => rfl) fun b23 => ?_
 refine J.ca hX (by kernel_rfl) (k_step) [] 0 rfl rfl rfl rfl rfl rfl (fun _ => rfl) ?_
 rintro v As ⟨rfl, rfl⟩
 refine ⟨_, rfl, trivial, ?_⟩
 refine J.r hX tk 400 (fun _ => rfl) fun b24 => ?_
 refine J.ca hX (by kernel_rfl) (l_All 3) [] 0 rfl rfl rfl rfl rfl rfl (fun _ => rfl) ?_
 rintro v As ⟨rfl, rfl⟩
 refine ⟨_, rfl, trivial, ?_⟩
 refine J.r hX tk 400 (fun _ => rfl) fun b25 => ?_
 refine J.ca hX (by kernel_rfl) (l_At 6 0 (by decide) (by decide)) [] 0 rfl rfl rfl rfl rfl rfl (fun _ => rfl) ?_
 rintro v As ⟨rfl, rfl⟩
 refine ⟨_, rfl, trivial, ?_⟩
 refine J.r hX tk 400 (fun _ => rfl) fun b26 => ?_
 refine J.ca hX (by kernel_rfl) (l_Spot 6 2) [] 0 rfl rfl rfl rfl rfl rfl (fun _ => rfl) ?_
 rintro v As ⟨rfl, rfl⟩
 refine ⟨_, rfl, trivial, ?_⟩
 refine J.r hX tk 400 (fun _ => rfl) fun b27 => ?_
 refine J.ca hX (by kernel_rfl) (l_Count 6) [] 0 rfl rfl rfl rfl rfl rfl (fun _ => rfl) ?_
 rintro v As ⟨rfl, rfl⟩
 refine ⟨_, rfl, trivial, ?_⟩
 refine J.r hX tk 400 (fun _ => rfl) fun b28 => ?_
 refine J.rt hX tk [] rfl rfl rfl ?_
 exact ⟨by kernel_rfl, rfl⟩
theorem l1_Begun : Fn Tryz.prog 287 [] [] (fun v As => v = .bool true ∧ As = []) := by
 refine Fn.enter [] Tryz.func287 rfl rfl rfl fun X F hX => ?_
 refine J.r hX tk 400 (fun _ => rfl) fun b29 => ?_
 refine J.ca hX (by kernel_rfl) (l1_begun) [] 0 rfl rfl rfl rfl rfl rfl (fun _ => rfl) ?_
 rintro v As ⟨rfl, rfl⟩
 refine ⟨_, rfl, trivial, ?_⟩
 refine J.r hX tk 400 (fun _ => rfl) fun b30 => ?_
 refine J.rt hX tk [] rfl rfl rfl ?_
 exact ⟨rfl, rfl⟩
theorem g_Logical (d b p : Nat) (h : geoMay d b p = true) : Fn Tryz.prog 289 [.agg #[.int .i64 d, .int .i64 b, .int .i64 p]] [] (fun v As => v = .int .i64 ((((b : Int) - 5) * p * ((d : Int) - 2) + 1).tdiv 2) ∧ As = []) := by
 have hbd : (3 ≤ d ∧ d ≤ 6) ∧ (8 ≤ b ∧ b ≤ 16) ∧ (2 ≤ p ∧ p ≤ 8) := by simp [geoMay] at h; omega
 have h1 : 0 ≤ ((b : Int) - 5) * p ∧ ((b : Int) - 5) * p ≤ 88 := by
  refine ⟨Int.mul_nonneg (by omega) (by omega), ?_⟩
  have : ((b : Int) - 5) * p ≤ 11 * 8 := Int.mul_le_mul (by omega) (by omega) (by omega) (by omega)
  omega
 have h2 : 0 ≤ ((b : Int) - 5) * p * ((d : Int) - 2) ∧ ((b : Int) - 5) * p * ((d : Int) - 2) ≤ 352 := by
  refine ⟨Int.mul_nonneg h1.1 (by omega), ?_⟩
  have : ((b : Int) - 5) * p * ((d : Int) - 2) ≤ 88 * 4 := Int.mul_le_mul h1.2 (by omega) (by omega) (by omega)
  omega
 have h3 : -1 ≤ (((b : Int) - 5) * p * ((d : Int) - 2) + 1).tdiv 2 ∧ (((b : Int) - 5) * p * ((d : Int) - 2) + 1).tdiv 2 ≤ 1000 := by
  generalize ((b : Int) - 5) * p * ((d : Int) - 2) = x at h2
  rw [Int.tdiv_eq_ediv_of_nonneg (by omega)]; omega
 refine Fn.enter [0] Tryz.func289 rfl rfl rfl fun X F hX => ?_
 refine J.r hX tk 400 (fun _ => rfl) fun b1 => ?_
 refine J.ca hX (by kernel_rfl) (f_May d b p) [] 0 rfl rfl rfl rfl rfl rfl (fun _ => rfl) ?_
 rintro v As ⟨rfl, rfl⟩
 refine ⟨_, rfl, trivial, ?_⟩
 rw [h]
 refine J.r hX tk 400 (fun _ => rfl) fun b3 => ?_
 refine J.cond rfl (fun h => by simp at h) (fun _ => ?_)
 refine J.r hX tk 400 (fun _ => rfl) fun b4 => ?_
 refine J.rt hX tk [] rfl rfl rfl ?_
 exact ⟨rfl, rfl⟩
theorem l6_begun : Fn Tryz.prog 271 [] [] (fun v As => v = .bool true ∧ As = []) := by
 refine Fn.enter [] Tryz.func271 rfl rfl rfl fun X F hX => ?_
 refine J.r hX tk 400 (fun _ => rfl) fun b5 => ?_
 refine J.ca hX (by kernel_rfl) (l1_Begun) [] 0 rfl rfl rfl rfl rfl rfl (fun _ => rfl) ?_
 rintro v As ⟨rfl, rfl⟩
 refine ⟨_, rfl, trivial, ?_⟩
 refine J.r hX tk 400 (fun _ => rfl) fun b6 => ?_
 refine J.ca hX (by kernel_rfl) (f_May 3 8 2) [] 0 rfl rfl rfl rfl rfl rfl (fun _ => rfl) ?_
 rintro v As ⟨rfl, rfl⟩
 refine ⟨_, rfl, trivial, ?_⟩
 rw [show geoMay 3 8 2 = true from rfl]
 refine J.r hX tk 400 (fun _ => rfl) fun b7 => ?_
 refine J.ca hX (by kernel_rfl) (f_May 0 0 0) [] 0 rfl rfl rfl rfl rfl rfl (fun _ => rfl) ?_
 rintro v As ⟨rfl, rfl⟩
 refine ⟨_, rfl, trivial, ?_⟩
 rw [show geoMay 0 0 0 = false from rfl]
 refine J.r hX tk 400 (fun _ => rfl) fun b8 => ?_
 refine J.ca hX (by kernel_rfl) (f_In 3 8 2 2 7 1 (by decide) (by decide) (by decide)) [] 0 rfl rfl rfl rfl rfl rfl (fun _ => rfl) ?_
 rintro v As ⟨rfl, rfl⟩
 refine ⟨_, rfl, trivial, ?_⟩
 rw [show geoIn 3 8 2 2 7 1 = true from rfl]
 refine J.r hX tk 400 (fun _ => rfl) fun b9 => ?_
 refine J.ca hX (by kernel_rfl) (f_In 3 8 2 3 0 0 (by decide) (by decide) (by decide)) [] 0 rfl rfl rfl rfl rfl rfl (fun _ => rfl) ?_
 rintro v As ⟨rfl, rfl⟩
 refine ⟨_, rfl, trivial, ?_⟩
 rw [show geoIn 3 8 2 3 0 0 = false from rfl]
 refine J.r hX tk 400 (fun _ => rfl) fun b10 => ?_
 refine J.ca hX (by kernel_rfl) (g_Parity 7 1 1) [] 0 rfl rfl rfl rfl rfl rfl (fun _ => rfl) ?_
 rintro v As ⟨rfl, rfl⟩
 refine ⟨_, rfl, trivial, ?_⟩
 rw [show G.parity 7 1 1 = 2 from by kernel_rfl]
 refine J.r hX tk 400 (fun _ => rfl) fun b11 => ?_
 refine J.ca hX (by kernel_rfl) (g_Slots 7) [] 0 rfl rfl rfl rfl rfl rfl (fun _ => rfl) ?_
 rintro v As ⟨rfl, rfl⟩
 refine ⟨_, rfl, trivial, ?_⟩
 rw [show G.slots 7 = 2 from by kernel_rfl]
 refine J.r hX tk 400 (fun _ => rfl) fun b12 => ?_
 refine J.ca hX (by kernel_rfl) (g_Die 7 0 0 0 (by decide) (by decide)) [] 0 rfl rfl rfl rfl rfl rfl (fun _ => rfl) ?_
 rintro v As ⟨rfl, rfl⟩
 refine ⟨_, rfl, trivial, ?_⟩
 rw [show G.die 7 0 0 0 = 1 from by kernel_rfl]
 refine J.r hX tk 400 (fun _ => rfl) fun b13 => ?_
 refine J.ca hX (by kernel_rfl) (g_Slot 7 0 0 2) [] 0 rfl rfl rfl rfl rfl rfl (fun _ => rfl) ?_
 rintro v As ⟨rfl, rfl⟩
 refine ⟨_, rfl, trivial, ?_⟩
 rw [show G.slot 7 0 0 2 = 1 from by kernel_rfl]
 refine J.r hX tk 400 (fun _ => rfl) fun b14 => ?_
 refine J.ca hX (by kernel_rfl) (g_Slot 7 0 0 0) [] 0 rfl rfl rfl rfl rfl rfl (fun _ => rfl) ?_
 rintro v As ⟨rfl, rfl⟩
 refine ⟨_, rfl, trivial, ?_⟩
 rw [show G.slot 7 0 0 0 = -1 from by kernel_rfl]
 refine J.r hX tk 400 (fun _ => rfl) fun b15 => ?_
 refine J.ca hX (by kernel_rfl) (g_Logical 3 8 2 rfl) [] 0 rfl rfl rfl rfl rfl rfl (fun _ => rfl) ?_
 rintro v As ⟨rfl, rfl⟩
 refine ⟨_, rfl, trivial, ?_⟩
 refine J.r hX tk 400 (fun _ => rfl) fun b16 => ?_
 refine J.rt hX tk [] rfl rfl rfl ?_
 exact ⟨by kernel_rfl, rfl⟩
theorem l6_Begun : Fn Tryz.prog 251 [] [] (fun v As => v = .bool true ∧ As = []) := by
 refine Fn.enter [] Tryz.func251 rfl rfl rfl fun X F hX => ?_
 refine J.r hX tk 400 (fun _ => rfl) fun b17 => ?_
 refine J.ca hX (by kernel_rfl) (l6_begun) [] 0 rfl rfl rfl rfl rfl rfl (fun _ => rfl) ?_
 rintro v As ⟨rfl, rfl⟩
 refine ⟨_, rfl, trivial, ?_⟩
 refine J.r hX tk 400 (fun _ => rfl) fun b18 => ?_
 refine J.rt hX tk [] rfl rfl rfl ?_
 exact ⟨rfl, rfl⟩
def ft (a k d n x : Int) : List Value := [.int .i64 a, .int .i64 k, .int .i64 d, .int .i64 0, .int .i64 0, .int .i64 n, .int .i64 x]
theorem q_May0 : Fn Tryz.prog 267 [.agg #[.int .i64 3, .int .i64 8, .int .i64 2], .agg (ft 3 4 2 0 0).toArray] [] (fun v As => v = .bool true ∧ As = []) := by
 refine Fn.enter [0, 0] Tryz.func267 rfl rfl rfl fun X F hX => ?_
 refine J.r hX tk 400 (fun _ => rfl) fun b19 => ?_
 refine J.cond rfl (fun _ => ?_) (fun h => absurd h (by decide))
 refine J.r hX tk 400 (fun _ => rfl) fun b20 => ?_
 refine J.ca hX (by kernel_rfl) (f_In 3 8 2 2 0 0 (by decide) (by decide) (by decide)) [] 0 rfl rfl rfl rfl rfl rfl (fun _ => rfl) ?_
 rintro v As ⟨rfl, rfl⟩
 refine ⟨_, rfl, trivial, ?_⟩
 refine J.r hX tk 400 (fun _ => rfl) fun b21 => ?_
 refine J.rt hX tk [] rfl rfl rfl ?_
 exact ⟨rfl, rfl⟩
theorem q_May1 : Fn Tryz.prog 267 [.agg #[.int .i64 3, .int .i64 8, .int .i64 2], .agg (ft (-1) 0 0 0 0).toArray] [] (fun v As => v = .bool false ∧ As = []) := by
 refine Fn.enter [0, 0] Tryz.func267 rfl rfl rfl fun X F hX => ?_
 refine J.r hX tk 400 (fun _ => rfl) fun b22 => ?_
 refine J.cond rfl (fun _ => ?_) (fun h => absurd h (by decide))
 refine J.r hX tk 400 (fun _ => rfl) fun b23 => ?_
 refine J.val hX (.bool false) 0 rfl rfl (fun hg a w he hw => absurd hg (by decide)) rfl trivial ?_
 refine J.r hX tk 400 (fun _ => rfl) fun b24 => ?_
 refine J.rt hX tk [] rfl rfl rfl ?_
 exact ⟨rfl, rfl⟩
theorem q_Sort1 (a : Option Addr) (c : Nat) (d : Value) : Fn Tryz.prog 293 [.slice a 1 c, .int .i64 0, .int .i64 1, d] [] (fun v As => v = .tuple #[] ∧ As = []) := by
 refine Fn.enter [0, 0, 0, 0] Tryz.func293 rfl rfl rfl fun X F hX => ?_
 refine J.r hX tk 400 (fun _ => rfl) fun b25 => ?_
 refine J.lo (α := Nat) (fun k => True) (fun k => [⟨8, .int .i64 1, 0, .tt⟩, ⟨2, .int .i64 1, 0, .tt⟩]) [] (fun k => []) (fun k => 0) (0) (trivial) rfl ?_ (fun _ => rfl) fun k hI => ?_
 ·rfl
 refine J.r hX tk 400 (fun _ => rfl) fun b27 => ?_
 refine J.cond rfl (fun h => absurd h (by decide)) (fun _ => ?_)
 refine J.r hX tk 400 (fun _ => rfl) fun b28 => ?_
 refine J.fi hX tk [] rfl rfl rfl ?_
 exact ⟨rfl, rfl⟩
theorem q_Stable (a : Option Addr) (c : Nat) (d : Value) : Fn Tryz.prog 278 [.slice a 1 c, .int .i64 1, d] [] (fun v As => v = .tuple #[] ∧ As = []) := by
 refine Fn.enter [0, 0, 0] Tryz.func278 rfl rfl rfl fun X F hX => ?_
 refine J.r hX tk 400 (fun _ => rfl) fun b29 => ?_
 refine J.lo (α := Nat) (fun k => True) (fun k => [⟨8, .int .i64 20, 0, .tt⟩, ⟨6, .int .i64 20, 0, .tt⟩, ⟨7, .int .i64 0, 0, .tt⟩, ⟨0, .slice a 1 c, 0, .tt⟩, ⟨1, .int .i64 1, 0, .tt⟩, ⟨2, d, 0, .tt⟩]) [] (fun k => []) (fun k => 0) (0) (trivial) rfl ?_ (fun _ => rfl) fun k hI => ?_
 ·rfl
 refine J.r hX tk 400 (fun _ => rfl) fun b31 => ?_
 refine J.cond rfl (fun h => absurd h (by decide)) (fun _ => ?_)
 refine J.r hX tk 400 (fun _ => rfl) fun b32 => ?_
 refine J.ca hX (by kernel_rfl) (q_Sort1 a c d) [] 0 rfl rfl rfl rfl rfl rfl (fun _ => rfl) ?_
 rintro v As ⟨rfl, rfl⟩
 refine ⟨_, rfl, trivial, ?_⟩
 refine J.r hX tk 400 (fun _ => rfl) fun b34 => ?_
 refine J.lo (α := Nat) (fun k => True) (fun k => [⟨6, .int .i64 20, 0, .tt⟩, ⟨1, .int .i64 1, 0, .tt⟩]) [] (fun k => []) (fun k => 0) (0) (trivial) rfl ?_ (fun _ => rfl) fun k hI => ?_
 ·rfl
 refine J.r hX tk 400 (fun _ => rfl) fun b36 => ?_
 refine J.cond rfl (fun h => absurd h (by decide)) (fun _ => ?_)
 refine J.r hX tk 400 (fun _ => rfl) fun b37 => ?_
 refine J.fi hX tk [] rfl rfl rfl ?_
 exact ⟨rfl, rfl⟩
theorem q_SortStable (a : Option Addr) (c : Nat) (d : Value) : Fn Tryz.prog 268 [.slice a 1 c, d] [] (fun v As => v = .tuple #[] ∧ As = []) := by
 refine Fn.enter [0, 0] Tryz.func268 rfl rfl rfl fun X F hX => ?_
 refine J.r hX tk 400 (fun _ => rfl) fun b38 => ?_
 refine J.ca hX (by kernel_rfl) (q_Stable a c d) [] 0 rfl rfl rfl rfl rfl rfl (fun _ => rfl) ?_
 rintro v As ⟨rfl, rfl⟩
 refine ⟨_, rfl, trivial, ?_⟩
 refine J.r hX tk 400 (fun _ => rfl) fun b40 => ?_
 refine J.fi hX tk [] rfl rfl rfl ?_
 exact ⟨rfl, rfl⟩
def fk (k : Nat) : List Value := match k with | 0 => [] | _ => ft 3 4 2 0 0
theorem q_New (g : Nat) : Fn Tryz.prog 249 [.agg #[.int .i64 3, .int .i64 8, .int .i64 2], .slice (some ⟨g, 0, none⟩) 2 2] [.pt g 55 (ft 3 4 2 0 0 ++ ft (-1) 0 0 0 0)]
  (fun v As => ∃ p a c, v = .pointer (some ⟨p, 0, none⟩) ∧ As = [.pt p 297 [slv a 1 c], ownA 55 7 a 1 c (ft 3 4 2 0 0)]) := by
 refine Fn.enter [0, 2] Tryz.func249 rfl rfl rfl fun X F hX => ?_
 refine J.r hX tk 400 (fun _ => rfl) fun bb => ?_
 refine J.turn1 [] rfl (As := [ownA 55 7 none 0 0 (fk 0)]) (fun h s => Sep.one ⟨rfl, rfl, rfl⟩) rfl ?_
 refine J.r hX tk 400 (fun _ => rfl) fun b41 => ?_
 refine J.lo (α := (Nat × Option Nat × Nat)) (fun z => z.1 ≤ 2) (fun z => [⟨12, .int .i64 z.1, 0, .tt⟩, ⟨11, .int .i64 2, 0, .tt⟩, ⟨10, .slice (some ⟨g, 0, none⟩) 2 2, 2, .tt⟩, ⟨2, .pointer (some ⟨bb 0, 0, none⟩), 3, .tt⟩, ⟨5, .pointer (some ⟨bb 1, 0, none⟩), 4, .tt⟩]) [3, 4] (fun z => [.pt (bb 1) 297 [slv z.2.1 (nk z.1) z.2.2], ownA 55 7 z.2.1 (nk z.1) z.2.2 (fk z.1)]) (fun z => 2 - z.1) ((0, none, 0)) (Nat.zero_le _) rfl ?_ (fun _ => rfl) fun z hI => ?_
 ·rfl
 obtain ⟨k, a, c⟩ := z
 dsimp only at hI ⊢
 rcases (by omega : k = 0 ∨ k = 1 ∨ k = 2) with rfl | rfl | rfl
 ·refine J.r hX tk 400 (fun _ => rfl) fun b43 => ?_
  refine J.cond rfl (fun _ => ?_) (fun h => absurd h (by decide))
  refine J.r hX tk 400 (fun _ => rfl) fun b44 => ?_
  refine J.val hX (.agg (ft 3 4 2 0 0).toArray) 0 rfl rfl (fun hg a w he hw => loadN_run tk rfl rfl he rfl rfl rfl (hw.get (i := 1) rfl) rfl rfl) rfl trivial ?_
  refine J.r hX tk 400 (fun _ => rfl) fun b45 => ?_
  refine J.ca hX (by kernel_rfl) (q_May0) [] 0 rfl rfl rfl rfl rfl rfl (fun _ => rfl) ?_
  rintro v As ⟨rfl, rfl⟩
  refine ⟨_, rfl, trivial, ?_⟩
  refine J.r hX tk 400 (fun _ => rfl) fun b47 => ?_
  refine J.cond rfl (fun _ => ?_) (fun h => absurd h (by decide))
  refine J.r hX tk 400 (fun _ => rfl) fun b48 => ?_
  refine J.plan (.of [0,4,8,12,17,21,26,30,32,36,43]) [8,9,10] [3,5] (by rw [hX.hP]; kernel_rfl) (by kernel_rfl) ?_
  refine J.r hX tk 400 (fun _ => rfl) fun b49 => ?_
  refine J.append hX tk 4 6 0 rfl rfl rfl rfl rfl rfl rfl rfl rfl rfl rfl rfl rfl rfl rfl rfl (by decide) (by decide) (fun _ => rfl) fun a2 c2 => ⟨_, rfl, ⟨rfl, rfl, trivial⟩, ?_⟩
  refine J.r hX tk 400 (fun _ => rfl) fun b50 => ?_
  refine J.nS ((1, a2, c2)) (by dsimp only; omega) (by dsimp only; omega) [0, 1, 2, 3, 4] rfl rfl
 ·refine J.r hX tk 400 (fun _ => rfl) fun b52 => ?_
  refine J.cond rfl (fun _ => ?_) (fun h => absurd h (by decide))
  refine J.r hX tk 400 (fun _ => rfl) fun b53 => ?_
  refine J.val hX (.agg (ft (-1) 0 0 0 0).toArray) 0 rfl rfl (fun hg a w he hw => loadN_run tk rfl rfl he rfl rfl rfl (hw.get (i := 1) rfl) rfl rfl) rfl trivial ?_
  refine J.r hX tk 400 (fun _ => rfl) fun b54 => ?_
  refine J.ca hX (by kernel_rfl) (q_May1) [] 0 rfl rfl rfl rfl rfl rfl (fun _ => rfl) ?_
  rintro v As ⟨rfl, rfl⟩
  refine ⟨_, rfl, trivial, ?_⟩
  refine J.r hX tk 400 (fun _ => rfl) fun b56 => ?_
  refine J.cond rfl (fun h => absurd h (by decide)) (fun _ => ?_)
  refine J.r hX tk 400 (fun _ => rfl) fun b57 => ?_
  refine J.nS ((2, a, c)) (by dsimp only; omega) (by dsimp only; omega) [0, 1, 2, 3, 4] rfl rfl
 ·refine J.r hX tk 400 (fun _ => rfl) fun b59 => ?_
  refine J.cond rfl (fun h => absurd h (by decide)) (fun _ => ?_)
  refine J.r hX tk 400 (fun _ => rfl) fun b60 => ?_
  refine J.ca hX (by kernel_rfl) (q_SortStable (oad a) c (.func (.func 269) #[] #[])) [] 0 rfl rfl rfl rfl rfl rfl (fun _ => rfl) ?_
  rintro v As ⟨rfl, rfl⟩
  refine ⟨_, rfl, trivial, ?_⟩
  refine J.r hX tk 400 (fun _ => rfl) fun b62 => ?_
  refine J.rt hX tk [3, 4] rfl rfl rfl ?_
  exact ⟨bb 1, a, c, rfl, rfl⟩
theorem q_Left (p : Nat) (a : Option Addr) (n c : Nat) : Fn Tryz.prog 253 [.pointer (some ⟨p, 0, none⟩)] [.pt p 297 [.slice a n c]] (fun v As => v = .int .i64 n ∧ As = [.pt p 297 [.slice a n c]]) := by
 refine Fn.enter [2] Tryz.func253 rfl rfl rfl fun X F hX => ?_
 refine J.r hX tk 400 (fun _ => rfl) fun b63 => ?_
 refine J.cond rfl (fun h => by simp at h) (fun _ => ?_)
 refine J.r hX tk 400 (fun _ => rfl) fun b64 => ?_
 refine J.rt hX tk [1] rfl rfl rfl ?_
 exact ⟨rfl, rfl⟩
theorem q_Dies (g : Nat) : Fn Tryz.prog 255 [.slice (some ⟨g, 0, none⟩) 1 1] [.pt g 55 (ft 0 0 2 0 0)] (fun v As => v = .int .i64 4 ∧ As = []) := by
 refine Fn.enter [2] Tryz.func255 rfl rfl rfl fun X F hX => ?_
 refine J.r hX tk 400 (fun _ => rfl) fun b65 => ?_
 refine J.lo (α := Nat) (fun k => k ≤ 1) (fun k => [⟨8, .int .i64 k, 0, .tt⟩, ⟨7, .int .i64 1, 0, .tt⟩, ⟨6, .slice (some ⟨g, 0, none⟩) 1 1, 2, .tt⟩, ⟨3, .int .i64 (4 * k), 0, .tt⟩]) [] (fun k => []) (fun k => 1 - k) (0) (Nat.zero_le _) rfl ?_ (fun _ => rfl) fun k hI => ?_
 ·rfl
 rcases (by omega : k = 0 ∨ k = 1) with rfl | rfl
 ·refine J.r hX tk 400 (fun _ => rfl) fun b67 => ?_
  refine J.cond rfl (fun _ => ?_) (fun h => absurd h (by decide))
  refine J.r hX tk 400 (fun _ => rfl) fun b68 => ?_
  refine J.val hX (.agg (ft 0 0 2 0 0).toArray) 0 rfl rfl (fun hg a w he hw => loadN_run tk rfl rfl he rfl rfl rfl (hw.get (i := 1) rfl) rfl rfl) rfl trivial ?_
  refine J.r hX tk 400 (fun _ => rfl) fun b69 => ?_
  refine J.ca hX (by kernel_rfl) (l_With 0 2) [] 0 rfl rfl rfl rfl rfl rfl (fun _ => rfl) ?_
  rintro v As ⟨rfl, rfl⟩
  refine ⟨_, rfl, trivial, ?_⟩
  refine J.r hX tk 400 (fun _ => rfl) fun b71 => ?_
  refine J.nS (1) (by omega) (by omega) [0, 1] rfl rfl
 ·refine J.r hX tk 400 (fun _ => rfl) fun b73 => ?_
  refine J.cond rfl (fun h => absurd h (by decide)) (fun _ => ?_)
  refine J.r hX tk 400 (fun _ => rfl) fun b74 => ?_
  refine J.rt hX tk [] rfl rfl rfl ?_
  exact ⟨rfl, rfl⟩
theorem q_Clone (g c : Nat) : Fn Tryz.prog 290 [slv (some g) 1 c] [ownA 55 7 (some g) 1 c (ft 3 4 2 0 0)]
  (fun v As => ∃ a' c', v = slv a' 1 c' ∧ As = [ownA 55 7 (some g) 1 c (ft 3 4 2 0 0), ownA 55 7 a' 1 c' (ft 3 4 2 0 0)]) := by
 refine Fn.enter [0] Tryz.func290 rfl rfl rfl fun X F hX => ?_
 refine J.r hX tk 400 (fun _ => rfl) fun b1 => ?_
 refine J.cond rfl (fun h => by simp at h) (fun _ => ?_)
 refine J.r hX tk 5 (fun _ => rfl) fun bb => ?_
 refine J.closeOwn (e := 55) (size := 7) (n := 0) (cap := 0) (xs := []) 2 rfl rfl rfl (Nat.le_refl _) (Nat.zero_le _) rfl rfl rfl ?_
 refine J.r hX tk 400 (fun _ => rfl) fun b2 => ?_
 refine J.appendR hX tk (a := some (bb 0)) (n := 0) (cap := 0) (xs := []) (oo := 0) (Ay := ownA 55 7 (some g) 1 c (ft 3 4 2 0 0)) 2 1 0 rfl rfl rfl rfl rfl rfl rfl rfl rfl rfl (own_rd _ _ (some g) _ _ _) rfl rfl rfl rfl (by decide) (by decide) (by decide) (fun _ => rfl) fun a' c' => ⟨_, rfl, trivial, ?_⟩
 refine J.r hX tk 400 (fun _ => rfl) fun b3 => ?_
 refine J.rt hX tk [1, 2] rfl rfl rfl ?_
 exact ⟨a', c', rfl, rfl⟩
theorem q_Due (p g c : Nat) : Fn Tryz.prog 272 [.pointer (some ⟨p, 0, none⟩), .int .i64 3] [.pt p 297 [slv (some g) 1 c], ownA 55 7 (some g) 1 c (ft 3 4 2 0 0)]
  (fun v As => ∃ x a' c', v = slv a' 1 c' ∧ As = [.pt p 297 [x], ownA 55 7 (some g) 1 c (ft 3 4 2 0 0), ownA 55 7 a' 1 c' (ft 3 4 2 0 0)]) := by
 refine Fn.enter [2, 0] Tryz.func272 rfl rfl rfl fun X F hX => ?_
 refine J.know (p := 1 ≤ c) (fun h' s => by obtain ⟨_, cur, h1, h2, _⟩ := s.get (i := 2) rfl; exact h2) fun hc => ?_
 refine J.r hX tk 400 (fun _ => rfl) fun b4 => ?_
 refine J.cond rfl (fun h => by simp at h) (fun _ => ?_)
 refine J.r hX tk 400 (fun _ => rfl) fun b5 => ?_
 refine J.lo (α := Nat) (fun k => k ≤ 1) (fun k => [⟨5, .int .i64 k, 0, .tt⟩, ⟨0, .pointer (some ⟨p, 0, none⟩), 2, .tt⟩, ⟨1, .int .i64 3, 0, .tt⟩]) [] (fun k => []) (fun k => 1 - k) (0) (Nat.zero_le _) rfl ?_ (fun _ => rfl) fun k hI => ?_
 ·rfl
 rcases (by omega : k = 0 ∨ k = 1) with rfl | rfl
 ·refine J.r hX tk 400 (fun _ => rfl) fun b7 => ?_
  refine J.val hX (.int .i64 3) 0 rfl rfl (fun hg a w he hw => own1_run tk rfl rfl he hg rfl rfl (hw.get (i := 2) rfl) rfl) rfl trivial ?_
  refine J.r hX tk 400 (fun _ => rfl) fun b8 => ?_
  refine J.cond rfl (fun _ => ?_) (fun h => absurd h (by decide))
  refine J.r hX tk 400 (fun _ => rfl) fun b9 => ?_
  refine J.nS (1) (by omega) (by omega) [0, 1, 2] rfl rfl
 ·refine J.r hX tk 400 (fun _ => rfl) fun b11 => ?_
  refine J.val hX (.int .i64 3) 0 rfl rfl (fun hg a w he hw => absurd hg (by decide)) rfl trivial ?_
  refine J.r hX tk 400 (fun _ => rfl) fun b12 => ?_
  refine J.cond rfl (fun h => absurd h (by decide)) (fun _ => ?_)
  refine J.r hX tk 400 (fun _ => rfl) fun b13 => ?_
  refine J.ca hX (by kernel_rfl) (q_Clone g c) [2] 0 rfl rfl rfl rfl rfl rfl (fun _ => rfl) ?_
  rintro v As ⟨a', c', rfl, rfl⟩
  refine ⟨_, rfl, trivial, ?_⟩
  refine J.r hX tk 10 (fun _ => rfl) fun b15 => ?_
  refine J.val hX (.slice (if c = 1 then some ⟨g, 0, none⟩ else some ⟨g, 7, none⟩) 0 (c - 1)) 0 rfl rfl (fun hg a w he hw => ?_) rfl trivial ?_
  ·have e1 := ev_spec he (x := .tmp 41) (s := ⟨41, slv (some g) 1 c, 0, .tt⟩) rfl
   have e2 := ev_spec he (x := .tmp 42) (s := ⟨42, .int .i64 ((1 : Nat) : Int), 0, .tt⟩) rfl
   simp only [Slot.val, G.on] at e1 e2
   obtain ⟨d, f, zv, ok⟩ := tiOf_spec (tk.get (t := 284) rfl)
   obtain ⟨fe, rfl, g1, g2⟩ := ok.slice rfl
   simp only [execOp, Option.map_some, Option.map_none, e1, e2, slv, Instr.sliceAt, Instr.slice, Instr.sliceBounds, Instr.sliceBound, asIntOf, Sem.run_bind, Sem.run_pure, Result.andThen_ok, underlying_run ok.hd, sizeOf_run g1, g2]
   by_cases h : c = 1
   ·subst h; simp
   ·simp [h, Addr.add_none]
  refine J.r hX tk 400 (fun _ => rfl) fun b16 => ?_
  refine J.rt hX tk [1, 2, 3] rfl rfl rfl ?_
  exact ⟨_, a', c', rfl, rfl⟩
theorem q_Run (p g c q : Nat) (N : Nand) (hN : N.Ok) (ho : N.ops = 3) : Fn Tryz.prog 254 [.pointer (some ⟨p, 0, none⟩), .pointer (some ⟨q, 0, none⟩)] [.pt p 297 [slv (some g) 1 c], ownA 55 7 (some g) 1 c (ft 3 4 2 0 0), NandA q N]
  (fun v As => v = .int .i64 1 ∧ As = [.emp, .emp, NandA q (N.fault 4 2 0 0 0 0).2]) := by
 refine Fn.enter [2, 0] Tryz.func254 rfl rfl rfl fun X F hX => ?_
 refine J.r hX tk 400 (fun _ => rfl) fun b17 => ?_
 refine J.ca hX (by kernel_rfl) (n_Ops q N) [3] 0 rfl rfl rfl rfl rfl rfl (fun _ => rfl) ?_
 rintro v As ⟨rfl, rfl⟩
 refine ⟨_, rfl, trivial, ?_⟩
 rw [ho]
 refine J.r hX tk 400 (fun _ => rfl) fun b19 => ?_
 refine J.ca hX (by kernel_rfl) (q_Due p g c) [1, 2] 0 rfl rfl rfl rfl rfl rfl (fun _ => rfl) ?_
 rintro v As ⟨x, a', c', rfl, rfl⟩
 refine ⟨_, rfl, trivial, ?_⟩
 refine J.know (fun h' s => own_some (c := (a', c')) (by decide) (s.get (i := 4) rfl)) fun hg => ?_
 obtain ⟨g', rfl⟩ := hg
 refine J.r hX tk 400 (fun _ => rfl) fun b20 => ?_
 refine J.lo (α := Nat) (fun k => k ≤ 1) (fun k => [⟨14, .int .i64 k, 0, .tt⟩, ⟨13, .int .i64 1, 0, .tt⟩, ⟨12, slv (some g') 1 c', 0, .tt⟩, ⟨5, slv (some g') 1 c', 0, .tt⟩, ⟨1, .pointer (some ⟨q, 0, none⟩), 0, .tt⟩]) [3] (fun k => [NandA q (if k = 0 then N else (N.fault 4 2 0 0 0 0).2)]) (fun k => 1 - k) (0) (Nat.zero_le _) rfl ?_ (fun _ => rfl) fun k hI => ?_
 ·rfl
 rcases (by omega : k = 0 ∨ k = 1) with rfl | rfl
 ·refine J.r hX tk 400 (fun _ => rfl) fun b22 => ?_
  refine J.cond rfl (fun _ => ?_) (fun h => absurd h (by decide))
  refine J.r hX tk 400 (fun _ => rfl) fun b23 => ?_
  refine J.val hX (.agg (ft 3 4 2 0 0).toArray) 0 rfl rfl (fun hg a w he hw => ownN_run tk rfl rfl he rfl rfl rfl (hw.get (i := 4) rfl) rfl rfl) rfl trivial ?_
  refine J.r hX tk 400 (fun _ => rfl) fun b24 => ?_
  refine J.ca hX (by kernel_rfl) (n_Fault q N hN 3 4 2 0 0 0 0) [3] 0 rfl rfl rfl rfl rfl rfl (fun _ => rfl) ?_
  rintro v As ⟨rfl, rfl⟩
  refine ⟨_, rfl, trivial, ?_⟩
  refine J.r hX tk 400 (fun _ => rfl) fun b26 => ?_
  refine J.nS (1) (by omega) (by omega) [0, 1, 2, 3, 4] rfl rfl
 ·refine J.r hX tk 400 (fun _ => rfl) fun b28 => ?_
  refine J.cond rfl (fun h => absurd h (by decide)) (fun _ => ?_)
  refine J.turn1 [1, 2] rfl (As := [.emp, .emp]) (fun h s => ⟨fun _ => 0, fun i A hA => by
   match i, hA with
   | 0, hA => simp at hA; subst hA; trivial
   | 1, hA => simp at hA; subst hA; trivial
   | k + 2, hA => simp at hA⟩) rfl ?_
  refine J.r hX tk 400 (fun _ => rfl) fun b29 => ?_
  refine J.rt hX tk [1, 2, 3] rfl rfl rfl ?_
  exact ⟨rfl, rfl⟩
def SpS (q : Nat) (l : List (A3 × Value)) : Atom := exA fun mr : Nat => [.pt q 322 [.map (some mr)], mapA mr a3v l]
theorem umapS : Tryz.prog.underlying 320 = some (.map 53 9) := by kernel_rfl
def sE : Value := .string ⟨#[]⟩
theorem zeroS (w : World) : (zeroValue 9).run Tryz.prog w = .ok sE w := by kernel_rfl
theorem t_New : Fn Tryz.prog 279 [] [] (fun v As => ∃ q, v = .pointer (some ⟨q, 0, none⟩) ∧ As = [SpS q []]) := by
 refine Fn.enter [] Tryz.func279 rfl rfl rfl fun X F hX => ?_
 refine J.r hX tk 400 (fun _ => rfl) fun bs => ?_
 refine J.turn1 [1] rfl (As := [mapA (bs 0) a3v ([] : List (A3 × Value))]) (fun h s => ?_) rfl ?_
 ·refine ⟨fun _ => 0, fun i A hA => ?_⟩
  cases i with
  | zero => simp at hA; subst hA; exact ⟨#[], 0, res_some.2 ⟨rfl, s.get (i := 0) rfl⟩, rfl, by simp, by simp⟩
  | succ k => simp at hA
 refine J.close (f := fun mr : Nat => [.pt (bs 1) 322 [.map (some mr)], mapA mr a3v ([] : List (A3 × Value))]) (bs 0) [2, 1] rfl rfl rfl ?_
 refine J.r hX tk 400 (fun _ => rfl) fun b1 => ?_
 refine J.rt hX tk [2] rfl rfl rfl ?_
 exact ⟨bs 1, rfl, rfl⟩
theorem t_Len (q : Nat) (l : List (A3 × Value)) : Fn Tryz.prog 284 [.pointer (some ⟨q, 0, none⟩)] [SpS q l] (fun v As => v = .int .i64 (l.length : Int) ∧ As = [SpS q l]) := by
 refine Fn.enter [2] Tryz.func284 rfl rfl rfl fun X F hX => ?_
 refine J.open_ (α := Nat) 1 rfl rfl (fun _ => rfl) fun mr => ?_
 refine J.r hX tk 400 (fun _ => rfl) fun b2 => ?_
 refine J.cond rfl (fun h => by simp at h) (fun _ => ?_)
 refine J.r hX tk 400 (fun _ => rfl) fun b3 => ?_
 refine J.val hX (.int .i64 (l.length : Int)) 0 rfl rfl (fun hg a w he hw => len_map_run umapS rfl rfl he rfl (hw.get (i := 2) rfl)) rfl trivial ?_
 refine J.close (f := fun mr : Nat => [.pt q 322 [.map (some mr)], mapA mr a3v l]) mr [1, 2] rfl rfl rfl ?_
 refine J.r hX tk 400 (fun _ => rfl) fun b4 => ?_
 refine J.rt hX tk [1] rfl rfl rfl ?_
 exact ⟨rfl, rfl⟩
theorem t_Get (q : Nat) (l : List (A3 × Value)) (x y z : Int) : Fn Tryz.prog 281 [.pointer (some ⟨q, 0, none⟩), .agg #[.int .i64 x, .int .i64 y, .int .i64 z]] [SpS q l]
  (fun v As => v = .tuple #[(alook l (x, y, z)).getD sE, .bool (alook l (x, y, z)).isSome] ∧ As = [SpS q l]) := by
 refine Fn.enter [2, 0] Tryz.func281 rfl rfl rfl fun X F hX => ?_
 refine J.open_ (α := Nat) 1 rfl rfl (fun _ => rfl) fun mr => ?_
 refine J.r hX tk 400 (fun _ => rfl) fun b5 => ?_
 refine J.cond rfl (fun h => by simp at h) (fun _ => ?_)
 refine J.r hX tk 400 (fun _ => rfl) fun b6 => ?_
 refine J.plan (.of [0,4,8,13,17,21,24,28,32,36,40]) [10] [1,2,3] (by rw [hX.hP]; kernel_rfl) (by kernel_rfl) ?_
 refine J.r hX tk 400 (fun _ => rfl) fun b7 => ?_
 refine J.valT hX (.tuple #[(alook l (x, y, z)).getD sE, .bool (alook l (x, y, z)).isSome]) 0 rfl rfl (fun _ a w he hC => ?_) rfl ?_
 ·exact (lookup_run (key := (x, y, z)) key39 umapS (z := sE) zeroS rfl rfl rfl rfl he rfl rfl (hC rfl _ (cget_mem (i := 2) rfl))).trans rfl
 refine J.close (f := fun mr : Nat => [.pt q 322 [.map (some mr)], mapA mr a3v l]) mr [1, 2] rfl rfl rfl ?_
 refine J.r hX tk 400 (fun _ => rfl) fun b8 => ?_
 refine J.rt hX tk [1] rfl rfl rfl ?_
 exact ⟨rfl, rfl⟩
theorem t_Set (q : Nat) (l : List (A3 × Value)) (x y z : Int) (b : ByteArray) : Fn Tryz.prog 280 [.pointer (some ⟨q, 0, none⟩), .agg #[.int .i64 x, .int .i64 y, .int .i64 z], .string b] [SpS q l]
  (fun v As => v = .tuple #[] ∧ As = [SpS q (aput l (x, y, z) (.string b))]) := by
 refine Fn.enter [2, 0, 0] Tryz.func280 rfl rfl rfl fun X F hX => ?_
 refine J.open_ (α := Nat) 1 rfl rfl (fun _ => rfl) fun mr => ?_
 refine J.r hX tk 400 (fun _ => rfl) fun b9 => ?_
 refine J.cond rfl (fun _ => ?_) (fun h => by simp at h)
 refine J.r hX tk 400 (fun _ => rfl) fun b10 => ?_
 refine J.plan (.of [0,4,8,13,17,20,27]) [6] [1,2,3] (by rw [hX.hP]; kernel_rfl) (by kernel_rfl) ?_
 refine J.r hX tk 400 (fun _ => rfl) fun b11 => ?_
 refine J.mapUpdate hX key39 umapS (x, y, z) 2 rfl rfl rfl rfl rfl rfl rfl rfl rfl rfl rfl rfl (fun _ => rfl) rfl ⟨trivial, ?_⟩
 refine J.close (f := fun mr : Nat => [.pt q 322 [.map (some mr)], mapA mr a3v (aput l (x, y, z) (.string b))]) mr [1, 2] rfl rfl rfl ?_
 refine J.r hX tk 400 (fun _ => rfl) fun b12 => ?_
 refine J.fi hX tk [1] rfl rfl rfl ?_
 exact ⟨rfl, rfl⟩
theorem adel_none {l : List (A3 × Value)} {k : A3} (h : (alook l k).isSome = false) : adel l k = l := by
 refine fi_none_del l k 0 ?_
 have := alook_fi l k 0
 cases hf : fi l k 0 with
 | none => rfl
 | some x => rw [hf] at this; rw [← this] at h; cases h
theorem t_Drop (q : Nat) (l : List (A3 × Value)) (x y z : Int) : Fn Tryz.prog 286 [.pointer (some ⟨q, 0, none⟩), .agg #[.int .i64 x, .int .i64 y, .int .i64 z]] [SpS q l]
  (fun v As => v = .bool (alook l (x, y, z)).isSome ∧ As = [SpS q (adel l (x, y, z))]) := by
 refine Fn.enter [2, 0] Tryz.func286 rfl rfl rfl fun X F hX => ?_
 refine J.r hX tk 400 (fun _ => rfl) fun b13 => ?_
 refine J.ca hX (by kernel_rfl) (t_Get q l x y z) [1] 0 rfl rfl rfl rfl rfl rfl (fun _ => rfl) ?_
 rintro v As ⟨rfl, rfl⟩
 refine ⟨_, rfl, trivial, ?_⟩
 refine J.r hX tk 400 (fun _ => rfl) fun b14 => ?_
 refine J.cond rfl (fun h => ?_) (fun h => ?_)
 ·refine J.open_ (α := Nat) 1 rfl rfl (fun _ => rfl) fun mr => ?_
  refine J.r hX tk 400 (fun _ => rfl) fun b15 => ?_
  refine J.plan (.of [0,4,8,13,17,22]) [] [1,2] (by rw [hX.hP]; kernel_rfl) (by kernel_rfl) ?_
  refine J.r hX tk 400 (fun _ => rfl) fun b16 => ?_
  refine J.delete hX key39 umapS (x, y, z) 3 rfl rfl rfl rfl rfl rfl rfl rfl rfl rfl (fun _ => rfl) rfl ⟨⟨rfl, rfl, trivial⟩, ?_⟩
  refine J.close (f := fun mr : Nat => [.pt q 322 [.map (some mr)], mapA mr a3v (adel l (x, y, z))]) mr [1, 3] rfl rfl rfl ?_
  refine J.r hX tk 400 (fun _ => rfl) fun b17 => ?_
  refine J.rt hX tk [1] rfl rfl rfl ?_
  exact ⟨rfl, rfl⟩
 ·refine J.r hX tk 400 (fun _ => rfl) fun b18 => ?_
  refine J.rt hX tk [1] rfl rfl rfl ?_
  exact ⟨rfl, by rw [adel_none h]; rfl⟩
theorem pickS_snoc {l : List (A3 × Value)} {is : List Nat} {j : Nat} {y : A3 × Value} (hy : l[j]? = some y) : cellsA (pickA (l.map (·.1)) is) ++ [.int .i64 y.1.1, .int .i64 y.1.2.1, .int .i64 y.1.2.2] = cellsA (pickA (l.map (·.1)) (is ++ [j])) := by
 simp [cellsA, pickA, hy]
theorem t_All (q : Nat) (l : List (A3 × Value)) (hl : l.length ≤ 12) : Fn Tryz.prog 282 [.pointer (some ⟨q, 0, none⟩)] [SpS q l]
  (fun v As => ∃ a cap l0 l', l0.Perm (l.map (·.1)) ∧ l' = isort ordI l0 ∧ v = slv a l'.length cap ∧ As = [SpS q l, ownA 53 3 a l'.length cap (cellsA l')]) := by
 refine Fn.enter [2] Tryz.func282 rfl rfl rfl fun X F hX => ?_
 refine J.open_ (α := Nat) 1 rfl rfl (fun _ => rfl) fun mr => ?_
 refine J.r hX tk 400 (fun _ => rfl) fun b19 => ?_
 refine J.cond rfl (fun h => by simp at h) (fun _ => ?_)
 refine J.r hX tk 400 (fun _ => rfl) fun b20 => ?_
 refine J.rangeMap hX 2 umapS rfl rfl rfl rfl rfl rfl rfl (fun _ => rfl) (fun _ => rfl) fun r => ⟨trivial, ?_⟩
 refine J.turn1 [] rfl (As := [ownA 53 3 none 0 0 (cellsA (pickA (l.map (·.1)) []))]) (fun h s => Sep.one ⟨rfl, rfl, rfl⟩) rfl ?_
 refine J.r hX tk 400 (fun _ => rfl) fun b21 => ?_
 refine J.lo (α := (List Nat × Option Nat × Nat)) (fun x => True) (fun x => [⟨11, .pointer (some ⟨r, 0, none⟩), 0, .tt⟩, ⟨3, slv x.2.1 x.1.length x.2.2, 0, .tt⟩]) [2, 3] (fun x => [itA mr r a3v l x.1, ownA 53 3 x.2.1 x.1.length x.2.2 (cellsA (pickA (l.map (·.1)) x.1))]) (fun x => l.length - x.1.length) (([], none, 0)) (trivial) rfl ?_ (fun _ => rfl) fun x hI => ?_
 ·rfl
 obtain ⟨is, a, cap⟩ := x
 dsimp only
 refine J.r hX tk 400 (fun _ => rfl) fun b23 => ?_
 refine J.know (p := is.Nodup ∧ ∀ i ∈ is, i < l.length) (fun h s => ?_) fun hk => ?_
 ·obtain ⟨_, _, _, _, _, _, _, _, h1, h2, _⟩ := s.get (i := 2) rfl
  exact ⟨h1, h2⟩
 have hle := nodup_le _ _ hk.1 hk.2
 refine J.rangeNext hX 2 rfl rfl rfl rfl rfl rfl rfl (fun _ => rfl) (fun _ => rfl) (fun hp => ⟨trivial, ?_⟩) (fun j y hj hy => ⟨trivial, ?_⟩)
 ·refine J.r hX tk 400 (fun _ => rfl) fun b24 => ?_
  refine J.cond rfl (fun h => by simp at h) (fun _ => ?_)
  refine J.r hX tk 400 (fun _ => rfl) fun b25 => ?_
  refine J.ca hX (by kernel_rfl) (s_SortFunc 223 ordI (by kernel_rfl) s_order a is.length cap (pickA (l.map (·.1)) is) (by simp [pickA]) (by omega)) [3] 0 rfl rfl rfl rfl rfl rfl (fun _ => rfl) ?_
  rintro v As ⟨rfl, rfl⟩
  refine ⟨_, rfl, trivial, ?_⟩
  refine J.turn1 [2] rfl (As := [mapA mr a3v l]) (fun h s => it_map s) rfl ?_
  refine J.close (f := fun mr : Nat => [.pt q 322 [.map (some mr)], mapA mr a3v l]) mr [1, 2] rfl rfl rfl ?_
  refine J.r hX tk 400 (fun _ => rfl) fun b27 => ?_
  refine J.rt hX tk [1, 3] rfl rfl rfl ?_
  have hlen : is.length = (isort ordI (pickA (l.map (·.1)) is)).length := by rw [(isort_perm _ _).length_eq]; simp [pickA]
  refine ⟨a, cap, pickA (l.map (·.1)) is, isort ordI (pickA (l.map (·.1)) is), pickA_perm (by rw [List.length_map]; exact hp), rfl, ?_, ?_⟩
  ·rw [← hlen]
  ·rw [← hlen]; rfl
 ·have hjl : j < l.length := (List.getElem?_eq_some_iff.1 hy).1
  refine J.r hX tk 400 (fun _ => rfl) fun b28 => ?_
  refine J.cond rfl (fun _ => ?_) (fun h => by simp at h)
  refine J.r hX tk 400 (fun _ => rfl) fun b29 => ?_
  have hlt : (is ++ [j]).length ≤ l.length := nodup_le _ _ (by
   rw [List.nodup_append]
   exact ⟨hk.1, by simp, fun a ha b hb => by simp at hb; subst hb; rintro rfl; exact hj ha⟩) (fun i hi => by
   rw [List.mem_append] at hi
   rcases hi with hi | hi
   ·exact hk.2 i hi
   ·simp at hi; subst hi; exact hjl)
  rw [List.length_append, List.length_singleton] at hlt
  refine J.rangeEntry hX 2 rfl rfl rfl rfl rfl rfl rfl hy rfl ⟨trivial, ?_⟩
  refine J.r hX tk 400 (fun _ => rfl) fun bb => ?_
  refine J.append hX tk 3 5 0 rfl rfl rfl rfl rfl rfl rfl rfl rfl rfl rfl rfl rfl rfl rfl rfl ?_ ?_ (fun _ => rfl) fun a' cap' => ⟨_, (congrArg (fun z => lset _ 3 (ownA _ _ _ _ _ z)) (pickS_snoc hy)).trans rfl, trivial, ?_⟩
  ·simp only [maxLen]; omega
  ·omega
  refine J.r hX tk 400 (fun _ => rfl) fun b30 => ?_
  rw [show is.length + 1 = (is ++ [j]).length from by simp]
  refine J.r hX tk 400 (fun _ => rfl) fun b31 => ?_
  refine J.nS ((is ++ [j], a', cap')) (trivial) (by dsimp only; rw [List.length_append, List.length_singleton]; omega) [0, 1, 2, 3] rfl rfl
theorem t_Block1 (b4 b5 : Nat) (die blk : Int) (x : A3) : Fn Tryz.prog 295 (aggA x :: [.pointer (some ⟨b4, 0, none⟩), .pointer (some ⟨b5, 0, none⟩)]) [.pt b4 3 [.int .i64 die], .pt b5 3 [.int .i64 blk]]
  (fun v As => v = .bool ((x.1 != die) || (x.2.1 != blk)) ∧ As = [.pt b4 3 [.int .i64 die], .pt b5 3 [.int .i64 blk]]) := by
 refine Fn.enter [0, 2, 3] Tryz.func295 rfl rfl rfl fun X F hX => ?_
 refine J.r hX tk 400 (fun _ => rfl) fun b32 => ?_
 refine J.rt hX tk [1, 2] rfl rfl rfl ?_
 exact ⟨rfl, rfl⟩
theorem t_Block (q : Nat) (l : List (A3 × Value)) (hl : l.length ≤ 12) (die blk : Int) : Fn Tryz.prog 285 [.pointer (some ⟨q, 0, none⟩), .int .i64 die, .int .i64 blk] [SpS q l]
  (fun v As => ∃ a cap l', l'.Perm ((l.map (·.1)).filter fun x => !((x.1 != die) || (x.2.1 != blk))) ∧ v = slv a l'.length cap ∧ As = [SpS q l, ownA 53 3 a l'.length cap (cellsA l')]) := by
 refine Fn.enter [2, 0, 0] Tryz.func285 rfl rfl rfl fun X F hX => ?_
 refine J.r hX tk 400 (fun _ => rfl) fun bb => ?_
 refine J.ca hX (by kernel_rfl) (t_All q l hl) [1] 0 rfl rfl rfl rfl rfl rfl (fun _ => rfl) ?_
 rintro v As ⟨a, cap, l0, l', hp0, hl', rfl, rfl⟩
 refine ⟨_, rfl, trivial, ?_⟩
 have hp : l'.Perm (l.map (·.1)) := by rw [hl']; exact (isort_perm _ _).trans hp0
 refine J.r hX tk 400 (fun _ => rfl) fun b34 => ?_
 refine J.turn1 [2, 3] rfl (As := [.hp (HP.of [.pt (bb 0) 3 [.int .i64 die], .pt (bb 1) 3 [.int .i64 blk]])]) (fun h s => Sep.hpOf.2 s) rfl ?_
 refine J.r hX tk 400 (fun _ => rfl) fun b35 => ?_
 refine J.ca hX (by kernel_rfl) (x_Delete 295 [.pointer (some ⟨bb 0, 0, none⟩), .pointer (some ⟨bb 1, 0, none⟩)] (fun x => (x.1 != die) || (x.2.1 != blk)) _ (by kernel_rfl) (fun x => Fn.pack (t_Block1 (bb 0) (bb 1) die blk x)) a l'.length cap l' rfl (by rw [hp.length_eq, List.length_map]; omega)) [4, 2] 0 rfl rfl rfl rfl rfl rfl (fun _ => rfl) ?_
 rintro v As ⟨l2, rfl, rfl, rfl⟩
 refine ⟨_, rfl, trivial, ?_⟩
 refine J.r hX tk 400 (fun _ => rfl) fun b36 => ?_
 refine J.rt hX tk [1, 4] rfl rfl rfl ?_
 exact ⟨a, cap, _, hp.filter _, rfl, rfl⟩
end Go.Proofs.YtdocmcapegcoeaaGreat
