/- Helpers of the proofs about ostrakonlaw11, proved here: BgG, BgH, Rk, BgI, BgJ, PlX, PlTb. No condition. -/
import Derived.Test.YtoideahgjgaddaaGreatM14
import Derived.Test.YtoideahgjgaddaaGreatM15
import Derived.Test.YtoideahgjgaddaaGreatM16
import Derived.Test.YtoideahgjgaddaaGreatM18
import Derived.Test.YtoideahgjgaddaaGreatM19
import Derived.Test.YtoideahgjgaddaaGreatM20
set_option linter.unusedVariables false
set_option linter.unusedSimpArgs false
set_option linter.unusedSectionVars false
set_option linter.unnecessarySimpa false
namespace Go.Proofs.YtoideahgjgaddaaGreat
open Go Go.RowKit
/-- a page whose first two bytes are these -/
def pgB (a b : UInt8) : List UInt8 := [a, b, 0, 0, 0, 0, 0, 0, 0, 0, 0, 0, 0, 0, 0, 0, 0, 0, 0, 0, 0, 0, 0, 0, 0, 0, 0, 0, 0, 0, 0, 0]
namespace B7
def N0 : Nand := Nand.new 3 8 2
def N1 : Nand := N0.progN 1 0 0 (pgB 7 0)
def N2 : Nand := N1.progN 1 0 0 (pgB 8 0)
def N3 : Nand := (N2.fault 3 1 0 0 0 0).2
def N4 : Nand := N3.eraseN 1 0
def N5 : Nand := N4.setCut 0 1
def N6 : Nand := N5.progN 1 0 0 (pgB 5 6)
def N7 : Nand := N6.onN
def N8 : Nand := (N7.fault 4 2 0 0 0 0).2
theorem G0 : N0.Gd 100 0 := Nand.Gd.new 3 8 2 rfl 100 (by decide)
theorem G1 : N1.Gd 99 0 := G0.prog 1 0 0 _ rfl
theorem G2 : N2.Gd 98 0 := G1.prog 1 0 0 _ rfl
theorem G3 : N3.Gd 98 0 := G2.fault0 3 1 0 0 0 0 (by decide)
theorem G4 : N4.Gd 97 0 := G3.erase 1 0
theorem G5 : N5.Gd 97 0 := G4.cut 0 1 (by decide) (by decide)
theorem G6 : N6.Gd 96 0 := G5.prog 1 0 0 _ rfl
theorem G7 : N7.Gd 96 0 := G6.on
theorem G8 : N8.Gd 96 0 := G7.fault0 4 2 0 0 0 0 (by decide)
end B7
open B7
theorem n_NewNo : Fn Tryz.prog 22 [.agg #[.int .i64 0, .int .i64 0, .int .i64 0]] [] (fun v As => v = .pointer none ∧ As = []) := by
  refine Fn.enter [0] Tryz.func22 rfl rfl rfl fun X F hX => ?_
  refine J.r hX tab_ok 400 (fun _ => rfl) fun g1 => ?_
  refine J.r hX tab_ok 400 (fun _ => rfl) fun b1 => ?_
  refine J.ca hX (by kernel_rfl) (f_May 0 0 0) [] 0 rfl rfl rfl rfl rfl rfl (fun _ => rfl) ?_
  rintro v As ⟨rfl, rfl⟩
  refine ⟨_, rfl, trivial, ?_⟩
  rw [show geoMay 0 0 0 = false from rfl]
  refine J.r hX tab_ok 400 (fun _ => rfl) fun b2 => ?_
  refine J.cond rfl (fun _ => ?_) (fun h => by simp at h)
  refine J.r hX tab_ok 400 (fun _ => rfl) fun b3 => ?_
  refine J.rt hX tab_ok [] rfl rfl rfl ?_
  exact ⟨rfl, rfl⟩
set_option maxRecDepth 20000 in
theorem l7_begun : Fn Tryz.prog 166 [] [] (fun v As => v = .bool true ∧ As = []) := by
  refine Fn.enter [] Tryz.func166 rfl rfl rfl fun X F hX => ?_
  refine J.r hX tab_ok 400 (fun _ => rfl) fun b0 => ?_
  refine J.r hX tab_ok 400 (fun _ => rfl) fun b4 => ?_
  refine J.ca hX (by kernel_rfl) (n_New 3 8 2 rfl) [] 0 rfl rfl rfl rfl rfl rfl (fun _ => rfl) ?_
  rintro v As ⟨q, rfl, rfl⟩
  refine ⟨_, rfl, trivial, ?_⟩
  refine J.r hX tab_ok 400 (fun _ => rfl) fun b5 => ?_
  refine J.r hX tab_ok 400 (fun _ => rfl) fun b6 => ?_
  refine J.ca hX (by kernel_rfl) (n_NewNo) [] 0 rfl rfl rfl rfl rfl rfl (fun _ => rfl) ?_
  rintro v As ⟨rfl, rfl⟩
  refine ⟨_, rfl, trivial, ?_⟩
  refine J.r hX tab_ok 400 (fun _ => rfl) fun b7 => ?_
  refine J.cond rfl (fun h => absurd h (by decide)) (fun _ => ?_)
  refine J.r hX tab_ok 400 (fun _ => rfl) fun b8 => ?_
  refine J.plan (.of [0,5,8,16,21,24,14,31,32,36]) [7,8,9] [3] (by rw [hX.hP]; kernel_rfl) (by kernel_rfl) ?_
  refine J.r hX tab_ok 400 (fun _ => rfl) fun b9 => ?_
  refine J.r hX tab_ok 400 (fun _ => rfl) fun b10 => ?_
  refine J.ca hX (by kernel_rfl) (n_Program q N0 G0.ok G0.room 1 0 0 (pgB 7 0) rfl) [2] 0 rfl rfl rfl rfl rfl rfl (fun _ => rfl) ?_
  rintro v As ⟨rfl, rfl⟩
  refine ⟨_, rfl, ⟨rfl, trivial⟩, ?_⟩
  rw [show N0.progE 1 0 0 = 0 from by kernel_rfl]
  refine J.r hX tab_ok 400 (fun _ => rfl) fun b11 => ?_
  refine J.r hX tab_ok 400 (fun _ => rfl) fun b12 => ?_
  refine J.ca hX (by kernel_rfl) (n_Program q N1 G1.ok G1.room 1 0 0 (pgB 8 0) rfl) [2] 0 rfl rfl rfl rfl rfl rfl (fun _ => rfl) ?_
  rintro v As ⟨rfl, rfl⟩
  refine ⟨_, rfl, trivial, ?_⟩
  rw [show N1.progE 1 0 0 = 4 from by kernel_rfl]
  refine J.r hX tab_ok 400 (fun _ => rfl) fun b13 => ?_
  refine J.r hX tab_ok 400 (fun _ => rfl) fun b14 => ?_
  refine J.ca hX (by kernel_rfl) (n_Read q N2 G2.ok 1 0 0) [2] 0 rfl rfl rfl rfl rfl rfl (fun _ => rfl) ?_
  rintro v As ⟨rfl, rfl⟩
  refine ⟨_, rfl, trivial, ?_⟩
  rw [show N2.readE 1 0 0 = 0 from by kernel_rfl, show N2.readV 1 0 0 = pgB 7 0 from by kernel_rfl]
  refine J.r hX tab_ok 400 (fun _ => rfl) fun b15 => ?_
  refine J.r hX tab_ok 400 (fun _ => rfl) fun b16 => ?_
  refine J.ca hX (by kernel_rfl) (n_Read q N2 G2.ok 2 0 0) [2] 0 rfl rfl rfl rfl rfl rfl (fun _ => rfl) ?_
  rintro v As ⟨rfl, rfl⟩
  refine ⟨_, rfl, trivial, ?_⟩
  rw [show N2.readE 2 0 0 = 5 from by kernel_rfl]
  refine J.r hX tab_ok 400 (fun _ => rfl) fun b17 => ?_
  refine J.r hX tab_ok 400 (fun _ => rfl) fun b18 => ?_
  refine J.ca hX (by kernel_rfl) (n_Fault q N2 G2.ok 0 3 1 0 0 0 0) [2] 0 rfl rfl rfl rfl rfl rfl (fun _ => rfl) ?_
  rintro v As ⟨rfl, rfl⟩
  refine ⟨_, rfl, trivial, ?_⟩
  rw [show (N2.fault 3 1 0 0 0 0).1 = true from by kernel_rfl]
  refine J.r hX tab_ok 400 (fun _ => rfl) fun b19 => ?_
  refine J.r hX tab_ok 400 (fun _ => rfl) fun b20 => ?_
  refine J.ca hX (by kernel_rfl) (n_Read q N3 G3.ok 1 0 0) [2] 0 rfl rfl rfl rfl rfl rfl (fun _ => rfl) ?_
  rintro v As ⟨rfl, rfl⟩
  refine ⟨_, rfl, trivial, ?_⟩
  rw [show N3.readE 1 0 0 = 6 from by kernel_rfl]
  refine J.r hX tab_ok 400 (fun _ => rfl) fun b21 => ?_
  refine J.r hX tab_ok 400 (fun _ => rfl) fun b22 => ?_
  refine J.ca hX (by kernel_rfl) (n_Erase q N3 G3.ok G3.room G3.nodup (Nat.le_trans G3.few (by decide)) 1 0) [2] 0 rfl rfl rfl rfl rfl rfl (fun _ => rfl) ?_
  rintro v As ⟨rfl, rfl⟩
  refine ⟨_, rfl, trivial, ?_⟩
  rw [show N3.eraseE 1 0 = 0 from by kernel_rfl]
  refine J.r hX tab_ok 400 (fun _ => rfl) fun b23 => ?_
  refine J.r hX tab_ok 400 (fun _ => rfl) fun b24 => ?_
  refine J.ca hX (by kernel_rfl) (n_Cut q N4 0 1) [2] 0 rfl rfl rfl rfl rfl rfl (fun _ => rfl) ?_
  rintro v As ⟨rfl, rfl⟩
  refine ⟨_, rfl, trivial, ?_⟩
  refine J.r hX tab_ok 400 (fun _ => rfl) fun b25 => ?_
  refine J.r hX tab_ok 400 (fun _ => rfl) fun b26 => ?_
  refine J.ca hX (by kernel_rfl) (n_Program q N5 G5.ok G5.room 1 0 0 (pgB 5 6) rfl) [2] 0 rfl rfl rfl rfl rfl rfl (fun _ => rfl) ?_
  rintro v As ⟨rfl, rfl⟩
  refine ⟨_, rfl, trivial, ?_⟩
  rw [show N5.progE 1 0 0 = 9 from by kernel_rfl]
  refine J.r hX tab_ok 400 (fun _ => rfl) fun b27 => ?_
  refine J.r hX tab_ok 400 (fun _ => rfl) fun b28 => ?_
  refine J.ca hX (by kernel_rfl) (n_On q N6) [2] 0 rfl rfl rfl rfl rfl rfl (fun _ => rfl) ?_
  rintro v As ⟨rfl, rfl⟩
  refine ⟨_, rfl, trivial, ?_⟩
  refine J.r hX tab_ok 400 (fun _ => rfl) fun b29 => ?_
  refine J.r hX tab_ok 400 (fun _ => rfl) fun b30 => ?_
  refine J.ca hX (by kernel_rfl) (n_Read q N7 G7.ok 1 0 0) [2] 0 rfl rfl rfl rfl rfl rfl (fun _ => rfl) ?_
  rintro v As ⟨rfl, rfl⟩
  refine ⟨_, rfl, trivial, ?_⟩
  rw [show N7.readE 1 0 0 = 0 from by kernel_rfl, show N7.readV 1 0 0 = Nand.fillP 1 (pgB 5 6) from by kernel_rfl]
  refine J.r hX tab_ok 400 (fun _ => rfl) fun bf => ?_
  refine J.r hX tab_ok 400 (fun _ => rfl) fun b31 => ?_
  refine J.ca hX (by kernel_rfl) (q_New (bf (0 + 1))) [8] 0 rfl rfl rfl rfl rfl rfl (fun _ => rfl) ?_
  rintro v As ⟨p, a, c, rfl, rfl⟩
  refine ⟨_, rfl, trivial, ?_⟩
  refine J.know (fun h' s => own_some (c := (a, c)) (by decide) (s.get (i := 9) rfl)) fun hg => ?_
  obtain ⟨g, rfl⟩ := hg
  refine J.r hX tab_ok 400 (fun _ => rfl) fun b32 => ?_
  refine J.ca hX (by kernel_rfl) (l5_Begun) [] 0 rfl rfl rfl rfl rfl rfl (fun _ => rfl) ?_
  rintro v As ⟨rfl, rfl⟩
  refine ⟨_, rfl, trivial, ?_⟩
  refine J.r hX tab_ok 400 (fun _ => rfl) fun b33 => ?_
  refine J.ca hX (by kernel_rfl) (l6_Begun) [] 0 rfl rfl rfl rfl rfl rfl (fun _ => rfl) ?_
  rintro v As ⟨rfl, rfl⟩
  refine ⟨_, rfl, trivial, ?_⟩
  refine J.r hX tab_ok 400 (fun _ => rfl) fun b34 => ?_
  refine J.ca hX (by kernel_rfl) (n_Broken q N7) [2] 0 rfl rfl rfl rfl rfl rfl (fun _ => rfl) ?_
  rintro v As ⟨rfl, rfl⟩
  refine ⟨_, rfl, trivial, ?_⟩
  rw [show N7.broken = 1 from by kernel_rfl]
  refine J.r hX tab_ok 400 (fun _ => rfl) fun b35 => ?_
  refine J.val hX (.bool true) 0 rfl rfl (fun hg a w he hw => (eqAgg_run (xs := pageC (pgB 7 0)) (ys := pageC (pgB 7 0)) rfl rfl rfl he hg rfl leavesPg (fitsPg _) (fitsPg _) mkPg gdPg).trans (by rw [eqPg _ _ rfl rfl]; simp)) rfl trivial ?_
  refine J.r hX tab_ok 400 (fun _ => rfl) fun b36 => ?_
  refine J.ca hX (by kernel_rfl) (n_Ops q N7) [2] 0 rfl rfl rfl rfl rfl rfl (fun _ => rfl) ?_
  rintro v As ⟨rfl, rfl⟩
  refine ⟨_, rfl, trivial, ?_⟩
  rw [show N7.ops = 3 from by kernel_rfl]
  refine J.r hX tab_ok 400 (fun _ => rfl) fun b37 => ?_
  refine J.ca hX (by kernel_rfl) (n_Worn q N7 G7.ok 1 0) [2] 0 rfl rfl rfl rfl rfl rfl (fun _ => rfl) ?_
  rintro v As ⟨rfl, rfl⟩
  refine ⟨_, rfl, trivial, ?_⟩
  rw [show N7.wornAt 1 0 = 1 from by kernel_rfl]
  refine J.r hX tab_ok 400 (fun _ => rfl) fun b38 => ?_
  refine J.ca hX (by kernel_rfl) (n_Next q N7 G7.ok 1 0) [2] 0 rfl rfl rfl rfl rfl rfl (fun _ => rfl) ?_
  rintro v As ⟨rfl, rfl⟩
  refine ⟨_, rfl, trivial, ?_⟩
  rw [show N7.next 1 0 = 1 from by kernel_rfl]
  refine J.r hX tab_ok 400 (fun _ => rfl) fun b39 => ?_
  refine J.ca hX (by kernel_rfl) (q_Left p (some ⟨g, 0, none⟩) 1 c) [8] 0 rfl rfl rfl rfl rfl rfl (fun _ => rfl) ?_
  rintro v As ⟨rfl, rfl⟩
  refine ⟨_, rfl, trivial, ?_⟩
  refine J.r hX tab_ok 400 (fun _ => rfl) fun b40 => ?_
  refine J.ca hX (by kernel_rfl) (q_Run p g c q N7 G7.ok (by kernel_rfl)) [8, 9, 2] 0 rfl rfl rfl rfl rfl rfl (fun _ => rfl) ?_
  rintro v As ⟨rfl, rfl⟩
  refine ⟨_, rfl, trivial, ?_⟩
  refine J.r hX tab_ok 400 (fun _ => rfl) fun b41 => ?_
  refine J.ca hX (by kernel_rfl) (n_Dead q N8 G8.ok 2) [2] 0 rfl rfl rfl rfl rfl rfl (fun _ => rfl) ?_
  rintro v As ⟨rfl, rfl⟩
  refine ⟨_, rfl, trivial, ?_⟩
  rw [show N8.deadAt 2 = true from by kernel_rfl]
  refine J.r hX tab_ok 400 (fun _ => rfl) fun b42 => ?_
  refine J.effG hX tab_ok rfl rfl rfl (fun _ => rfl) (by (repeat' (first | exact Conj.nil | refine Conj.cons ?_ ?_ | omega | exact hq0 | (simpa using hq0) | (exact fun h => h) | exact rfl | (intro hq; have hq0 := hq; try simp only [Bool.and_eq_true, Bool.or_eq_true, decide_eq_true_eq, Bool.not_eq_true', decide_eq_false_iff_not] at hq) | (simp; done) | (simp; omega) | decide))) (fun _ => rfl) fun bg => ⟨trivial, ?_⟩
  refine J.r hX tab_ok 400 (fun _ => rfl) fun b43 => ?_
  refine J.ca hX (by kernel_rfl) (q_Dies bg) [10] 0 rfl rfl rfl rfl rfl rfl (fun _ => rfl) ?_
  rintro v As ⟨rfl, rfl⟩
  refine ⟨_, rfl, trivial, ?_⟩
  refine J.r hX tab_ok 400 (fun _ => rfl) fun b44 => ?_
  refine J.rt hX tab_ok [] rfl rfl rfl ?_
  exact ⟨rfl, rfl⟩
theorem l7_Begun : Fn Tryz.prog 117 [] [] (fun v As => v = .bool true ∧ As = []) := by
  refine Fn.enter [] Tryz.func117 rfl rfl rfl fun X F hX => ?_
  refine J.r hX tab_ok 400 (fun _ => rfl) fun b45 => ?_
  refine J.ca hX (by kernel_rfl) (l7_begun) [] 0 rfl rfl rfl rfl rfl rfl (fun _ => rfl) ?_
  rintro v As ⟨rfl, rfl⟩
  refine ⟨_, rfl, trivial, ?_⟩
  refine J.r hX tab_ok 400 (fun _ => rfl) fun b46 => ?_
  refine J.rt hX tab_ok [] rfl rfl rfl ?_
  exact ⟨rfl, rfl⟩
end Go.Proofs.YtoideahgjgaddaaGreat
namespace Go.Proofs.YtoideahgjgaddaaGreat
open Go Go.RowKit
theorem y_Blank1 (x : Int) : Fn Tryz.prog 232 [.int .u8 x] [] (fun v As => v = .bool (x != 255) ∧ As = []) := by
  refine Fn.enter [0] Tryz.func232 rfl rfl rfl fun X F hX => ?_
  refine J.r hX tab_ok 400 (fun _ => rfl) fun b1 => ?_
  refine J.rt hX tab_ok [] rfl rfl rfl ?_
  exact ⟨rfl, rfl⟩
theorem y_Index (b : Nat) (p : List UInt8) (h : (((p.getD 0 0).toNat : Int) != 255) = true) : Fn Tryz.prog 250 [.slice (some ⟨b, 0, none⟩) 32 32, .func (.func 232) #[] #[]] [.pt b 94 (pageC p)] (fun v As => v = .int .i64 0 ∧ As = []) := by
  refine Fn.enter [2, 0] Tryz.func250 rfl rfl rfl fun X F hX => ?_
  refine J.r hX tab_ok 400 (fun _ => rfl) fun b2 => ?_
  refine J.r hX tab_ok 400 (fun _ => rfl) fun b3 => ?_
  refine J.lo (α := Nat) (fun k => k = 0) (fun k => [⟨8, .int .i64 0, 0, .tt⟩, ⟨7, .int .i64 32, 0, .tt⟩, ⟨0, .slice (some ⟨b, 0, none⟩) 32 32, 2, .tt⟩, ⟨1, .func (.func 232) #[] #[], 0, .tt⟩]) [] (fun k => []) (fun k => 0) (0) (rfl) rfl ?_ (fun _ => rfl) fun k hI => ?_
  · rfl
  refine J.r hX tab_ok 400 (fun _ => rfl) fun b4 => ?_
  refine J.cond rfl (fun _ => ?_) (fun h => absurd h (by decide))
  refine J.r hX tab_ok 400 (fun _ => rfl) fun b5 => ?_
  refine J.val hX (byC p 0) 0 rfl rfl (fun hg a w he hw => load1_run tab_ok rfl rfl he rfl rfl rfl (hw.get (i := 1) rfl) rfl) rfl trivial ?_
  refine J.r hX tab_ok 400 (fun _ => rfl) fun b6 => ?_
  refine J.ca hX (by kernel_rfl) (y_Blank1 ((p.getD 0 0).toNat : Int)) [] 0 rfl rfl rfl rfl rfl rfl (fun _ => rfl) ?_
  rintro v As ⟨rfl, rfl⟩
  refine ⟨_, rfl, trivial, ?_⟩
  rw [h]
  refine J.r hX tab_ok 400 (fun _ => rfl) fun b7 => ?_
  refine J.cond rfl (fun _ => ?_) (fun h => absurd h (by decide))
  refine J.r hX tab_ok 400 (fun _ => rfl) fun b8 => ?_
  refine J.rt hX tab_ok [] rfl rfl rfl ?_
  exact ⟨rfl, rfl⟩
theorem y_Contains (b : Nat) (p : List UInt8) (h : (((p.getD 0 0).toNat : Int) != 255) = true) : Fn Tryz.prog 231 [.slice (some ⟨b, 0, none⟩) 32 32, .func (.func 232) #[] #[]] [.pt b 94 (pageC p)] (fun v As => v = .bool true ∧ As = []) := by
  refine Fn.enter [2, 0] Tryz.func231 rfl rfl rfl fun X F hX => ?_
  refine J.r hX tab_ok 400 (fun _ => rfl) fun b9 => ?_
  refine J.r hX tab_ok 400 (fun _ => rfl) fun b10 => ?_
  refine J.ca hX (by kernel_rfl) (y_Index b p h) [1] 0 rfl rfl rfl rfl rfl rfl (fun _ => rfl) ?_
  rintro v As ⟨rfl, rfl⟩
  refine ⟨_, rfl, trivial, ?_⟩
  refine J.r hX tab_ok 400 (fun _ => rfl) fun b11 => ?_
  refine J.rt hX tab_ok [] rfl rfl rfl ?_
  exact ⟨rfl, rfl⟩
theorem y_Blank (p : List UInt8) (h : (((p.getD 0 0).toNat : Int) != 255) = true) : Fn Tryz.prog 213 [pgV p] [] (fun v As => v = .bool false ∧ As = []) := by
  refine Fn.enter [0] Tryz.func213 rfl rfl rfl fun X F hX => ?_
  refine J.r hX tab_ok 400 (fun _ => rfl) fun bb => ?_
  refine J.r hX tab_ok 400 (fun _ => rfl) fun b12 => ?_
  refine J.ca hX (by kernel_rfl) (y_Contains (bb 0) p h) [1] 0 rfl rfl rfl rfl rfl rfl (fun _ => rfl) ?_
  rintro v As ⟨rfl, rfl⟩
  refine ⟨_, rfl, trivial, ?_⟩
  refine J.r hX tab_ok 400 (fun _ => rfl) fun b13 => ?_
  refine J.rt hX tab_ok [] rfl rfl rfl ?_
  exact ⟨rfl, rfl⟩
namespace B9
def e : En := ⟨3, 9, 1, [1, 2, 0, 0, 0, 0, 0, 0, 0, 0, 0, 0, 0, 0, 0, 0]⟩
def pad : En := ⟨0, 0, 3, zeros16⟩
def a : Sh := W.sh 2 1 7 e
def b : Sh := W.sh 2 1 7 pad
def p : Sh := W.par 2 1 7 [e, pad]
def pg : List UInt8 := putP a
theorem h_a : W.own 2 1 7 e = a := by kernel_rfl
theorem h_a2 : W.ok 2 1 7 e = true := by kernel_rfl
theorem h_b : W.own 2 1 7 pad = b := by kernel_rfl
theorem h_b2 : W.ok 2 1 7 pad = true := by kernel_rfl
theorem h_p2 : W.parB 2 1 7 [e, pad] = true := by kernel_rfl
theorem h_pl : p.data.length = 16 := by kernel_rfl
theorem h_m : S.may a = true := by kernel_rfl
theorem h_g : S.getV pg = a := by kernel_rfl
theorem h_g2 : S.getE pg = 0 := by kernel_rfl
theorem h_z2 : S.getE zeros32 = 1 := by kernel_rfl
theorem h_k : W.back p [b] = e := by kernel_rfl
theorem h_k2 : W.backB p [b] = true := by kernel_rfl
theorem h_meta : S.meta_ 2 5 77 = 144120685633994829 := by kernel_rfl
theorem h_mp : S.may p = true := by kernel_rfl
theorem h_mz : S.may Sh.zero = false := by kernel_rfl
theorem h_bl : (((pg.getD 0 0).toNat : Int) != 255) = true := by kernel_rfl
theorem h_pgl : pg.length = 32 := putP_len a rfl
end B9
open B9
set_option maxRecDepth 20000 in
theorem l9_begun : Fn Tryz.prog 167 [] [] (fun v As => v = .bool true ∧ As = []) := by
  refine Fn.enter [] Tryz.func167 rfl rfl rfl fun X F hX => ?_
  refine J.r hX tab_ok 400 (fun _ => rfl) fun b14 => ?_
  refine J.r hX tab_ok 400 (fun _ => rfl) fun b15 => ?_
  refine J.ca hX (by kernel_rfl) (w_Own 2 1 7 e rfl) [] 0 rfl rfl rfl rfl rfl rfl (fun _ => rfl) ?_
  rintro v As ⟨rfl, rfl⟩
  refine ⟨_, rfl, trivial, ?_⟩
  rw [h_a, h_a2]
  refine J.r hX tab_ok 400 (fun _ => rfl) fun b16 => ?_
  refine J.r hX tab_ok 400 (fun _ => rfl) fun b17 => ?_
  refine J.ca hX (by kernel_rfl) (w_Own 2 1 7 pad rfl) [] 0 rfl rfl rfl rfl rfl rfl (fun _ => rfl) ?_
  rintro v As ⟨rfl, rfl⟩
  refine ⟨_, rfl, trivial, ?_⟩
  rw [h_b, h_b2]
  refine J.r hX tab_ok 400 (fun _ => rfl) fun b1 => ?_
  refine J.r hX tab_ok 400 (fun _ => rfl) fun b18 => ?_
  refine J.ca hX (by kernel_rfl) (w_Parity 2 1 7 (.pt (b1 (0 + 1)) 45 (cellsE [e, pad])) (some ⟨b1 (0 + 1), 0, none⟩) 2 2 [e, pad] (pt_rd _ _ _ _ _ rfl) rfl (by decide)) [5] 0 rfl rfl rfl rfl rfl rfl (fun _ => rfl) ?_
  rintro v As ⟨rfl, rfl⟩
  refine ⟨_, rfl, trivial, ?_⟩
  rw [show W.par 2 1 7 [e, pad] = p from rfl, h_p2]
  refine J.r hX tab_ok 400 (fun _ => rfl) fun b19 => ?_
  refine J.r hX tab_ok 400 (fun _ => rfl) fun b20 => ?_
  refine J.ca hX (by kernel_rfl) (h_Put a rfl) [] 0 rfl rfl rfl rfl rfl rfl (fun _ => rfl) ?_
  rintro v As ⟨rfl, rfl⟩
  refine ⟨_, rfl, trivial, ?_⟩
  rw [show putP a = pg from rfl, h_m]
  refine J.r hX tab_ok 400 (fun _ => rfl) fun b21 => ?_
  refine J.r hX tab_ok 400 (fun _ => rfl) fun b22 => ?_
  refine J.ca hX (by kernel_rfl) (h_Get pg h_pgl) [] 0 rfl rfl rfl rfl rfl rfl (fun _ => rfl) ?_
  rintro v As ⟨rfl, rfl⟩
  refine ⟨_, rfl, trivial, ?_⟩
  rw [h_g, h_g2]
  refine J.r hX tab_ok 400 (fun _ => rfl) fun b23 => ?_
  refine J.r hX tab_ok 400 (fun _ => rfl) fun b24 => ?_
  refine J.ca hX (by kernel_rfl) (h_Get zeros32 rfl) [] 0 rfl rfl rfl rfl rfl rfl (fun _ => rfl) ?_
  rintro v As ⟨rfl, rfl⟩
  refine ⟨_, rfl, trivial, ?_⟩
  rw [h_z2]
  refine J.r hX tab_ok 400 (fun _ => rfl) fun b2 => ?_
  refine J.closeOwn (e := 137) (size := 23) (n := 1) (cap := 1) (xs := cellsS [b]) 10 rfl rfl rfl (Nat.le_refl _) (by decide) rfl rfl rfl ?_
  refine J.r hX tab_ok 400 (fun _ => rfl) fun b25 => ?_
  refine J.ca hX (by kernel_rfl) (w_Back p h_pl (some (b2 (0 + 1))) 1 1 [b] rfl (by decide) (by decide)) [10] 0 rfl rfl rfl rfl rfl rfl (fun _ => rfl) ?_
  rintro v As ⟨rfl, rfl⟩
  refine ⟨_, rfl, trivial, ?_⟩
  rw [h_k, h_k2]
  refine J.r hX tab_ok 400 (fun _ => rfl) fun b26 => ?_
  refine J.r hX tab_ok 400 (fun _ => rfl) fun b27 => ?_
  refine J.ca hX (by kernel_rfl) (h_Meta 2 5 77) [] 0 rfl rfl rfl rfl rfl rfl (fun _ => rfl) ?_
  rintro v As ⟨rfl, rfl⟩
  refine ⟨_, rfl, trivial, ?_⟩
  rw [h_meta]
  refine J.r hX tab_ok 400 (fun _ => rfl) fun b28 => ?_
  refine J.r hX tab_ok 400 (fun _ => rfl) fun b29 => ?_
  refine J.ca hX (by kernel_rfl) (h_Of 144120685633994829 (by decide)) [] 0 rfl rfl rfl rfl rfl rfl (fun _ => rfl) ?_
  rintro v As ⟨rfl, rfl⟩
  refine ⟨_, rfl, trivial, ?_⟩
  refine J.r hX tab_ok 400 (fun _ => rfl) fun b30 => ?_
  refine J.r hX tab_ok 400 (fun _ => rfl) fun b31 => ?_
  refine J.ca hX (by kernel_rfl) (l6_Begun) [] 0 rfl rfl rfl rfl rfl rfl (fun _ => rfl) ?_
  rintro v As ⟨rfl, rfl⟩
  refine ⟨_, rfl, trivial, ?_⟩
  refine J.r hX tab_ok 400 (fun _ => rfl) fun b32 => ?_
  refine J.val hX (.bool true) 0 rfl rfl (fun hg x w he hw => (eqAgg_run (xs := shL a) (ys := shL a) rfl rfl rfl he hg rfl leavesSh (fitsSh _) (fitsSh _) mkSh gdSh).trans (by rw [eqSh _ _ rfl rfl]; simp)) rfl trivial ?_
  refine J.r hX tab_ok 400 (fun _ => rfl) fun b33 => ?_
  refine J.val hX (.bool true) 0 rfl rfl (fun hg x w he hw => (eqAgg_run (xs := enL e) (ys := enL e) rfl rfl rfl he hg rfl leavesEn (fitsEn _) (fitsEn _) mkEn gdEn).trans (by rw [(eqEn _ _ rfl rfl).2 rfl])) rfl trivial ?_
  refine J.r hX tab_ok 400 (fun _ => rfl) fun b34 => ?_
  refine J.ca hX (by kernel_rfl) (h_May p h_pl) [] 0 rfl rfl rfl rfl rfl rfl (fun _ => rfl) ?_
  rintro v As ⟨rfl, rfl⟩
  refine ⟨_, rfl, trivial, ?_⟩
  rw [h_mp]
  refine J.r hX tab_ok 400 (fun _ => rfl) fun b35 => ?_
  refine J.ca hX (by kernel_rfl) (h_May Sh.zero rfl) [] 0 rfl rfl rfl rfl rfl rfl (fun _ => rfl) ?_
  rintro v As ⟨rfl, rfl⟩
  refine ⟨_, rfl, trivial, ?_⟩
  rw [h_mz]
  refine J.r hX tab_ok 400 (fun _ => rfl) fun b36 => ?_
  refine J.ca hX (by kernel_rfl) (y_Blank pg h_bl) [] 0 rfl rfl rfl rfl rfl rfl (fun _ => rfl) ?_
  rintro v As ⟨rfl, rfl⟩
  refine ⟨_, rfl, trivial, ?_⟩
  refine J.r hX tab_ok 400 (fun _ => rfl) fun b37 => ?_
  refine J.rt hX tab_ok [] rfl rfl rfl ?_
  exact ⟨by kernel_rfl, rfl⟩
theorem l9_Begun : Fn Tryz.prog 118 [] [] (fun v As => v = .bool true ∧ As = []) := by
  refine Fn.enter [] Tryz.func118 rfl rfl rfl fun X F hX => ?_
  refine J.r hX tab_ok 400 (fun _ => rfl) fun b38 => ?_
  refine J.ca hX (by kernel_rfl) (l9_begun) [] 0 rfl rfl rfl rfl rfl rfl (fun _ => rfl) ?_
  rintro v As ⟨rfl, rfl⟩
  refine ⟨_, rfl, trivial, ?_⟩
  refine J.r hX tab_ok 400 (fun _ => rfl) fun b39 => ?_
  refine J.rt hX tab_ok [] rfl rfl rfl ?_
  exact ⟨rfl, rfl⟩
end Go.Proofs.YtoideahgjgaddaaGreat
namespace Go.Proofs.YtoideahgjgaddaaGreat
open Go
theorem go_Gd (b r : Int) {mm : Nat} : ∀ (q : List (Int × Sh)) (N : Nand) (f : Int) (k : Nat), (∀ x ∈ q, x.2.data.length = 16) → N.Gd (q.length + k) mm → (R.go b r q N f).1.Gd k mm
  | [], N, f, k, _, h => by rw [R.go]; exact h.less (by simp) (Nat.le_refl _)
  | (d, s) :: q, N, f, k, hd, h => by
    have h1 : (N.progN d b r (putP s)).Gd (q.length + k) mm := Nand.Gd.prog (h.less (by rw [List.length_cons]; omega) (Nat.le_refl _)) d b r _ (putP_len s (hd (d, s) (by simp)))
    have hd' : ∀ x ∈ q, x.2.data.length = 16 := fun x hx => hd x (by simp [hx])
    rw [R.go]
    split
    · exact go_Gd b r q _ _ k hd' h1
    · split
      · exact h1.less (by omega) (Nat.le_refl _)
      · exact go_Gd b r q _ _ k hd' h1
theorem job_data {b r m : Int} {l : List En} (hd : ∀ s ∈ l, s.data.length = 16) : ∀ x ∈ R.job b r m l, x.2.data.length = 16 := by
  intro x hx
  simp only [R.job, List.mem_append, List.mem_map, List.mem_range, List.mem_singleton] at hx
  rcases hx with ⟨k, hk, rfl⟩ | rfl
  · refine hd _ ?_
    rw [List.getD_eq_getElem?_getD, List.getElem?_eq_getElem hk]; exact List.getElem_mem _
  · exact fold_len (fun t ht => by obtain ⟨e, he, rfl⟩ := List.mem_map.1 ht; exact hd e he) _ rfl
theorem parB_len {b r m : Int} {l : List En} (h : W.parB b r m l = true) : (l.length : Int) = G.slots m ∧ 1 ≤ l.length ∧ l.length ≤ 7 ∧ ∀ e ∈ l, W.ok b r m e = true := by
  simp only [W.parB, Bool.and_eq_true, decide_eq_true_eq, List.all_eq_true] at h
  have := gslots_bd m
  refine ⟨h.1.1, ?_, by omega, h.2⟩
  cases l with
  | nil => simp at h
  | cons x l => simp
theorem write_Gd {N : Nand} {b r m : Int} {l : List En} {k mm : Nat} (hd : ∀ s ∈ l, s.data.length = 16) (h : N.Gd (8 + k) mm) : (R.write N b r m l).1.Gd k mm := by
  unfold R.write
  split
  · rename_i hB
    have := parB_len hB
    exact go_Gd b r _ _ _ k (job_data hd) (h.less (by rw [job_len]; omega) (Nat.le_refl _))
  · exact h.less (by omega) (Nat.le_refl _)
theorem go_like (b r : Int) : ∀ (q : List (Int × Sh)) (N : Nand) (f : Int), N.Like (R.go b r q N f).1
  | [], N, f => by rw [R.go]; exact Nand.Like.refl N
  | (d, s) :: q, N, f => by
    rw [R.go]
    split
    · exact (Nand.like_prog _ _ _ _ _).trans (go_like b r q _ _)
    · split
      · exact Nand.like_prog _ _ _ _ _
      · exact (Nand.like_prog _ _ _ _ _).trans (go_like b r q _ _)
theorem write_like (N : Nand) (b r m : Int) (l : List En) : N.Like (R.write N b r m l).1 := by
  unfold R.write
  split
  · exact go_like b r _ _ _
  · exact Nand.Like.refl N
end Go.Proofs.YtoideahgjgaddaaGreat
namespace Go.Proofs.YtoideahgjgaddaaGreat
open Go Go.RowKit
namespace B11
def N0 : Nand := Nand.new 3 8 2
def N1 : Nand := (R.write N0 1 0 7 [B9.e, B9.pad]).1
def N2 : Nand := (N1.fault 4 0 0 0 0 0).2
def fn : Fnd := ⟨B9.e, 1, 0, 0, 7, true, true⟩
theorem G0 : N0.Gd 100 0 := Nand.Gd.new 3 8 2 rfl 100 (by decide)
theorem G1 : N1.Gd 92 0 := write_Gd (by decide) G0
theorem G2 : N2.Gd 92 0 := G1.fault0 4 0 0 0 0 0 (by decide)
theorem h_w : (R.write N0 1 0 7 [B9.e, B9.pad]).2 = (0, 0) := by kernel_rfl
theorem h_l1 : (M.look N1 0 1 0).2 = 1 := by kernel_rfl
theorem h_l2 : (M.look N1 0 1 0).1.lpn = 3 := by kernel_rfl
theorem h_l3 : (M.look N1 0 2 0).2 = 2 := by kernel_rfl
theorem h_r : R.read N2 1 0 0 7 = (B9.e, 0) := by kernel_rfl
theorem h_a : R.all N2 1 0 = [fn] := by kernel_rfl
theorem h_m : M.masks N2 1 0 = [7] := by kernel_rfl
end B11
open B11
set_option maxRecDepth 20000 in
theorem l11_begun : Fn Tryz.prog 78 [] [] (fun v As => v = .bool true ∧ As = []) := by
  refine Fn.enter [] Tryz.func78 rfl rfl rfl fun X F hX => ?_
  refine J.r hX tab_ok 400 (fun _ => rfl) fun b1 => ?_
  refine J.r hX tab_ok 400 (fun _ => rfl) fun b2 => ?_
  refine J.ca hX (by kernel_rfl) (n_New 3 8 2 rfl) [] 0 rfl rfl rfl rfl rfl rfl (fun _ => rfl) ?_
  rintro v As ⟨q, rfl, rfl⟩
  refine ⟨_, rfl, trivial, ?_⟩
  refine J.r hX tab_ok 400 (fun _ => rfl) fun b3 => ?_
  refine J.cond rfl (fun h => absurd h (by decide)) (fun _ => ?_)
  refine J.r hX tab_ok 400 (fun _ => rfl) fun b1 => ?_
  refine J.r hX tab_ok 400 (fun _ => rfl) fun b4 => ?_
  refine J.ca hX (by kernel_rfl) (r_Write q N0 (.pt (b1 (0 + 1)) 45 (cellsE [B9.e, B9.pad])) 1 0 7 (some ⟨b1 (0 + 1), 0, none⟩) 2 2 0 [B9.e, B9.pad] (pt_rd _ _ _ _ _ rfl) rfl (by decide) (G0.less (by decide) (Nat.le_refl _))) [1, 3] 0 rfl rfl rfl rfl rfl rfl (fun _ => rfl) ?_
  rintro v As ⟨rfl, rfl⟩
  refine ⟨_, rfl, trivial, ?_⟩
  rw [h_w]
  refine J.r hX tab_ok 400 (fun _ => rfl) fun b5 => ?_
  refine J.r hX tab_ok 400 (fun _ => rfl) fun b6 => ?_
  refine J.ca hX (by kernel_rfl) (m_Look q N1 G1.ok G1.room 0 1 0) [1] 0 rfl rfl rfl rfl rfl rfl (fun _ => rfl) ?_
  rintro v As ⟨rfl, rfl⟩
  refine ⟨_, rfl, trivial, ?_⟩
  rw [h_l1]
  refine J.r hX tab_ok 400 (fun _ => rfl) fun b7 => ?_
  refine J.r hX tab_ok 400 (fun _ => rfl) fun b8 => ?_
  refine J.ca hX (by kernel_rfl) (m_Look q N1 G1.ok G1.room 0 2 0) [1] 0 rfl rfl rfl rfl rfl rfl (fun _ => rfl) ?_
  rintro v As ⟨rfl, rfl⟩
  refine ⟨_, rfl, trivial, ?_⟩
  rw [h_l3]
  refine J.r hX tab_ok 400 (fun _ => rfl) fun b9 => ?_
  refine J.r hX tab_ok 400 (fun _ => rfl) fun b10 => ?_
  refine J.ca hX (by kernel_rfl) (n_Fault q N1 G1.ok 0 4 0 0 0 0 0) [1] 0 rfl rfl rfl rfl rfl rfl (fun _ => rfl) ?_
  rintro v As ⟨rfl, rfl⟩
  refine ⟨_, rfl, trivial, ?_⟩
  refine J.r hX tab_ok 400 (fun _ => rfl) fun b11 => ?_
  refine J.r hX tab_ok 400 (fun _ => rfl) fun b12 => ?_
  refine J.ca hX (by kernel_rfl) (r_Read q N2 G2.ok G2.room 1 0 0 7 (by decide) (by decide)) [1] 0 rfl rfl rfl rfl rfl rfl (fun _ => rfl) ?_
  rintro v As ⟨rfl, rfl⟩
  refine ⟨_, rfl, trivial, ?_⟩
  rw [h_r]
  refine J.r hX tab_ok 400 (fun _ => rfl) fun b13 => ?_
  refine J.r hX tab_ok 400 (fun _ => rfl) fun b14 => ?_
  refine J.ca hX (by kernel_rfl) (r_All q N2 G2.ok G2.room 1 0) [1] 0 rfl rfl rfl rfl rfl rfl (fun _ => rfl) ?_
  rintro v As ⟨a, c, rfl, rfl⟩
  refine ⟨_, rfl, trivial, ?_⟩
  rw [h_a]
  refine J.know (fun h' s => own_some (c := (a, c)) (by decide) (s.get (i := 7) rfl)) fun hg => ?_
  obtain ⟨ga, rfl⟩ := hg
  refine J.r hX tab_ok 400 (fun _ => rfl) fun b15 => ?_
  refine J.r hX tab_ok 400 (fun _ => rfl) fun b16 => ?_
  refine J.ca hX (by kernel_rfl) (l7_Begun) [] 0 rfl rfl rfl rfl rfl rfl (fun _ => rfl) ?_
  rintro v As ⟨rfl, rfl⟩
  refine ⟨_, rfl, trivial, ?_⟩
  refine J.r hX tab_ok 400 (fun _ => rfl) fun b17 => ?_
  refine J.ca hX (by kernel_rfl) (l9_Begun) [] 0 rfl rfl rfl rfl rfl rfl (fun _ => rfl) ?_
  rintro v As ⟨rfl, rfl⟩
  refine ⟨_, rfl, trivial, ?_⟩
  refine J.r hX tab_ok 400 (fun _ => rfl) fun b18 => ?_
  rw [h_l2]
  refine J.val hX (.bool true) 0 rfl rfl (fun hg x w he hw => (eqAgg_run (xs := enL B9.e) (ys := enL B9.e) rfl rfl rfl he hg rfl leavesEn (fitsEn _) (fitsEn _) mkEn gdEn).trans (by rw [(eqEn _ _ rfl rfl).2 rfl])) rfl trivial ?_
  refine J.r hX tab_ok 400 (fun _ => rfl) fun b19 => ?_
  refine J.val hX (.bool true) 0 rfl rfl (fun hg x w he hw => own1_run tab_ok rfl rfl he hg rfl rfl (hw.get (i := 7) rfl) rfl) rfl trivial ?_
  refine J.r hX tab_ok 400 (fun _ => rfl) fun b20 => ?_
  refine J.val hX (.bool true) 0 rfl rfl (fun hg x w he hw => own1_run tab_ok rfl rfl he hg rfl rfl (hw.get (i := 7) rfl) rfl) rfl trivial ?_
  refine J.r hX tab_ok 400 (fun _ => rfl) fun b21 => ?_
  refine J.val hX (.int .i64 7) 0 rfl rfl (fun hg x w he hw => own1_run tab_ok rfl rfl he hg rfl rfl (hw.get (i := 7) rfl) rfl) rfl trivial ?_
  refine J.r hX tab_ok 400 (fun _ => rfl) fun b22 => ?_
  refine J.ca hX (by kernel_rfl) (m_Masks q N2 G2.ok G2.room 1 0) [1] 0 rfl rfl rfl rfl rfl rfl (fun _ => rfl) ?_
  rintro v As ⟨a2, c2, rfl, rfl⟩
  refine ⟨_, rfl, trivial, ?_⟩
  rw [h_m]
  refine J.r hX tab_ok 400 (fun _ => rfl) fun b23 => ?_
  refine J.rt hX tab_ok [] rfl rfl rfl ?_
  exact ⟨rfl, rfl⟩
end Go.Proofs.YtoideahgjgaddaaGreat
namespace Go.Proofs.YtoideahgjgaddaaGreat
open Go Go.RowKit
namespace B13
def e1 : En := { En.zero with lpn := 4, seq := 7, role := 1 }
def e2 : En := { En.zero with lpn := 4, seq := 6, role := 1 }
def e3 : En := { En.zero with lpn := 10, seq := 9, role := 1 }
def T0 : Tb := ⟨10, [], [], 1⟩
def T1 : Tb := ⟨10, [(4, ⟨2, 1, 0, 7, 7, 1⟩)], [(2, 1)], 8⟩
def t0 : Tl := Tl.new 3 8 2
def t1 : Tl := ⟨3, 8, 2, ⟨3, 0, false, false⟩ :: List.replicate 7 Sb.zero, 0⟩
def t2 : Tl := ⟨3, 8, 2, [⟨3, 0, false, false⟩, Sb.zero, ⟨0, 2, false, false⟩, Sb.zero, Sb.zero, Sb.zero, Sb.zero, Sb.zero], 0⟩
theorem h0 : Tb.new 10 = T0 := by kernel_rfl
theorem h1 : Tb.put T0 e1 2 1 0 7 = T1 := by kernel_rfl
theorem h2 : Tb.put T1 e2 0 0 0 7 = T1 := by kernel_rfl
theorem h3 : Tb.put T1 e3 0 0 0 7 = T1 := by kernel_rfl
theorem p1 : Tb.putB T0 e1 = true := by kernel_rfl
theorem p2 : Tb.putB T1 e2 = false := by kernel_rfl
theorem p3 : Tb.putB T1 e3 = false := by kernel_rfl
theorem w1 : t0.wore 0 3 = t1 := by kernel_rfl
theorem w2 : t1.bad 1 2 = t2 := by kernel_rfl
theorem c0 (k : Int) : 0 ≤ T0.count k ∧ T0.count k ≤ 1000000 := by
  have : T0.count k = 0 := rfl
  rw [this]; omega
theorem c1 (k : Int) : 0 ≤ T1.count k ∧ T1.count k ≤ 1000000 := by
  have : T1.count k = (if k = 2 then some (1 : Int) else none).getD 0 := rfl
  rw [this]
  split <;> simp
theorem o1 : pkLeast (fun x y => cmpI (t2.wear x) (t2.wear y)) (pkSome (pkFree t2 T1) (-1) t2.b) = 1 := by kernel_rfl
theorem o2 : pkLeast (fun x y => orI [cmpI (T1.count x) (T1.count y), cmpI (t2.wear x) (t2.wear y)]) (pkSome (pkUsed t2 T1) (-1) t2.b) = 2 := by kernel_rfl
theorem o3 : (pkSome (pkFree t2 T1) (-1) t2.b).length = 7 := by kernel_rfl
theorem o4 : pkSome (pkSpent t2 T1) (-1) t2.b = [] := by kernel_rfl
theorem o5 : pkSome (pkHurt t2 T1) (-1) t2.b = [2] := by kernel_rfl
theorem o6 : T1.ins 2 = [4] := by kernel_rfl
theorem o7 : t2.mask 2 = 5 := by kernel_rfl
theorem o8 : t2.usable 2 = true := by kernel_rfl
theorem o9 : t2.alive = 7 := by kernel_rfl
theorem o10 : t2.wear 0 = 3 := by kernel_rfl
theorem o11 : t2.blank 3 = true := by kernel_rfl
theorem o12 : T1.count 2 = 1 := by kernel_rfl
end B13
theorem l13_begun : Fn Tryz.prog 79 [] [] (fun v As => v = .bool true ∧ As = []) := by
  refine Fn.enter [] Tryz.func79 rfl rfl rfl fun X F hX => ?_
  refine J.r hX tab_ok 400 (fun _ => rfl) fun b1 => ?_
  refine J.r hX tab_ok 400 (fun _ => rfl) fun b2 => ?_
  refine J.ca hX (by kernel_rfl) (tb_New 10) [] 0 rfl rfl rfl rfl rfl rfl (fun _ => rfl) ?_
  rintro v As ⟨r, rfl, rfl⟩
  refine ⟨_, rfl, trivial, ?_⟩
  rw [B13.h0]
  refine J.r hX tab_ok 400 (fun _ => rfl) fun b3 => ?_
  refine J.r hX tab_ok 400 (fun _ => rfl) fun b4 => ?_
  refine J.ca hX (by kernel_rfl) (tl_New 3 8 2 rfl) [] 0 rfl rfl rfl rfl rfl rfl (fun _ => rfl) ?_
  rintro v As ⟨q, rfl, rfl⟩
  refine ⟨_, rfl, trivial, ?_⟩
  rw [show Tl.new 3 8 2 = B13.t0 from rfl]
  refine J.r hX tab_ok 400 (fun _ => rfl) fun b5 => ?_
  refine J.r hX tab_ok 400 (fun _ => rfl) fun b6 => ?_
  refine J.ca hX (by kernel_rfl) (tl_NewZ) [] 0 rfl rfl rfl rfl rfl rfl (fun _ => rfl) ?_
  rintro v As ⟨rfl, rfl⟩
  refine ⟨_, rfl, trivial, ?_⟩
  refine J.r hX tab_ok 400 (fun _ => rfl) fun b7 => ?_
  refine J.cond rfl (fun h => absurd h (by decide)) (fun _ => ?_)
  refine J.r hX tab_ok 400 (fun _ => rfl) fun b8 => ?_
  refine J.r hX tab_ok 400 (fun _ => rfl) fun b9 => ?_
  refine J.ca hX (by kernel_rfl) (tb_Put r B13.T0 B13.e1 2 1 0 7 (by decide) B13.c0) [1] 0 rfl rfl rfl rfl rfl rfl (fun _ => rfl) ?_
  rintro v As ⟨rfl, rfl⟩
  refine ⟨_, rfl, trivial, ?_⟩
  rw [B13.h1, B13.p1]
  refine J.r hX tab_ok 400 (fun _ => rfl) fun b10 => ?_
  refine J.r hX tab_ok 400 (fun _ => rfl) fun b11 => ?_
  refine J.ca hX (by kernel_rfl) (tb_Put r B13.T1 B13.e2 0 0 0 7 (by decide) B13.c1) [1] 0 rfl rfl rfl rfl rfl rfl (fun _ => rfl) ?_
  rintro v As ⟨rfl, rfl⟩
  refine ⟨_, rfl, trivial, ?_⟩
  rw [B13.h2, B13.p2]
  refine J.r hX tab_ok 400 (fun _ => rfl) fun b12 => ?_
  refine J.r hX tab_ok 400 (fun _ => rfl) fun b13 => ?_
  refine J.ca hX (by kernel_rfl) (tb_Put r B13.T1 B13.e3 0 0 0 7 (by decide) B13.c1) [1] 0 rfl rfl rfl rfl rfl rfl (fun _ => rfl) ?_
  rintro v As ⟨rfl, rfl⟩
  refine ⟨_, rfl, trivial, ?_⟩
  rw [B13.h3, B13.p3]
  refine J.r hX tab_ok 400 (fun _ => rfl) fun b14 => ?_
  refine J.r hX tab_ok 400 (fun _ => rfl) fun b15 => ?_
  refine J.ca hX (by kernel_rfl) (tb_Get r B13.T1 4) [1] 0 rfl rfl rfl rfl rfl rfl (fun _ => rfl) ?_
  rintro v As ⟨rfl, rfl⟩
  refine ⟨_, rfl, trivial, ?_⟩
  rw [show Tb.look B13.T1.at_ 4 = some ⟨2, 1, 0, 7, 7, 1⟩ from rfl, Option.getD_some, Option.isSome_some]
  refine J.r hX tab_ok 400 (fun _ => rfl) fun b16 => ?_
  refine J.r hX tab_ok 400 (fun _ => rfl) fun b17 => ?_
  refine J.ca hX (by kernel_rfl) (tl_Wore q B13.t0 (by decide) rfl 0 3) [2] 0 rfl rfl rfl rfl rfl rfl (fun _ => rfl) ?_
  rintro v As ⟨rfl, rfl⟩
  refine ⟨_, rfl, trivial, ?_⟩
  rw [B13.w1]
  refine J.r hX tab_ok 400 (fun _ => rfl) fun b18 => ?_
  refine J.r hX tab_ok 400 (fun _ => rfl) fun b19 => ?_
  refine J.ca hX (by kernel_rfl) (tl_Bad q B13.t1 (by decide) rfl 1 2) [2] 0 rfl rfl rfl rfl rfl rfl (fun _ => rfl) ?_
  rintro v As ⟨rfl, rfl⟩
  refine ⟨_, rfl, trivial, ?_⟩
  rw [B13.w2]
  refine J.r hX tab_ok 400 (fun _ => rfl) fun b20 => ?_
  refine J.r hX tab_ok 400 (fun _ => rfl) fun b21 => ?_
  refine J.ca hX (by kernel_rfl) (l7_Begun) [] 0 rfl rfl rfl rfl rfl rfl (fun _ => rfl) ?_
  rintro v As ⟨rfl, rfl⟩
  refine ⟨_, rfl, trivial, ?_⟩
  refine J.r hX tab_ok 400 (fun _ => rfl) fun b22 => ?_
  refine J.r hX tab_ok 400 (fun _ => rfl) fun b23 => ?_
  refine J.ca hX (by kernel_rfl) (l9_Begun) [] 0 rfl rfl rfl rfl rfl rfl (fun _ => rfl) ?_
  rintro v As ⟨rfl, rfl⟩
  refine ⟨_, rfl, trivial, ?_⟩
  refine J.r hX tab_ok 400 (fun _ => rfl) fun b24 => ?_
  refine J.r hX tab_ok 400 (fun _ => rfl) fun b25 => ?_
  refine J.ca hX (by kernel_rfl) (tb_Len r B13.T1) [1] 0 rfl rfl rfl rfl rfl rfl (fun _ => rfl) ?_
  rintro v As ⟨rfl, rfl⟩
  refine ⟨_, rfl, trivial, ?_⟩
  refine J.r hX tab_ok 400 (fun _ => rfl) fun b26 => ?_
  refine J.r hX tab_ok 400 (fun _ => rfl) fun b27 => ?_
  refine J.ca hX (by kernel_rfl) (tb_Count r B13.T1 2) [1] 0 rfl rfl rfl rfl rfl rfl (fun _ => rfl) ?_
  rintro v As ⟨rfl, rfl⟩
  refine ⟨_, rfl, trivial, ?_⟩
  rw [B13.o12]
  refine J.r hX tab_ok 400 (fun _ => rfl) fun b28 => ?_
  refine J.r hX tab_ok 400 (fun _ => rfl) fun b29 => ?_
  refine J.ca hX (by kernel_rfl) (tb_In r B13.T1 10 rfl (by decide) 2) [1] 0 rfl rfl rfl rfl rfl rfl (fun _ => rfl) ?_
  rintro v As ⟨a1, c1, rfl, rfl⟩
  refine ⟨_, rfl, trivial, ?_⟩
  rw [B13.o6]
  refine J.r hX tab_ok 400 (fun _ => rfl) fun b30 => ?_
  refine J.r hX tab_ok 400 (fun _ => rfl) fun b31 => ?_
  refine J.ca hX (by kernel_rfl) (tb_Next r B13.T1) [1] 0 rfl rfl rfl rfl rfl rfl (fun _ => rfl) ?_
  rintro v As ⟨rfl, rfl⟩
  refine ⟨_, rfl, trivial, ?_⟩
  refine J.r hX tab_ok 400 (fun _ => rfl) fun b32 => ?_
  refine J.r hX tab_ok 400 (fun _ => rfl) fun b33 => ?_
  refine J.ca hX (by kernel_rfl) (tl_Wear q B13.t2 (by decide) rfl 0) [2] 0 rfl rfl rfl rfl rfl rfl (fun _ => rfl) ?_
  rintro v As ⟨rfl, rfl⟩
  refine ⟨_, rfl, trivial, ?_⟩
  rw [B13.o10]
  refine J.r hX tab_ok 400 (fun _ => rfl) fun b34 => ?_
  refine J.r hX tab_ok 400 (fun _ => rfl) fun b35 => ?_
  refine J.ca hX (by kernel_rfl) (tl_Mask q B13.t2 (by decide) rfl 2) [2] 0 rfl rfl rfl rfl rfl rfl (fun _ => rfl) ?_
  rintro v As ⟨rfl, rfl⟩
  refine ⟨_, rfl, trivial, ?_⟩
  rw [B13.o7]
  refine J.r hX tab_ok 400 (fun _ => rfl) fun b36 => ?_
  refine J.r hX tab_ok 400 (fun _ => rfl) fun b37 => ?_
  refine J.ca hX (by kernel_rfl) (tl_Usable q B13.t2 (by decide) rfl 2) [2] 0 rfl rfl rfl rfl rfl rfl (fun _ => rfl) ?_
  rintro v As ⟨rfl, rfl⟩
  refine ⟨_, rfl, trivial, ?_⟩
  rw [B13.o8]
  refine J.r hX tab_ok 400 (fun _ => rfl) fun b38 => ?_
  refine J.r hX tab_ok 400 (fun _ => rfl) fun b39 => ?_
  refine J.ca hX (by kernel_rfl) (tl_Alive q B13.t2) [2] 0 rfl rfl rfl rfl rfl rfl (fun _ => rfl) ?_
  rintro v As ⟨rfl, rfl⟩
  refine ⟨_, rfl, trivial, ?_⟩
  rw [B13.o9]
  refine J.r hX tab_ok 400 (fun _ => rfl) fun b40 => ?_
  refine J.r hX tab_ok 400 (fun _ => rfl) fun b41 => ?_
  refine J.ca hX (by kernel_rfl) (p_Open q B13.t2 (by decide) rfl r B13.T1 (-1)) [2, 1] 0 rfl rfl rfl rfl rfl rfl (fun _ => rfl) ?_
  rintro v As ⟨rfl, rfl⟩
  refine ⟨_, rfl, trivial, ?_⟩
  rw [B13.o1]
  refine J.r hX tab_ok 400 (fun _ => rfl) fun b42 => ?_
  refine J.r hX tab_ok 400 (fun _ => rfl) fun b43 => ?_
  refine J.ca hX (by kernel_rfl) (p_Victim q B13.t2 (by decide) rfl r B13.T1 (-1)) [2, 1] 0 rfl rfl rfl rfl rfl rfl (fun _ => rfl) ?_
  rintro v As ⟨rfl, rfl⟩
  refine ⟨_, rfl, trivial, ?_⟩
  rw [B13.o2]
  refine J.r hX tab_ok 400 (fun _ => rfl) fun b44 => ?_
  refine J.r hX tab_ok 400 (fun _ => rfl) fun b45 => ?_
  refine J.ca hX (by kernel_rfl) (p_Free q B13.t2 (by decide) rfl r B13.T1 (-1)) [2, 1] 0 rfl rfl rfl rfl rfl rfl (fun _ => rfl) ?_
  rintro v As ⟨rfl, rfl⟩
  refine ⟨_, rfl, trivial, ?_⟩
  rw [B13.o3]
  refine J.r hX tab_ok 400 (fun _ => rfl) fun b46 => ?_
  refine J.r hX tab_ok 400 (fun _ => rfl) fun b47 => ?_
  refine J.ca hX (by kernel_rfl) (p_Spent q B13.t2 (by decide) rfl r B13.T1 (-1)) [2, 1] 0 rfl rfl rfl rfl rfl rfl (fun _ => rfl) ?_
  rintro v As ⟨a2, c2, rfl, rfl⟩
  refine ⟨_, rfl, trivial, ?_⟩
  rw [B13.o4]
  refine J.r hX tab_ok 400 (fun _ => rfl) fun b48 => ?_
  refine J.r hX tab_ok 400 (fun _ => rfl) fun b49 => ?_
  refine J.ca hX (by kernel_rfl) (p_Hurt q B13.t2 (by decide) rfl r B13.T1 10 rfl (by decide)) [2, 1] 0 rfl rfl rfl rfl rfl rfl (fun _ => rfl) ?_
  rintro v As ⟨a3, c3, rfl, rfl⟩
  refine ⟨_, rfl, trivial, ?_⟩
  rw [B13.o5]
  refine J.r hX tab_ok 400 (fun _ => rfl) fun b50 => ?_
  refine J.r hX tab_ok 400 (fun _ => rfl) fun b51 => ?_
  refine J.ca hX (by kernel_rfl) (tl_Blank q B13.t2 (by decide) rfl 3) [2] 0 rfl rfl rfl rfl rfl rfl (fun _ => rfl) ?_
  rintro v As ⟨rfl, rfl⟩
  refine ⟨_, rfl, trivial, ?_⟩
  rw [B13.o11]
  refine J.r hX tab_ok 400 (fun _ => rfl) fun b52 => ?_
  refine J.rt hX tab_ok [] rfl rfl rfl ?_
  exact ⟨rfl, rfl⟩
theorem l13_Begun : Fn Tryz.prog 38 [] [] (fun v As => v = .bool true ∧ As = []) := by
  refine Fn.enter [] Tryz.func38 rfl rfl rfl fun X F hX => ?_
  refine J.r hX tab_ok 400 (fun _ => rfl) fun b53 => ?_
  refine J.r hX tab_ok 400 (fun _ => rfl) fun b54 => ?_
  refine J.ca hX (by kernel_rfl) (l13_begun) [] 0 rfl rfl rfl rfl rfl rfl (fun _ => rfl) ?_
  rintro v As ⟨rfl, rfl⟩
  refine ⟨_, rfl, trivial, ?_⟩
  refine J.r hX tab_ok 400 (fun _ => rfl) fun b55 => ?_
  refine J.rt hX tab_ok [] rfl rfl rfl ?_
  exact ⟨rfl, rfl⟩
end Go.Proofs.YtoideahgjgaddaaGreat
namespace Go.Proofs.YtoideahgjgaddaaGreat
open Go
def EnBd (e : En) : Prop := (0 ≤ e.lpn ∧ e.lpn ≤ 65535) ∧ (0 ≤ e.seq ∧ e.seq ≤ 1099511627775)
theorem may_en {s : Sh} (h : S.may s = true) : EnBd s.en := by
  simp only [S.may, S.numbers, S.inB, Bool.and_eq_true, decide_eq_true_eq] at h
  exact ⟨h.1.2.1.2, h.1.2.1.1⟩
theorem get_may {p : List UInt8} {s : Sh} (h : S.get p = some s) : S.may s = true := by
  unfold S.get at h
  split at h
  · rename_i hh
    injection h with h
    subst h
    exact hh.1
  · cases h
theorem look_may {N : Nand} {x y z : Int} (h : (M.look N x y z).2 = 1) : S.may (M.look N x y z).1 = true := by
  unfold M.look at h ⊢
  dsimp only at h ⊢
  split
  · rename_i h0
    rw [if_pos h0] at h
    split
    · rename_i h1
      rw [if_pos h1] at h
      simp at h
    · rename_i h1
      simp only [not_or] at h1
      have hg : S.getE (N.readV x y z) = 0 := by simpa using h1.1
      unfold S.getE at hg
      cases hs : S.get (N.readV x y z) with
      | none => rw [hs] at hg; simp at hg
      | some s => simp only [S.getV, hs, Option.getD_some]; exact get_may hs
  · rename_i h0
    rw [if_neg h0] at h
    split at h
    · simp at h
    · split at h <;> simp at h
theorem ok_en {b r m : Int} {e : En} (h : W.ok b r m e = true) : EnBd e := may_en (s := W.sh b r m e) h
theorem fnd_bd {N : Nand} {b r : Int} {f : Fnd} (h : f ∈ R.all N b r) : f.block = b ∧ f.row = r ∧ EnBd f.en := by
  unfold R.all at h
  rw [List.mem_flatMap] at h
  obtain ⟨m, _, h⟩ := h
  unfold R.allM at h
  rw [List.mem_filterMap] at h
  obtain ⟨k, hk, h⟩ := h
  rw [List.mem_range] at hk
  unfold R.fnd at h
  split at h
  · rename_i hc
    injection h with h
    subst h
    refine ⟨rfl, rfl, ?_⟩
    simp only [Bool.and_eq_true] at hc
    obtain ⟨h1, _⟩ := hc
    dsimp only
    unfold R.enAt
    unfold R.okAt at h1
    split
    · rename_i hg
      have hlen : k < (R.ones N b r m (G.slots m).toNat).length := by simpa [R.look] using hk
      have e1 : (R.look N b r m).good.getD k false = ((R.ones N b r m (G.slots m).toNat)[k]).2 := by simp [R.look, hlen]
      have e2 : (R.look N b r m).slots.getD k Sh.zero = ((R.ones N b r m (G.slots m).toNat)[k]).1 := by simp [R.look, hlen]
      rw [e1] at hg
      rw [e2]
      simp only [R.ones, List.getElem_map, R.one, Bool.and_eq_true, beq_iff_eq] at hg ⊢
      exact may_en (look_may hg.1)
    · rename_i hg
      rw [Bool.not_eq_true] at hg
      rw [hg, Bool.false_or] at h1
      unfold R.mendB at h1
      simp only [Bool.and_eq_true] at h1
      have hb := h1.2
      unfold R.mend
      rw [if_pos (by rw [Bool.and_eq_true]; exact h1.1), W.back, if_pos hb]
      unfold W.backB at hb
      simp only [Bool.and_eq_true] at hb
      exact ok_en hb.2
  · cases h
theorem all_len (N : Nand) (hN : N.Ok) : (V.all N).length ≤ 6000 := by
  have hbd := hN.bd
  have h0 : ∀ b r, (R.all N b r).length ≤ 42 := fun b r => by
    have := outI_len N b r (M.masks N b r).length (by omega)
    unfold outI at this
    rwa [List.take_length] at this
  have h1 : ∀ (l : List Nat) (b : Int), (l.flatMap fun r => R.all N b (r : Nat)).length ≤ 42 * l.length := by
    intro l b
    induction l with
    | nil => simp
    | cons x l ih => rw [List.flatMap_cons, List.length_append, List.length_cons]; have := h0 b x; omega
  have h2 : ∀ l : List Nat, (l.flatMap fun b => (List.range N.pages).flatMap fun r => R.all N (b : Nat) (r : Nat)).length ≤ 336 * l.length := by
    intro l
    induction l with
    | nil => simp
    | cons x l ih =>
      rw [List.flatMap_cons, List.length_append, List.length_cons]
      have := h1 (List.range N.pages) x
      rw [List.length_range] at this
      omega
  have := h2 (List.range N.blocks)
  rw [List.length_range] at this
  unfold V.all
  omega
theorem all_bd {N : Nand} {f : Fnd} (h : f ∈ V.all N) : (∃ r : Nat, f.row = (r : Int) ∧ r < N.pages) ∧ EnBd f.en := by
  unfold V.all at h
  rw [List.mem_flatMap] at h
  obtain ⟨b, _, h⟩ := h
  rw [List.mem_flatMap] at h
  obtain ⟨r, hr, h⟩ := h
  have := fnd_bd h
  exact ⟨⟨r, this.2.1, List.mem_range.1 hr⟩, this.2.2⟩
end Go.Proofs.YtoideahgjgaddaaGreat
namespace Go.Proofs.YtoideahgjgaddaaGreat
namespace Tb
def cntB (l : List (Int × AtV)) (b : Int) : Nat := l.countP fun x => x.2.block == b
structure Ok (t : Tb) : Prop where
  keys : (t.at_.map (·.1)).Nodup
  rng : ∀ x ∈ t.at_, 0 ≤ x.1 ∧ x.1 < t.logical
  cnt : ∀ b, t.count b = (cntB t.at_ b : Int)
  log : 0 ≤ t.logical ∧ t.logical ≤ 65536
theorem look_none {α : Type} {k : Int} : ∀ {l : List (Int × α)}, look l k = none ↔ k ∉ l.map (·.1)
  | [] => by simp [look]
  | x :: l => by
    simp only [look, List.map_cons, List.mem_cons, not_or]
    split
    · rename_i h; simp [h]
    · rename_i h; rw [look_none]; simp [h]
theorem look_mem {α : Type} {k : Int} {a : α} : ∀ {l : List (Int × α)}, look l k = some a → (k, a) ∈ l
  | [], h => by simp [look] at h
  | x :: l, h => by
    simp only [look] at h
    split at h
    · rename_i e; injection h with h; subst h; subst e; exact List.mem_cons_self ..
    · exact List.mem_cons_of_mem _ (look_mem h)
theorem put1_new {α : Type} {k : Int} {v : α} : ∀ {l : List (Int × α)}, look l k = none → put1 l k v = l ++ [(k, v)]
  | [], _ => rfl
  | x :: l, h => by
    simp only [look] at h
    split at h
    · cases h
    · rename_i e; simp only [put1, if_neg e, put1_new h, List.cons_append]
theorem put1_keys {α : Type} {k : Int} {v : α} : ∀ {l : List (Int × α)}, (look l k).isSome = true → (put1 l k v).map (·.1) = l.map (·.1)
  | [], h => by simp [look] at h
  | x :: l, h => by
    simp only [look] at h
    simp only [put1]
    split
    · rename_i e; simp [e]
    · rename_i e; rw [if_neg e] at h; simp only [List.map_cons, put1_keys h]
theorem put1_len {α : Type} {k : Int} {v : α} (l : List (Int × α)) : (put1 l k v).length = if (look l k).isSome then l.length else l.length + 1 := by
  cases h : look l k with
  | none => rw [put1_new h]; simp
  | some a =>
    have := congrArg List.length (put1_keys (l := l) (k := k) (v := v) (by rw [h]; rfl))
    simpa using this
theorem cntB_put {k : Int} {v : AtV} (b : Int) : ∀ {l : List (Int × AtV)}, (l.map (·.1)).Nodup → (cntB (put1 l k v) b : Int) = (cntB l b : Int) - (match look l k with | some a => if a.block = b then 1 else 0 | none => 0) + (if v.block = b then 1 else 0)
  | [], _ => by simp [put1, look, cntB]; split <;> simp_all
  | x :: l, h => by
    simp only [put1, look]
    by_cases e : k = x.1
    · rw [if_pos e, if_pos e]
      simp only [cntB, List.countP_cons, beq_iff_eq]
      split <;> split <;> omega
    · rw [if_neg e, if_neg e]
      have := cntB_put (k := k) (v := v) b (l := l) (by simp only [List.map_cons, List.nodup_cons] at h; exact h.2)
      simp only [cntB, List.countP_cons] at this ⊢
      rw [Int.natCast_add, Int.natCast_add, this]
      omega
theorem count_put1 (c : List (Int × Int)) (k v b : Int) : (look (put1 c k v) b).getD 0 = if b = k then v else (look c b).getD 0 := by
  rw [look_put1]; split <;> rfl
theorem ok_spec {t : Tb} {e : En} (h : t.ok e = true) : 0 ≤ e.lpn ∧ e.lpn < t.logical := by
  simp only [ok, Bool.not_eq_true', Bool.or_eq_false_iff, decide_eq_false_iff_not] at h
  omega
theorem Ok.new (n : Int) : (Tb.new n).Ok := ⟨by simp [Tb.new], by simp [Tb.new], fun b => rfl, by simp only [Tb.new]; omega⟩
theorem Ok.put {t : Tb} (h : t.Ok) (e : En) (b r s m : Int) : (t.put e b r s m).Ok := by
  unfold Tb.put
  split
  · rename_i hp
    simp only [putB, Bool.and_eq_true] at hp
    have ho := ok_spec hp.1
    have hk : (put1 t.at_ e.lpn ⟨b, r, s, m, e.seq, e.role⟩).map (·.1) = t.at_.map (·.1) ∨ look t.at_ e.lpn = none ∧ (put1 t.at_ e.lpn ⟨b, r, s, m, e.seq, e.role⟩).map (·.1) = t.at_.map (·.1) ++ [e.lpn] := by
      cases hl : look t.at_ e.lpn with
      | none => right; exact ⟨rfl, by rw [put1_new hl]; simp⟩
      | some a => left; exact put1_keys (by rw [hl]; rfl)
    refine ⟨?_, ?_, ?_, h.log⟩
    · rcases hk with hk | ⟨hn, hk⟩
      · show ((put1 _ _ _).map _).Nodup
        rw [hk]; exact h.keys
      · show ((put1 _ _ _).map _).Nodup
        rw [hk, List.nodup_append]
        exact ⟨h.keys, by simp, fun a ha c hc => by simp at hc; subst hc; exact fun e => look_none.1 hn (e ▸ ha)⟩
    · intro x hx
      have hx : x.1 ∈ (put1 t.at_ e.lpn ⟨b, r, s, m, e.seq, e.role⟩).map (·.1) := List.mem_map_of_mem hx
      have hr : ∀ k ∈ t.at_.map (·.1), 0 ≤ k ∧ k < t.logical := fun k hk => by
        obtain ⟨y, hy, rfl⟩ := List.mem_map.1 hk; exact h.rng y hy
      rcases hk with hk | ⟨_, hk⟩
      · rw [hk] at hx; exact hr _ hx
      · rw [hk, List.mem_append] at hx
        rcases hx with hx | hx
        · exact hr _ hx
        · simp at hx; rw [hx]; exact ho
    · intro c
      show (look (cnt2 t e b) c).getD 0 = (cntB (put1 t.at_ e.lpn ⟨b, r, s, m, e.seq, e.role⟩) c : Int)
      rw [cntB_put c h.keys]
      have h1 : ∀ d, (look (cnt1 t e) d).getD 0 = (cntB t.at_ d : Int) - (match look t.at_ e.lpn with | some a => if a.block = d then 1 else 0 | none => 0) := by
        intro d
        have hd : (look t.cnt d).getD 0 = (cntB t.at_ d : Int) := h.cnt d
        unfold cnt1
        cases hl : look t.at_ e.lpn with
        | none => dsimp only; rw [hd]; omega
        | some a =>
          dsimp only
          rw [count_put1]
          split
          · rename_i e1; subst e1; rw [if_pos rfl, h.cnt]
          · rename_i e1; rw [if_neg (fun e => e1 e.symm), hd]; omega
      unfold cnt2
      rw [count_put1, h1 b, h1 c]
      dsimp only
      by_cases e1 : c = b
      · subst e1; rw [if_pos rfl, if_pos rfl]
      · rw [if_neg e1, if_neg (fun e => e1 e.symm)]; omega
  · exact h
/-- counts over a range: one place that is changed -/
theorem countP_one {p q : Nat → Bool} {i0 : Nat} (h1 : ∀ i, i ≠ i0 → p i = q i) (h2 : q i0 = false) : ∀ n, (List.range n).countP p = (List.range n).countP q + (if i0 < n ∧ p i0 = true then 1 else 0)
  | 0 => by simp
  | n + 1 => by
    rw [List.range_succ, List.countP_append, List.countP_append, countP_one h1 h2 n]
    simp only [List.countP_singleton]
    by_cases e : n = i0
    · subst e
      rw [h2]
      cases p n <;> simp
    · rw [h1 n e]
      by_cases e2 : i0 < n
      · simp [e2, show i0 < n + 1 by omega]; omega
      · simp [e2, show ¬ i0 < n + 1 by omega]
theorem at_cnt {α : Type} (n : Nat) : ∀ l : List (Int × α), (l.map (·.1)).Nodup → (∀ x ∈ l, 0 ≤ x.1 ∧ x.1 < (n : Int)) → l.length = (List.range n).countP fun i : Nat => (look l (i : Int)).isSome
  | [], _, _ => by simp [look]
  | x :: l, h1, h2 => by
    simp only [List.map_cons, List.nodup_cons] at h1
    have ih := at_cnt n l h1.2 (fun y hy => h2 y (List.mem_cons_of_mem _ hy))
    have hx := h2 x (List.mem_cons_self ..)
    have hn : look l x.1 = none := look_none.2 h1.1
    rw [countP_one (q := fun i : Nat => (look l (i : Int)).isSome) (i0 := x.1.toNat)]
    · rw [← ih]
      have : ((x.1.toNat : Nat) : Int) = x.1 := by omega
      simp only [this, look, if_true, Option.isSome_some, and_true, List.length_cons]
      rw [if_pos (by omega)]
    · intro i hi
      simp only [look]
      rw [if_neg (by omega)]
    · have : ((x.1.toNat : Nat) : Int) = x.1 := by omega
      simp only [this, hn]; rfl
theorem len_le {α : Type} (n : Nat) (l : List (Int × α)) (h1 : (l.map (·.1)).Nodup) (h2 : ∀ x ∈ l, 0 ≤ x.1 ∧ x.1 < (n : Int)) : l.length ≤ n := by
  rw [at_cnt n l h1 h2]
  have := List.countP_le_length (p := fun i : Nat => (look l (i : Int)).isSome) (l := List.range n)
  rwa [List.length_range] at this
theorem Ok.len {t : Tb} (h : t.Ok) : t.at_.length ≤ 65536 := by
  have := len_le t.logical.toNat t.at_ h.keys (fun x hx => by have := h.rng x hx; omega)
  have := h.log
  omega
theorem Ok.bd {t : Tb} (h : t.Ok) (k : Int) : 0 ≤ t.count k ∧ t.count k ≤ 1000000 := by
  rw [h.cnt]
  have : cntB t.at_ k ≤ t.at_.length := List.countP_le_length
  have := h.len
  omega
theorem inB_iff {t : Tb} (h : t.Ok) {b i : Int} : inB t b i = true ↔ ∃ a, look t.at_ i = some a ∧ a.block = b := by
  unfold inB
  cases hl : look t.at_ i with
  | none => simp
  | some a => simp
theorem range_cnt (b : Int) (n : Nat) : ∀ l : List (Int × AtV), (l.map (·.1)).Nodup → (∀ x ∈ l, 0 ≤ x.1 ∧ x.1 < (n : Int)) → (List.range n).countP (fun i : Nat => match look l (i : Int) with | some a => a.block == b | none => false) = cntB l b
  | [], _, _ => by simp [look, cntB]
  | x :: l, h1, h2 => by
    simp only [List.map_cons, List.nodup_cons] at h1
    have ih := range_cnt b n l h1.2 (fun y hy => h2 y (List.mem_cons_of_mem _ hy))
    have hx := h2 x (List.mem_cons_self ..)
    have hn : look l x.1 = none := look_none.2 h1.1
    rw [countP_one (q := fun i : Nat => match look l (i : Int) with | some a => a.block == b | none => false) (i0 := x.1.toNat)]
    · rw [ih, cntB, cntB, List.countP_cons]
      have : ((x.1.toNat : Nat) : Int) = x.1 := by omega
      simp only [this, look, if_true]
      have hlt : x.1.toNat < n := by omega
      simp only [hlt, true_and]
    · intro i hi
      simp only [look]
      rw [if_neg (by omega)]
    · have : ((x.1.toNat : Nat) : Int) = x.1 := by omega
      simp only [this, hn]
theorem Ok.inK_len {t : Tb} (h : t.Ok) (b : Int) : ((inK t b t.logical.toNat).length : Int) = t.count b := by
  rw [h.cnt, inK, List.length_map, ← List.countP_eq_length_filter, ← range_cnt b t.logical.toNat t.at_ h.keys (fun x hx => by have := h.rng x hx; omega)]
  rfl
theorem Ok.ins {t : Tb} (h : t.Ok) (b : Int) : t.ins b = inK t b t.logical.toNat := by
  unfold Tb.ins
  split
  · rename_i h0
    have := h.inK_len b
    rw [h0] at this
    have : (inK t b t.logical.toNat).length = 0 := by omega
    exact (List.eq_nil_of_length_eq_zero this).symm
  · rfl
theorem Ok.ins_len {t : Tb} (h : t.Ok) (b : Int) : ((t.ins b).length : Int) = t.count b := by rw [h.ins, h.inK_len]
theorem put_logical (t : Tb) (e : En) (b r s m : Int) : (t.put e b r s m).logical = t.logical := by unfold Tb.put; split <;> rfl
/-- how many stand -/
theorem Ok.at_len {t : Tb} (h : t.Ok) : t.at_.length = (List.range t.logical.toNat).countP fun i : Nat => (look t.at_ (i : Int)).isSome := at_cnt _ _ h.keys (fun x hx => by have := h.rng x hx; omega)
end Tb
end Go.Proofs.YtoideahgjgaddaaGreat
