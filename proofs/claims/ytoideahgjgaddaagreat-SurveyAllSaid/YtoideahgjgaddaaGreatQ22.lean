/- Helpers of the proofs about ostrakonlaw11, proved here: ApO, Tbl, PlW, RfM, Lit, Fa. No condition. -/
import Derived.Test.YtoideahgjgaddaaGreatQ05
import Derived.Test.YtoideahgjgaddaaGreatQ06
import Derived.Test.YtoideahgjgaddaaGreatQ12
import Derived.Test.YtoideahgjgaddaaGreatQ13
import Derived.Test.YtoideahgjgaddaaGreatQ18
import Derived.Test.YtoideahgjgaddaaGreatQ20
import Derived.Test.YtoideahgjgaddaaGreatQ21
set_option maxRecDepth 20000
set_option linter.unusedVariables false
set_option linter.unusedSimpArgs false
set_option linter.unusedSectionVars false
set_option linter.unnecessarySimpa false
namespace Go.Proofs.YtoideahgjgaddaaGreat
open Go Go.RowKit
section
variable {X : Cx} {P : Program} {K : List KI} {E : Env} {L : List Atom} {N : Nat} {F : HP} {Post : Value → List Atom → Prop} {rs : List ResultVar} {T : Tab}
theorem append_none_run (hT : TabOK P T) {o : Oper} {x y : Operand} {st e size by_ ks tgs ky tgy : Nat} {gs gy : G} {a : Option Nat} {n cap : Nat} {xs : List Value} {s1 b1 : Nat} {z1 : List Value} {ac : Act} {w : World} {NN : Nat}
  (hop : o.op = .call ⟨.builtin .append, #[x, y], #[st, st]⟩) (hx : ev E x = some ⟨ks, slv a n cap, tgs, gs⟩) (hvx : gs.on = true) (hy : ev E y = some ⟨ky, .slice none 0 0, tgy, gy⟩) (hvy : gy.on = true) (hen : EnvOK NN E ac)
  (hst : T.get st = some ⟨.slice e size, s1, z1, b1⟩) {td : TD} {z : List Value} (he : T.get e = some ⟨td, size, z, by_⟩) (hown : ownP e size a n cap xs (hl w)) :
  (execOp ac.eval o).run P w = .ok (.value (slv a n cap)) w := by
 obtain ⟨d, f, zv, ok⟩ := tiOf_spec (hT.get hst)
 obtain ⟨fe, rfl, g1, g2⟩ := ok.slice rfl
 obtain ⟨d', f', zv', ok'⟩ := tiOf_spec (hT.get he)
 have hf : fe = f' := by have := g1.symm.trans ok'.hf; injection this
 subst hf
 have ex := ev_spec hen hx
 have ey := ev_spec hen hy
 simp only [Slot.val, hvx, hvy] at ex ey
 have hr := run_append_owned_none (P := P) w 0 st o.type e fe size ok.hd ok'.hf _ n xs (ownP_row hown)
 simp only [execOp, hop, resolve, Sem.run_bind, Sem.run_pure, Result.andThen_ok, invoke, builtin, List.map_toArray, List.map_cons, List.map_nil, ex, ey, hr]
theorem J.appendO (hX : IsCx X P rs N F Post) (hT : TabOK P T) {ops : Array Oper} {C : Cl} {lt : Bool} {i : Nat} {t : PT} {o : Oper} {x y : Operand} {st e size by_ : Nat} {ks tgs : Nat} {gs : G} {a : Option Nat} {n cap : Nat} {xs : List Value} {ky tgy : Nat} {gy : G} {ay : Option Nat} {m cy : Nat} {cs : List Value} {s1 b1 : Nat} {z1 : List Value} {E' : Value → Env} (is iy : Nat)
  (ho : lget ops.toList i = some o) (hg : gd ops.toList E o = some .tt) (hop : o.op = .call ⟨.builtin .append, #[x, y], #[st, st]⟩)
  (hx : ev E x = some ⟨ks, slv a n cap, tgs, gs⟩) (hvx : gs.on = true) (hy : ev E y = some ⟨ky, slv ay m cy, tgy, gy⟩) (hvy : gy.on = true)
  (hLs : lget L is = some (ownA e size a n cap xs)) (hLy : lget L iy = some (ownA e size ay m cy cs)) (hst : T.get st = some ⟨.slice e size, s1, z1, b1⟩) {td : TD} {z : List Value} (he : T.get e = some ⟨td, size, z, by_⟩) (hz : Nat.beq z.length size = true)
  (hsz : Nat.blt 0 size = true) (h1 : ∀ u ∈ cs, u.oneCell' = true) (h63 : n + m ≤ maxLen) (hbytes : (n + m) * by_ ≤ 140737488355328)
  (hd : ∀ v, putE N o.dst v 0 .tt E = some (E' v))
  (hJ : ∀ a' cap', ∃ L', lset L is (ownA e size a' (n + m) cap' (xs ++ cs)) = some L' ∧ Conj (staysL lt C L') ∧ J X (.reg ops C t :: K) (E' (slv a' (n + m) cap')) L') : J X (.reg ops C (.alt lt i t .non) :: K) E L := by
 cases ay with
 | some b => exact J.appendR hX hT (oo := 0) is iy 0 ho hg rfl hop hx hvx hy hvy hLs hLy (own_rd _ _ (some b) _ _ _) hst he hz hsz h1 h63 hbytes hd hJ
 | none =>
  rw [lget_eq] at hLs hLy
  refine J.know (p := cs.length = m * size ∧ m = 0 ∧ cy = 0) (fun h s => (show ownP e size none m cy cs h from s.get hLy)) fun hk => ?_
  obtain ⟨q1, rfl, rfl⟩ := hk
  have hcs : cs = [] := List.eq_nil_of_length_eq_zero (by rw [q1, Nat.zero_mul])
  subst hcs
  obtain ⟨L', e1, e2, e3⟩ := hJ a cap
  rw [Nat.add_zero, List.append_nil] at e1
  rw [Nat.add_zero] at e3
  have hL : L' = L := by
   rw [lset_eq e1]
   apply List.ext_getElem?
   intro j
   rw [List.getElem?_set]
   split
   ·rename_i e; subst e; split
    ·exact hLs.symm
    ·rename_i e4; rw [List.getElem?_eq_none (by omega)]
   ·rfl
  subst hL
  exact J.val hX (slv a n cap) 0 ho hg (fun _ ac w hen hs => append_none_run hT hop hx hvx hy hvy hen hst he (show ownP e size a n cap xs (hl w) from hs.get hLs)) (hd _) e2 e3
end
def kI (k : Int) : Value := .int .i64 k
theorem keyI : KeyOk Tryz.prog 3 kI where
 now := ⟨_, Tryz.underlying3, fun a b => .inr rfl⟩
 eq := fun a b w => by kernel_rfl
 check := fun e a w => by kernel_rfl
 bits := fun a => by simp [kI, Instr.sameBits]
theorem umapAt : Tryz.prog.underlying 125 = some (.map 3 52) := by kernel_rfl
theorem umapC : Tryz.prog.underlying 126 = some (.map 3 3) := by kernel_rfl
def atL (a : AtV) : List Value := [.int .i64 a.block, .int .i64 a.row, .int .i64 a.slot, .int .i64 a.mask, .int .i64 a.seq, .int .i64 a.role]
def atV (a : AtV) : Value := .agg (atL a).toArray
def atM (l : List (Int × AtV)) : List (Int × Value) := l.map fun x => (x.1, atV x.2)
def cnM (l : List (Int × Int)) : List (Int × Value) := l.map fun x => (x.1, .int .i64 x.2)
def plL (b r s : Int) : List Value := [.int .i64 b, .int .i64 r, .int .i64 s]
def plV (b r s : Int) : Value := .agg (plL b r s).toArray
theorem alook_map {α : Type} (f : α → Value) (k : Int) : ∀ l : List (Int × α), alook (l.map fun x => (x.1, f x.2)) k = (Tb.look l k).map f
 | [] => rfl
 | x :: l => by
  simp only [List.map_cons, alook, Tb.look]
  split
  ·rfl
  ·exact alook_map f k l
theorem aput_map {α : Type} (f : α → Value) (k : Int) (v : α) : ∀ l : List (Int × α), aput (l.map fun x => (x.1, f x.2)) k (f v) = (Tb.put1 l k v).map fun x => (x.1, f x.2)
 | [] => rfl
 | x :: l => by
  simp only [List.map_cons, aput, Tb.put1]
  split
  ·rfl
  ·rw [aput_map f k v l]; rfl
theorem alook_at (l : List (Int × AtV)) (k : Int) : alook (atM l) k = (Tb.look l k).map atV := alook_map atV k l
theorem alook_cn (l : List (Int × Int)) (k : Int) : alook (cnM l) k = (Tb.look l k).map (Value.int .i64) := alook_map (Value.int .i64) k l
theorem aput_at (l : List (Int × AtV)) (k : Int) (v : AtV) : aput (atM l) k (atV v) = atM (Tb.put1 l k v) := aput_map atV k v l
theorem aput_cn (l : List (Int × Int)) (k v : Int) : aput (cnM l) k (Value.int .i64 v) = cnM (Tb.put1 l k v) := aput_map (Value.int .i64) k v l
theorem look_getD (o : Option AtV) : (o.map atV).getD (atV AtV.zero) = atV (o.getD AtV.zero) := by cases o <;> rfl
theorem lookc_getD (o : Option Int) : (o.map (Value.int .i64)).getD (Value.int .i64 0) = Value.int .i64 (o.getD 0) := by cases o <;> rfl
theorem opt_some {α β : Type} (o : Option α) (f : α → β) : (o.map f).isSome = o.isSome := by cases o <;> rfl
def TbP (q : Nat) (t : Tb) (x : Nat × Nat) : List Atom := [.pt q 128 [.int .i64 t.logical, .map (some x.1), .map (some x.2), .int .i64 t.next], mapA x.1 kI (atM t.at_), mapA x.2 kI (cnM t.cnt)]
def TbA (q : Nat) (t : Tb) : Atom := exA fun x : Nat × Nat => TbP q t x
theorem tb_mm (n : Int) : (if (65536 : Int) < if (0 : Int) > n then 0 else n then 65536 else if (0 : Int) > n then 0 else n) = min (max n 0) 65536 := by
 by_cases h : (0 : Int) > n
 ·simp only [if_pos h]; rw [if_neg (by omega)]; omega
 ·simp only [if_neg h]; split <;> omega
theorem tb_New (n : Int) : Fn Tryz.prog 42 [.int .i64 n] [] (fun v As => ∃ q, v = .pointer (some ⟨q, 0, none⟩) ∧ As = [TbA q (Tb.new n)]) := by
 refine Fn.enter [0] Tryz.func42 rfl rfl rfl fun X F hX => ?_
 refine J.r hX tk 400 (fun _ => rfl) fun bs => ?_
 rw [tb_mm]
 refine J.turn1 [1] rfl (As := [mapA (bs 0) kI (atM [])]) (fun h s => ?_) rfl ?_
 ·refine ⟨fun _ => 0, fun i A hA => ?_⟩
  cases i with
  | zero => simp at hA; subst hA; exact ⟨#[], 0, res_some.2 ⟨rfl, s.get (i := 0) rfl⟩, rfl, by simp, by simp⟩
  | succ k => simp at hA
 refine J.turn1 [2] rfl (As := [mapA (bs (0 + 1)) kI (cnM [])]) (fun h s => ?_) rfl ?_
 ·refine ⟨fun _ => 0, fun i A hA => ?_⟩
  cases i with
  | zero => simp at hA; subst hA; exact ⟨#[], 0, res_some.2 ⟨rfl, s.get (i := 0) rfl⟩, rfl, by simp, by simp⟩
  | succ k => simp at hA
 refine J.close (f := fun x : Nat × Nat => TbP (bs (0 + 1 + 1)) (Tb.new n) x) (bs 0, bs (0 + 1)) [3, 1, 2] rfl rfl rfl ?_
 refine J.r hX tk 400 (fun _ => rfl) fun b1 => ?_
 refine J.rt hX tk [3] rfl rfl rfl ?_
 exact ⟨bs (0 + 1 + 1), rfl, rfl⟩
theorem tb_Get (q : Nat) (t : Tb) (k : Int) : Fn Tryz.prog 20 [.pointer (some ⟨q, 0, none⟩), .int .i64 k] [TbA q t]
  (fun v As => v = .tuple #[atV ((Tb.look t.at_ k).getD AtV.zero), .bool (Tb.look t.at_ k).isSome] ∧ As = [TbA q t]) := by
 refine Fn.enter [2, 0] Tryz.func20 rfl rfl rfl fun X F hX => ?_
 refine J.open_ (α := (Nat × Nat)) 1 rfl rfl (fun _ => rfl) fun x => ?_
 refine J.r hX tk 400 (fun _ => rfl) fun b2 => ?_
 refine J.cond rfl (fun h => by simp at h) (fun _ => ?_)
 refine J.r hX tk 400 (fun _ => rfl) fun b3 => ?_
 refine J.val hX (.tuple #[atV ((Tb.look t.at_ k).getD AtV.zero), .bool (Tb.look t.at_ k).isSome]) 0 rfl rfl (fun hg a w he hs => ?_) rfl trivial ?_
 ·refine (lookup_run (key := k) keyI umapAt (z := atV AtV.zero) (fun w => by kernel_rfl) rfl rfl rfl rfl he rfl rfl (hs.get (i := 2) rfl)).trans ?_
  simp only [alook_at, look_getD, opt_some]
 refine J.close (f := fun x : Nat × Nat => TbP q t x) x [1, 2, 3] rfl rfl rfl ?_
 refine J.r hX tk 400 (fun _ => rfl) fun b4 => ?_
 refine J.rt hX tk [1] rfl rfl rfl ?_
 exact ⟨rfl, rfl⟩
theorem tb_Len (q : Nat) (t : Tb) : Fn Tryz.prog 19 [.pointer (some ⟨q, 0, none⟩)] [TbA q t]
  (fun v As => v = .int .i64 t.at_.length ∧ As = [TbA q t]) := by
 refine Fn.enter [2] Tryz.func19 rfl rfl rfl fun X F hX => ?_
 refine J.open_ (α := (Nat × Nat)) 1 rfl rfl (fun _ => rfl) fun x => ?_
 refine J.r hX tk 400 (fun _ => rfl) fun b5 => ?_
 refine J.cond rfl (fun h => by simp at h) (fun _ => ?_)
 refine J.r hX tk 400 (fun _ => rfl) fun b6 => ?_
 refine J.val hX (.int .i64 t.at_.length) 0 rfl rfl (fun hg a w he hs => ?_) rfl trivial ?_
 ·refine (len_map_run umapAt rfl rfl he rfl (hs.get (i := 2) rfl)).trans ?_
  rw [atM, List.length_map]
 refine J.close (f := fun x : Nat × Nat => TbP q t x) x [1, 2, 3] rfl rfl rfl ?_
 refine J.r hX tk 400 (fun _ => rfl) fun b7 => ?_
 refine J.rt hX tk [1] rfl rfl rfl ?_
 exact ⟨rfl, rfl⟩
theorem tb_Next (q : Nat) (t : Tb) : Fn Tryz.prog 122 [.pointer (some ⟨q, 0, none⟩)] [TbA q t]
  (fun v As => v = .int .i64 t.next ∧ As = [TbA q t]) := by
 refine Fn.enter [2] Tryz.func122 rfl rfl rfl fun X F hX => ?_
 refine J.open_ (α := (Nat × Nat)) 1 rfl rfl (fun _ => rfl) fun x => ?_
 refine J.r hX tk 400 (fun _ => rfl) fun b8 => ?_
 refine J.cond rfl (fun h => by simp at h) (fun _ => ?_)
 refine J.r hX tk 400 (fun _ => rfl) fun b9 => ?_
 refine J.close (f := fun x : Nat × Nat => TbP q t x) x [1, 2, 3] rfl rfl rfl ?_
 refine J.r hX tk 400 (fun _ => rfl) fun b10 => ?_
 refine J.rt hX tk [1] rfl rfl rfl ?_
 exact ⟨rfl, rfl⟩
theorem tb_Count (q : Nat) (t : Tb) (k : Int) : Fn Tryz.prog 58 [.pointer (some ⟨q, 0, none⟩), .int .i64 k] [TbA q t]
  (fun v As => v = .int .i64 (t.count k) ∧ As = [TbA q t]) := by
 refine Fn.enter [2, 0] Tryz.func58 rfl rfl rfl fun X F hX => ?_
 refine J.open_ (α := (Nat × Nat)) 1 rfl rfl (fun _ => rfl) fun x => ?_
 refine J.r hX tk 400 (fun _ => rfl) fun b11 => ?_
 refine J.cond rfl (fun h => by simp at h) (fun _ => ?_)
 refine J.r hX tk 400 (fun _ => rfl) fun b12 => ?_
 refine J.val hX (.int .i64 (t.count k)) 0 rfl rfl (fun hg a w he hs => ?_) rfl trivial ?_
 ·refine (lookup_run (key := k) keyI umapC (z := .int .i64 0) (fun w => by kernel_rfl) rfl rfl rfl rfl he rfl rfl (hs.get (i := 3) rfl)).trans ?_
  simp only [alook_cn, lookc_getD]; rfl
 refine J.close (f := fun x : Nat × Nat => TbP q t x) x [1, 2, 3] rfl rfl rfl ?_
 refine J.r hX tk 400 (fun _ => rfl) fun b13 => ?_
 refine J.rt hX tk [1] rfl rfl rfl ?_
 exact ⟨rfl, rfl⟩
theorem tb_Put (q : Nat) (t : Tb) (e : En) (b r s m : Int) (hs : -9223372036854775808 ≤ e.seq ∧ e.seq < 9223372036854775807) (hc : ∀ k, 0 ≤ Tb.count t k ∧ Tb.count t k ≤ 1000000) : Fn Tryz.prog 45 [.pointer (some ⟨q, 0, none⟩), enV e, plV b r s, .int .i64 m] [TbA q t]
  (fun v As => v = .bool (Tb.putB t e) ∧ As = [TbA q (Tb.put t e b r s m)]) := by
 refine Fn.enter [2, 0, 0, 0] Tryz.func45 rfl rfl rfl fun X F hX => ?_
 refine J.open_ (α := (Nat × Nat)) 1 rfl rfl (fun _ => rfl) fun x => ?_
 refine J.r hX tk 400 (fun _ => rfl) fun bb => ?_
 refine J.plan (.of [0,4,8,12,17,20,24,28,32,37,40,44,48,53,56,60,64,68,73,76,80,84,89,92,96,100,104,109,112,116,120]) [] [1,2,3,4,5] (by rw [hX.hP]; kernel_rfl) (by kernel_rfl) ?_
 refine J.r hX tk 1 (fun _ => rfl) fun b15 => ?_
 refine J.run hX tk 400 (fun b16 => rfl) (fun b16 => ?_) (fun b16 => ?_)
 ·(repeat' (first | exact Conj.nil | refine Conj.cons ?_ ?_ | exact rfl | exact hq | (rw [hq]; rfl) | (rw [(Bool.not_eq_true' _).mp hq]) | intro hq | omega | (simp; done) | (simp_all; done)))
 refine J.r hX tk 400 (fun _ => rfl) fun b17 => ?_
 refine J.cond rfl (fun h1 => ?_) (fun h1 => ?_)
 ·refine J.close (f := fun x : Nat × Nat => TbP q t x) x [1, 2, 3] rfl rfl rfl ?_
  refine J.r hX tk 400 (fun _ => rfl) fun b18 => ?_
  refine J.rt hX tk [1] rfl rfl rfl ?_
  have ho : Tb.ok t e = false := by unfold Tb.ok; rw [Bool.not_eq_false']; exact h1
  have hp : Tb.putB t e = false := by unfold Tb.putB; rw [ho]; rfl
  exact ⟨by rw [hp], by rw [Tb.put, if_neg (by rw [hp]; simp)]; rfl⟩
 have ho : Tb.ok t e = true := by unfold Tb.ok; rw [Bool.not_eq_true']; exact h1
 refine J.r hX tk 400 (fun _ => rfl) fun b19 => ?_
 refine J.plan (.of [0,4,8,13,16,21,25,28,32,36,42,46,48]) [12] [1,2,3,4,5] (by rw [hX.hP]; kernel_rfl) (by kernel_rfl) ?_
 refine J.r hX tk 400 (fun _ => rfl) fun b20 => ?_
 refine J.valT hX (.tuple #[atV ((Tb.look t.at_ e.lpn).getD AtV.zero), .bool (Tb.look t.at_ e.lpn).isSome]) 0 rfl rfl (fun _ a w he hC => ?_) rfl ?_
 ·refine (lookup_run (key := e.lpn) keyI umapAt (z := atV AtV.zero) (fun w => by kernel_rfl) rfl rfl rfl rfl he rfl rfl (hC rfl _ (cget_mem (i := 2) rfl))).trans ?_
  simp only [alook_at, look_getD, opt_some]
 rcases hlk : Tb.look t.at_ e.lpn with _ | a
 ·have hel : Tb.elder t e = false := by simp [Tb.elder, hlk]
  have hp : Tb.putB t e = true := by rw [Tb.putB, ho, hel]; rfl
  have hc1 : Tb.cnt1 t e = t.cnt := by simp [Tb.cnt1, hlk]
  refine J.r hX tk 400 (fun _ => rfl) fun bw => ?_
  refine J.cond rfl (fun h => by simp at h) (fun _ => ?_)
  refine J.r hX tk 400 (fun _ => rfl) fun b22 => ?_
  refine J.cond rfl (fun h => by simp at h) (fun _ => ?_)
  refine J.r hX tk 400 (fun _ => rfl) fun b23 => ?_
  refine J.plan (.of [0,4,8,13,16,21,25,28,35]) [8] [1,2,3,4,5,6] (by rw [hX.hP]; kernel_rfl) (by kernel_rfl) ?_
  refine J.r hX tk 400 (fun _ => rfl) fun b24 => ?_
  refine J.valT hX (.int .i64 ((Tb.look (t.cnt) b).getD 0)) 0 rfl rfl (fun _ a w he hC => ?_) rfl ?_
  ·refine (lookup_run (key := b) keyI umapC (z := .int .i64 0) (fun w => by kernel_rfl) rfl rfl rfl rfl he rfl rfl (hC rfl _ (cget_mem (i := 3) rfl))).trans ?_
   simp only [alook_cn, lookc_getD]
  have hb2 : -1 ≤ (Tb.look (t.cnt) b).getD 0 ∧ (Tb.look (t.cnt) b).getD 0 ≤ 1000000 := ⟨by have := hc b; unfold Tb.count at this; omega, (hc b).2⟩
  refine J.r hX tk 400 (fun _ => rfl) fun b25 => ?_
  refine J.mapUpdate hX keyI umapC b 3 rfl rfl rfl rfl rfl rfl rfl rfl rfl rfl rfl rfl (fun _ => rfl) (by rw [aput_cn]; rfl) ⟨trivial, ?_⟩
  refine J.r hX tk 400 (fun _ => rfl) fun b26 => ?_
  refine J.plan (.of [0,4,8,13,16,21,25,28,32,37,40,45,48,55]) [13] [1,2,3,4,5,6] (by rw [hX.hP]; kernel_rfl) (by kernel_rfl) ?_
  refine J.r hX tk 400 (fun _ => rfl) fun b27 => ?_
  refine J.mapUpdate hX keyI umapAt e.lpn 2 rfl rfl rfl rfl rfl rfl rfl rfl rfl rfl rfl rfl (fun _ => rfl) (show _ = some (_ :: _ :: mapA _ _ (aput _ _ (atV ⟨b, r, s, m, e.seq, e.role⟩)) :: _) from rfl) ⟨trivial, ?_⟩
  rw [aput_at]
  refine J.r hX tk 400 (fun _ => rfl) fun b28 => ?_
  refine J.plan (.of [0,5,8,12,16,21,24]) [] [1,2,3,4,5,6] (by rw [hX.hP]; kernel_rfl) (by kernel_rfl) ?_
  refine J.r hX tk 400 (fun _ => rfl) fun b29 => ?_
  have hput : Tb.put t e b r s m = ⟨t.logical, Tb.put1 t.at_ e.lpn ⟨b, r, s, m, e.seq, e.role⟩, Tb.put1 (t.cnt) b ((Tb.look (t.cnt) b).getD 0 + 1), if e.seq ≥ t.next then e.seq + 1 else t.next⟩ := by
   rw [Tb.put, if_pos hp, Tb.cnt2, hc1]
  refine J.r hX tk 400 (fun _ => rfl) fun b30 => ?_
  refine J.cond rfl (fun h5 => ?_) (fun h5 => ?_)
  ·refine J.r hX tk 400 (fun _ => rfl) fun b31 => ?_
   refine J.close (f := fun x : Nat × Nat => TbP q ⟨t.logical, Tb.put1 t.at_ e.lpn ⟨b, r, s, m, e.seq, e.role⟩, Tb.put1 (t.cnt) b ((Tb.look (t.cnt) b).getD 0 + 1), e.seq + 1⟩ x) x [1, 2, 3] rfl rfl rfl ?_
   refine J.r hX tk 400 (fun _ => rfl) fun b32 => ?_
   refine J.rt hX tk [1] rfl rfl rfl ?_
   exact ⟨by rw [hp], by rw [hput, if_pos (by simpa only [decide_eq_true_eq, decide_eq_false_iff_not] using h5)]; rfl⟩
  ·refine J.close (f := fun x : Nat × Nat => TbP q ⟨t.logical, Tb.put1 t.at_ e.lpn ⟨b, r, s, m, e.seq, e.role⟩, Tb.put1 (t.cnt) b ((Tb.look (t.cnt) b).getD 0 + 1), t.next⟩ x) x [1, 2, 3] rfl rfl rfl ?_
   refine J.r hX tk 400 (fun _ => rfl) fun b33 => ?_
   refine J.rt hX tk [1] rfl rfl rfl ?_
   exact ⟨by rw [hp], by rw [hput, if_neg (by simpa only [decide_eq_true_eq, decide_eq_false_iff_not] using h5)]; rfl⟩
 ·refine J.r hX tk 400 (fun _ => rfl) fun bw => ?_
  refine J.cond rfl (fun h2 => ?_) (fun h2 => ?_)
  ·refine J.close (f := fun x : Nat × Nat => TbP q t x) x [1, 2, 3] rfl rfl rfl ?_
   refine J.r hX tk 400 (fun _ => rfl) fun b35 => ?_
   refine J.rt hX tk [1] rfl rfl rfl ?_
   have hel : Tb.elder t e = true := by rw [Tb.elder, hlk]; exact h2
   have hp : Tb.putB t e = false := by rw [Tb.putB, ho, hel]; rfl
   exact ⟨by rw [hp], by rw [Tb.put, if_neg (by rw [hp]; simp)]; rfl⟩
  have hel : Tb.elder t e = false := by rw [Tb.elder, hlk]; exact h2
  have hp : Tb.putB t e = true := by rw [Tb.putB, ho, hel]; rfl
  have hc1 : Tb.cnt1 t e = Tb.put1 t.cnt a.block (t.count a.block - 1) := by simp [Tb.cnt1, hlk]
  have hb1 := hc a.block
  refine J.r hX tk 400 (fun _ => rfl) fun b36 => ?_
  refine J.cond rfl (fun _ => ?_) (fun h => by simp at h)
  refine J.r hX tk 400 (fun _ => rfl) fun b37 => ?_
  refine J.plan (.of [0,4,8,13,16,20,25,29,32,39]) [9] [1,2,3,4,5,6] (by rw [hX.hP]; kernel_rfl) (by kernel_rfl) ?_
  refine J.r hX tk 400 (fun _ => rfl) fun b38 => ?_
  refine J.valT hX (.int .i64 (t.count a.block)) 0 rfl rfl (fun _ a' w he hC => ?_) rfl ?_
  ·refine (lookup_run (key := a.block) keyI umapC (z := .int .i64 0) (fun w => by kernel_rfl) rfl rfl rfl rfl he rfl rfl (hC rfl _ (cget_mem (i := 3) rfl))).trans ?_
   simp only [alook_cn, lookc_getD]; rfl
  refine J.r hX tk 400 (fun _ => rfl) fun b39 => ?_
  refine J.mapUpdate hX keyI umapC a.block 3 rfl rfl rfl rfl rfl rfl rfl rfl rfl rfl rfl rfl (fun _ => rfl) (by rw [aput_cn]; rfl) ⟨trivial, ?_⟩
  refine J.r hX tk 400 (fun _ => rfl) fun b40 => ?_
  refine J.plan (.of [0,4,8,13,16,21,25,28,35]) [8] [1,2,3,4,5,6] (by rw [hX.hP]; kernel_rfl) (by kernel_rfl) ?_
  refine J.r hX tk 400 (fun _ => rfl) fun b41 => ?_
  refine J.valT hX (.int .i64 ((Tb.look (Tb.put1 t.cnt a.block (t.count a.block - 1)) b).getD 0)) 0 rfl rfl (fun _ a w he hC => ?_) rfl ?_
  ·refine (lookup_run (key := b) keyI umapC (z := .int .i64 0) (fun w => by kernel_rfl) rfl rfl rfl rfl he rfl rfl (hC rfl _ (cget_mem (i := 3) rfl))).trans ?_
   simp only [alook_cn, lookc_getD]
  have hb2 : -1 ≤ (Tb.look (Tb.put1 t.cnt a.block (t.count a.block - 1)) b).getD 0 ∧ (Tb.look (Tb.put1 t.cnt a.block (t.count a.block - 1)) b).getD 0 ≤ 1000000 := by
     rw [Tb.look_put1]
     split
     ·show -1 ≤ t.count a.block - 1 ∧ t.count a.block - 1 ≤ 1000000; omega
     ·have := hc b; unfold Tb.count at this; omega
  refine J.r hX tk 400 (fun _ => rfl) fun b42 => ?_
  refine J.mapUpdate hX keyI umapC b 3 rfl rfl rfl rfl rfl rfl rfl rfl rfl rfl rfl rfl (fun _ => rfl) (by rw [aput_cn]; rfl) ⟨trivial, ?_⟩
  refine J.r hX tk 400 (fun _ => rfl) fun b43 => ?_
  refine J.plan (.of [0,4,8,13,16,21,25,28,32,37,40,45,48,55]) [13] [1,2,3,4,5,6] (by rw [hX.hP]; kernel_rfl) (by kernel_rfl) ?_
  refine J.r hX tk 400 (fun _ => rfl) fun b44 => ?_
  refine J.mapUpdate hX keyI umapAt e.lpn 2 rfl rfl rfl rfl rfl rfl rfl rfl rfl rfl rfl rfl (fun _ => rfl) (show _ = some (_ :: _ :: mapA _ _ (aput _ _ (atV ⟨b, r, s, m, e.seq, e.role⟩)) :: _) from rfl) ⟨trivial, ?_⟩
  rw [aput_at]
  refine J.r hX tk 400 (fun _ => rfl) fun b45 => ?_
  refine J.plan (.of [0,5,8,12,16,21,24]) [] [1,2,3,4,5,6] (by rw [hX.hP]; kernel_rfl) (by kernel_rfl) ?_
  refine J.r hX tk 400 (fun _ => rfl) fun b46 => ?_
  have hput : Tb.put t e b r s m = ⟨t.logical, Tb.put1 t.at_ e.lpn ⟨b, r, s, m, e.seq, e.role⟩, Tb.put1 (Tb.put1 t.cnt a.block (t.count a.block - 1)) b ((Tb.look (Tb.put1 t.cnt a.block (t.count a.block - 1)) b).getD 0 + 1), if e.seq ≥ t.next then e.seq + 1 else t.next⟩ := by
   rw [Tb.put, if_pos hp, Tb.cnt2, hc1]
  refine J.r hX tk 400 (fun _ => rfl) fun b47 => ?_
  refine J.cond rfl (fun h5 => ?_) (fun h5 => ?_)
  ·refine J.r hX tk 400 (fun _ => rfl) fun b48 => ?_
   refine J.close (f := fun x : Nat × Nat => TbP q ⟨t.logical, Tb.put1 t.at_ e.lpn ⟨b, r, s, m, e.seq, e.role⟩, Tb.put1 (Tb.put1 t.cnt a.block (t.count a.block - 1)) b ((Tb.look (Tb.put1 t.cnt a.block (t.count a.block - 1)) b).getD 0 + 1), e.seq + 1⟩ x) x [1, 2, 3] rfl rfl rfl ?_
   refine J.r hX tk 400 (fun _ => rfl) fun b49 => ?_
   refine J.rt hX tk [1] rfl rfl rfl ?_
   exact ⟨by rw [hp], by rw [hput, if_pos (by simpa only [decide_eq_true_eq, decide_eq_false_iff_not] using h5)]; rfl⟩
  ·refine J.close (f := fun x : Nat × Nat => TbP q ⟨t.logical, Tb.put1 t.at_ e.lpn ⟨b, r, s, m, e.seq, e.role⟩, Tb.put1 (Tb.put1 t.cnt a.block (t.count a.block - 1)) b ((Tb.look (Tb.put1 t.cnt a.block (t.count a.block - 1)) b).getD 0 + 1), t.next⟩ x) x [1, 2, 3] rfl rfl rfl ?_
   refine J.r hX tk 400 (fun _ => rfl) fun b50 => ?_
   refine J.rt hX tk [1] rfl rfl rfl ?_
   exact ⟨by rw [hp], by rw [hput, if_neg (by simpa only [decide_eq_true_eq, decide_eq_false_iff_not] using h5)]; rfl⟩
end Go.Proofs.YtoideahgjgaddaaGreat
namespace Go.Proofs.YtoideahgjgaddaaGreat
open Go
theorem gD {l : List Int} {i : Nat} (h : i < l.length) : l[i]? = some (l.getD i 0) := by rw [List.getD_eq_getElem?_getD, List.getElem?_eq_getElem h, Option.getD_some]
theorem swp_get (l : List Int) {j : Nat} (h1 : 1 ≤ j) (h : j < l.length) (i : Nat) : (swpI l j).getD i 0 = if i = j - 1 then l.getD j 0 else if i = j then l.getD (j - 1) 0 else l.getD i 0 := by
 unfold swpI
 rw [List.getD_eq_getElem?_getD, List.getElem?_set, List.length_set]
 by_cases e : j - 1 = i
 ·rw [if_pos e, if_pos (by omega), if_pos e.symm, Option.getD_some]
 ·rw [if_neg e, if_neg (by omega), List.getElem?_set]
  by_cases e2 : j = i
  ·rw [if_pos e2, if_pos (by omega), if_pos e2.symm, Option.getD_some]
  ·rw [if_neg e2, if_neg (by omega), ← List.getD_eq_getElem?_getD]
theorem mem_gD {l : List Int} {x : Int} : x ∈ l ↔ ∃ i, i < l.length ∧ l.getD i 0 = x := by
 constructor
 ·intro h
  obtain ⟨i, hi, e⟩ := List.getElem_of_mem h
  exact ⟨i, hi, by rw [List.getD_eq_getElem?_getD, List.getElem?_eq_getElem hi, Option.getD_some]; exact e⟩
 ·rintro ⟨i, hi, e⟩
  exact List.mem_of_getElem? (by rw [gD hi, e])
theorem swp_mem (l : List Int) {j : Nat} (h1 : 1 ≤ j) (h : j < l.length) (x : Int) : x ∈ swpI l j ↔ x ∈ l := by
 rw [mem_gD, mem_gD, swpI_len]
 constructor
 ·rintro ⟨i, hi, e⟩
  rw [swp_get l h1 h] at e
  split at e
  ·exact ⟨j, h, e⟩
  ·split at e
   ·exact ⟨j - 1, by omega, e⟩
   ·exact ⟨i, hi, e⟩
 ·rintro ⟨i, hi, e⟩
  by_cases e1 : i = j
  ·exact ⟨j - 1, by omega, by rw [swp_get l h1 h, if_pos rfl, ← e1, e]⟩
  ·by_cases e2 : i = j - 1
   ·exact ⟨j, h, by rw [swp_get l h1 h, if_neg (by omega), if_pos rfl, ← e2, e]⟩
   ·exact ⟨i, hi, by rw [swp_get l h1 h, if_neg e2, if_neg e1, e]⟩
theorem sink_mem : ∀ (j : Nat) (l : List Int) (x : Int), j < l.length → (x ∈ sinkI j l ↔ x ∈ l)
 | 0, _, _, _ => Iff.rfl
 | j + 1, l, x, h => by
  unfold sinkI
  split
  ·rw [sink_mem j _ x (by rw [swpI_len]; omega), swp_mem l (by omega) h]
  ·exact Iff.rfl
theorem sink_sort : ∀ (j n : Nat) (l : List Int), j ≤ n → n < l.length → (∀ a b, a < b → b ≤ n → a ≠ j → b ≠ j → l.getD a 0 ≤ l.getD b 0) → (∀ b, j < b → b ≤ n → l.getD j 0 ≤ l.getD b 0) → ∀ a b, a < b → b ≤ n → (sinkI j l).getD a 0 ≤ (sinkI j l).getD b 0
 | 0, n, l, _, _, hs, hu => fun a b hab hb => by
  unfold sinkI
  by_cases e : a = 0
  ·subst e; exact hu b hab hb
  ·exact hs a b hab hb e (by omega)
 | j + 1, n, l, hj, hn, hs, hu => by
  unfold sinkI
  split
  ·rename_i hlt
   have g := swp_get l (j := j + 1) (by omega) (by omega)
   simp only [Nat.add_sub_cancel] at g
   refine sink_sort j n (swpI l (j + 1)) (by omega) (by rw [swpI_len]; exact hn) (fun a b hab hb ha hbj => ?_) (fun b hjb hb => ?_)
   ·rw [g, g, if_neg ha, if_neg hbj]
    by_cases e1 : a = j + 1
    ·rw [if_pos e1, if_neg (by omega)]
     exact hs j b (by omega) hb (by omega) (by omega)
    ·rw [if_neg e1]
     by_cases e2 : b = j + 1
     ·rw [if_pos e2]
      exact hs a j (by omega) (by omega) e1 (by omega)
     ·rw [if_neg e2]
      exact hs a b hab hb e1 e2
   ·rw [g, g, if_pos rfl, if_neg (by omega)]
    by_cases e2 : b = j + 1
    ·rw [if_pos e2]; omega
    ·rw [if_neg e2]
     exact hu b (by omega) hb
  ·rename_i hge
   intro a b hab hb
   by_cases e1 : a = j + 1
   ·subst e1; exact hu b hab hb
   ·by_cases e2 : b = j + 1
    ·subst e2
     by_cases e3 : a = j
     ·subst e3; omega
     ·have := hs a j (by omega) (by omega) e1 (by omega)
      omega
    ·exact hs a b hab hb e1 e2
theorem isort_mem (l : List Int) (x : Int) : ∀ k, k < l.length → (x ∈ isortI l k ↔ x ∈ l)
 | 0, _ => Iff.rfl
 | k + 1, h => by
  unfold isortI
  rw [sink_mem _ _ x (by rw [isortI_len]; exact h)]
  exact isort_mem l x k (by omega)
theorem isort_sort (l : List Int) : ∀ k, k < l.length → ∀ a b, a < b → b ≤ k → (isortI l k).getD a 0 ≤ (isortI l k).getD b 0
 | 0, _ => fun a b hab hb => by omega
 | k + 1, h => by
  unfold isortI
  have ih := isort_sort l k (by omega)
  exact sink_sort (k + 1) (k + 1) (isortI l k) (Nat.le_refl _) (by rw [isortI_len]; exact h) (fun a b hab hb ha hbk => ih a b hab (by omega)) (fun b hb1 hb2 => by omega)
theorem isortL_mem (l : List Int) (x : Int) : x ∈ isortL l ↔ x ∈ l := by
 unfold isortL
 cases l with
 | nil => exact Iff.rfl
 | cons y l => exact isort_mem (y :: l) x _ (by simp)
theorem isortL_sort (l : List Int) : (isortL l).Pairwise (· ≤ ·) := by
 rw [List.pairwise_iff_getElem]
 intro i j hi hj hij
 have hl : (isortL l).length = l.length := isortL_len l
 have h := isort_sort l (l.length - 1) (by omega) i j hij (by omega)
 have h1 : (isortL l).getD i 0 ≤ (isortL l).getD j 0 := h
 rwa [List.getD_eq_getElem?_getD, List.getD_eq_getElem?_getD, List.getElem?_eq_getElem hi, List.getElem?_eq_getElem hj] at h1
theorem ded_strict : ∀ (l : List Int) (p : Int), (p :: l).Pairwise (· ≤ ·) → (p :: dedFrom p l).Pairwise (· < ·) ∧ ∀ y, y ∈ p :: dedFrom p l ↔ y ∈ p :: l
 | [], p, _ => ⟨by simp [dedFrom], fun y => by simp [dedFrom]⟩
 | x :: l, p, h => by
  have hpx := List.pairwise_cons.1 h
  have hx := List.pairwise_cons.1 hpx.2
  unfold dedFrom
  by_cases e : x = p
  ·rw [if_pos e, e]
   obtain ⟨s1, s2⟩ := ded_strict l p (List.pairwise_cons.2 ⟨fun y hy => hpx.1 y (by simp [hy]), hx.2⟩)
   refine ⟨s1, fun y => ?_⟩
   rw [s2 y]; simp
  ·rw [if_neg e]
   obtain ⟨s1, s2⟩ := ded_strict l x hpx.2
   have hlt : p < x := by have := hpx.1 x (by simp); omega
   refine ⟨List.pairwise_cons.2 ⟨fun y hy => ?_, s1⟩, fun y => ?_⟩
   ·have hy2 := (s2 y).1 hy
    rcases List.mem_cons.1 hy2 with e2 | e2
    ·omega
    ·have := hx.1 y e2; omega
   ·have := s2 y
    simp only [List.mem_cons] at this ⊢
    constructor
    ·rintro (h1 | h1)
     ·exact .inl h1
     ·exact .inr (this.1 h1)
    ·rintro (h1 | h1)
     ·exact .inl h1
     ·exact .inr (this.2 h1)
theorem compact_strict (l : List Int) (h : l.Pairwise (· ≤ ·)) : (compactI l).Pairwise (· < ·) ∧ ∀ y, y ∈ compactI l ↔ y ∈ l := by
 cases l with
 | nil => exact ⟨List.Pairwise.nil, fun y => Iff.rfl⟩
 | cons p l => exact ded_strict l p h
theorem strict_ext : ∀ (a b : List Int), a.Pairwise (· < ·) → b.Pairwise (· < ·) → (∀ y, y ∈ a ↔ y ∈ b) → a = b
 | [], [], _, _, _ => rfl
 | [], y :: b, _, _, h => by have := (h y).2 (by simp); simp at this
 | x :: a, [], _, _, h => by have := (h x).1 (by simp); simp at this
 | x :: a, y :: b, ha, hb, h => by
  have ha := List.pairwise_cons.1 ha
  have hb := List.pairwise_cons.1 hb
  have e : x = y := by
   have h1 := (h x).1 (by simp)
   have h2 := (h y).2 (by simp)
   rcases List.mem_cons.1 h1 with e | e
   ·exact e
   ·rcases List.mem_cons.1 h2 with e2 | e2
    ·exact e2.symm
    ·have := hb.1 x e; have := ha.1 y e2; omega
  subst e
  rw [strict_ext a b ha.2 hb.2 fun z => ?_]
  constructor
  ·intro hz
   rcases List.mem_cons.1 ((h z).1 (by simp [hz])) with e | e
   ·subst e; have := ha.1 z hz; omega
   ·exact e
  ·intro hz
   rcases List.mem_cons.1 ((h z).2 (by simp [hz])) with e | e
   ·subst e; have := hb.1 z hz; omega
   ·exact e
def setL (p : Nat → Bool) (k : Nat) : List Int := ((List.range k).filter p).map fun m : Nat => (m : Int)
theorem setL_succ (p : Nat → Bool) (k : Nat) : setL p (k + 1) = setL p k ++ (if p k then [(k : Int)] else []) := by
 unfold setL
 rw [List.range_succ, List.filter_append, List.map_append]
 congr 1
 cases h : p k <;> simp [h]
theorem setL_len (p : Nat → Bool) (k : Nat) : (setL p k).length ≤ k := by
 unfold setL
 rw [List.length_map]
 exact Nat.le_trans (List.length_filter_le _ _) (by simp)
theorem compact_set (l : List Int) (p : Nat → Bool) (hl : ∀ x ∈ l, 0 ≤ x ∧ x < 256) (hp : ∀ m, m < 256 → (p m = true ↔ (m : Int) ∈ l)) : compactI (isortL l) = setL p 256 := by
 obtain ⟨s1, s2⟩ := compact_strict (isortL l) (isortL_sort l)
 refine strict_ext _ _ s1 ?_ fun y => ?_
 ·unfold setL
  rw [List.pairwise_map]
  exact (List.pairwise_lt_range.filter p).imp fun h => by omega
 ·rw [s2, isortL_mem]
  unfold setL
  rw [List.mem_map]
  constructor
  ·intro hy
   obtain ⟨m, rfl⟩ := Int.eq_ofNat_of_zero_le (hl y hy).1
   have hm := (hl _ hy).2
   exact ⟨m, List.mem_filter.2 ⟨List.mem_range.2 (by omega), (hp m (by omega)).2 hy⟩, rfl⟩
  ·rintro ⟨m, hm, rfl⟩
   obtain ⟨h1, h2⟩ := List.mem_filter.1 hm
   exact (hp m (List.mem_range.1 h1)).1 h2
end Go.Proofs.YtoideahgjgaddaaGreat
namespace Go.Proofs.YtoideahgjgaddaaGreat
open Go Go.RowKit
theorem look_mask {N : Nand} {x y z : Int} (h : (M.look N x y z).2 = 1) : 0 ≤ (M.look N x y z).1.mask ∧ (M.look N x y z).1.mask < 256 := by
 unfold M.look at h ⊢
 simp only at h ⊢
 split at h
 ·rename_i h1
  rw [if_pos h1]
  split at h
  ·cases h
  ·rename_i h2
   rw [if_neg h2]
   have hb : M.bad (S.getV (N.readV x y z)) x y z = false := by
    cases hb : M.bad (S.getV (N.readV x y z)) x y z with
    | false => rfl
    | true => exact absurd (.inr hb) h2
   simp only [M.bad, Bool.or_eq_false_iff, Bool.not_eq_false'] at hb
   have := L.has_lt _ _ hb.1.2
   exact this.2.2
 ·split at h
  ·cases h
  ·split at h <;> cases h
theorem mk0_bd (N : Nand) (b r : Int) (k : Nat) : ∀ x ∈ mk0 N b r k, 0 ≤ x ∧ x < 256 := by
 intro x hx
 unfold mk0 at hx
 obtain ⟨y, hy, hm⟩ := List.mem_filterMap.1 hx
 have hy := List.mem_of_mem_take hy
 unfold M.rowN at hy
 obtain ⟨d, _, rfl⟩ := List.mem_map.1 hy
 unfold M.maskOf at hm
 split at hm
 ·rename_i h1
  injection hm with hm
  subst hm
  exact look_mask h1
 ·cases hm
namespace T2
def tab : Tab := (224, ⟨.arr 256 1, 256, List.replicate 256 (.bool false), 256⟩) :: Go.Proofs.YtoideahgjgaddaaGreat.tab
theorem tk : TabOK Tryz.prog tab := TabOK.mk (by kernel_rfl)
theorem cellsB_set0 (l : List Bool) (k : Nat) (v : Bool) : (cellsB l).set k (.bool v) = cellsB (l.set k v) := by unfold cellsB; rw [List.map_set]
theorem rep_cells : List.replicate 256 (Value.bool false) = cellsB (List.replicate 256 false) := by unfold cellsB; rw [List.map_replicate]
theorem f9_Masks (p : Nat) (N : Nand) (hN : N.Ok) (hR : N.Room) (b r : Int) : Fn Tryz.prog 98 [.pointer (some ⟨p, 0, none⟩), .int .i64 b, .int .i64 r] [NandA p N]
  (fun v As => ∃ a c, v = slv a (M.masks N b r).length c ∧ As = [NandA p N, ownA 3 1 a (M.masks N b r).length c (cellsI (M.masks N b r))]) := by
 have hbd := hN.bd
 obtain ⟨pp, hpp⟩ : ∃ pp : Nat → Bool, pp = fun (m : Nat) => decide (((m : Nat) : Int) ∈ mk0 N b r N.dies) := ⟨_, rfl⟩
 have hmk : M.masks N b r = setL pp 256 := by
  have e : mk0 N b r N.dies = (M.rowN N b r N.dies).filterMap M.maskOf := by
   unfold mk0
   rw [List.take_of_length_le (by simp [M.rowN])]
  unfold M.masks
  rw [← e]
  exact compact_set _ pp (mk0_bd N b r N.dies) (fun m _ => by rw [hpp]; exact decide_eq_true_iff)
 rw [hmk]
 refine Fn.enter [2, 0, 0] Tryz.func98 rfl rfl rfl fun X F hX => ?_
 refine J.turn1 [] rfl (As := [ownA 3 1 none 0 0 (cellsI (setL pp 0))]) (fun h s => Sep.one ⟨rfl, rfl, rfl⟩) rfl ?_
 refine J.r hX tk 400 (fun _ => rfl) fun bb => ?_
 rw [rep_cells]
 refine J.r hX tk 400 (fun _ => rfl) fun b1 => ?_
 refine J.lo (α := (Nat × List Bool)) (fun z => z.1 ≤ N.dies ∧ z.2.length = 256 ∧ ∀ m, m < 256 → z.2.getD m false = decide (((m : Nat) : Int) ∈ mk0 N b r z.1)) (fun z => [⟨9, .int .i64 z.1, 0, .tt⟩, ⟨8, .pointer (some ⟨bb 0, 0, none⟩), 4, .tt⟩, ⟨7, .slice none 0 0, 0, .tt⟩, ⟨0, .pointer (some ⟨p, 0, none⟩), 2, .tt⟩, ⟨1, .int .i64 b, 0, .tt⟩, ⟨2, .int .i64 r, 0, .tt⟩]) [3] (fun z => [.pt (bb 0) 224 (cellsB z.2)]) (fun z => N.dies - z.1) ((0, List.replicate 256 false)) (⟨Nat.zero_le _, List.length_replicate, fun m hm => by rw [List.getD_eq_getElem?_getD, List.getElem?_replicate, if_pos hm]; simp [mk0]⟩) rfl ?_ (fun _ => rfl) fun z hI => ?_
 ·rfl
 obtain ⟨d, Lb⟩ := z
 dsimp only at hI ⊢
 obtain ⟨hd, hl, hv⟩ := hI
 refine J.r hX tk 400 (fun _ => rfl) fun b2 => ?_
 refine J.ca hX (by kernel_rfl) (n_Geo p N) [1] 0 rfl rfl rfl rfl rfl rfl (fun _ => rfl) ?_
 rintro v As ⟨rfl, rfl⟩
 refine ⟨_, rfl, trivial, ?_⟩
 refine J.r hX tk 400 (fun _ => rfl) fun b4 => ?_
 refine J.cond rfl (fun h1 => ?_) (fun h1 => ?_)
 ·simp only [decide_eq_true_eq, Int.ofNat_lt] at h1
  have hsc := mk0_succ N b r d h1
  refine J.r hX tk 400 (fun _ => rfl) fun b5 => ?_
  refine J.ca hX (by kernel_rfl) (f9_Look p N hN hR d b r) [1] 0 rfl rfl rfl rfl rfl rfl (fun _ => rfl) ?_
  rintro v As ⟨rfl, rfl⟩
  refine ⟨_, rfl, trivial, ?_⟩
  have hlm := look_mask (N := N) (x := d) (y := b) (z := r)
  generalize M.look N d b r = x at hsc hlm
  obtain ⟨s, w⟩ := x
  dsimp only at hlm
  refine J.r hX tk 400 (fun _ => rfl) fun b7 => ?_
  refine J.cond rfl (fun h2 => ?_) (fun h2 => ?_)
  ·simp only [Bool.and_eq_true, beq_iff_eq, decide_eq_true_eq] at h2
   obtain ⟨⟨hw, hm1⟩, hm2⟩ := h2
   obtain ⟨m, hm⟩ := Int.eq_ofNat_of_zero_le hm1
   have hmk2 : mk0 N b r (d + 1) = mk0 N b r d ++ [(m : Int)] := by
    rw [hsc]; unfold M.maskOf; rw [if_pos hw]
    show _ ++ [s.mask] = _
    have : s.mask = (m : Int) := hm
    rw [this]
   refine J.r hX tk 400 (fun _ => rfl) fun b8 => ?_
   refine J.store1 hX tk 3 rfl rfl rfl rfl rfl rfl rfl rfl rfl rfl rfl rfl rfl ?_ (cellsB (Lb.set m true)) ?_ rfl (fun _ => rfl) ⟨trivial, ?_⟩
   ·rw [cellsB_len, hl]
    show 0 + (s.mask).toNat * 1 < 256
    have : s.mask = (m : Int) := hm
    omega
   ·rw [← cellsB_set0]
    have : s.mask = (m : Int) := hm
    rw [show 0 + ((s, w).fst.mask).toNat * 1 = m from by show 0 + (s.mask).toNat * 1 = m; omega]
   refine J.r hX tk 400 (fun _ => rfl) fun b9 => ?_
   refine J.nS ((d + 1, Lb.set m true)) (⟨by dsimp only; omega, by rw [List.length_set]; exact hl, fun j hj => by
    dsimp only
    rw [List.getD_eq_getElem?_getD, List.getElem?_set, hl, hmk2]
    have hm256 : m < 256 := by
     have : s.mask = (m : Int) := hm
     have h3 : s.mask < 256 := hm2
     omega
    by_cases e : m = j
    ·subst e
     rw [if_pos rfl, if_pos hm256]
     simp
    ·rw [if_neg e, ← List.getD_eq_getElem?_getD, hv j hj]
     have hne : ¬ (j : Int) = (m : Int) := by omega
     simp [hne]⟩) (by dsimp only; omega) [0, 1, 2, 3] rfl rfl
  ·have hw : w ≠ 1 := fun hw => by
    obtain ⟨q1, q2⟩ := hlm hw
    have q1 : s.mask ≥ 0 := q1
    rw [show (s, w).snd = 1 from hw, show (s, w).fst = s from rfl, decide_eq_true q1, decide_eq_true q2] at h2
    simp at h2
   have hmk2 : mk0 N b r (d + 1) = mk0 N b r d := by
    rw [hsc]; unfold M.maskOf; rw [if_neg hw]; simp
   refine J.r hX tk 400 (fun _ => rfl) fun b11 => ?_
   refine J.nS ((d + 1, Lb)) (⟨by dsimp only; omega, hl, fun j hj => by dsimp only; rw [hmk2]; exact hv j hj⟩) (by dsimp only; omega) [0, 1, 2, 3] rfl rfl
 simp only [decide_eq_false_iff_not, Int.ofNat_lt] at h1
 obtain rfl : d = N.dies := by omega
 refine J.r hX tk 400 (fun _ => rfl) fun b13 => ?_
 refine J.lo (α := (Nat × Option Nat × Nat)) (fun z => z.1 ≤ 256) (fun z => [⟨44, .int .i64 z.1, 0, .tt⟩, ⟨8, .pointer (some ⟨bb 0, 0, none⟩), 4, .tt⟩, ⟨7, slv z.2.1 (setL pp z.1).length z.2.2, 0, .tt⟩]) [2] (fun z => [ownA 3 1 z.2.1 (setL pp z.1).length z.2.2 (cellsI (setL pp z.1))]) (fun z => 256 - z.1) ((0, none, 0)) (Nat.zero_le _) rfl ?_ (fun _ => rfl) fun z hI => ?_
 ·rfl
 obtain ⟨k, a, c⟩ := z
 dsimp only at hI ⊢
 have hsl := setL_len pp k
 have hss := setL_succ pp k
 refine J.r hX tk 400 (fun _ => rfl) fun b15 => ?_
 refine J.cond rfl (fun h2 => ?_) (fun h2 => ?_)
 ·simp only [decide_eq_true_eq] at h2
  have h2 : k < 256 := by omega
  have hvk : Lb.getD k false = pp k := by rw [hv k h2, hpp]
  refine J.r hX tk 400 (fun _ => rfl) fun b16 => ?_
  refine J.val hX (.bool (pp k)) 0 rfl rfl (fun hg a w he hw => load1_run tk rfl rfl he rfl rfl rfl (hw.get (i := 3) rfl) (by rw [show 0 + (k : Int).toNat * 1 = k from by omega, ← hvk]; have := cellsB_at (l := Lb) [] (k := k) (by omega); rwa [List.append_nil] at this)) rfl trivial ?_
  refine J.r hX tk 400 (fun _ => rfl) fun b17 => ?_
  refine J.cond rfl (fun h3 => ?_) (fun h3 => ?_)
  ·rw [if_pos h3] at hss
   refine J.r hX tk 400 (fun _ => rfl) fun b18 => ?_
   refine J.append hX tk 2 4 0 rfl rfl rfl rfl rfl rfl rfl rfl rfl rfl rfl rfl rfl rfl rfl rfl ?_ ?_ (fun _ => rfl) fun a4 c4 => ⟨_, (congrArg (fun z => lset _ 2 (ownA _ _ _ _ _ z)) ((cellsI_snoc _ _).symm.trans (congrArg cellsI hss.symm))).trans rfl, trivial, ?_⟩
   ·simp only [maxLen]; omega
   ·omega
   rw [show (setL pp k).length + 1 = (setL pp (k + 1)).length from by rw [hss]; simp]
   refine J.r hX tk 400 (fun _ => rfl) fun b19 => ?_
   refine J.nS ((k + 1, a4, c4)) (by dsimp only; omega) (by dsimp only; omega) [0, 1, 2, 3] rfl rfl
  ·rw [if_neg (by rw [h3]; simp), List.append_nil] at hss
   rw [← hss]
   refine J.r hX tk 400 (fun _ => rfl) fun b21 => ?_
   refine J.nS ((k + 1, a, c)) (by dsimp only; omega) (by dsimp only; omega) [0, 1, 2, 3] rfl rfl
 simp only [decide_eq_false_iff_not] at h2
 obtain rfl : k = 256 := by omega
 refine J.r hX tk 400 (fun _ => rfl) fun b23 => ?_
 refine J.rt hX tk [1, 2] rfl rfl rfl ?_
 exact ⟨a, c, rfl, rfl⟩
end T2
end Go.Proofs.YtoideahgjgaddaaGreat
namespace Go.Proofs.YtoideahgjgaddaaGreat
open Go
structure Nand.Lit (N : Nand) : Prop where
 off : N.off = false
 cuts : N.cuts = false
namespace Nand
theorem Lit.cutB {N : Nand} (h : N.Lit) : N.cutB = false := by unfold Nand.cutB; rw [h.cuts]; rfl
theorem Lit.cutN {N : Nand} (h : N.Lit) : N.cutN.Lit := by
 constructor
 ·show (if N.cutB then true else N.off) = false
  rw [h.cutB]; exact h.off
 ·show (if N.cutB then false else N.cuts) = false
  rw [h.cutB]; exact h.cuts
theorem Lit.new (d b p : Nat) : (Nand.new d b p).Lit := ⟨rfl, rfl⟩
theorem Lit.prog {N : Nand} (h : N.Lit) (x y z : Int) (pg : List UInt8) : (N.progN x y z pg).Lit := by
 unfold Nand.progN
 split
 ·exact h
 ·split
  ·exact ⟨h.off, h.cuts⟩
  ·rw [h.cutB]
   exact ⟨h.cutN.off, h.cutN.cuts⟩
theorem Lit.fault {N : Nand} (h : N.Lit) (kind x y z n xx : Int) : (N.fault kind x y z n xx).2.Lit := by
 unfold Nand.fault
 repeat' split
 all_goals first | exact h | exact ⟨h.off, h.cuts⟩
end Nand
theorem go_Lit (b r : Int) : ∀ (q : List (Int × Sh)) (N : Nand) (f : Int), N.Lit → (R.go b r q N f).1.Lit
 | [], N, f, h => h
 | (d, s) :: q, N, f, h => by
  rw [R.go]
  split
  ·exact go_Lit b r q _ _ (h.prog _ _ _ _)
  ·split
   ·exact h.prog _ _ _ _
   ·exact go_Lit b r q _ _ (h.prog _ _ _ _)
theorem write_Lit {N : Nand} (h : N.Lit) (b r m : Int) (l : List En) : (R.write N b r m l).1.Lit := by
 unfold R.write
 split
 ·exact go_Lit _ _ _ _ _ h
 ·exact h
end Go.Proofs.YtoideahgjgaddaaGreat
namespace Go.Proofs.YtoideahgjgaddaaGreat
open Go Go.RowKit
theorem flat_get {α : Type} (f : α → List Value) (w : Nat) (hw : ∀ x, (f x).length = w) : ∀ (l : List α) (k : Nat) (x : α), l[k]? = some x → ((l.flatMap f).drop (k * w)).take w = f x
 | [], k, x, h => by simp at h
 | y :: l, 0, x, h => by
  simp at h; subst h
  rw [List.flatMap_cons, Nat.zero_mul, List.drop_zero, List.take_left' (hw y)]
 | y :: l, k + 1, x, h => by
  have ih := flat_get f w hw l k x (by simpa using h)
  rw [List.flatMap_cons, show (k + 1) * w = (f y).length + k * w from by rw [hw y, Nat.add_mul, Nat.one_mul, Nat.add_comm], ← List.drop_drop, List.drop_left' rfl]
  exact ih
theorem next_le {N : Nand} (hN : N.Ok) (x y : Int) : N.next x y ≤ 8 := by
 have hbd := hN.bd
 unfold Nand.next
 split
 ·rename_i h
  have := (hN.cells x.toNat y.toNat (by omega) (by omega)).1
  omega
 ·omega
theorem max_cast (a b : Nat) : (if (b : Int) > (a : Int) then (b : Int) else (a : Int)) = ((max a b : Nat) : Int) := by
 split <;> omega
structure RowV where
 b : Int
 m : Int
 al : Option Addr
 n : Nat
 c : Nat
 l : List En
def RowV.cells (x : RowV) : List Value := [.int .i64 x.b, .int .i64 x.m, .slice x.al x.n x.c]
structure RowV.Ok (A : Atom) (x : RowV) : Prop where
 rd : Rd A x.al 19 x.n (cellsE x.l)
 len : x.l.length = x.n
 data : ∀ s ∈ x.l, s.data.length = 16
structure FaV where
 at_ : Int
 kind : Int
 x : Int
 y : Int
 z : Int
 n : Int
 xx : Int
def FaV.cells (f : FaV) : List Value := [.int .i64 f.at_, .int .i64 f.kind, .int .i64 f.x, .int .i64 f.y, .int .i64 f.z, .int .i64 f.n, .int .i64 f.xx]
theorem l11_Flash (g0 g1 g2 : Int) (A : Atom) (ar : Option Addr) (nr cr : Nat) (rows : List RowV) (hAr : Rd A ar 3 nr (rows.flatMap RowV.cells)) (hlr : rows.length = nr) (hrows : ∀ x ∈ rows, x.Ok A)
  (af : Option Addr) (nf cf : Nat) (fs : List FaV) (hAf : Rd A af 7 nf (fs.flatMap FaV.cells)) (hlf : fs.length = nf) (ap : Option Addr) (np cp : Nat) (pgs : List (List UInt8)) (hAp : Rd A ap 32 np (pgs.flatMap pageC)) (hlp : pgs.length = np) (hpg : ∀ p ∈ pgs, p.length = 32) :
  Fn Tryz.prog 14 [.agg #[.int .i64 g0, .int .i64 g1, .int .i64 g2], .slice ar nr cr, .slice af nf cf, .slice ap np cp] [A] (fun v As => ∃ q N, v = .pointer (some ⟨q, 0, none⟩) ∧ (N.Gd 100 12 ∧ N.Lit) ∧ As = [A, NandA q N]) := by
 refine Fn.enter [0, 0, 0, 0] Tryz.func14 rfl rfl rfl fun X F hX => ?_
 refine J.r hX tk 400 (fun _ => rfl) fun bb => ?_
 refine J.ca hX (by kernel_rfl) (l6_Geo g0 g1 g2) [] 0 rfl rfl rfl rfl rfl rfl (fun _ => rfl) ?_
 rintro v As ⟨D, B, P, rfl, hD, hB, hP, rfl⟩
 refine ⟨_, rfl, trivial, ?_⟩
 have hgm : geoMay D B P = true := by simp [geoMay]; omega
 refine J.r hX tk 400 (fun _ => rfl) fun b2 => ?_
 refine J.ca hX (by kernel_rfl) (n_New D B P hgm) [] 0 rfl rfl rfl rfl rfl rfl (fun _ => rfl) ?_
 rintro v As ⟨q, rfl, rfl⟩
 refine ⟨_, rfl, trivial, ?_⟩
 have G0 : (Nand.new D B P).Gd 1000 0 := Nand.Gd.new D B P hgm 1000 (by decide)
 have hpw := pow_bd D hD.2
 refine J.r hX tk 400 (fun _ => rfl) fun b4 => ?_
 refine J.lo (α := (Nat × Nand)) (fun z => z.1 ≤ nr ∧ z.1 ≤ 12 ∧ z.2.Gd (1000 - 9 * z.1) z.1 ∧ z.2.Lit) (fun z => [⟨10, .int .i64 z.1, 0, .tt⟩, ⟨9, .pointer (some ⟨q, 0, none⟩), 0, .tt⟩, ⟨4, .pointer (some ⟨bb 0, 0, none⟩), 3, .tt⟩, ⟨1, .slice ar nr cr, 0, .tt⟩, ⟨2, .slice af nf cf, 0, .tt⟩, ⟨3, .slice ap np cp, 0, .tt⟩]) [3] (fun z => [NandA q z.2]) (fun z => 12 - z.1) ((0, Nand.new D B P)) (⟨Nat.zero_le _, Nat.zero_le _, G0, Nand.Lit.new D B P⟩) rfl ?_ (fun _ => rfl) fun z hI => ?_
 ·rfl
 obtain ⟨i, N⟩ := z
 dsimp only at hI ⊢
 obtain ⟨hi1, hi2, hG, hT⟩ := hI
 refine J.r hX tk 400 (fun _ => rfl) fun b6 => ?_
 refine J.cond rfl (fun h1 => ?_) (fun h1 => ?_)
 ·simp only [Bool.and_eq_true, decide_eq_true_eq, Int.ofNat_lt] at h1
  obtain ⟨h1, h2⟩ := h1
  have h2 : i < 12 := by omega
  obtain ⟨x, hx⟩ : ∃ x, rows[i]? = some x := ⟨_, List.getElem?_eq_getElem (by omega)⟩
  have hxo := hrows x (List.mem_of_getElem? hx)
  have hb1 := tm_bd x.b B (by omega)
  have hb2 := tm_2 x.b B (by omega)
  refine J.know (p := ∃ g o, ar = some ⟨g, o, none⟩) (fun h' s => Rd.addr (hAr _ (s.get (i := 1) rfl)) (by omega)) fun hk => ?_
  obtain ⟨gm, om, rfl⟩ := hk
  refine J.r hX tk 400 (fun _ => rfl) fun b7 => ?_
  refine J.val hX (.agg #[.int .i64 x.b, .int .i64 x.m, .slice x.al x.n x.c]) 0 rfl rfl (fun hg a w he hw => rdN_run tk rfl rfl he rfl rfl rfl (hAr _ (hw.get (i := 1) rfl)) (by omega) (j := i * 3) (by omega) (flat_get RowV.cells 3 (fun _ => rfl) rows i x hx) rfl) rfl trivial ?_
  refine J.r hX tk 400 (fun _ => rfl) fun br => ?_
  refine J.plan (.of [0,5,8,13,16,20,25,28,32,37,40,44,51]) [10,11,12] [2,4] (by rw [hX.hP]; kernel_rfl) (by kernel_rfl) ?_
  refine J.r hX tk 400 (fun _ => rfl) fun b9 => ?_
  generalize (x.b.tmod B + B).tmod B = yb
  generalize IntKind.i64.wrap ((BitVec.ofInt IntKind.i64.bits x.m &&& BitVec.ofInt IntKind.i64.bits (1 * 2 ^ min (D : Int).toNat IntKind.i64.bits - 1)).toNat : Int) = mk
  refine J.r hX tk 400 (fun _ => rfl) fun b10 => ?_
  refine J.lo (α := (Nat × Nat)) (fun z => z.1 ≤ D ∧ z.2 ≤ 8) (fun z => [⟨13, .int .i64 z.1, 0, .tt⟩, ⟨12, .int .i64 z.2, 0, .tt⟩, ⟨11, .pointer (some ⟨br 0, 0, none⟩), 5, .tt⟩, ⟨10, .int .i64 i, 0, .tt⟩, ⟨9, .pointer (some ⟨q, 0, none⟩), 0, .tt⟩, ⟨4, .pointer (some ⟨bb 0, 0, none⟩), 3, .tt⟩, ⟨1, .slice (some ⟨gm, om, none⟩) nr cr, 0, .tt⟩, ⟨2, .slice af nf cf, 0, .tt⟩, ⟨3, .slice ap np cp, 0, .tt⟩]) [] (fun z => []) (fun z => D - z.1) ((0, 0)) (⟨Nat.zero_le _, Nat.zero_le _⟩) rfl ?_ (fun _ => rfl) fun z hI => ?_
  ·rfl
  obtain ⟨d, k⟩ := z
  dsimp only at hI ⊢
  obtain ⟨hd, hk⟩ := hI
  refine J.r hX tk 400 (fun _ => rfl) fun b11 => ?_
  refine J.cond rfl (fun h3 => ?_) (fun h3 => ?_)
  ·simp only [decide_eq_true_eq, Int.ofNat_lt] at h3
   have hnx := next_le hG.ok d yb
   refine J.r hX tk 400 (fun _ => rfl) fun b12 => ?_
   refine J.ca hX (by kernel_rfl) (n_Next q N hG.ok d yb) [3] 0 rfl rfl rfl rfl rfl rfl (fun _ => rfl) ?_
   rintro v As ⟨rfl, rfl⟩
   refine ⟨_, rfl, trivial, ?_⟩
   generalize N.next d yb = nx at hnx
   refine J.r hX tk 400 (fun _ => rfl) fun b14 => ?_
   rw [max_cast]
   refine J.r hX tk 400 (fun _ => rfl) fun b15 => ?_
   refine J.nS ((d + 1, max k nx)) (⟨by dsimp only; omega, by dsimp only; omega⟩) (by dsimp only; omega) [0, 1, 2, 3, 4] rfl rfl
  refine J.r hX tk 400 (fun _ => rfl) fun b16 => ?_
  refine J.join (α := {N' : Nand // N'.Gd (1000 - 9 * (i + 1)) i ∧ N'.Lit}) (fun _ => [⟨10, .int .i64 i, 0, .tt⟩, ⟨9, .pointer (some ⟨q, 0, none⟩), 0, .tt⟩, ⟨4, .pointer (some ⟨bb 0, 0, none⟩), 3, .tt⟩, ⟨1, .slice (some ⟨gm, om, none⟩) nr cr, 0, .tt⟩, ⟨2, .slice af nf cf, 0, .tt⟩, ⟨3, .slice ap np cp, 0, .tt⟩]) (fun x => [.hp F, A, .pt (bb 0) 23 [.int .i64 D, .int .i64 B, .int .i64 P], NandA q x.1]) (fun hj => ?_) (fun x => ?_)
  ·refine J.r hX tk 400 (fun _ => rfl) fun b17 => ?_
   refine J.cond rfl (fun h4 => ?_) (fun h4 => ?_)
   ·refine J.r hX tk 400 (fun _ => rfl) fun b18 => ?_
    refine J.ca hX (by kernel_rfl) (r_Write q N A yb k mk x.al x.n x.c i x.l hxo.rd hxo.len hxo.data (hG.less (by omega) (Nat.le_refl _))) [3, 1] 0 rfl rfl rfl rfl rfl rfl (fun _ => rfl) ?_
    rintro v As ⟨rfl, rfl⟩
    refine ⟨_, rfl, trivial, ?_⟩
    refine J.r hX tk 1 (fun _ => rfl) fun b20 => ?_
    exact J.goto [0, 1, 2, 3] (hj ⟨_, write_Gd hxo.data (hG.less (by omega) (Nat.le_refl _)), write_Lit hT _ _ _ _⟩) ⟨rfl, rfl, rfl, rfl, rfl, rfl, trivial⟩ rfl rfl
   ·refine J.r hX tk 1 (fun _ => rfl) fun b21 => ?_
    exact J.goto [0, 1, 2, 3] (hj ⟨N, hG.less (by omega) (Nat.le_refl _), hT⟩) ⟨rfl, rfl, rfl, rfl, rfl, rfl, trivial⟩ rfl rfl
  obtain ⟨N1, hG1, hT1⟩ := x
  dsimp only
  refine J.r hX tk 400 (fun _ => rfl) fun b22 => ?_
  refine J.cond rfl (fun h5 => ?_) (fun h5 => ?_)
  ·simp only [decide_eq_true_eq, Int.ofNat_lt] at h5
   obtain ⟨f, hf⟩ : ∃ f, fs[i]? = some f := ⟨_, List.getElem?_eq_getElem (by omega)⟩
   refine J.know (p := ∃ g o, af = some ⟨g, o, none⟩) (fun h' s => Rd.addr (hAf _ (s.get (i := 1) rfl)) (by omega)) fun hk => ?_
   obtain ⟨gf, of, rfl⟩ := hk
   refine J.r hX tk 400 (fun _ => rfl) fun b23 => ?_
   refine J.val hX (.agg #[.int .i64 f.at_, .int .i64 f.kind, .int .i64 f.x, .int .i64 f.y, .int .i64 f.z, .int .i64 f.n, .int .i64 f.xx]) 0 rfl rfl (fun hg a w he hw => rdN_run tk rfl rfl he rfl rfl rfl (hAf _ (hw.get (i := 1) rfl)) (by omega) (j := i * 7) (by omega) (flat_get FaV.cells 7 (fun _ => rfl) fs i f hf) rfl) rfl trivial ?_
   refine J.r hX tk 400 (fun _ => rfl) fun b24 => ?_
   refine J.ca hX (by kernel_rfl) (n_Fault q N1 hG1.ok f.at_ f.kind f.x f.y f.z f.n f.xx) [3] 0 rfl rfl rfl rfl rfl rfl (fun _ => rfl) ?_
   rintro v As ⟨rfl, rfl⟩
   refine ⟨_, rfl, trivial, ?_⟩
   refine J.r hX tk 400 (fun _ => rfl) fun b26 => ?_
   refine J.nS ((i + 1, (N1.fault f.kind f.x f.y f.z f.n f.xx).2)) (⟨by dsimp only; omega, by dsimp only; omega, hG1.fault _ _ _ _ _ _, hT1.fault _ _ _ _ _ _⟩) (by dsimp only; omega) [0, 1, 2, 3] rfl rfl
  ·refine J.r hX tk 400 (fun _ => rfl) fun b28 => ?_
   refine J.nS ((i + 1, N1)) (⟨by dsimp only; omega, by dsimp only; omega, hG1.less (Nat.le_refl _) (by omega), hT1⟩) (by dsimp only; omega) [0, 1, 2, 3] rfl rfl
 have hG2 : N.Gd 200 12 := hG.less (by omega) (by omega)
 refine J.r hX tk 400 (fun _ => rfl) fun b30 => ?_
 refine J.lo (α := (Nat × Nand)) (fun z => z.1 ≤ np ∧ z.1 ≤ 6 ∧ z.2.Gd (200 - z.1) 12 ∧ z.2.Lit) (fun z => [⟨14, .int .i64 z.1, 0, .tt⟩, ⟨9, .pointer (some ⟨q, 0, none⟩), 0, .tt⟩, ⟨4, .pointer (some ⟨bb 0, 0, none⟩), 3, .tt⟩, ⟨3, .slice ap np cp, 0, .tt⟩]) [3] (fun z => [NandA q z.2]) (fun z => 6 - z.1) ((0, N)) (⟨Nat.zero_le _, Nat.zero_le _, hG2, hT⟩) rfl ?_ (fun _ => rfl) fun z hI => ?_
 ·rfl
 clear hG hG2
 obtain ⟨j, N⟩ := z
 dsimp only at hI ⊢
 obtain ⟨hi1, hi2, hG, hT⟩ := hI
 refine J.r hX tk 400 (fun _ => rfl) fun b32 => ?_
 refine J.cond rfl (fun h6 => ?_) (fun h6 => ?_)
 ·simp only [Bool.and_eq_true, decide_eq_true_eq, Int.ofNat_lt] at h6
  obtain ⟨h6, h7⟩ := h6
  have h7 : j < 6 := by omega
  obtain ⟨pg, hx⟩ : ∃ pg, pgs[j]? = some pg := ⟨_, List.getElem?_eq_getElem (by omega)⟩
  have hpgl := hpg pg (List.mem_of_getElem? hx)
  refine J.know (p := ∃ g o, ap = some ⟨g, o, none⟩) (fun h' s => Rd.addr (hAp _ (s.get (i := 1) rfl)) (by omega)) fun hk => ?_
  obtain ⟨gp, op, rfl⟩ := hk
  have ht1 : 0 ≤ (j : Int).tmod D ∧ (j : Int).tmod D < D := ⟨Int.tmod_nonneg _ (by omega), Int.tmod_lt_of_pos _ (by omega)⟩
  have ht2 : 0 ≤ (j : Int).tdiv 2 ∧ (j : Int).tdiv 2 < 6 := by
   rw [show (2 : Int) = ((2 : Nat) : Int) from rfl, ← Int.ofNat_tdiv]; omega
  have ht3 : 0 ≤ ((j : Int).tdiv 2).tmod B ∧ ((j : Int).tdiv 2).tmod B < B := ⟨Int.tmod_nonneg _ (by omega), Int.tmod_lt_of_pos _ (by omega)⟩
  refine J.r hX tk 400 (fun _ => rfl) fun b33 => ?_
  refine J.plan (.of [0,4,9,12,16,20,24,29,32,36,42,47]) [11] [2] (by rw [hX.hP]; kernel_rfl) (by kernel_rfl) ?_
  refine J.r hX tk 400 (fun _ => rfl) fun b34 => ?_
  generalize (j : Int).tmod D = yx
  generalize ((j : Int).tdiv 2).tmod B = yy
  have hnx := next_le hG.ok yx yy
  refine J.r hX tk 400 (fun _ => rfl) fun b35 => ?_
  refine J.ca hX (by kernel_rfl) (n_Next q N hG.ok yx yy) [3] 0 rfl rfl rfl rfl rfl rfl (fun _ => rfl) ?_
  rintro v As ⟨rfl, rfl⟩
  refine ⟨_, rfl, trivial, ?_⟩
  generalize N.next yx yy = nx at hnx
  refine J.r hX tk 400 (fun _ => rfl) fun b36 => ?_
  refine J.plan (.of [0,5,8,12,16,21,26]) [] [1,4] (by rw [hX.hP]; kernel_rfl) (by kernel_rfl) ?_
  refine J.r hX tk 400 (fun _ => rfl) fun b38 => ?_
  refine J.valT hX (pgV pg) 0 rfl rfl (fun hg a w he hC => rdN_run tk rfl rfl he rfl rfl rfl (hAp _ (hC rfl _ (cget_mem (i := 1) rfl))) (by omega) (j := j * 32) (by omega) (flat_get pageC 32 (fun _ => rfl) pgs j pg hx) rfl) rfl ?_
  refine J.r hX tk 400 (fun _ => rfl) fun b39 => ?_
  refine J.ca hX (by kernel_rfl) (n_Program q N hG.ok hG.room yx yy nx pg hpgl) [3] 0 rfl rfl rfl rfl rfl rfl (fun _ => rfl) ?_
  rintro v As ⟨rfl, rfl⟩
  refine ⟨_, rfl, ⟨rfl, rfl, trivial⟩, ?_⟩
  refine J.r hX tk 400 (fun _ => rfl) fun b41 => ?_
  refine J.nS ((j + 1, N.progN yx yy nx pg)) (⟨by dsimp only; omega, by dsimp only; omega, (hG.less (show 200 - (j + 1) + 1 ≤ 200 - j by omega) (Nat.le_refl _)).prog _ _ _ _ hpgl, hT.prog _ _ _ _⟩) (by dsimp only; omega) [0, 1, 2, 3] rfl rfl
 refine J.r hX tk 400 (fun _ => rfl) fun b43 => ?_
 refine J.rt hX tk [1, 3] rfl rfl rfl ?_
 exact ⟨q, N, rfl, ⟨hG.less (by omega) (Nat.le_refl _), hT⟩, rfl⟩
end Go.Proofs.YtoideahgjgaddaaGreat
