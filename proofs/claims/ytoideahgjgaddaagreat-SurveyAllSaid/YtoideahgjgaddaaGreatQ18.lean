/- Helpers of the proofs about ostrakonlaw11, proved here: Agg, RfB, Cp, RfG, RfC, Rk, PlA, PlB, PlS, PlT, BgA, BgB. No condition. -/
import Derived.Test.YtoideahgjgaddaaGreatQ02
import Derived.Test.YtoideahgjgaddaaGreatQ10
import Derived.Test.YtoideahgjgaddaaGreatQ11
import Derived.Test.YtoideahgjgaddaaGreatQ12
import Derived.Test.YtoideahgjgaddaaGreatQ15
import Derived.Test.YtoideahgjgaddaaGreatQ17
set_option maxRecDepth 20000
set_option linter.unusedVariables false
set_option linter.unusedSimpArgs false
set_option linter.unusedSectionVars false
set_option linter.unnecessarySimpa false
namespace Go.Proofs.YtoideahgjgaddaaGreat
open Go Go.RowKit
section
variable {P : Program} {E : Env} {n : Nat} {a : Act} {w : World}
theorem eqAgg_run {lv : List Lk} {o : Oper} {t : TypeId} {x y : Operand} {k1 k2 u1 u2 t2 : Nat} {g1 g2 : G} {xs ys : List Value} (hop : o.op = .binOp .eql t x y t2) (hx : ev E x = some ⟨k1, .agg xs.toArray, u1, g1⟩) (hy : ev E y = some ⟨k2, .agg ys.toArray, u2, g2⟩) (he : EnvOK n E a) (v1 : g1.on = true) (v2 : g2.on = true)
  (hl : leaves P 100 t = some lv) (fx : Fits lv xs) (fy : Fits lv ys) (hm : ∀ zs, mkV P t zs = .agg zs.toArray) (hg : P.eqGuardType P.depth t = false) : (execOp a.eval o).run P w = .ok (.value (.bool (eqCells xs ys))) w := by
 have ex := ev_spec he hx
 have ey := ev_spec he hy
 simp only [Slot.val, v1, v2] at ex ey
 have h := run_eql_leaves (w := w) hl fx fy (hm _) (hm _)
 simp [execOp, hop, ex, ey, eqGuard, hg, h, Sem.run_bind]
theorem neAgg_run {lv : List Lk} {o : Oper} {t : TypeId} {x y : Operand} {k1 k2 u1 u2 t2 : Nat} {g1 g2 : G} {xs ys : List Value} (hop : o.op = .binOp .neq t x y t2) (hx : ev E x = some ⟨k1, .agg xs.toArray, u1, g1⟩) (hy : ev E y = some ⟨k2, .agg ys.toArray, u2, g2⟩) (he : EnvOK n E a) (v1 : g1.on = true) (v2 : g2.on = true)
  (hl : leaves P 100 t = some lv) (fx : Fits lv xs) (fy : Fits lv ys) (hm : ∀ zs, mkV P t zs = .agg zs.toArray) (hg : P.eqGuardType P.depth t = false) : (execOp a.eval o).run P w = .ok (.value (.bool (!eqCells xs ys))) w := by
 have ex := ev_spec he hx
 have ey := ev_spec he hy
 simp only [Slot.val, v1, v2] at ex ey
 have h := run_neq_leaves (w := w) hl fx fy (hm _) (hm _)
 simp [execOp, hop, ex, ey, eqGuard, hg, h, Sem.run_bind]
end
def lvPg : List Lk := [.int .u8, .int .u8, .int .u8, .int .u8, .int .u8, .int .u8, .int .u8, .int .u8, .int .u8, .int .u8, .int .u8, .int .u8, .int .u8, .int .u8, .int .u8, .int .u8, .int .u8, .int .u8, .int .u8, .int .u8, .int .u8, .int .u8, .int .u8, .int .u8, .int .u8, .int .u8, .int .u8, .int .u8, .int .u8, .int .u8, .int .u8, .int .u8]
theorem leavesPg : leaves Tryz.prog 100 94 = some lvPg := by kernel_rfl
theorem fitsPg (p : List UInt8) : Fits lvPg (pageC p) := ⟨rfl, rfl, rfl, rfl, rfl, rfl, rfl, rfl, rfl, rfl, rfl, rfl, rfl, rfl, rfl, rfl, rfl, rfl, rfl, rfl, rfl, rfl, rfl, rfl, rfl, rfl, rfl, rfl, rfl, rfl, rfl, rfl, trivial⟩
theorem mkPg (zs : List Value) : mkV Tryz.prog 94 zs = .agg zs.toArray := by simp [mkV, Tryz.underlying94]
theorem gdPg : Tryz.prog.eqGuardType Tryz.prog.depth 94 = false := by kernel_rfl
theorem eqPg (x y : List UInt8) (hx : x.length = 32) (hy : y.length = 32) : eqCells (pageC x) (pageC y) = decide (x = y) := by rw [pageC_eq x hx, pageC_eq y hy, eqCells_bytes]
def lvD : List Lk := [.int .u8, .int .u8, .int .u8, .int .u8, .int .u8, .int .u8, .int .u8, .int .u8, .int .u8, .int .u8, .int .u8, .int .u8, .int .u8, .int .u8, .int .u8, .int .u8]
theorem fitsD (p : List UInt8) : Fits lvD (dataC p) := ⟨rfl, rfl, rfl, rfl, rfl, rfl, rfl, rfl, rfl, rfl, rfl, rfl, rfl, rfl, rfl, rfl, trivial⟩
theorem eqD (x y : List UInt8) (hx : x.length = 16) (hy : y.length = 16) : eqCells (dataC x) (dataC y) = decide (x = y) := by rw [dataC_eq x hx, dataC_eq y hy, eqCells_bytes]
def lvSh : List Lk := lvD ++ [.int .i64, .int .i64, .int .i64, .int .i64, .int .i64, .int .i64, .int .i64]
theorem leavesSh : leaves Tryz.prog 100 137 = some lvSh := by kernel_rfl
theorem fitsSh (s : Sh) : Fits lvSh (shL s) := Fits.append (fitsD s.data) (show Fits [.int .i64, .int .i64, .int .i64, .int .i64, .int .i64, .int .i64, .int .i64] [.int .i64 s.role, .int .i64 s.lpn, .int .i64 s.seq, .int .i64 s.kind, .int .i64 s.block, .int .i64 s.row, .int .i64 s.mask] from ⟨rfl, rfl, rfl, rfl, rfl, rfl, rfl, trivial⟩)
theorem mkSh (zs : List Value) : mkV Tryz.prog 137 zs = .agg zs.toArray := by simp [mkV, Tryz.underlying137]
theorem gdSh : Tryz.prog.eqGuardType Tryz.prog.depth 137 = false := by kernel_rfl
theorem eqSh (x y : Sh) (hx : x.data.length = 16) (hy : y.data.length = 16) : eqCells (shL x) (shL y) = decide (x = y) := by
 have h1 : shL x = dataC x.data ++ [.int .i64 x.role, .int .i64 x.lpn, .int .i64 x.seq, .int .i64 x.kind, .int .i64 x.block, .int .i64 x.row, .int .i64 x.mask] := rfl
 have h2 : shL y = dataC y.data ++ [.int .i64 y.role, .int .i64 y.lpn, .int .i64 y.seq, .int .i64 y.kind, .int .i64 y.block, .int .i64 y.row, .int .i64 y.mask] := rfl
 rw [h1, h2, eqCells_append (a := dataC x.data) (c := dataC y.data) rfl, eqD _ _ hx hy]
 obtain ⟨d, r, l, s, k, b, ro, m⟩ := x
 obtain ⟨d', r', l', s', k', b', ro', m'⟩ := y
 rw [Bool.eq_iff_iff]
 simp [eqCells, cellEq, Sh.mk.injEq]
def lvEn : List Lk := [.int .i64, .int .i64, .int .i64] ++ lvD
theorem leavesEn : leaves Tryz.prog 100 45 = some lvEn := by kernel_rfl
theorem fitsEn (e : En) : Fits lvEn (enL e) := Fits.append (show Fits [.int .i64, .int .i64, .int .i64] [.int .i64 e.lpn, .int .i64 e.seq, .int .i64 e.role] from ⟨rfl, rfl, rfl, trivial⟩) (fitsD e.data)
theorem mkEn (zs : List Value) : mkV Tryz.prog 45 zs = .agg zs.toArray := by simp [mkV, Tryz.underlying45]
theorem gdEn : Tryz.prog.eqGuardType Tryz.prog.depth 45 = false := by kernel_rfl
theorem eqEn (x y : En) (hx : x.data.length = 16) (hy : y.data.length = 16) : eqCells (enL x) (enL y) = true ↔ x = y := by
 have h1 : enL x = [.int .i64 x.lpn, .int .i64 x.seq, .int .i64 x.role] ++ dataC x.data := rfl
 have h2 : enL y = [.int .i64 y.lpn, .int .i64 y.seq, .int .i64 y.role] ++ dataC y.data := rfl
 rw [h1, h2, eqCells_append (a := [.int .i64 x.lpn, .int .i64 x.seq, .int .i64 x.role]) (c := [.int .i64 y.lpn, .int .i64 y.seq, .int .i64 y.role]) rfl, eqD _ _ hx hy]
 obtain ⟨l, s, r, d⟩ := x
 obtain ⟨l', s', r', d'⟩ := y
 simp [eqCells, cellEq, En.mk.injEq, and_assoc]
theorem dI_count (m : Int) : (dI m).length = L.count m := by
 rw [← L.below_eight m, dI, dsk, List.length_map, L.below]
 refine congrArg List.length (List.filter_congr fun d hd => ?_)
 rw [List.mem_range] at hd
 simp [hd]
theorem leavesD : leaves Tryz.prog 100 43 = some lvD := by kernel_rfl
theorem mkD (zs : List Value) : mkV Tryz.prog 43 zs = .agg zs.toArray := by simp [mkV, Tryz.underlying43]
theorem gdD : Tryz.prog.eqGuardType Tryz.prog.depth 43 = false := by kernel_rfl
def f9out (s : Sh) : Bool := ((((((((((s.kind != 1) && (s.kind != 2)) || decide (s.block < 0)) || decide (s.block ≥ 16)) || decide (s.row < 0)) || decide (s.row ≥ 8)) || decide ((L.count s.mask : Int) < 2)) || decide (s.seq < 0)) || decide (s.seq > 1099511627775)) || decide (s.lpn < 0)) || decide (s.lpn > 65535)
theorem may_out (s : Sh) (h : f9out s = true) : S.may s = false := by
 rw [Bool.eq_false_iff]
 intro hm
 simp only [S.may, S.place, S.numbers, S.inB, Bool.and_eq_true, Bool.or_eq_true, decide_eq_true_eq] at hm
 simp only [f9out, Bool.and_eq_true, Bool.or_eq_true, decide_eq_true_eq, bne_iff_ne, ne_eq] at h
 omega
theorem may_par (s : Sh) (h : f9out s = false) (hk : s.kind = 2) : S.may s = (decide (s.role ≥ 0) && decide (s.role ≤ 255)) := by
 simp only [f9out, Bool.and_eq_false_iff, Bool.or_eq_false_iff, decide_eq_false_iff_not, bne_eq_false_iff_eq] at h
 simp only [S.may, S.place, S.numbers, S.inB]
 rw [decide_eq_true (show 0 ≤ s.block by omega), decide_eq_true (show s.block ≤ 15 by omega), decide_eq_true (show 0 ≤ s.row by omega), decide_eq_true (show s.row ≤ 7 by omega), decide_eq_true (show 2 ≤ L.count s.mask by omega), decide_eq_true (show 0 ≤ s.seq by omega), decide_eq_true (show s.seq ≤ 1099511627775 by omega), decide_eq_true (show 0 ≤ s.lpn by omega), decide_eq_true (show s.lpn ≤ 65535 by omega), decide_eq_true hk]
 simp
theorem may_own (s : Sh) (h : f9out s = false) (hk : s.kind ≠ 2) : S.may s = S.entry s := by
 simp only [f9out, Bool.and_eq_false_iff, Bool.or_eq_false_iff, decide_eq_false_iff_not, bne_eq_false_iff_eq] at h
 have h1 : s.kind = 1 := by omega
 have hr : S.entry s = true → 0 ≤ s.role ∧ s.role ≤ 255 := by
  intro he
  unfold S.entry at he
  split at he
  ·omega
  ·split at he
   ·omega
   ·split at he
    ·omega
    ·cases he
 simp only [S.may, S.place, S.numbers, S.inB]
 rw [decide_eq_true (show 0 ≤ s.block by omega), decide_eq_true (show s.block ≤ 15 by omega), decide_eq_true (show 0 ≤ s.row by omega), decide_eq_true (show s.row ≤ 7 by omega), decide_eq_true (show 2 ≤ L.count s.mask by omega), decide_eq_true (show 0 ≤ s.seq by omega), decide_eq_true (show s.seq ≤ 1099511627775 by omega), decide_eq_true (show 0 ≤ s.lpn by omega), decide_eq_true (show s.lpn ≤ 65535 by omega), decide_eq_true h1, decide_eq_false hk]
 cases he : S.entry s
 ·simp
 ·have := hr he
  rw [decide_eq_true this.1, decide_eq_true this.2]; rfl
theorem f9_May (s : Sh) (h : s.data.length = 16) : Fn Tryz.prog 199 [shV s] [] (fun v As => v = .bool (S.may s) ∧ As = []) := by
 refine Fn.enter [0] Tryz.func199 rfl rfl rfl fun X F hX => ?_
 refine J.run hX tk 400 (fun b1 => rfl) (fun b1 => ?_) (fun b1 => ?_)
 ·(repeat' (first | exact Conj.nil | refine Conj.cons ?_ ?_ | exact rfl | exact hq | (rw [hq]; rfl) | (rw [(Bool.not_eq_true' _).mp hq]) | intro hq | omega | (simp; done)))
 refine J.gcase hX rfl rfl rfl trivial (fun hb => ?_) (fun hb => ?_)
 ·have hb2 := (Bool.not_eq_true' _).mp hb
  rw [hb2]
  refine J.r hX tk 400 (fun _ => rfl) fun b2 => ?_
  refine J.ca hX (by kernel_rfl) (f1_Dies s.mask) [] 0 rfl rfl rfl rfl rfl rfl (fun _ => rfl) ?_
  rintro v As ⟨a, c, rfl, rfl⟩
  refine ⟨_, rfl, trivial, ?_⟩
  rw [dI_count]
  refine J.run hX tk 400 (fun b3 => rfl) (fun b3 => ?_) (fun b3 => ?_)
  ·(repeat' (first | exact Conj.nil | refine Conj.cons ?_ ?_ | exact rfl | exact hq | (rw [hq]; rfl) | (rw [(Bool.not_eq_true' _).mp hq]) | intro hq | omega | (simp; done)))
  refine J.r hX tk 400 (fun _ => rfl) fun b4 => ?_
  refine J.cond rfl (fun h3 => ?_) (fun h3 => ?_)
  ·have ho : f9out s = true := by unfold f9out; rw [hb2]; exact h3
   refine J.r hX tk 400 (fun _ => rfl) fun b5 => ?_
   refine J.rt hX tk [] rfl rfl rfl ?_
   exact ⟨by rw [may_out s ho], rfl⟩
  have ho : f9out s = false := by unfold f9out; rw [hb2]; exact h3
  refine J.r hX tk 400 (fun _ => rfl) fun b6 => ?_
  refine J.cond rfl (fun h4 => ?_) (fun h4 => ?_)
  ·simp only [beq_iff_eq] at h4
   refine J.r hX tk 400 (fun _ => rfl) fun b7 => ?_
   refine J.rt hX tk [] rfl rfl rfl ?_
   exact ⟨by rw [may_par s ho h4], rfl⟩
  simp only [beq_eq_false_iff_ne, ne_eq] at h4
  have key : ∀ b, S.entry s = b → S.may s = b := fun b hb => (may_own s ho h4).trans hb
  refine J.r hX tk 400 (fun _ => rfl) fun b8 => ?_
  refine J.val hX (.bool (decide (s.data = zeros16))) 0 rfl rfl (fun hg a w he hs => ?_) rfl trivial ?_
  ·rw [← eqD s.data zeros16 h rfl]
   exact eqAgg_run (xs := dataC s.data) (ys := dataC zeros16) rfl rfl rfl he rfl rfl leavesD (fitsD _) (fitsD _) mkD gdD
  refine J.r hX tk 400 (fun _ => rfl) fun b9 => ?_
  refine J.cond rfl (fun h5 => ?_) (fun h5 => ?_)
  ·simp only [beq_iff_eq] at h5
   refine J.r hX tk 400 (fun _ => rfl) fun b10 => ?_
   refine J.rt hX tk [] rfl rfl rfl ?_
   exact ⟨by rw [key true (by unfold S.entry; rw [if_pos h5])], rfl⟩
  simp only [beq_eq_false_iff_ne, ne_eq] at h5
  have k2 : s.role = 2 ∨ s.role = 4 → S.may s = decide (s.data = zeros16) := fun hr => key _ (by unfold S.entry; rw [if_neg h5, if_pos hr])
  refine J.r hX tk 400 (fun _ => rfl) fun b11 => ?_
  refine J.cond rfl (fun h6 => ?_) (fun h6 => ?_)
  ·have h6' := h6
   simp only [beq_iff_eq] at h6'
   rw [h6]
   refine J.r hX tk 400 (fun _ => rfl) fun b12 => ?_
   refine J.cond rfl (fun _ => ?_) (fun h => by simp at h)
   refine J.r hX tk 400 (fun _ => rfl) fun b13 => ?_
   refine J.rt hX tk [] rfl rfl rfl ?_
   exact ⟨by rw [k2 (.inl h6')], rfl⟩
  ·have h6' := h6
   simp only [beq_eq_false_iff_ne, ne_eq] at h6'
   refine J.r hX tk 400 (fun _ => rfl) fun b14 => ?_
   refine J.cond rfl (fun h7 => ?_) (fun h7 => ?_)
   ·have h7' := h7
    simp only [beq_iff_eq] at h7'
    refine J.r hX tk 400 (fun _ => rfl) fun b15 => ?_
    refine J.rt hX tk [] rfl rfl rfl ?_
    exact ⟨by rw [k2 (.inr h7')], rfl⟩
   have h7' := h7
   simp only [beq_eq_false_iff_ne, ne_eq] at h7'
   refine J.r hX tk 400 (fun _ => rfl) fun b16 => ?_
   refine J.cond rfl (fun h8 => ?_) (fun h8 => ?_)
   ·have h8' := h8
    simp only [beq_iff_eq] at h8'
    refine J.run hX tk 400 (fun b17 => rfl) (fun b17 => ?_) (fun b17 => ?_)
    ·(repeat' (first | exact Conj.nil | refine Conj.cons ?_ ?_ | exact rfl | exact hq | (rw [hq]; rfl) | (rw [(Bool.not_eq_true' _).mp hq]) | intro hq | omega | (simp; done)))
    refine J.r hX tk 400 (fun _ => rfl) fun b18 => ?_
    refine J.rt hX tk [] rfl rfl rfl ?_
    exact ⟨by rw [key _ (by unfold S.entry; rw [if_neg h5, if_neg (by omega), if_pos h8'])]; rfl, rfl⟩
   ·have h8' := h8
    simp only [beq_eq_false_iff_ne, ne_eq] at h8'
    refine J.r hX tk 400 (fun _ => rfl) fun b19 => ?_
    refine J.rt hX tk [] rfl rfl rfl ?_
    exact ⟨by rw [key false (by unfold S.entry; rw [if_neg h5, if_neg (by omega), if_neg h8'])], rfl⟩
 ·have hb2 := (Bool.not_eq_false' _).mp hb
  rw [hb2]
  refine J.r hX tk 400 (fun _ => rfl) fun b20 => ?_
  refine J.val hX (.int .i64 0) 0 rfl rfl (fun hg a w he hw => by simp [G.on] at hg) rfl trivial ?_
  refine J.run hX tk 400 (fun b21 => rfl) (fun b21 => ?_) (fun b21 => ?_)
  ·(repeat' (first | exact Conj.nil | refine Conj.cons ?_ ?_ | exact rfl | exact hq | (exact Bool.noConfusion hq) | (rw [hq]; rfl) | (rw [(Bool.not_eq_true' _).mp hq]) | intro hq | omega | (simp; done)))
  refine J.r hX tk 400 (fun _ => rfl) fun b22 => ?_
  refine J.cond rfl (fun _ => ?_) (fun h => by simp at h)
  have ho : f9out s = true := by unfold f9out; rw [hb2]; rfl
  refine J.r hX tk 400 (fun _ => rfl) fun b23 => ?_
  refine J.rt hX tk [] rfl rfl rfl ?_
  exact ⟨by rw [may_out s ho], rfl⟩
theorem hl_setRow {w : World} {g : Nat} {cur cs : Array Value} {t : TypeId} (h : w.heap[g]? = some (.cells cur t (0, 0))) : hl (w.setRow g cs) = hset (hl w) g (.cells cs t (0, 0)) := by
 funext x
 unfold hset
 by_cases e : x = g
 ·subst e
  rw [if_pos rfl]
  exact setRow_heap w x cur cs t _ h
 ·rw [if_neg e]
  exact setRow_other w g x _ e
section
variable {X : Cx} {P : Program} {T : Tab} {K : List KI} {E : Env} {L : List Atom} {N : Nat} {F : HP} {Post : Value → List Atom → Prop} {rs : List ResultVar}
theorem J.copy (hX : IsCx X P rs N F Post) (hT : TabOK P T) {ops : Array Oper} {C : Cl} {lt : Bool} {i : Nat} {t : PT} {o : Oper} {g : G} {x y : Operand} {dT sT e by_ : Nat} {kx tx ky ty : Nat} {gx gy : G} {b off dl dc b2 oo sl sc tb : Nat} {old xs : List Value} {s1 b1 : Nat} {z1 : List Value} {E' : Value → Env} {Ay : Atom} (is iy : Nat)
  (ho : lget ops.toList i = some o) (hg : gd ops.toList E o = some g) (hgo : g.on = true) (hop : o.op = .call ⟨.builtin .copy, #[x, y], #[dT, sT]⟩)
  (hx : ev E x = some ⟨kx, .slice (some ⟨b, off, none⟩) dl dc, tx, gx⟩) (hvx : gx.on = true) (hy : ev E y = some ⟨ky, .slice (some ⟨b2, oo, none⟩) sl sc, ty, gy⟩) (hvy : gy.on = true)
  (hLx : lget L is = some (.pt b tb old)) (hLy : lget L iy = some Ay) (hrd : Rd Ay (some ⟨b2, oo, none⟩) 1 sl xs) (hst : T.get dT = some ⟨.slice e 1, s1, z1, b1⟩) {td : TD} {z : List Value} (he : T.get e = some ⟨td, 1, z, by_⟩)
  (cs : List Value) (hcs : xs.take (Nat.min sl dl) = cs) (hlt : off + cs.length ≤ old.length) (h1 : ∀ u ∈ xs, u.oneCell' = true) (cs' : List Value) (hcs' : old.take off ++ cs ++ old.drop (off + cs.length) = cs') {L2 : List Atom} (hL2 : lset L is (.pt b tb cs') = some L2)
  (hd : ∀ v, putE N o.dst v 0 .tt E = some (E' v)) (hJ : Conj (staysL lt C L2) ∧ J X (.reg ops C t :: K) (E' (goInt cs.length)) L2) : J X (.reg ops C (.alt lt i t .non) :: K) E L := by
 refine J.op hX (S := fun v' L' => v' = goInt cs.length ∧ L' = L.set is (.pt b tb cs')) 0 ho hg hgo (fun a0 w hen hs => ?_) hd (fun v L' ⟨e1, e2⟩ => by subst e1; subst e2; rw [← lset_eq hL2]; exact hJ)
 rw [lget_eq] at hLx hLy
 have ex := ev_spec hen hx
 have ey := ev_spec hen hy
 simp only [Slot.val, hvx, hvy] at ex ey
 obtain ⟨d, f, zv, ok⟩ := tiOf_spec (hT.get hst)
 obtain ⟨fe, rfl, g1, g2⟩ := ok.slice rfl
 have hblk : Blk w b tb old.toArray := hs.pt hLx
 have hrd2 := hrd _ (hs.get hLy)
 have hxl : xs.length = sl := by rw [hrd2.1, Nat.mul_one]
 have hn : cs.length = Nat.min sl dl := by
  rw [← hcs, List.length_take, hxl]
  exact Nat.min_eq_left (Nat.min_le_left sl dl)
 have hsrc : ∀ j v, cs[j]? = some v → w.cell? ((⟨b2, oo, none⟩ : Addr).add j) = some v := fun j u hu => by
  have hj : j < cs.length := (List.getElem?_eq_some_iff.1 hu).1
  rw [← hcs, List.getElem?_take] at hu
  split at hu
  ·rw [Addr.add_none]
   refine rd_cell hrd2 ?_ hu
   have := (List.getElem?_eq_some_iff.1 hu).1
   omega
  ·cases hu
 have h1' : ∀ v ∈ cs, v.oneCell' = true := fun v hv => h1 v (by rw [← hcs] at hv; exact List.mem_of_mem_take hv)
 have hsz : (P.info? e).map (·.size) = some 1 := by rw [g1]; exact congrArg some g2
 have hrun := run_copy_row (P := P) w dT sT o.type e b off dl dc ⟨b2, oo, none⟩ sl sc old.toArray tb cs ok.hd hsz hblk hn hsrc (by simpa using hlt) h1'
 have harr : (old.toArray.toList.take off ++ cs ++ old.toArray.toList.drop (off + cs.length)).toArray = cs'.toArray := congrArg List.toArray hcs'
 rw [harr] at hrun
 refine ⟨_, _, .value (goInt cs.length), w.setRow b cs'.toArray, ⟨rfl, rfl⟩, ?_, .inl rfl, ?_, Ext.grown (grown_setRow w b _)⟩
 ·simp only [execOp, hop, resolve, Sem.run_bind, Sem.run_pure, Result.andThen_ok, invoke, builtin, List.map_toArray, List.map_cons, List.map_nil, ex, ey, hrun]
 ·rw [hl_setRow hblk]
  exact hs.setPt cs' hLx
end
theorem f9_field (p : List UInt8) (hp : p.length = 32) (fr w : Nat) (h : fr + w ≤ 256) (hw : 1 ≤ w ∧ w ≤ 64) : Fn Tryz.prog 197 [pgV p, .int .i64 fr, .int .i64 w] [] (fun v As => v = .int .u64 (Bt.numAt p fr w) ∧ As = []) := by
 have hnum := Bt.numAt_num p fr w (by omega)
 have hul := Bt.length_unpack p
 refine Fn.enter [0, 0, 0] Tryz.func197 rfl rfl rfl fun X F hX => ?_
 refine J.r hX tk 400 (fun _ => rfl) fun bb => ?_
 refine J.ca hX (by kernel_rfl) (f1_Of (.pt (bb 0) 94 (pageC p)) (some ⟨bb 0, 0, none⟩) 32 32 p (by rw [← pageC_eq p hp]; exact pt_rd _ _ _ 1 32 rfl) hp (by decide)) [1] 0 rfl rfl rfl rfl rfl rfl (fun _ => rfl) ?_
 rintro v As ⟨a, c, rfl, rfl⟩
 refine ⟨_, rfl, trivial, ?_⟩
 refine J.know (fun h' s => own_some (c := (a, c)) (by omega) (s.get (i := 2) rfl)) fun hg => ?_
 obtain ⟨g, rfl⟩ := hg
 refine J.know (p := 32 * 8 ≤ c) (fun h' s => by
  obtain ⟨_, cur, h1, h2, _⟩ := s.get (i := 2) rfl
  exact h2) fun hc => ?_
 have hRd : Rd (ownA 4 1 (some g) (32 * 8) c (cellsB (Bt.unpack p))) (some ⟨g, 0 + fr * 1, none⟩) 1 w (cellsB (((Bt.unpack p).drop fr).take w)) := by
  have := ((own_rd 4 1 (some g) (32 * 8) c (cellsB (Bt.unpack p))).drop fr (by omega)).take w (by omega)
  rw [cellsB_take, cellsB_drop]
  rw [Nat.mul_one] at this ⊢
  rwa [Nat.mul_one] at this
 refine J.r hX tk 400 (fun _ => rfl) fun b2 => ?_
 rw [show ((fr : Int) + (w : Int)).toNat - (fr : Int).toNat = w from by omega, show (fr : Int).toNat = fr from by omega]
 refine J.r hX tk 400 (fun _ => rfl) fun b3 => ?_
 refine J.ca hX (by kernel_rfl) (f1_Num (ownA 4 1 (some g) (32 * 8) c (cellsB (Bt.unpack p))) (some ⟨g, 0 + fr * 1, none⟩) w (c - fr) (((Bt.unpack p).drop fr).take w) hRd (by rw [List.length_take, List.length_drop]; omega) (by omega)) [2] 0 rfl rfl rfl rfl rfl rfl (fun _ => rfl) ?_
 rintro v As ⟨rfl, rfl⟩
 refine ⟨_, rfl, trivial, ?_⟩
 rw [hnum]
 refine J.r hX tk 400 (fun _ => rfl) fun b4 => ?_
 refine J.rt hX tk [] rfl rfl rfl ?_
 exact ⟨rfl, rfl⟩
theorem f9_Get (p : List UInt8) (hp : p.length = 32) : Fn Tryz.prog 157 [pgV p] [] (fun v As => v = .tuple #[shV (S.getV p), .bool (S.get p).isSome] ∧ As = []) := by
 obtain ⟨r1, r2, r3⟩ := S.field_role p hp
 obtain ⟨r4, r5, r6, r7⟩ := S.field_rest p hp
 have w1 := Bt.numAt_lt p 128 8
 have w2 := Bt.numAt_lt p 136 16
 have w3 := Bt.numAt_lt p 152 40
 have w4 := Bt.numAt_lt p 192 8
 have w5 := Bt.numAt_lt p 200 8
 have w6 := Bt.numAt_lt p 208 8
 have w7 := Bt.numAt_lt p 216 8
 have w8 := Bt.numAt_lt p 224 32
 rw [show (2 : Nat) ^ 8 = 256 from rfl] at w1 w4 w5 w6 w7
 rw [show (2 : Nat) ^ 16 = 65536 from rfl] at w2
 rw [show (2 : Nat) ^ 40 = 1099511627776 from rfl] at w3
 rw [show (2 : Nat) ^ 32 = 4294967296 from rfl] at w8
 refine Fn.enter [0] Tryz.func157 rfl rfl rfl fun X F hX => ?_
 have hpl : (p.take 16).length = 16 := by rw [List.length_take, hp]; rfl
 have hpc : (pageC p).take 16 = dataC (p.take 16) := by rw [pageC_eq p hp, dataC_eq _ hpl, List.map_take]
 have hone : ∀ u ∈ pageC p, u.oneCell' = true := by
  rw [pageC_eq p hp]
  intro u hu
  obtain ⟨b, _, rfl⟩ := List.mem_map.1 hu
  rfl
 have hsum : K.sum (p.take 28) < 4294967296 := K.sum_lt _
 refine J.r hX tk 400 (fun _ => rfl) fun bb => ?_
 refine J.plan (.of [0,4,8,14]) [] [1] (by rw [hX.hP]; kernel_rfl) (by kernel_rfl) ?_
 refine J.r hX tk 400 (fun _ => rfl) fun b6 => ?_
 have hRd : ∀ k, k ≤ 32 → Rd (.pt (bb 0) 94 (pageC p)) (some ⟨bb 0, 0 + 0 * 1, none⟩) 1 k ((pageC p).take k) := fun k hk => by
  have := (pt_rd (bb 0) 94 (pageC p) 1 32 rfl).take k hk
  rwa [Nat.mul_one] at this
 refine J.copy hX tk 3 1 rfl rfl rfl rfl rfl rfl rfl rfl rfl rfl (hRd 16 (by decide)) rfl rfl (dataC (p.take 16)) (by rw [← hpc]; exact List.take_of_length_le (Nat.le_refl _)) (Nat.le_of_ble_eq_true rfl) (fun u hu => hone u (List.mem_of_mem_take hu)) (shL ⟨p.take 16, 0, 0, 0, 0, 0, 0, 0⟩) rfl rfl (fun _ => rfl) ⟨⟨rfl, trivial⟩, ?_⟩
 refine J.r hX tk 400 (fun _ => rfl) fun b7 => ?_
 refine J.plan (.of [1,13,25,6,8,18,20,30,32,36,42,44,50,52,59]) [13,14] [1] (by rw [hX.hP]; kernel_rfl) (by kernel_rfl) ?_
 refine J.r hX tk 400 (fun _ => rfl) fun b8 => ?_
 refine J.ca hX (by kernel_rfl) (f9_field p hp 128 8 (by omega) (by omega)) [] 0 rfl rfl rfl rfl rfl rfl (fun _ => rfl) ?_
 rintro v As ⟨rfl, rfl⟩
 refine ⟨_, rfl, ⟨rfl, trivial⟩, ?_⟩
 refine J.r hX tk 400 (fun _ => rfl) fun b10 => ?_
 refine J.ca hX (by kernel_rfl) (f9_field p hp 136 16 (by omega) (by omega)) [] 0 rfl rfl rfl rfl rfl rfl (fun _ => rfl) ?_
 rintro v As ⟨rfl, rfl⟩
 refine ⟨_, rfl, ⟨rfl, trivial⟩, ?_⟩
 refine J.r hX tk 400 (fun _ => rfl) fun b12 => ?_
 refine J.ca hX (by kernel_rfl) (f9_field p hp 152 40 (by omega) (by omega)) [] 0 rfl rfl rfl rfl rfl rfl (fun _ => rfl) ?_
 rintro v As ⟨rfl, rfl⟩
 refine ⟨_, rfl, ⟨rfl, trivial⟩, ?_⟩
 refine J.r hX tk 400 (fun _ => rfl) fun b14 => ?_
 refine J.plan (.of [1,13,25,37,6,8,18,20,30,32,42,44,48,54,56,62,64,70,72,79]) [18,19] [1] (by rw [hX.hP]; kernel_rfl) (by kernel_rfl) ?_
 refine J.r hX tk 400 (fun _ => rfl) fun b15 => ?_
 refine J.ca hX (by kernel_rfl) (f9_field p hp 192 8 (by omega) (by omega)) [] 0 rfl rfl rfl rfl rfl rfl (fun _ => rfl) ?_
 rintro v As ⟨rfl, rfl⟩
 refine ⟨_, rfl, ⟨rfl, trivial⟩, ?_⟩
 refine J.r hX tk 400 (fun _ => rfl) fun b17 => ?_
 refine J.ca hX (by kernel_rfl) (f9_field p hp 200 8 (by omega) (by omega)) [] 0 rfl rfl rfl rfl rfl rfl (fun _ => rfl) ?_
 rintro v As ⟨rfl, rfl⟩
 refine ⟨_, rfl, ⟨rfl, trivial⟩, ?_⟩
 refine J.r hX tk 400 (fun _ => rfl) fun b19 => ?_
 refine J.ca hX (by kernel_rfl) (f9_field p hp 208 8 (by omega) (by omega)) [] 0 rfl rfl rfl rfl rfl rfl (fun _ => rfl) ?_
 rintro v As ⟨rfl, rfl⟩
 refine ⟨_, rfl, ⟨rfl, trivial⟩, ?_⟩
 refine J.r hX tk 400 (fun _ => rfl) fun b21 => ?_
 refine J.ca hX (by kernel_rfl) (f9_field p hp 216 8 (by omega) (by omega)) [] 0 rfl rfl rfl rfl rfl rfl (fun _ => rfl) ?_
 rintro v As ⟨rfl, rfl⟩
 refine ⟨_, rfl, ⟨rfl, trivial⟩, ?_⟩
 have hsf : (⟨p.take 16, (Bt.numAt p 128 8 : Nat), (Bt.numAt p 136 16 : Nat), (Bt.numAt p 152 40 : Nat), (Bt.numAt p 216 8 : Nat), (Bt.numAt p 192 8 : Nat), (Bt.numAt p 200 8 : Nat), (Bt.numAt p 208 8 : Nat)⟩ : Sh) = S.fields p := by
  rw [← r1, ← r2, ← r3, ← r4, ← r5, ← r6, ← r7]; rfl
 have hmayc := f9_May ⟨p.take 16, (Bt.numAt p 128 8 : Nat), (Bt.numAt p 136 16 : Nat), (Bt.numAt p 152 40 : Nat), (Bt.numAt p 216 8 : Nat), (Bt.numAt p 192 8 : Nat), (Bt.numAt p 200 8 : Nat), (Bt.numAt p 208 8 : Nat)⟩ hpl
 have hget := S.get_some p hp
 refine J.r hX tk 400 (fun _ => rfl) fun b23 => ?_
 refine J.plan (.of [1,12,6,8,18,20,24,29,34,36,40]) [] [1,3] (by rw [hX.hP]; kernel_rfl) (by kernel_rfl) ?_
 refine J.r hX tk 400 (fun _ => rfl) fun b24 => ?_
 refine J.ca hX (by kernel_rfl) (f9_field p hp 224 32 (by omega) (by omega)) [] 0 rfl rfl rfl rfl rfl rfl (fun _ => rfl) ?_
 rintro v As ⟨rfl, rfl⟩
 refine ⟨_, rfl, ⟨rfl, rfl, trivial⟩, ?_⟩
 refine J.r hX tk 400 (fun _ => rfl) fun b26 => ?_
 refine J.ca hX (by kernel_rfl) (f1_Sum (.pt (bb 0) 94 (pageC p)) (some ⟨bb 0, 0 + 0 * 1, none⟩) 28 32 (p.take 28) (by rw [List.map_take, ← pageC_eq p hp]; exact hRd 28 (by decide)) (by rw [List.length_take, hp]; rfl) (by decide)) [1] 0 rfl rfl rfl rfl rfl rfl (fun _ => rfl) ?_
 rintro v As ⟨rfl, rfl⟩
 refine ⟨_, rfl, ⟨rfl, rfl, trivial⟩, ?_⟩
 refine J.r hX tk 400 (fun _ => rfl) fun b28 => ?_
 refine J.gcase hX rfl rfl rfl ⟨rfl, rfl, trivial⟩ (fun hb => ?_) (fun hb => ?_)
 ·have hb2 : (((Bt.numAt p 224 32 : Nat) : Int) != ((K.sum (p.take 28) : Nat) : Int)) = false := by simpa using hb
  rw [hb2]
  refine J.r hX tk 400 (fun _ => rfl) fun b29 => ?_
  refine J.ca hX (by kernel_rfl) (hmayc) [] 0 rfl rfl rfl rfl rfl rfl (fun _ => rfl) ?_
  rintro v As ⟨rfl, rfl⟩
  refine ⟨_, rfl, ⟨rfl, rfl, trivial⟩, ?_⟩
  rw [hsf]
  have heq : Bt.numAt p 224 32 = K.sum (p.take 28) := by
   simp only [Bool.not_eq_true', bne_eq_false_iff_eq] at hb
   omega
  refine J.r hX tk 400 (fun _ => rfl) fun b30 => ?_
  refine J.cond rfl (fun h1 => ?_) (fun h1 => ?_)
  ·have hg : S.get p = none := by
    rw [hget, if_neg]
    rintro ⟨_, hm⟩
    rw [hm] at h1
    simp at h1
   refine J.r hX tk 400 (fun _ => rfl) fun b31 => ?_
   refine J.rt hX tk [] rfl rfl rfl ?_
   exact ⟨by unfold S.getV; rw [hg]; rfl, rfl⟩
  ·have hg : S.get p = some (S.fields p) := by
    rw [hget, if_pos]
    refine ⟨heq, ?_⟩
    cases hm : S.may (S.fields p) with
    | true => rfl
    | false => rw [hm] at h1; simp at h1
   refine J.r hX tk 400 (fun _ => rfl) fun b32 => ?_
   refine J.rt hX tk [] rfl rfl rfl ?_
   exact ⟨by unfold S.getV; rw [hg, Option.getD_some, ← hsf]; rfl, rfl⟩
 ·have hb2 : (((Bt.numAt p 224 32 : Nat) : Int) != ((K.sum (p.take 28) : Nat) : Int)) = true := by simpa using hb
  rw [hb2]
  have hne : Bt.numAt p 224 32 ≠ K.sum (p.take 28) := by
   simp only [Bool.not_eq_false', bne_iff_ne, ne_eq] at hb
   omega
  have hg : S.get p = none := by
   rw [hget, if_neg]
   exact fun h => hne h.1
  refine J.r hX tk 400 (fun _ => rfl) fun b33 => ?_
  refine J.valT hX (.bool false) 0 rfl rfl (fun hg a w he hC => by simp [G.on] at hg) rfl ?_
  refine J.r hX tk 400 (fun _ => rfl) fun b34 => ?_
  refine J.cond rfl (fun h1 => ?_) (fun h1 => ?_)
  ·refine J.r hX tk 400 (fun _ => rfl) fun b35 => ?_
   refine J.rt hX tk [] rfl rfl rfl ?_
   exact ⟨by unfold S.getV; rw [hg]; rfl, rfl⟩
  ·simp at h1
theorem f9_Own (b r m : Int) (e : En) (h : e.data.length = 16) : Fn Tryz.prog 220 [.int .i64 b, .int .i64 r, .int .i64 m, enV e] [] (fun v As => v = .tuple #[shV (W.own b r m e), .bool (W.ok b r m e)] ∧ As = []) := by
 refine Fn.enter [0, 0, 0, 0] Tryz.func220 rfl rfl rfl fun X F hX => ?_
 refine J.r hX tk 400 (fun _ => rfl) fun b1 => ?_
 refine J.ca hX (by kernel_rfl) (f9_May (W.sh b r m e) h) [] 0 rfl rfl rfl rfl rfl rfl (fun _ => rfl) ?_
 rintro v As ⟨rfl, rfl⟩
 refine ⟨_, rfl, trivial, ?_⟩
 refine J.r hX tk 400 (fun _ => rfl) fun b3 => ?_
 refine J.cond rfl (fun h1 => ?_) (fun h1 => ?_)
 ·simp only [Bool.not_eq_true'] at h1
  refine J.r hX tk 400 (fun _ => rfl) fun b4 => ?_
  refine J.rt hX tk [] rfl rfl rfl ?_
  exact ⟨by rw [W.own, W.ok, h1]; rfl, rfl⟩
 ·simp only [Bool.not_eq_false'] at h1
  refine J.r hX tk 400 (fun _ => rfl) fun b5 => ?_
  refine J.rt hX tk [] rfl rfl rfl ?_
  exact ⟨by rw [W.own, W.ok, h1]; rfl, rfl⟩
namespace F9
def xo (m n : Int) : Int := IntKind.i64.wrap ((BitVec.ofInt IntKind.i64.bits m ^^^ BitVec.ofInt IntKind.i64.bits n).toNat : Int)
def mixS (a b : Sh) (k : Nat) : Sh := ⟨W.mix a.data b.data k, a.role, a.lpn, a.seq, a.kind, a.block, a.row, a.mask⟩
def over (a b : Sh) : Sh := ⟨W.mix a.data b.data 16, xo a.role b.role, xo a.lpn b.lpn, xo a.seq b.seq, a.kind, a.block, a.row, a.mask⟩
end F9
theorem shL_get {s : Sh} (h : s.data.length = 16) {k : Nat} (hk : k < 16) : (shL s)[k]? = some (bv (s.data.getD k 0)) := by
 have e : shL s = dataC s.data ++ [.int .i64 s.role, .int .i64 s.lpn, .int .i64 s.seq, .int .i64 s.kind, .int .i64 s.block, .int .i64 s.row, .int .i64 s.mask] := rfl
 rw [e, List.getElem?_append_left (by show k < 16; exact hk), dataC_get h hk]
theorem shL_set {a b : Sh} (ha : a.data.length = 16) (hb : b.data.length = 16) {k : Nat} (hk : k < 16) : (shL (F9.mixS a b k)).set k (bv (a.data.getD k 0 ^^^ b.data.getD k 0)) = shL (F9.mixS a b (k + 1)) := by
 have e : ∀ s : Sh, shL s = dataC s.data ++ [.int .i64 s.role, .int .i64 s.lpn, .int .i64 s.seq, .int .i64 s.kind, .int .i64 s.block, .int .i64 s.row, .int .i64 s.mask] := fun s => rfl
 rw [e, e, List.set_append_left _ _ (by show k < 16; exact hk)]
 show (dataC (W.mix a.data b.data k)).set k _ ++ _ = dataC (W.mix a.data b.data (k + 1)) ++ _
 rw [dataC_set (mix_len ha hb k (by omega)), mix_set ha hb hk]
 rfl
theorem f9_over (a b : Sh) (ha : a.data.length = 16) (hb : b.data.length = 16) : Fn Tryz.prog 219 [shV a, shV b] [] (fun v As => v = shV (F9.over a b) ∧ As = []) := by
 refine Fn.enter [0, 0] Tryz.func219 rfl rfl rfl fun X F hX => ?_
 refine J.r hX tk 400 (fun _ => rfl) fun bb => ?_
 refine J.lo (α := Nat) (fun i => i ≤ 16) (fun i => [⟨5, .int .i64 i, 0, .tt⟩, ⟨2, .pointer (some ⟨bb 0, 0, none⟩), 2, .tt⟩, ⟨3, .pointer (some ⟨bb (0 + 1), 0, none⟩), 3, .tt⟩, ⟨4, .pointer (some ⟨bb (0 + 1 + 1), 0, none⟩), 4, .tt⟩]) [1] (fun i => [.pt (bb 0) 137 (shL (F9.mixS a b i))]) (fun i => 16 - i) (0) (Nat.zero_le _) rfl ?_ (fun _ => rfl) fun i hI => ?_
 ·rw [show F9.mixS a b 0 = a from by simp [F9.mixS, W.mix]]; rfl
 have hml := mix_len ha hb i hI
 refine J.r hX tk 400 (fun _ => rfl) fun b7 => ?_
 refine J.cond rfl (fun h2 => ?_) (fun h2 => ?_)
 ·simp only [decide_eq_true_eq] at h2
  have h3 : i < 16 := by omega
  refine J.r hX tk 400 (fun _ => rfl) fun b8 => ?_
  refine J.plan (.of [0,4,8,13,16,20,24,29,32,36,40,47]) [10,11] [1,2,3] (by rw [hX.hP]; kernel_rfl) (by kernel_rfl) ?_
  refine J.r hX tk 400 (fun _ => rfl) fun b9 => ?_
  refine J.valT hX (bv (a.data.getD i 0)) 0 rfl rfl (fun hg a w he hC => ?_) rfl ?_
  ·exact load1_run tk rfl rfl he hg rfl rfl (hC rfl _ (cget_mem (i := 1) rfl)) (by rw [show 0 + 0 + (i : Int).toNat * 1 = i from by omega, shL_get hml h3]; exact congrArg (fun z => some (bv z)) (mix_get ha hb h3))
  refine J.r hX tk 400 (fun _ => rfl) fun b10 => ?_
  refine J.valT hX (bv (b.data.getD i 0)) 0 rfl rfl (fun hg a w he hC => ?_) rfl ?_
  ·exact load1_run tk rfl rfl he hg rfl rfl (hC rfl _ (cget_mem (i := 2) rfl)) (by rw [show 0 + 0 + (i : Int).toNat * 1 = i from by omega]; exact shL_get hb h3)
  refine J.r hX tk 400 (fun _ => rfl) fun b11 => ?_
  refine J.store1 hX tk 1 rfl rfl rfl rfl rfl rfl rfl rfl rfl rfl rfl rfl rfl ?_ (shL (F9.mixS a b (i + 1))) ?_ rfl (fun _ => rfl) ⟨trivial, ?_⟩
  ·show 0 + 0 + (i : Int).toNat * 1 < 23
   omega
  ·rw [show 0 + 0 + (i : Int).toNat * 1 = i from by omega, xor_u8b]
   exact shL_set ha hb h3
  refine J.r hX tk 400 (fun _ => rfl) fun b12 => ?_
  refine J.nx (i + 1) (by omega) (by omega) (fun _ s => s)
 ·simp only [decide_eq_false_iff_not] at h2
  obtain rfl : i = 16 := by omega
  refine J.r hX tk 400 (fun _ => rfl) fun b13 => ?_
  refine J.plan (.take true 0 (.take true 2 (.take false 3 (.take true 5 (.take true 7 (.take false 8 (.take true 10 (.take true 12 (.take false 13 (.alt false 1 ((.take true 4 (.alt false 6 ((.of [36,46,56,60,66,68,74,76,83])) (.alt false 11 ((.of [56,26,36,60,66,68,74,76,83])) .non)))) (.alt false 6 ((.take true 9 (.alt false 1 ((.of [16,46,56,60,66,68,74,76,83])) (.alt false 11 ((.of [56,6,16,60,66,68,74,76,83])) .non)))) (.alt false 11 ((.take true 14 (.alt false 1 ((.of [16,26,36,60,66,68,74,76,83])) (.alt false 6 ((.of [36,6,16,60,66,68,74,76,83])) .non)))) .non)))))))))))) [19,20] [2,3] (by rw [hX.hP]; kernel_rfl) (by kernel_rfl) ?_
  refine J.r hX tk 400 (fun _ => rfl) fun b14 => ?_
  refine J.alts ?_ (J.alts ?_ ?_)
  all_goals skip
  ·skip
   refine J.r hX tk 400 (fun _ => rfl) fun b15 => ?_
   refine J.alts ?_ ?_
   ·skip
    refine J.r hX tk 400 (fun _ => rfl) fun b16 => ?_
    refine J.rt hX tk [] rfl rfl rfl ?_
    exact ⟨rfl, rfl⟩
   ·skip
    refine J.r hX tk 400 (fun _ => rfl) fun b17 => ?_
    refine J.rt hX tk [] rfl rfl rfl ?_
    exact ⟨rfl, rfl⟩
  ·skip
   refine J.r hX tk 400 (fun _ => rfl) fun b18 => ?_
   refine J.alts ?_ ?_
   ·skip
    refine J.r hX tk 400 (fun _ => rfl) fun b19 => ?_
    refine J.rt hX tk [] rfl rfl rfl ?_
    exact ⟨rfl, rfl⟩
   ·skip
    refine J.r hX tk 400 (fun _ => rfl) fun b20 => ?_
    refine J.rt hX tk [] rfl rfl rfl ?_
    exact ⟨rfl, rfl⟩
  ·skip
   refine J.r hX tk 400 (fun _ => rfl) fun b21 => ?_
   refine J.alts ?_ ?_
   ·skip
    refine J.r hX tk 400 (fun _ => rfl) fun b22 => ?_
    refine J.rt hX tk [] rfl rfl rfl ?_
    exact ⟨rfl, rfl⟩
   ·skip
    refine J.r hX tk 400 (fun _ => rfl) fun b23 => ?_
    refine J.rt hX tk [] rfl rfl rfl ?_
    exact ⟨rfl, rfl⟩
theorem slots_dI (m : Int) : (if 2 ≤ (dI m).length then ((dI m).length : Int) - 1 else 0) = G.slots m := by
 rw [dI_count, G.slots]
 by_cases h : L.count m < 2
 ·rw [if_pos h, if_neg (by omega)]
 ·rw [if_neg h, if_pos (by omega)]
end Go.Proofs.YtoideahgjgaddaaGreat
namespace Go.Proofs.YtoideahgjgaddaaGreat
open Go
theorem go_Gd (b r : Int) {mm : Nat} : ∀ (q : List (Int × Sh)) (N : Nand) (f : Int) (k : Nat), (∀ x ∈ q, x.2.data.length = 16) → N.Gd (q.length + k) mm → (R.go b r q N f).1.Gd k mm
 | [], N, f, k, _, h => by rw [R.go]; exact h.less (by simp) (Nat.le_refl _)
 | (d, s) :: q, N, f, k, hd, h => by
  have h1 : (N.progN d b r (putP s)).Gd (q.length + k) mm := Nand.Gd.prog (h.less (by rw [List.length_cons]; omega) (Nat.le_refl _)) d b r _ (putP_len s (hd (d, s) (by simp)))
  have hd' : ∀ x ∈ q, x.2.data.length = 16 := fun x hx => hd x (by simp [hx])
  rw [R.go]
  split
  ·exact go_Gd b r q _ _ k hd' h1
  ·split
   ·exact h1.less (by omega) (Nat.le_refl _)
   ·exact go_Gd b r q _ _ k hd' h1
theorem job_data {b r m : Int} {l : List En} (hd : ∀ s ∈ l, s.data.length = 16) : ∀ x ∈ R.job b r m l, x.2.data.length = 16 := by
 intro x hx
 simp only [R.job, List.mem_append, List.mem_map, List.mem_range, List.mem_singleton] at hx
 rcases hx with ⟨k, hk, rfl⟩ | rfl
 ·refine hd _ ?_
  rw [List.getD_eq_getElem?_getD, List.getElem?_eq_getElem hk]; exact List.getElem_mem _
 ·exact fold_len (fun t ht => by obtain ⟨e, he, rfl⟩ := List.mem_map.1 ht; exact hd e he) _ rfl
theorem parB_len {b r m : Int} {l : List En} (h : W.parB b r m l = true) : (l.length : Int) = G.slots m ∧ 1 ≤ l.length ∧ l.length ≤ 7 ∧ ∀ e ∈ l, W.ok b r m e = true := by
 simp only [W.parB, Bool.and_eq_true, decide_eq_true_eq, List.all_eq_true] at h
 have := gslots_bd m
 refine ⟨h.1.1, ?_, by omega, h.2⟩
 cases l with
 | nil => simp at h
 | cons x l => simp
theorem write_Gd {N : Nand} {b r m : Int} {l : List En} {k mm : Nat} (hd : ∀ s ∈ l, s.data.length = 16) (h : N.Gd (8 + k) mm) : (R.write N b r m l).1.Gd k mm := by
 unfold R.write
 split
 ·rename_i hB
  have := parB_len hB
  exact go_Gd b r _ _ _ k (job_data hd) (h.less (by rw [job_len]; omega) (Nat.le_refl _))
 ·exact h.less (by omega) (Nat.le_refl _)
namespace Nand
variable {N : Nand}
end Nand
end Go.Proofs.YtoideahgjgaddaaGreat
namespace Go.Proofs.YtoideahgjgaddaaGreat
open Go.RowKit
set_option maxRecDepth 100000 in
theorem zig_1 (w : World) : Calls Tryz.prog 261 #[.int .i64 (-1)] w fun e w' => e = .returned (.int .u64 1) ∧ w = w' := by
 go_enter Tryz.func261, Tryz.ntmps261
 go_wp2
 go_ret
 exact ⟨by kernel_rfl, rfl⟩
set_option maxRecDepth 100000 in
theorem zag_1 (w : World) : Calls Tryz.prog 262 #[.int .u64 1] w fun e w' => e = .returned (.int .i64 (-1)) ∧ w = w' := by
 go_enter Tryz.func262, Tryz.ntmps262
 go_wp2
 go_ret
 exact ⟨by kernel_rfl, rfl⟩
set_option maxRecDepth 100000 in
theorem narrow_1 (w : World) : Calls Tryz.prog 263 #[.int .i64 255, .int .i64 8] w fun e w' => e = .returned (.int .i64 (-1)) ∧ w = w' := by
 go_enter Tryz.func263, Tryz.ntmps263
 go_wp2
 go_ret
 exact ⟨by kernel_rfl, rfl⟩
set_option maxRecDepth 100000 in
theorem narrow_2 (w : World) : Calls Tryz.prog 263 #[.int .i64 1, .int .i64 0] w fun e w' => e = .returned (.int .i64 0) ∧ w = w' := by
 go_enter Tryz.func263, Tryz.ntmps263
 go_wp2
 go_ret
 exact ⟨by kernel_rfl, rfl⟩
end Go.Proofs.YtoideahgjgaddaaGreat
namespace Go.Proofs.YtoideahgjgaddaaGreat
open Go Go.RowKit
def nk (k : Nat) : Nat := match k with | 0 => 0 | _ + 1 => 1
def vb (k : Nat) : Int := match k with | 0 => 0 | 1 => 128 | 2 => 128 | _ => 160
def vq (k : Nat) : Int := match k with | 0 => 0 | _ => 128
def vl (k : Nat) : List Value := match k with | 0 => [] | k + 1 => [.int .u8 (vb (k + 1))]
theorem b_may (n : Int) : Fn Tryz.prog 163 [.int .i64 n] [] (fun v As => v = .bool (decide (n ≥ 1) && decide (n ≤ 64)) ∧ As = []) := by
 refine Fn.enter [0] Tryz.func163 rfl rfl rfl fun X F hX => ?_
 refine J.r hX tk 400 (fun _ => rfl) fun b1 => ?_
 refine J.rt hX tk [] rfl rfl rfl ?_
 exact ⟨rfl, rfl⟩
theorem b_Put1 (g : Nat) : Fn Tryz.prog 110 [.pointer (some ⟨g, 0, none⟩), .int .u64 5, .int .i64 3] [.pt g 190 [.slice none 0 0, .int .i64 0]]
  (fun v As => v = .bool true ∧ ∃ a cap, As = [.pt g 190 [slv a 1 cap, .int .i64 3], ownA 5 1 a 1 cap [.int .u8 160]]) := by
 refine Fn.enter [2, 0, 0] Tryz.func110 rfl rfl rfl fun X F hX => ?_
 refine J.r hX tk 400 (fun _ => rfl) fun b2 => ?_
 refine J.ca hX (by kernel_rfl) (b_may 3) [] 0 rfl rfl rfl rfl rfl rfl (fun _ => rfl) ?_
 rintro v As ⟨rfl, rfl⟩
 refine ⟨_, rfl, trivial, ?_⟩
 refine J.r hX tk 400 (fun _ => rfl) fun b3 => ?_
 refine J.cond rfl (fun h => absurd h (by decide)) (fun _ => ?_)
 refine J.turn1 [] rfl (As := [ownA 5 1 none 0 0 (vl 0)]) (fun h s => Sep.one ⟨rfl, rfl, rfl⟩) rfl ?_
 refine J.r hX tk 400 (fun _ => rfl) fun b4 => ?_
 refine J.lo (α := (Nat × Option Nat × Nat)) (fun z => z.1 ≤ 3) (fun z => [⟨7, .int .i64 (2 - z.1), 0, .tt⟩, ⟨0, .pointer (some ⟨g, 0, none⟩), 2, .tt⟩, ⟨1, .int .u64 5, 0, .tt⟩]) [1, 2] (fun z => [.pt g 190 [slv z.2.1 (nk z.1) z.2.2, .int .i64 z.1], ownA 5 1 z.2.1 (nk z.1) z.2.2 (vl z.1)]) (fun z => 3 - z.1) ((0, none, 0)) (Nat.zero_le _) rfl ?_ (fun _ => rfl) fun z hI => ?_
 ·rfl
 obtain ⟨k, a, cap⟩ := z
 dsimp only at hI ⊢
 rcases (by omega : k = 0 ∨ k = 1 ∨ k = 2 ∨ k = 3) with rfl | rfl | rfl | rfl
 ·-- bit 0
  refine J.r hX tk 400 (fun _ => rfl) fun b6 => ?_
  refine J.cond rfl (fun _ => ?_) (fun h => absurd h (by decide))
  refine J.r hX tk 400 (fun _ => rfl) fun b7 => ?_
  refine J.cond rfl (fun _ => ?_) (fun h => absurd h (by decide))
  refine J.r hX tk 400 (fun _ => rfl) fun b8 => ?_
  refine J.append hX tk 2 3 0 rfl rfl rfl rfl rfl rfl rfl rfl rfl rfl rfl rfl rfl rfl rfl rfl (by decide) (by decide) (fun _ => rfl) fun a cap => ⟨_, rfl, trivial, ?_⟩
  refine J.know (fun h' s => own_some (c := (a, cap)) (by decide) (s.get (i := 2) rfl)) fun hg => ?_
  obtain ⟨ga, rfl⟩ := hg
  refine J.openOwn 2 rfl rfl (fun _ => rfl) fun r q1 q2 q3 q4 => ?_
  refine J.r hX tk 400 (fun _ => rfl) fun b9 => ?_
  refine J.plan (.of [0,4,8,13,16,20,24,29,32,36,41,44,48,52,56,60,64,68,72,77,80,84,88,92,96,103]) [24,25] [1,2] (by rw [hX.hP]; kernel_rfl) (by kernel_rfl) ?_
  refine J.r hX tk 400 (fun _ => rfl) fun b10 => ?_
  refine J.valT hX (.int .u8 (vq 0)) 0 rfl rfl (fun hg a w he hC => ?_) rfl ?_
  ·exact load1_run tk rfl rfl he hg rfl rfl (hC rfl _ (cget_mem (i := 2) rfl)) rfl
  refine J.r hX tk 400 (fun _ => rfl) fun b11 => ?_
  refine J.store1 hX tk 2 rfl rfl rfl rfl rfl rfl rfl rfl rfl rfl rfl rfl rfl ?_ (.int .u8 (vb 1) :: r) ?_ rfl (fun _ => rfl) ⟨trivial, ?_⟩
  ·exact Nat.succ_pos _
  ·rfl
  refine J.closeOwn (e := 5) (size := 1) (n := 1) (cap := cap) (xs := [.int .u8 (vb 1)]) 2 rfl rfl rfl q2 q3 (by rw [List.length_cons, Nat.add_comm]; exact q4) rfl rfl ?_
  refine J.r hX tk 400 (fun _ => rfl) fun b12 => ?_
  refine J.nS ((1, some ga, cap)) (by dsimp only; omega) (by dsimp only; omega) [0, 1, 2] rfl rfl
 ·-- bit 1
  refine J.r hX tk 400 (fun _ => rfl) fun b14 => ?_
  refine J.cond rfl (fun _ => ?_) (fun h => absurd h (by decide))
  refine J.r hX tk 400 (fun _ => rfl) fun b15 => ?_
  refine J.cond rfl (fun h => absurd h (by decide)) (fun _ => ?_)
  refine J.know (fun h' s => own_some (c := (a, cap)) (by decide) (s.get (i := 2) rfl)) fun hg => ?_
  obtain ⟨ga, rfl⟩ := hg
  refine J.openOwn 2 rfl rfl (fun _ => rfl) fun r q1 q2 q3 q4 => ?_
  refine J.r hX tk 400 (fun _ => rfl) fun b16 => ?_
  refine J.plan (.of [0,4,8,13,16,20,24,29,32,36,41,44,48,52,56,60,64,68,72,77,80,84,88,92,96,103]) [24,25] [1,2] (by rw [hX.hP]; kernel_rfl) (by kernel_rfl) ?_
  refine J.r hX tk 400 (fun _ => rfl) fun b17 => ?_
  refine J.valT hX (.int .u8 (vq 1)) 0 rfl rfl (fun hg a w he hC => ?_) rfl ?_
  ·exact load1_run tk rfl rfl he hg rfl rfl (hC rfl _ (cget_mem (i := 2) rfl)) rfl
  refine J.r hX tk 400 (fun _ => rfl) fun b18 => ?_
  refine J.store1 hX tk 2 rfl rfl rfl rfl rfl rfl rfl rfl rfl rfl rfl rfl rfl ?_ (.int .u8 (vb 2) :: r) ?_ rfl (fun _ => rfl) ⟨trivial, ?_⟩
  ·exact Nat.succ_pos _
  ·rfl
  refine J.closeOwn (e := 5) (size := 1) (n := 1) (cap := cap) (xs := [.int .u8 (vb 2)]) 2 rfl rfl rfl q2 q3 (by rw [List.length_cons, Nat.add_comm]; exact q4) rfl rfl ?_
  refine J.r hX tk 400 (fun _ => rfl) fun b19 => ?_
  refine J.nS ((2, some ga, cap)) (by dsimp only; omega) (by dsimp only; omega) [0, 1, 2] rfl rfl
 ·-- bit 2
  refine J.r hX tk 400 (fun _ => rfl) fun b21 => ?_
  refine J.cond rfl (fun _ => ?_) (fun h => absurd h (by decide))
  refine J.r hX tk 400 (fun _ => rfl) fun b22 => ?_
  refine J.cond rfl (fun h => absurd h (by decide)) (fun _ => ?_)
  refine J.know (fun h' s => own_some (c := (a, cap)) (by decide) (s.get (i := 2) rfl)) fun hg => ?_
  obtain ⟨ga, rfl⟩ := hg
  refine J.openOwn 2 rfl rfl (fun _ => rfl) fun r q1 q2 q3 q4 => ?_
  refine J.r hX tk 400 (fun _ => rfl) fun b23 => ?_
  refine J.plan (.of [0,4,8,13,16,20,24,29,32,36,41,44,48,52,56,60,64,68,72,77,80,84,88,92,96,103]) [24,25] [1,2] (by rw [hX.hP]; kernel_rfl) (by kernel_rfl) ?_
  refine J.r hX tk 400 (fun _ => rfl) fun b24 => ?_
  refine J.valT hX (.int .u8 (vq 2)) 0 rfl rfl (fun hg a w he hC => ?_) rfl ?_
  ·exact load1_run tk rfl rfl he hg rfl rfl (hC rfl _ (cget_mem (i := 2) rfl)) rfl
  refine J.r hX tk 400 (fun _ => rfl) fun b25 => ?_
  refine J.store1 hX tk 2 rfl rfl rfl rfl rfl rfl rfl rfl rfl rfl rfl rfl rfl ?_ (.int .u8 (vb 3) :: r) ?_ rfl (fun _ => rfl) ⟨trivial, ?_⟩
  ·exact Nat.succ_pos _
  ·rfl
  refine J.closeOwn (e := 5) (size := 1) (n := 1) (cap := cap) (xs := [.int .u8 (vb 3)]) 2 rfl rfl rfl q2 q3 (by rw [List.length_cons, Nat.add_comm]; exact q4) rfl rfl ?_
  refine J.r hX tk 400 (fun _ => rfl) fun b26 => ?_
  refine J.nS ((3, some ga, cap)) (by dsimp only; omega) (by dsimp only; omega) [0, 1, 2] rfl rfl
 ·refine J.r hX tk 400 (fun _ => rfl) fun b28 => ?_
  refine J.cond rfl (fun h => absurd h (by decide)) (fun _ => ?_)
  refine J.r hX tk 400 (fun _ => rfl) fun b29 => ?_
  refine J.rt hX tk [1, 2] rfl rfl rfl ?_
  exact ⟨rfl, a, cap, rfl⟩
theorem b_Put2 (g : Nat) (a : Option Nat) (cap : Nat) : Fn Tryz.prog 110 [.pointer (some ⟨g, 0, none⟩), .int .u64 2, .int .i64 1] [.pt g 190 [slv a 1 cap, .int .i64 3]]
  (fun v As => v = .bool false ∧ As = [.pt g 190 [slv a 1 cap, .int .i64 3]]) := by
 refine Fn.enter [2, 0, 0] Tryz.func110 rfl rfl rfl fun X F hX => ?_
 refine J.r hX tk 400 (fun _ => rfl) fun b30 => ?_
 refine J.ca hX (by kernel_rfl) (b_may 1) [] 0 rfl rfl rfl rfl rfl rfl (fun _ => rfl) ?_
 rintro v As ⟨rfl, rfl⟩
 refine ⟨_, rfl, trivial, ?_⟩
 refine J.r hX tk 400 (fun _ => rfl) fun b31 => ?_
 refine J.cond rfl (fun _ => ?_) (fun h => absurd h (by decide))
 refine J.r hX tk 400 (fun _ => rfl) fun b32 => ?_
 refine J.rt hX tk [1] rfl rfl rfl ?_
 exact ⟨rfl, rfl⟩
theorem o_Len (g : Nat) (a : Option Nat) (m cap : Nat) (k : Int) : Fn Tryz.prog 265 [.pointer (some ⟨g, 0, none⟩)] [.pt g 190 [slv a m cap, .int .i64 k]]
  (fun v As => v = .int .i64 k ∧ As = [.pt g 190 [slv a m cap, .int .i64 k]]) := by
 refine Fn.enter [2] Tryz.func265 rfl rfl rfl fun X F hX => ?_
 refine J.r hX tk 400 (fun _ => rfl) fun b33 => ?_
 refine J.cond rfl (fun h => by simp at h) (fun _ => ?_)
 refine J.r hX tk 400 (fun _ => rfl) fun b34 => ?_
 refine J.rt hX tk [1] rfl rfl rfl ?_
 exact ⟨rfl, rfl⟩
theorem x_CloneB (a : Option Nat) (n cap : Nat) (l : List Value) (hl : l.length = n) (h1 : ∀ u ∈ l, u.oneCell' = true) (hn : n ≤ 1000000) : Fn Tryz.prog 164 [slv a n cap] [ownA 5 1 a n cap l]
  (fun v As => ∃ a' c', v = slv a' n c' ∧ As = [ownA 5 1 a n cap l, ownA 5 1 a' n c' l]) := by
 refine Fn.enter [0] Tryz.func164 rfl rfl rfl fun X F hX => ?_
 cases a with
 | none =>
  refine J.know (fun h' s => (s.get (i := 1) rfl).2) fun hn0 => ?_
  obtain ⟨rfl, rfl⟩ := hn0
  have : l = [] := List.eq_nil_of_length_eq_zero hl
  subst this
  refine J.r hX tk 400 (fun _ => rfl) fun b35 => ?_
  refine J.cond rfl (fun _ => ?_) (fun h => by simp at h)
  refine J.turn1 [] rfl (As := [ownA 5 1 none 0 0 []]) (fun h s => Sep.one ⟨rfl, rfl, rfl⟩) rfl ?_
  refine J.r hX tk 400 (fun _ => rfl) fun b36 => ?_
  refine J.rt hX tk [1, 2] rfl rfl rfl ?_
  exact ⟨none, 0, rfl, rfl⟩
 | some g =>
  refine J.r hX tk 400 (fun _ => rfl) fun b37 => ?_
  refine J.cond rfl (fun h => by simp at h) (fun _ => ?_)
  refine J.r hX tk 5 (fun _ => rfl) fun bb => ?_
  refine J.closeOwn (e := 5) (size := 1) (n := 0) (cap := 0) (xs := []) 2 rfl rfl rfl (Nat.le_refl _) (Nat.zero_le _) rfl rfl rfl ?_
  refine J.r hX tk 400 (fun _ => rfl) fun b38 => ?_
  refine J.appendR hX tk (a := some (bb 0)) (n := 0) (cap := 0) (xs := []) (oo := 0) (Ay := ownA 5 1 (some g) n cap l) 2 1 0 rfl rfl rfl rfl rfl rfl rfl rfl rfl rfl (own_rd _ _ (some g) _ _ _) rfl rfl rfl rfl h1 ?_ ?_ (fun _ => rfl) fun a' c' => ⟨_, rfl, trivial, ?_⟩
  ·simp only [maxLen]; omega
  ·omega
  rw [Nat.zero_add n, List.nil_append]
  refine J.r hX tk 400 (fun _ => rfl) fun b39 => ?_
  refine J.rt hX tk [1, 2] rfl rfl rfl ?_
  exact ⟨a', c', rfl, rfl⟩
theorem b_Bytes (g : Nat) (a : Option Nat) (m cap : Nat) (k : Int) (l : List Value) (hl : l.length = m) (h1 : ∀ u ∈ l, u.oneCell' = true) (hn : m ≤ 1000000) : Fn Tryz.prog 112 [.pointer (some ⟨g, 0, none⟩)] [.pt g 190 [slv a m cap, .int .i64 k], ownA 5 1 a m cap l]
  (fun v As => ∃ a' c', v = slv a' m c' ∧ As = [.pt g 190 [slv a m cap, .int .i64 k], ownA 5 1 a m cap l, ownA 5 1 a' m c' l]) := by
 refine Fn.enter [2] Tryz.func112 rfl rfl rfl fun X F hX => ?_
 refine J.r hX tk 400 (fun _ => rfl) fun b40 => ?_
 refine J.cond rfl (fun h => by simp at h) (fun _ => ?_)
 refine J.r hX tk 400 (fun _ => rfl) fun b41 => ?_
 refine J.ca hX (by kernel_rfl) (x_CloneB a m cap l hl h1 hn) [2] 0 rfl rfl rfl rfl rfl rfl (fun _ => rfl) ?_
 rintro v As ⟨a', c', rfl, rfl⟩
 refine ⟨_, rfl, trivial, ?_⟩
 refine J.r hX tk 400 (fun _ => rfl) fun b43 => ?_
 refine J.rt hX tk [1, 2, 3] rfl rfl rfl ?_
 exact ⟨a', c', rfl, rfl⟩
theorem b_Read (a : Option Addr) (n cap : Nat) : Fn Tryz.prog 187 [.slice a n cap] [] (fun v As => ∃ g, v = .pointer (some ⟨g, 0, none⟩) ∧ As = [.pt g 265 [.slice a n cap, .int .i64 0]]) := by
 refine Fn.enter [0] Tryz.func187 rfl rfl rfl fun X F hX => ?_
 refine J.r hX tk 400 (fun _ => rfl) fun bb => ?_
 refine J.rt hX tk [1] rfl rfl rfl ?_
 exact ⟨bb 0, rfl, rfl⟩
theorem b_Left (g b : Nat) (k : Int) (h0 : 0 ≤ k) (h1 : k ≤ 8) : Fn Tryz.prog 217 [.pointer (some ⟨g, 0, none⟩)] [.pt g 265 [.slice (some ⟨b, 0, none⟩) 1 1, .int .i64 k]]
  (fun v As => v = .int .i64 (8 - k) ∧ As = [.pt g 265 [.slice (some ⟨b, 0, none⟩) 1 1, .int .i64 k]]) := by
 refine Fn.enter [2] Tryz.func217 rfl rfl rfl fun X F hX => ?_
 refine J.r hX tk 400 (fun _ => rfl) fun b45 => ?_
 refine J.cond rfl (fun h => by simp at h) (fun _ => ?_)
 refine J.r hX tk 400 (fun _ => rfl) fun b46 => ?_
 refine J.plan (.of [0,4,8,13,16,20,24,28,32,37,40,44]) [11] [1] (by rw [hX.hP]; kernel_rfl) (by kernel_rfl) ?_
 refine J.r hX tk 400 (fun _ => rfl) fun b47 => ?_
 refine J.rt hX tk [1] rfl rfl rfl ?_
 exact ⟨rfl, rfl⟩
theorem b_Get9 (g b : Nat) : Fn Tryz.prog 188 [.pointer (some ⟨g, 0, none⟩), .int .i64 9] [.pt g 265 [.slice (some ⟨b, 0, none⟩) 1 1, .int .i64 4]]
  (fun v As => v = .tuple #[.int .u64 0, .bool false] ∧ As = [.pt g 265 [.slice (some ⟨b, 0, none⟩) 1 1, .int .i64 4]]) := by
 refine Fn.enter [2, 0] Tryz.func188 rfl rfl rfl fun X F hX => ?_
 refine J.r hX tk 400 (fun _ => rfl) fun b49 => ?_
 refine J.ca hX (by kernel_rfl) (b_may 9) [] 0 rfl rfl rfl rfl rfl rfl (fun _ => rfl) ?_
 rintro v As ⟨rfl, rfl⟩
 refine ⟨_, rfl, trivial, ?_⟩
 refine J.r hX tk 400 (fun _ => rfl) fun b51 => ?_
 refine J.ca hX (by kernel_rfl) (b_Left g b 4 (by decide) (by decide)) [1] 0 rfl rfl rfl rfl rfl rfl (fun _ => rfl) ?_
 rintro v As ⟨rfl, rfl⟩
 refine ⟨_, rfl, trivial, ?_⟩
 refine J.r hX tk 400 (fun _ => rfl) fun b53 => ?_
 refine J.cond rfl (fun _ => ?_) (fun h => absurd h (by decide))
 refine J.r hX tk 400 (fun _ => rfl) fun b54 => ?_
 refine J.rt hX tk [1] rfl rfl rfl ?_
 exact ⟨rfl, rfl⟩
def vg (k : Nat) : Int := match k with | 0 => 0 | 1 => 1 | 2 => 2 | 3 => 5 | _ => 10
theorem b_Get4 (g b : Nat) : Fn Tryz.prog 188 [.pointer (some ⟨g, 0, none⟩), .int .i64 4] [.pt g 265 [.slice (some ⟨b, 0, none⟩) 1 1, .int .i64 0], .pt b 5 [.int .u8 165]]
  (fun v As => v = .tuple #[.int .u64 10, .bool true] ∧ As = [.pt g 265 [.slice (some ⟨b, 0, none⟩) 1 1, .int .i64 4], .pt b 5 [.int .u8 165]]) := by
 refine Fn.enter [2, 0] Tryz.func188 rfl rfl rfl fun X F hX => ?_
 refine J.r hX tk 400 (fun _ => rfl) fun b55 => ?_
 refine J.ca hX (by kernel_rfl) (b_may 4) [] 0 rfl rfl rfl rfl rfl rfl (fun _ => rfl) ?_
 rintro v As ⟨rfl, rfl⟩
 refine ⟨_, rfl, trivial, ?_⟩
 refine J.r hX tk 400 (fun _ => rfl) fun b57 => ?_
 refine J.ca hX (by kernel_rfl) (b_Left g b 0 (by decide) (by decide)) [1] 0 rfl rfl rfl rfl rfl rfl (fun _ => rfl) ?_
 rintro v As ⟨rfl, rfl⟩
 refine ⟨_, rfl, trivial, ?_⟩
 refine J.r hX tk 400 (fun _ => rfl) fun b59 => ?_
 refine J.cond rfl (fun h => absurd h (by decide)) (fun _ => ?_)
 refine J.r hX tk 400 (fun _ => rfl) fun b60 => ?_
 refine J.lo (α := Nat) (fun k => k ≤ 4) (fun k => [⟨6, .int .u64 (vg k), 0, .tt⟩, ⟨7, .int .i64 4, 0, .tt⟩, ⟨0, .pointer (some ⟨g, 0, none⟩), 2, .tt⟩]) [1] (fun k => [.pt g 265 [.slice (some ⟨b, 0, none⟩) 1 1, .int .i64 k]]) (fun k => 4 - k) (0) (Nat.zero_le _) rfl ?_ (fun _ => rfl) fun k hI => ?_
 ·rfl
 rcases (by omega : k = 0 ∨ k = 1 ∨ k = 2 ∨ k = 3 ∨ k = 4) with rfl | rfl | rfl | rfl | rfl
 ·refine J.r hX tk 400 (fun _ => rfl) fun b62 => ?_
  refine J.cond rfl (fun _ => ?_) (fun h => absurd h (by decide))
  refine J.r hX tk 400 (fun _ => rfl) fun b63 => ?_
  refine J.plan (.of [0,4,8,12,16,21,24,28,32,37,40,44,49,52,56,60,65,68,72,76,80,84,88,92]) [23] [1,2] (by rw [hX.hP]; kernel_rfl) (by kernel_rfl) ?_
  refine J.r hX tk 400 (fun _ => rfl) fun b64 => ?_
  refine J.valT hX (.int .u8 165) 0 rfl rfl (fun hg a w he hC => ?_) rfl ?_
  ·exact load1_run tk rfl rfl he hg rfl rfl (hC rfl _ (cget_mem (i := 2) rfl)) rfl
  refine J.r hX tk 400 (fun _ => rfl) fun b65 => ?_
  refine J.nS (1) (by omega) (by omega) [0, 1, 2] rfl rfl
 ·refine J.r hX tk 400 (fun _ => rfl) fun b67 => ?_
  refine J.cond rfl (fun _ => ?_) (fun h => absurd h (by decide))
  refine J.r hX tk 400 (fun _ => rfl) fun b68 => ?_
  refine J.plan (.of [0,4,8,12,16,21,24,28,32,37,40,44,49,52,56,60,65,68,72,76,80,84,88,92]) [23] [1,2] (by rw [hX.hP]; kernel_rfl) (by kernel_rfl) ?_
  refine J.r hX tk 400 (fun _ => rfl) fun b69 => ?_
  refine J.valT hX (.int .u8 165) 0 rfl rfl (fun hg a w he hC => ?_) rfl ?_
  ·exact load1_run tk rfl rfl he hg rfl rfl (hC rfl _ (cget_mem (i := 2) rfl)) rfl
  refine J.r hX tk 400 (fun _ => rfl) fun b70 => ?_
  refine J.nS (2) (by omega) (by omega) [0, 1, 2] rfl rfl
 ·refine J.r hX tk 400 (fun _ => rfl) fun b72 => ?_
  refine J.cond rfl (fun _ => ?_) (fun h => absurd h (by decide))
  refine J.r hX tk 400 (fun _ => rfl) fun b73 => ?_
  refine J.plan (.of [0,4,8,12,16,21,24,28,32,37,40,44,49,52,56,60,65,68,72,76,80,84,88,92]) [23] [1,2] (by rw [hX.hP]; kernel_rfl) (by kernel_rfl) ?_
  refine J.r hX tk 400 (fun _ => rfl) fun b74 => ?_
  refine J.valT hX (.int .u8 165) 0 rfl rfl (fun hg a w he hC => ?_) rfl ?_
  ·exact load1_run tk rfl rfl he hg rfl rfl (hC rfl _ (cget_mem (i := 2) rfl)) rfl
  refine J.r hX tk 400 (fun _ => rfl) fun b75 => ?_
  refine J.nS (3) (by omega) (by omega) [0, 1, 2] rfl rfl
 ·refine J.r hX tk 400 (fun _ => rfl) fun b77 => ?_
  refine J.cond rfl (fun _ => ?_) (fun h => absurd h (by decide))
  refine J.r hX tk 400 (fun _ => rfl) fun b78 => ?_
  refine J.plan (.of [0,4,8,12,16,21,24,28,32,37,40,44,49,52,56,60,65,68,72,76,80,84,88,92]) [23] [1,2] (by rw [hX.hP]; kernel_rfl) (by kernel_rfl) ?_
  refine J.r hX tk 400 (fun _ => rfl) fun b79 => ?_
  refine J.valT hX (.int .u8 165) 0 rfl rfl (fun hg a w he hC => ?_) rfl ?_
  ·exact load1_run tk rfl rfl he hg rfl rfl (hC rfl _ (cget_mem (i := 2) rfl)) rfl
  refine J.r hX tk 400 (fun _ => rfl) fun b80 => ?_
  refine J.nS (4) (by omega) (by omega) [0, 1, 2] rfl rfl
 ·refine J.r hX tk 400 (fun _ => rfl) fun b82 => ?_
  refine J.cond rfl (fun h => absurd h (by decide)) (fun _ => ?_)
  refine J.r hX tk 400 (fun _ => rfl) fun b83 => ?_
  refine J.rt hX tk [1, 2] rfl rfl rfl ?_
  exact ⟨rfl, rfl⟩
theorem k_nil : Fn Tryz.prog 113 [.slice none 0 0] [] (fun v As => v = .int .u32 4294967295 ∧ As = []) := by
 refine Fn.enter [0] Tryz.func113 rfl rfl rfl fun X F hX => ?_
 refine J.r hX tk 400 (fun _ => rfl) fun b84 => ?_
 refine J.lo (α := Nat) (fun k => k ≤ 0) (fun k => [⟨8, .int .i64 0, 0, .tt⟩, ⟨7, .int .i64 0, 0, .tt⟩, ⟨3, .int .u32 4294967295, 0, .tt⟩]) [] (fun k => []) (fun k => 0) (0) (Nat.zero_le _) rfl ?_ (fun _ => rfl) fun k hI => ?_
 ·rfl
 refine J.r hX tk 400 (fun _ => rfl) fun b86 => ?_
 refine J.cond rfl (fun h => absurd h (by decide)) (fun _ => ?_)
 refine J.r hX tk 400 (fun _ => rfl) fun b87 => ?_
 refine J.rt hX tk [] rfl rfl rfl ?_
 exact ⟨rfl, rfl⟩
theorem k_step : Fn Tryz.prog 165 [.int .u32 0, .int .u8 128] [] (fun v As => v = .int .u32 (K.step 0 128 : Nat) ∧ As = []) := Fn.of_same (koop_Step 0 128 (by decide) (by decide))
end Go.Proofs.YtoideahgjgaddaaGreat
