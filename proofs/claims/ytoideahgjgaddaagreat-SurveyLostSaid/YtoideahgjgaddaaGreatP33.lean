/- Helpers of the proofs about ostrakonlaw11, proved here: Llo, Llq. No condition. -/
import Derived.Test.YtoideahgjgaddaaGreatP20
import Derived.Test.YtoideahgjgaddaaGreatP25
import Derived.Test.YtoideahgjgaddaaGreatP32
set_option linter.unusedVariables false
set_option linter.unusedSimpArgs false
set_option linter.unusedSectionVars false
set_option linter.unnecessarySimpa false
/- Walks: the sentence SurveyLost. -/
namespace Go.Proofs.YtoideahgjgaddaaGreat
open Go Go.RowKit
section
variable {X : Cx} {P : Program} {K : List KI} {E : Env} {L : List Atom} {N : Nat} {F : HP} {Post : Value → List Atom → Prop} {rs : List ResultVar} {T : Tab}
/-- some things that are read, wherever they lie, are put behind others -/
theorem J.appendAny (hX : IsCx X P rs N F Post) (hT : TabOK P T) {ops : Array Oper} {C : Cl} {lt : Bool} {i : Nat} {t : PT} {o : Oper} {x y : Operand} {st e size by_ : Nat} {ks tgs : Nat} {gs : G} {a : Option Nat} {n cap : Nat} {xs : List Value} {ky tgy : Nat} {gy : G} {ay : Option Addr} {m cy : Nat} {cs : List Value} {s1 b1 : Nat} {z1 : List Value} {E' : Value → Env} {Ay : Atom} (is iy : Nat) (hc0 : ay = none → cy = 0)
    (ho : lget ops.toList i = some o) (hg : gd ops.toList E o = some .tt) (hop : o.op = .call ⟨.builtin .append, #[x, y], #[st, st]⟩)
    (hx : ev E x = some ⟨ks, slv a n cap, tgs, gs⟩) (hvx : gs.on = true) (hy : ev E y = some ⟨ky, .slice ay m cy, tgy, gy⟩) (hvy : gy.on = true)
    (hLs : lget L is = some (ownA e size a n cap xs)) (hLy : lget L iy = some Ay) (hrd : Rd Ay ay size m cs) (hst : T.get st = some ⟨.slice e size, s1, z1, b1⟩) {td : TD} {z : List Value} (he : T.get e = some ⟨td, size, z, by_⟩) (hz : Nat.beq z.length size = true)
    (hsz : Nat.blt 0 size = true) (h1 : ∀ u ∈ cs, u.oneCell' = true) (h63 : n + m ≤ maxLen) (hbytes : (n + m) * by_ ≤ 140737488355328)
    (hd : ∀ v, putE N o.dst v 0 .tt E = some (E' v))
    (hJ : ∀ a' cap', ∃ L', lset L is (ownA e size a' (n + m) cap' (xs ++ cs)) = some L' ∧ Conj (staysL lt C L') ∧ J X (.reg ops C t :: K) (E' (slv a' (n + m) cap')) L') : J X (.reg ops C (.alt lt i t .non) :: K) E L := by
  cases ay with
  | none =>
    exact J.appendRO hX hT (ay := none) is iy (fun _ => hc0 rfl) ho hg hop hx hvx hy hvy hLs hLy hrd hst he hz hsz h1 h63 hbytes hd hJ
  | some ad =>
    refine J.op hX (S := fun v L' => ∃ a' cap', v = slv a' (n + m) cap' ∧ L' = L.set is (ownA e size a' (n + m) cap' (xs ++ cs))) 0 ho hg rfl (fun a0 w hen hs => ?_) hd (fun v L' ⟨a', cap', e1, e2⟩ => by subst e1; subst e2; obtain ⟨L2, q1, q2⟩ := hJ a' cap'; rw [← lset_eq q1]; exact q2)
    obtain ⟨d, f, zv, ok⟩ := tiOf_spec (hT.get hst)
    obtain ⟨fe, rfl, g1, g2⟩ := ok.slice rfl
    obtain ⟨d', f', zv', ok'⟩ := tiOf_spec (hT.get he)
    have hf : fe = f' := by have := g1.symm.trans ok'.hf; injection this
    subst hf
    have hzz : z = zv'.cells.toList := ok'.hzero
    subst hzz
    rw [lget_eq] at hLs hLy
    have hrow := ownP_row (hs.get hLs)
    have hrd2 := hrd _ (hs.get hLy)
    have hnews : ∀ j u, cs[j]? = some u → w.cell? (ad.add j) = some u := fun j u hu => by
      rcases Nat.eq_zero_or_pos m with h0 | h0
      · have := hrd2.1
        rw [h0, Nat.zero_mul] at this
        rw [List.eq_nil_of_length_eq_zero this] at hu; simp at hu
      · obtain ⟨b, oo, hba⟩ := Rd.addr hrd2 h0
        injection hba with hba
        subst hba
        rw [Addr.add_none]
        exact rd_cell hrd2 h0 hu
    obtain ⟨v', w', r1, r2, r3, _, r5⟩ := run_append_own_at (P := P) w 0 st o.type e fe zv' size by_ ok.hd ok'.hf ok'.hz g2 ok'.hbytes.symm (by have := Nat.eq_of_beq_eq_true hz; simpa using this) (Nat.le_of_ble_eq_true hsz) _ n xs hrow ad m cy cs hrd2.1 hnews h1 h63 hbytes (Nat.zero_le _)
    obtain ⟨a', cap', e1, e2, e3⟩ := row_ownP r2
    subst e1
    have ex := ev_spec hen hx
    have ey := ev_spec hen hy
    simp only [Slot.val, hvx, hvy] at ex ey
    refine ⟨_, _, .value (slv a' (n + m) cap'), w', ⟨a', cap', rfl, rfl⟩, ?_, .inl rfl, ?_, Ext.grown r3⟩
    · simp only [execOp, hop, resolve, Sem.run_bind, Sem.run_pure, Result.andThen_ok, invoke, builtin, List.map_toArray, List.map_cons, List.map_nil, ex, ey, r1]
    · refine Sep.step hs hLs (x := (slv a n cap).ownBlock) (x' := a') (fun h g0 hh he0 => ?_) r3 (by rw [← e3]; exact r5) (fun h hh => ⟨e2.1, ?_⟩)
      · cases a with
        | none => simp [slv, Value.ownBlock] at he0
        | some ga =>
          simp only [slv, Value.ownBlock, Option.some.injEq] at he0
          subst he0
          obtain ⟨cur, h1, _⟩ := hh.2
          exact ⟨_, h1⟩
      · have e22 := e2.2
        cases a' with
        | none => exact e22
        | some ga =>
          obtain ⟨cur, q1, q2⟩ := e22
          exact ⟨cur, (hh ga rfl).trans q1, q2⟩
end
theorem and_mask (D : Nat) (hD : D ≤ 6) (x : Int) : 0 ≤ IntKind.i64.wrap ((BitVec.ofInt IntKind.i64.bits x &&& BitVec.ofInt IntKind.i64.bits (mAll D)).toNat : Int) ∧ IntKind.i64.wrap ((BitVec.ofInt IntKind.i64.bits x &&& BitVec.ofInt IntKind.i64.bits (mAll D)).toNat : Int) < 2 ^ D := by
  have hb : (BitVec.ofInt IntKind.i64.bits (mAll D)).toNat = 2 ^ D - 1 := by
    have : ∀ D, D < 7 → (BitVec.ofInt IntKind.i64.bits (mAll D)).toNat = 2 ^ D - 1 := by decide
    exact this D (by omega)
  have h : (BitVec.ofInt IntKind.i64.bits x &&& BitVec.ofInt IntKind.i64.bits (mAll D)).toNat ≤ 2 ^ D - 1 := by
    rw [BitVec.toNat_and, hb]
    exact Nat.and_le_right
  have hp : 1 ≤ 2 ^ D := Nat.one_le_two_pow
  have hp2 : 2 ^ D ≤ 64 := Nat.pow_le_pow_right (n := 2) (by omega) hD
  generalize (BitVec.ofInt IntKind.i64.bits x &&& BitVec.ofInt IntKind.i64.bits (mAll D)).toNat = n at h
  have e : IntKind.i64.wrap (n : Int) = n := by
    simp only [IntKind.wrap, IntKind.bits, IntKind.signed]
    have h1 : (n : Int) % 2 ^ 64 = n := Int.emod_eq_of_lt (by omega) (by omega)
    simp [h1]
    omega
  rw [e]
  have e2 : (2 : Int) ^ D = ((2 ^ D : Nat) : Int) := by simp
  rw [e2]
  omega
/-- an entry's sequence is set, where it lies -/
theorem cellsE_seq : ∀ (M : List En) (r : List Value) (k : Nat) (x : En) (s : Int), M[k]? = some x → (cellsE M ++ r).take (k * 19 + 1) ++ [.int .i64 s] ++ (cellsE M ++ r).drop (k * 19 + 1 + 1) = cellsE (M.set k { x with seq := s }) ++ r
  | [], _, _, _, _, h => by simp at h
  | y :: M, r, 0, x, s, h => by
    simp at h; subst h; rfl
  | y :: M, r, k + 1, x, s, h => by
    have ih := cellsE_seq M r k x s (by simpa using h)
    have hy : (enL y).length = 19 := rfl
    have e1 : cellsE (y :: M) ++ r = enL y ++ (cellsE M ++ r) := by simp [cellsE]
    have e2 : cellsE ((y :: M).set (k + 1) { x with seq := s }) ++ r = enL y ++ (cellsE (M.set k { x with seq := s }) ++ r) := by simp [cellsE]
    rw [e1, e2, ← ih, show (k + 1) * 19 + 1 = (enL y).length + (k * 19 + 1) from by omega, List.take_length_add_append, show (enL y).length + (k * 19 + 1) + 1 = (enL y).length + (k * 19 + 1 + 1) from by omega, ← List.drop_drop, List.drop_left' rfl]
    simp only [List.append_assoc]
/-- sequences that are set so far -/
def sqL (i : Nat) (L : List En) (k : Nat) : List En := seqL i (L.take k) 0 ++ L.drop k
theorem seqL_app (i : Nat) : ∀ (A B : List En) (k : Nat), seqL i (A ++ B) k = seqL i A k ++ seqL i B (k + A.length)
  | [], B, k => by simp [seqL]
  | a :: A, B, k => by
    rw [List.cons_append, seqL, seqL, seqL_app i A B (k + 1), List.cons_append, List.length_cons, show k + 1 + A.length = k + (A.length + 1) from by omega]
theorem sqL_zero (i : Nat) (L : List En) : sqL i L 0 = L := by simp [sqL, seqL]
theorem sqL_end (i : Nat) (L : List En) : sqL i L L.length = seqL i L 0 := by simp [sqL]
theorem sqL_len (i : Nat) (L : List En) (k : Nat) : (sqL i L k).length = L.length := by
  unfold sqL; rw [List.length_append, seqL_len, List.length_take, List.length_drop]; omega
theorem sqL_get (i : Nat) (L : List En) (k : Nat) (x : En) (h : L[k]? = some x) : (sqL i L k)[k]? = some x := by
  have hk : k < L.length := (List.getElem?_eq_some_iff.1 h).1
  unfold sqL
  rw [List.getElem?_append_right (by rw [seqL_len, List.length_take]; omega), seqL_len, List.length_take, List.getElem?_drop, show k + (k - min k L.length) = k from by omega, h]
theorem sqL_succ (i : Nat) (L : List En) (k : Nat) (x : En) (h : L[k]? = some x) : sqL i L (k + 1) = (sqL i L k).set k (if x.role != 3 then { x with seq := 8 * (i : Int) + (k : Int) + 1 } else x) := by
  have hk : k < L.length := (List.getElem?_eq_some_iff.1 h).1
  have hx : L[k] = x := by rw [List.getElem?_eq_getElem hk] at h; injection h
  unfold sqL
  have hl : (seqL i (L.take k) 0).length = k := by rw [seqL_len, List.length_take]; omega
  rw [List.set_append_right _ _ (by omega), hl, Nat.sub_self, List.take_add_one, h, Option.toList_some, seqL_app, List.drop_eq_getElem_cons hk, List.set_cons_zero, List.append_assoc, List.length_take, show 0 + min k L.length = k from by omega]
  rfl
def gR (rows : List RowV) (i : Nat) : List En := match rows[i]? with
  | some x => x.l.take 8
  | none => []
def mR (D : Nat) (rows : List RowV) (i : Nat) : Int := match rows[i]? with
  | some x => IntKind.i64.wrap ((BitVec.ofInt IntKind.i64.bits x.m &&& BitVec.ofInt IntKind.i64.bits (mAll D)).toNat : Int)
  | none => 0
theorem mR_bd (D : Nat) (hD : D ≤ 6) (rows : List RowV) (i : Nat) : 0 ≤ mR D rows i ∧ mR D rows i < 2 ^ D := by
  unfold mR
  cases rows[i]? with
  | some x => exact and_mask D hD x.m
  | none => exact ⟨Int.le_refl _, Int.pow_pos (by decide)⟩
theorem gR_len (rows : List RowV) (i : Nat) : (gR rows i).length ≤ 8 := by
  unfold gR
  split
  · rw [List.length_take]; omega
  · exact Nat.zero_le _
theorem gR_data (rows : List RowV) (A : Atom) (h : ∀ x ∈ rows, x.Ok A ∧ x.Fit) (i : Nat) : ∀ s ∈ gR rows i, s.data.length = 16 := by
  unfold gR
  split
  · rename_i x hx
    exact fun s hs => (h x (List.mem_of_getElem? hx)).1.data s (List.mem_of_mem_take hs)
  · intro s hs; cases hs
theorem lo_Gd {N0 : Nand} (f : Nat → Int × List En) (hd : ∀ i, ∀ s ∈ (f i).2, s.data.length = 16) : ∀ i k, N0.Gd (8 * i + k) 0 → (loN N0 f i).Gd k 0
  | 0, k, h => h.less (by omega) (Nat.le_refl _)
  | i + 1, k, h => write_Gd (hd i) (lo_Gd f hd i (8 + k) (h.less (by omega) (Nat.le_refl _)))
end Go.Proofs.YtoideahgjgaddaaGreat
/- Walks: the sentence SurveyLost: the walk itself. -/
namespace Go.Proofs.YtoideahgjgaddaaGreat
open Go Go.RowKit
theorem e8_eq (n : Nat) : (if (8 : Int) < (n : Int) then 8 else (n : Int)) = ((min n 8 : Nat) : Int) := by split <;> omega
set_option maxRecDepth 20000 in
theorem s_SurveyLost (g0 g1 g2 : Int) (A : Atom) (ar : Option Addr) (nr cr : Nat) (rows : List RowV) (hAr : Rd A ar 3 nr (rows.flatMap RowV.cells)) (hlr : rows.length = nr) (hrows : ∀ x ∈ rows, x.Ok A ∧ x.Fit) (di : Int) :
    Fn Tryz.prog 5 [.agg #[.int .i64 g0, .int .i64 g1, .int .i64 g2], .slice ar nr cr, .int .i64 di] [A] (fun v As => v = .bool true ∧ As = [A]) := by
  refine Fn.enter [0, 0, 0] Tryz.func5 rfl rfl rfl fun X F hX => ?_
  refine J.r hX tab_ok 400 (fun _ => rfl) fun bb => ?_
  refine J.r hX tab_ok 400 (fun _ => rfl) fun b1 => ?_
  refine J.ca hX (by kernel_rfl) (l16_begun) [] 0 rfl rfl rfl rfl rfl rfl (fun _ => rfl) ?_
  rintro v As ⟨rfl, rfl⟩
  refine ⟨_, rfl, trivial, ?_⟩
  refine J.r hX tab_ok 400 (fun _ => rfl) fun b2 => ?_
  refine J.cond rfl (fun h => absurd h (by decide)) (fun _ => ?_)
  refine J.r hX tab_ok 400 (fun _ => rfl) fun b3 => ?_
  refine J.r hX tab_ok 400 (fun _ => rfl) fun b4 => ?_
  refine J.ca hX (by kernel_rfl) (l6_Geo g0 g1 g2) [] 0 rfl rfl rfl rfl rfl rfl (fun _ => rfl) ?_
  rintro v As ⟨D, B, P, rfl, hD, hB, hP, rfl⟩
  refine ⟨_, rfl, trivial, ?_⟩
  have hgm : geoMay D B P = true := by simp [geoMay]; omega
  refine J.r hX tab_ok 400 (fun _ => rfl) fun b5 => ?_
  refine J.r hX tab_ok 400 (fun _ => rfl) fun b6 => ?_
  refine J.ca hX (by kernel_rfl) (n_New D B P hgm) [] 0 rfl rfl rfl rfl rfl rfl (fun _ => rfl) ?_
  rintro v As ⟨q, rfl, rfl⟩
  refine ⟨_, rfl, trivial, ?_⟩
  have G0 : (Nand.new D B P).Gd 1000 0 := Nand.Gd.new D B P hgm 1000 (by decide)
  have hpw := pow_bd D hD.2
  have hd1 := tm_bd di D (by omega)
  have hd2 := tm_2 di D (by omega)
  obtain ⟨d, hde⟩ := Int.eq_ofNat_of_zero_le hd2.1
  rw [hde] at hd2
  have hdD : d < D := by omega
  obtain ⟨f, hf⟩ : ∃ f : Nat → Int × List En, ∀ i, f i = (mR D rows i, seqL i (gR rows i) 0) := ⟨_, fun _ => rfl⟩
  have hfm : ∀ i, 0 ≤ (f i).1 ∧ (f i).1 < 2 ^ D := fun i => by rw [hf]; exact mR_bd D hD.2 rows i
  have hfd : ∀ i, ∀ s ∈ (f i).2, s.data.length = 16 := fun i => by rw [hf]; exact seqL_data i _ 0 (gR_data rows A hrows i)
  have hGd := fun i (hi : i ≤ B) => lo_Gd (N0 := Nand.new D B P) f hfd i 800 (G0.less (by omega) (Nat.le_refl _))
  have hI0 := lo_inv (N0 := Nand.new D B P) (new_calm D B P) (fun b i => ⟨rfl, rfl⟩) hD (show 0 < P by omega) G0.ok.dead f hfm hfd (fun i hi => (hGd i hi).ok.dead)
  refine J.r hX tab_ok 400 (fun _ => rfl) fun b7 => ?_
  refine J.r hX tab_ok 400 (fun _ => rfl) fun b8 => ?_
  refine J.lo (α := Nat) (fun i => i ≤ nr ∧ i ≤ B) (fun i => [⟨9, .int .i64 i, 0, .tt⟩, ⟨8, .pointer (some ⟨q, 0, none⟩), 0, .tt⟩, ⟨3, .pointer (some ⟨bb 0, 0, none⟩), 3, .tt⟩, ⟨1, .slice ar nr cr, 0, .tt⟩, ⟨2, .int .i64 di, 0, .tt⟩]) [3] (fun i => [NandA q (loN (Nand.new D B P) f i)]) (fun i => nr - i) (0) (⟨Nat.zero_le _, Nat.zero_le _⟩) rfl ?_ (fun _ => rfl) fun i hI => ?_
  · rfl
  obtain ⟨hi1, hi2⟩ := hI
  have hLI := hI0 i hi2
  have hG := hGd i hi2
  refine J.r hX tab_ok 400 (fun _ => rfl) fun b9 => ?_
  refine J.cond rfl (fun h1 => ?_) (fun h1 => ?_)
  · simp only [Bool.and_eq_true, decide_eq_true_eq, Int.ofNat_lt] at h1
    obtain ⟨h1, h2⟩ := h1
    obtain ⟨x, hx⟩ : ∃ x, rows[i]? = some x := ⟨_, List.getElem?_eq_getElem (by omega)⟩
    obtain ⟨hxo, hxf⟩ := hrows x (List.mem_of_getElem? hx)
    refine J.know (p := ∃ g o, ar = some ⟨g, o, none⟩) (fun h' s => Rd.addr (hAr _ (s.get (i := 1) rfl)) (by omega)) fun hk => ?_
    obtain ⟨gm, om, rfl⟩ := hk
    have hgR : gR rows i = x.l.take (min x.n 8) := by
      unfold gR; rw [hx]; dsimp only
      rw [← hxo.len]
      by_cases h : x.l.length ≤ 8
      · rw [Nat.min_eq_left h, List.take_of_length_le h, List.take_of_length_le (Nat.le_refl _)]
      · rw [Nat.min_eq_right (by omega)]
    have hmR : (f i).1 = IntKind.i64.wrap ((BitVec.ofInt IntKind.i64.bits x.m &&& BitVec.ofInt IntKind.i64.bits (mAll D)).toNat : Int) := by
      rw [hf]; unfold mR; rw [hx]
    have hcell2 : (rows.flatMap RowV.cells)[i * 3 + 2]? = some (.slice x.al x.n x.c) := flat_cell RowV.cells 3 (fun _ => rfl) hx 2 (by decide)
    have hcell1 : (rows.flatMap RowV.cells)[i * 3 + 1]? = some (.int .i64 x.m) := flat_cell RowV.cells 3 (fun _ => rfl) hx 1 (by decide)
    refine J.r hX tab_ok 400 (fun _ => rfl) fun b10 => ?_
    refine J.plan (.of [0,4,8,12,17,20,24,28,32,37,40,44,48,54,56]) [14] [1] (by rw [hX.hP]; kernel_rfl) (by kernel_rfl) ?_
    refine J.r hX tab_ok 400 (fun _ => rfl) fun b11 => ?_
    refine J.valT hX (.slice x.al x.n x.c) 0 rfl rfl (fun hg aa w he hC => rd1_run tab_ok rfl rfl he rfl rfl rfl (hAr _ (hC rfl _ (cget_mem (i := 1) rfl))) (by omega) (j := i * 3 + 2) (by omega) hcell2) rfl ?_
    refine J.r hX tab_ok 400 (fun _ => rfl) fun b12 => ?_
    refine J.valT hX (.slice x.al x.n x.c) 0 rfl rfl (fun hg aa w he hC => rd1_run tab_ok rfl rfl he rfl rfl rfl (hAr _ (hC rfl _ (cget_mem (i := 1) rfl))) (by omega) (j := i * 3 + 2) (by omega) hcell2) rfl ?_
    refine J.r hX tab_ok 2 (fun _ => rfl) fun b13 => ?_
    rw [e8_eq]
    obtain ⟨n8, hn8⟩ : ∃ n8, min x.n 8 = n8 := ⟨_, rfl⟩
    rw [hn8] at hgR ⊢
    have hn8c : n8 ≤ x.c := by have := hxf.cap; omega
    refine J.valT hX (.slice x.al n8 x.c) 0 rfl rfl (fun _ a w he hC => cut_run rfl rfl rfl he rfl rfl hn8c) rfl ?_
    refine J.turn1 [] rfl (As := [ownA 45 19 none 0 0 (cellsE [])]) (fun h s => Sep.one ⟨rfl, rfl, rfl⟩) rfl ?_
    have hRd : Rd A x.al 19 n8 (cellsE (gR rows i)) := by
      have := hxo.rd.take n8 (by omega)
      rw [cellsE_take, ← hgR] at this
      exact this
    have hgl : (gR rows i).length = n8 := by rw [hgR, List.length_take, hxo.len]; omega
    refine J.appendAny hX tab_ok (a := none) (n := 0) (cap := 0) (xs := []) (Ay := A) 4 1 hxf.nil rfl rfl rfl rfl rfl rfl rfl rfl rfl hRd rfl rfl rfl rfl (cellsE_one _) ?_ ?_ (fun _ => rfl) fun a2 c2 => ⟨_, rfl, (by first | exact trivial | (repeat' (first | exact trivial | refine ⟨rfl, ?_⟩))), ?_⟩
    · simp only [maxLen]; omega
    · omega
    rw [Nat.zero_add n8, List.nil_append]
    refine J.r hX tab_ok 400 (fun _ => rfl) fun b14 => ?_
    refine J.r hX tab_ok 400 (fun _ => rfl) fun b15 => ?_
    refine J.lo (α := Nat) (fun k => k ≤ n8) (fun k => [⟨61, .int .i64 k, 0, .tt⟩, ⟨60, .int .i64 n8, 0, .tt⟩, ⟨10, slv a2 n8 c2, 0, .tt⟩, ⟨9, .int .i64 i, 0, .tt⟩, ⟨8, .pointer (some ⟨q, 0, none⟩), 0, .tt⟩, ⟨3, .pointer (some ⟨bb 0, 0, none⟩), 3, .tt⟩, ⟨1, .slice (some ⟨gm, om, none⟩) nr cr, 0, .tt⟩, ⟨2, .int .i64 di, 0, .tt⟩]) [4] (fun k => [ownA 45 19 a2 n8 c2 (cellsE (sqL i (gR rows i) k))]) (fun k => n8 - k) (0) (Nat.zero_le _) rfl ?_ (fun _ => rfl) fun k hI => ?_
    · rw [sqL_zero]; rfl
    have hsl := sqL_len i (gR rows i) k
    refine J.r hX tab_ok 400 (fun _ => rfl) fun b16 => ?_
    refine J.cond rfl (fun h3 => ?_) (fun h3 => ?_)
    · simp only [decide_eq_true_eq, Int.ofNat_lt] at h3
      obtain ⟨y, hy⟩ : ∃ y, (gR rows i)[k]? = some y := ⟨_, List.getElem?_eq_getElem (by omega)⟩
      have hyk := sqL_get i (gR rows i) k y hy
      have hsu := sqL_succ i (gR rows i) k y hy
      refine J.know (p := ∃ g, a2 = some g) (fun h' s => own_some (c := (a2, c2)) (by omega) (s.get (i := 4) rfl)) fun hg => ?_
      obtain ⟨g2, rfl⟩ := hg
      refine J.r hX tab_ok 400 (fun _ => rfl) fun b17 => ?_
      refine J.val hX (.int .i64 y.role) 0 rfl rfl (fun hg aa w he hw => own1_run tab_ok rfl rfl he rfl rfl rfl (hw.get (i := 4) rfl) (by rw [show 0 + (k : Int).toNat * 19 + 2 = k * 19 + 2 from by omega, cellsE_cell hyk 2 (by decide)]; rfl)) rfl trivial ?_
      refine J.r hX tab_ok 400 (fun _ => rfl) fun b18 => ?_
      refine J.cond rfl (fun h4 => ?_) (fun h4 => ?_)
      · rw [if_pos h4] at hsu
        have hlt : k < (sqL i (gR rows i) k).length := by omega
        refine J.r hX tab_ok 10 (fun _ => rfl) fun b19 => ?_
        refine J.openOwn 4 rfl rfl (fun _ => rfl) fun r q1 q2 q3 q4 => ?_
        refine J.storeN hX tab_ok 4 rfl rfl rfl rfl rfl rfl rfl rfl rfl rfl rfl rfl rfl ?_ (cellsE (sqL i (gR rows i) (k + 1)) ++ r) ?_ rfl (fun _ => rfl) ⟨trivial, ?_⟩
        · rw [List.length_append, q1]
          show 0 + (k : Int).toNat * 19 + 1 + 1 ≤ n8 * 19 + r.length
          omega
        · rw [hsu, show 0 + (k : Int).toNat * 19 + 1 = k * 19 + 1 from by omega]
          exact cellsE_seq _ r k y _ hyk
        have hlen1 : (cellsE (sqL i (gR rows i) (k + 1))).length = n8 * 19 := by rw [cellsE_len, sqL_len, hgl]
        refine J.closeOwn (e := 45) (size := 19) (n := n8) (cap := c2) (xs := cellsE (sqL i (gR rows i) (k + 1))) 4 rfl rfl hlen1 q2 q3 (by rw [List.length_append, hlen1, ← q1]; exact q4) (by rw [← hlen1, List.take_left']; rfl) rfl ?_
        refine J.r hX tab_ok 400 (fun _ => rfl) fun b20 => ?_
        refine J.r hX tab_ok 400 (fun _ => rfl) fun b21 => ?_
        refine J.nS (k + 1) (by omega) (by omega) [0, 1, 2, 3, 4] rfl rfl
      · rw [if_neg (by rw [h4]; exact Bool.false_ne_true)] at hsu
        have hsame : sqL i (gR rows i) (k + 1) = sqL i (gR rows i) k := by
          rw [hsu]
          apply List.ext_getElem?
          intro j
          rw [List.getElem?_set]
          split
          · rename_i e; subst e
            rw [if_pos (by omega), hyk]
          · rfl
        rw [← hsame]
        refine J.r hX tab_ok 400 (fun _ => rfl) fun b22 => ?_
        refine J.r hX tab_ok 400 (fun _ => rfl) fun b23 => ?_
        refine J.nS (k + 1) (by omega) (by omega) [0, 1, 2, 3, 4] rfl rfl
    simp only [decide_eq_false_iff_not, Int.ofNat_lt] at h3
    have hkn : k = (gR rows i).length := by omega
    have hsq : sqL i (gR rows i) k = (f i).2 := by rw [hkn, sqL_end, hf]
    rw [hsq]
    have hfl : (f i).2.length = n8 := by rw [hf]; show (seqL i (gR rows i) 0).length = n8; rw [seqL_len, hgl]
    refine J.r hX tab_ok 400 (fun _ => rfl) fun b24 => ?_
    refine J.plan (.of [0,4,8,12,16,20,25,28,33,36,40,44,48,52,58]) [] [1,2] (by rw [hX.hP]; kernel_rfl) (by kernel_rfl) ?_
    refine J.r hX tab_ok 400 (fun _ => rfl) fun b25 => ?_
    refine J.valT hX (.int .i64 x.m) 0 rfl rfl (fun hg aa w he hC => rd1_run tab_ok rfl rfl he rfl rfl rfl (hAr _ (hC rfl _ (cget_mem (i := 1) rfl))) (by omega) (j := i * 3 + 1) (by omega) hcell1) rfl ?_
    refine J.r hX tab_ok 400 (fun _ => rfl) fun b26 => ?_
    rw [geo_all D hD.2, ← hmR]
    refine J.r hX tab_ok 400 (fun _ => rfl) fun b27 => ?_
    refine J.ca hX (by kernel_rfl) (r_Write q (loN (Nand.new D B P) f i) (ownA 45 19 a2 n8 c2 (cellsE (f i).2)) i 0 (f i).1 (oad a2) n8 c2 0 (f i).2 (own_rd _ _ a2 _ _ _) hfl (hfd i) (hG.less (by decide) (Nat.le_refl _))) [3, 4] 0 rfl rfl rfl rfl rfl rfl (fun _ => rfl) ?_
    rintro v As ⟨rfl, rfl⟩
    refine ⟨_, rfl, (by first | exact trivial | (repeat' (first | exact trivial | refine ⟨rfl, ?_⟩))), ?_⟩
    have hN1 : (R.write (loN (Nand.new D B P) f i) i 0 (f i).1 (f i).2).1 = loN (Nand.new D B P) f (i + 1) := rfl
    rw [hN1]
    refine J.r hX tab_ok 400 (fun _ => rfl) fun b28 => ?_
    refine J.r hX tab_ok 400 (fun _ => rfl) fun b29 => ?_
    refine J.nS (i + 1) (⟨by omega, by omega⟩) (by omega) [0, 1, 2, 3] rfl rfl
  obtain ⟨l1, l2, l3⟩ := lost_law (g := gR rows) hLI (show 0 < P by omega) hD hi2 hfm hfd (fun i => by rw [hf]) (gR_len rows) d hdD
  have hdies : (loN (Nand.new D B P) f i).dies = D := hLI.like.dies
  have hoff := hLI.calm.off
  have hgi : geoIn (loN (Nand.new D B P) f i).dies (loN (Nand.new D B P) f i).blocks (loN (Nand.new D B P) f i).pages d 0 0 = true := by
    rw [hLI.like.dies, hLI.like.blocks, hLI.like.pages]
    exact Nand.geoIn_of (by show _ ∧ (d : Int) < (D : Int); omega) (by show _ ∧ (0 : Int) < (B : Int); omega) (by show _ ∧ (0 : Int) < (P : Int); omega)
  have hfa : ((loN (Nand.new D B P) f i).fault 4 d 0 0 0 0).2 = loDead (loN (Nand.new D B P) f i) d := by rw [fault_4 hgi]; rfl
  have G2 := hG.fault0 4 d 0 0 0 0 (by decide)
  rw [hfa] at G2
  generalize loN (Nand.new D B P) f i = N at l1 l2 l3 hdies hoff hfa G2 hG
  have hoff2 : (loDead N d).off = false := hoff
  refine J.r hX tab_ok 400 (fun _ => rfl) fun b30 => ?_
  refine J.r hX tab_ok 400 (fun _ => rfl) fun b31 => ?_
  refine J.ca hX (by kernel_rfl) (v_Scan q N hG.ok hG.room hoff 30) [3] 0 rfl rfl rfl rfl rfl rfl (fun _ => rfl) ?_
  rintro v As ⟨q1, a1, c1, a2, c2, rfl, rfl⟩
  refine ⟨_, rfl, trivial, ?_⟩
  generalize V.scan N 30 = S at l1 l2 l3
  obtain ⟨tb, torn, first, held, next, pages⟩ := S
  dsimp only at l1 l2 l3
  subst l1
  refine J.r hX tab_ok 400 (fun _ => rfl) fun bs => ?_
  refine J.r hX tab_ok 400 (fun _ => rfl) fun b32 => ?_
  refine J.cond rfl (fun h => by simp at h) (fun _ => ?_)
  refine J.r hX tab_ok 400 (fun _ => rfl) fun b33 => ?_
  refine J.plan (.of [0,4,8,24,40,14,16,20,30,32,36,46,48,52,56,60,66]) [] [] (by rw [hX.hP]; kernel_rfl) (by kernel_rfl) ?_
  refine J.r hX tab_ok 400 (fun _ => rfl) fun b34 => ?_
  refine J.r hX tab_ok 400 (fun _ => rfl) fun b35 => ?_
  refine J.ca hX (by kernel_rfl) (n_Geo q N) [3] 0 rfl rfl rfl rfl rfl rfl (fun _ => rfl) ?_
  rintro v As ⟨rfl, rfl⟩
  refine ⟨_, rfl, (by first | exact trivial | (repeat' (first | exact trivial | refine ⟨rfl, ?_⟩))), ?_⟩
  rw [hdies]
  refine J.r hX tab_ok 400 (fun _ => rfl) fun b36 => ?_
  refine J.r hX tab_ok 400 (fun _ => rfl) fun b37 => ?_
  refine J.ca hX (by kernel_rfl) (n_Geo q N) [3] 0 rfl rfl rfl rfl rfl rfl (fun _ => rfl) ?_
  rintro v As ⟨rfl, rfl⟩
  refine ⟨_, rfl, (by first | exact trivial | (repeat' (first | exact trivial | refine ⟨rfl, ?_⟩))), ?_⟩
  rw [hdies]
  refine J.r hX tab_ok 400 (fun _ => rfl) fun b38 => ?_
  refine J.r hX tab_ok 400 (fun _ => rfl) fun b39 => ?_
  refine J.ca hX (by kernel_rfl) (n_Geo q N) [3] 0 rfl rfl rfl rfl rfl rfl (fun _ => rfl) ?_
  rintro v As ⟨rfl, rfl⟩
  refine ⟨_, rfl, (by first | exact trivial | (repeat' (first | exact trivial | refine ⟨rfl, ?_⟩))), ?_⟩
  rw [hdies]
  refine J.r hX tab_ok 400 (fun _ => rfl) fun b40 => ?_
  rw [hde]
  refine J.r hX tab_ok 400 (fun _ => rfl) fun b41 => ?_
  refine J.ca hX (by kernel_rfl) (n_Fault q N hG.ok 0 4 d 0 0 0 0) [3] 0 rfl rfl rfl rfl rfl rfl (fun _ => rfl) ?_
  rintro v As ⟨rfl, rfl⟩
  refine ⟨_, rfl, (by first | exact trivial | (repeat' (first | exact trivial | refine ⟨rfl, ?_⟩))), ?_⟩
  rw [hfa]
  refine J.r hX tab_ok 400 (fun _ => rfl) fun b42 => ?_
  refine J.r hX tab_ok 400 (fun _ => rfl) fun b43 => ?_
  refine J.ca hX (by kernel_rfl) (v_Scan q (loDead N d) G2.ok G2.room hoff2 30) [3] 0 rfl rfl rfl rfl rfl rfl (fun _ => rfl) ?_
  rintro v As ⟨q2, a3, c3, a4, c4, rfl, rfl⟩
  refine ⟨_, rfl, trivial, ?_⟩
  generalize V.scan (loDead N d) 30 = S2 at l2 l3
  obtain ⟨tb2, torn2, first2, held2, next2, pages2⟩ := S2
  dsimp only at l2 l3
  subst l2
  refine J.r hX tab_ok 400 (fun _ => rfl) fun bt => ?_
  refine J.r hX tab_ok 400 (fun _ => rfl) fun b44 => ?_
  refine J.cond rfl (fun h => by simp at h) (fun _ => ?_)
  refine J.r hX tab_ok 400 (fun _ => rfl) fun b45 => ?_
  refine J.r hX tab_ok 400 (fun _ => rfl) fun b46 => ?_
  refine J.lo (α := Nat) (fun k => k ≤ 30) (fun k => [⟨16, .int .i64 k, 0, .tt⟩, ⟨12, .pointer (some ⟨bs 0, 0, none⟩), 8, .tt⟩, ⟨14, .pointer (some ⟨bt 0, 0, none⟩), 12, .tt⟩]) [] (fun k => []) (fun k => 30 - k) (0) (Nat.zero_le _) rfl ?_ (fun _ => rfl) fun k hI => ?_
  · rfl
  refine J.r hX tab_ok 400 (fun _ => rfl) fun b47 => ?_
  refine J.cond rfl (fun h1 => ?_) (fun h1 => ?_)
  · have h1 : k < 30 := by have := of_decide_eq_true h1; omega
    have h3 := l3 k
    refine J.r hX tab_ok 400 (fun _ => rfl) fun b48 => ?_
    refine J.r hX tab_ok 400 (fun _ => rfl) fun b49 => ?_
    refine J.ca hX (by kernel_rfl) (tb_Get q1 tb k) [4] 0 rfl rfl rfl rfl rfl rfl (fun _ => rfl) ?_
    rintro v As ⟨rfl, rfl⟩
    refine ⟨_, rfl, trivial, ?_⟩
    refine J.r hX tab_ok 400 (fun _ => rfl) fun b50 => ?_
    refine J.r hX tab_ok 400 (fun _ => rfl) fun b51 => ?_
    refine J.ca hX (by kernel_rfl) (tb_Get q2 tb2 k) [8] 0 rfl rfl rfl rfl rfl rfl (fun _ => rfl) ?_
    rintro v As ⟨rfl, rfl⟩
    refine ⟨_, rfl, trivial, ?_⟩
    generalize Tb.look tb.at_ (k : Int) = o1 at h3
    generalize Tb.look tb2.at_ (k : Int) = o2 at h3
    cases o1 with
    | none =>
      cases o2 with
      | none =>
        refine J.r hX tab_ok 400 (fun _ => rfl) fun b52 => ?_
        refine J.cond rfl (fun h => by simp at h) (fun _ => ?_)
        refine J.r hX tab_ok 400 (fun _ => rfl) fun b53 => ?_
        refine J.r hX tab_ok 400 (fun _ => rfl) fun b54 => ?_
        refine J.nS (k + 1) (by omega) (by omega) [0, 1, 2, 3, 4, 5, 6, 7, 8, 9, 10, 11] rfl rfl
      | some y => cases h3
    | some x =>
      cases o2 with
      | none => cases h3
      | some y =>
        obtain ⟨xb, xr, xl, xm, xs, xo⟩ := x
        obtain ⟨yb, yr, yl, ym, ys, yo⟩ := y
        simp only [Option.map_some, Option.some.injEq, Prod.mk.injEq] at h3
        obtain ⟨h4, h5⟩ := h3
        subst h4 h5
        refine J.r hX tab_ok 400 (fun _ => rfl) fun b55 => ?_
        refine J.cond rfl (fun h => by simp at h) (fun _ => ?_)
        refine J.r hX tab_ok 400 (fun _ => rfl) fun b56 => ?_
        refine J.r hX tab_ok 400 (fun _ => rfl) fun b57 => ?_
        refine J.nS (k + 1) (by omega) (by omega) [0, 1, 2, 3, 4, 5, 6, 7, 8, 9, 10, 11] rfl rfl
  refine J.r hX tab_ok 400 (fun _ => rfl) fun b58 => ?_
  refine J.rt hX tab_ok [1] rfl rfl rfl ?_
  refine ⟨?_, rfl⟩
  show Value.bool ((pages2 : Int) == (pages2 : Int)) = Value.bool true
  rw [beq_self_eq_true]
end Go.Proofs.YtoideahgjgaddaaGreat
