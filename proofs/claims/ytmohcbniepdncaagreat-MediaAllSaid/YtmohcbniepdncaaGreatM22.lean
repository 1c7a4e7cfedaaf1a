/- Helpers of the proofs about ostrakonlaw11, proved here: RfC, Lc. No condition. -/
import Derived.Test.YtmohcbniepdncaaGreatM14
import Derived.Test.YtmohcbniepdncaaGreatM20
import Derived.Test.YtmohcbniepdncaaGreatM21
set_option linter.unusedVariables false
set_option linter.unusedSimpArgs false
set_option linter.unusedSectionVars false
set_option linter.unnecessarySimpa false
namespace Go.Proofs.YtmohcbniepdncaaGreat
open Go Go.RowKit
theorem f9_Own (b r m : Int) (e : En) (h : e.data.length = 16) : Fn Tryz.prog 54 [.int .i64 b, .int .i64 r, .int .i64 m, enV e] [] (fun v As => v = .tuple #[shV (W.own b r m e), .bool (W.ok b r m e)] ∧ As = []) := by
  refine Fn.enter [0, 0, 0, 0] Tryz.func54 rfl rfl rfl fun X F hX => ?_
  refine J.r hX tab_ok 400 (fun _ => rfl) fun b1 => ?_
  refine J.r hX tab_ok 400 (fun _ => rfl) fun b2 => ?_
  refine J.ca hX (by kernel_rfl) (f9_May (W.sh b r m e) h) [] 0 rfl rfl rfl rfl rfl rfl (fun _ => rfl) ?_
  rintro v As ⟨rfl, rfl⟩
  refine ⟨_, rfl, trivial, ?_⟩
  refine J.r hX tab_ok 400 (fun _ => rfl) fun b3 => ?_
  refine J.cond rfl (fun h1 => ?_) (fun h1 => ?_)
  · simp only [Bool.not_eq_true'] at h1
    refine J.r hX tab_ok 400 (fun _ => rfl) fun b4 => ?_
    refine J.rt hX tab_ok [] rfl rfl rfl ?_
    exact ⟨by rw [W.own, W.ok, h1]; rfl, rfl⟩
  · simp only [Bool.not_eq_false'] at h1
    refine J.r hX tab_ok 400 (fun _ => rfl) fun b5 => ?_
    refine J.rt hX tab_ok [] rfl rfl rfl ?_
    exact ⟨by rw [W.own, W.ok, h1]; rfl, rfl⟩
namespace F9
def xo (m n : Int) : Int := IntKind.i64.wrap ((BitVec.ofInt IntKind.i64.bits m ^^^ BitVec.ofInt IntKind.i64.bits n).toNat : Int)
def mixS (a b : Sh) (k : Nat) : Sh := ⟨W.mix a.data b.data k, a.role, a.lpn, a.seq, a.kind, a.block, a.row, a.mask⟩
def over (a b : Sh) : Sh := ⟨W.mix a.data b.data 16, xo a.role b.role, xo a.lpn b.lpn, xo a.seq b.seq, a.kind, a.block, a.row, a.mask⟩
end F9
theorem shL_get {s : Sh} (h : s.data.length = 16) {k : Nat} (hk : k < 16) : (shL s)[k]? = some (bv (s.data.getD k 0)) := by
  have e : shL s = dataC s.data ++ [.int .i64 s.role, .int .i64 s.lpn, .int .i64 s.seq, .int .i64 s.kind, .int .i64 s.block, .int .i64 s.row, .int .i64 s.mask] := rfl
  rw [e, List.getElem?_append_left (by show k < 16; exact hk), dataC_get h hk]
theorem shL_set {a b : Sh} (ha : a.data.length = 16) (hb : b.data.length = 16) {k : Nat} (hk : k < 16) : (shL (F9.mixS a b k)).set k (bv (a.data.getD k 0 ^^^ b.data.getD k 0)) = shL (F9.mixS a b (k + 1)) := by
  have e : ∀ s : Sh, shL s = dataC s.data ++ [.int .i64 s.role, .int .i64 s.lpn, .int .i64 s.seq, .int .i64 s.kind, .int .i64 s.block, .int .i64 s.row, .int .i64 s.mask] := fun s => rfl
  rw [e, e, List.set_append_left _ _ (by show k < 16; exact hk)]
  show (dataC (W.mix a.data b.data k)).set k _ ++ _ = dataC (W.mix a.data b.data (k + 1)) ++ _
  rw [dataC_set (mix_len ha hb k (by omega)), mix_set ha hb hk]
  rfl
theorem f9_over (a b : Sh) (ha : a.data.length = 16) (hb : b.data.length = 16) : Fn Tryz.prog 55 [shV a, shV b] [] (fun v As => v = shV (F9.over a b) ∧ As = []) := by
  refine Fn.enter [0, 0] Tryz.func55 rfl rfl rfl fun X F hX => ?_
  refine J.r hX tab_ok 400 (fun _ => rfl) fun bb => ?_
  refine J.r hX tab_ok 400 (fun _ => rfl) fun b6 => ?_
  refine J.lo (α := Nat) (fun i => i ≤ 16) (fun i => [⟨5, .int .i64 i, 0, .tt⟩, ⟨2, .pointer (some ⟨bb 0, 0, none⟩), 2, .tt⟩, ⟨3, .pointer (some ⟨bb (0 + 1), 0, none⟩), 3, .tt⟩, ⟨4, .pointer (some ⟨bb (0 + 1 + 1), 0, none⟩), 4, .tt⟩]) [1] (fun i => [.pt (bb 0) 43 (shL (F9.mixS a b i))]) (fun i => 16 - i) (0) (Nat.zero_le _) rfl ?_ (fun _ => rfl) fun i hI => ?_
  · rw [show F9.mixS a b 0 = a from by simp [F9.mixS, W.mix]]; rfl
  have hml := mix_len ha hb i hI
  refine J.r hX tab_ok 400 (fun _ => rfl) fun b7 => ?_
  refine J.cond rfl (fun h2 => ?_) (fun h2 => ?_)
  · simp only [decide_eq_true_eq] at h2
    have h3 : i < 16 := by omega
    refine J.r hX tab_ok 400 (fun _ => rfl) fun b8 => ?_
    refine J.plan (.of [0,4,8,13,16,20,24,29,32,36,40,47]) [10,11] [1,2,3] (by rw [hX.hP]; kernel_rfl) (by kernel_rfl) ?_
    refine J.r hX tab_ok 400 (fun _ => rfl) fun b9 => ?_
    refine J.valT hX (bv (a.data.getD i 0)) 0 rfl rfl (fun hg a w he hC => ?_) rfl ?_
    · exact load1_run tab_ok rfl rfl he hg rfl rfl (hC rfl _ (cget_mem (i := 1) rfl)) (by rw [show 0 + 0 + (i : Int).toNat * 1 = i from by omega, shL_get hml h3]; exact congrArg (fun z => some (bv z)) (mix_get ha hb h3))
    refine J.r hX tab_ok 400 (fun _ => rfl) fun b10 => ?_
    refine J.valT hX (bv (b.data.getD i 0)) 0 rfl rfl (fun hg a w he hC => ?_) rfl ?_
    · exact load1_run tab_ok rfl rfl he hg rfl rfl (hC rfl _ (cget_mem (i := 2) rfl)) (by rw [show 0 + 0 + (i : Int).toNat * 1 = i from by omega]; exact shL_get hb h3)
    refine J.r hX tab_ok 400 (fun _ => rfl) fun b11 => ?_
    refine J.store1 hX tab_ok 1 rfl rfl rfl rfl rfl rfl rfl rfl rfl rfl rfl rfl rfl ?_ (shL (F9.mixS a b (i + 1))) ?_ rfl (fun _ => rfl) ⟨trivial, ?_⟩
    · show 0 + 0 + (i : Int).toNat * 1 < 23
      omega
    · rw [show 0 + 0 + (i : Int).toNat * 1 = i from by omega, xor_u8b]
      exact shL_set ha hb h3
    refine J.r hX tab_ok 400 (fun _ => rfl) fun b12 => ?_
    refine J.nx (i + 1) (by omega) (by omega) (fun _ s => s)
  · simp only [decide_eq_false_iff_not] at h2
    obtain rfl : i = 16 := by omega
    refine J.r hX tab_ok 400 (fun _ => rfl) fun b13 => ?_
    refine J.plan (.take true 0 (.take true 2 (.take false 3 (.take true 5 (.take true 7 (.take false 8 (.take true 10 (.take true 12 (.take false 13 (.alt false 1 ((.take true 4 (.alt false 6 ((.of [36,46,56,60,66,68,74,76,83])) (.alt false 11 ((.of [56,26,36,60,66,68,74,76,83])) .non)))) (.alt false 6 ((.take true 9 (.alt false 1 ((.of [16,46,56,60,66,68,74,76,83])) (.alt false 11 ((.of [56,6,16,60,66,68,74,76,83])) .non)))) (.alt false 11 ((.take true 14 (.alt false 1 ((.of [16,26,36,60,66,68,74,76,83])) (.alt false 6 ((.of [36,6,16,60,66,68,74,76,83])) .non)))) .non)))))))))))) [19,20] [2,3] (by rw [hX.hP]; kernel_rfl) (by kernel_rfl) ?_
    refine J.r hX tab_ok 400 (fun _ => rfl) fun b14 => ?_
    refine J.alts ?_ (J.alts ?_ ?_)
    all_goals skip
    · skip
      refine J.r hX tab_ok 400 (fun _ => rfl) fun b15 => ?_
      refine J.alts ?_ ?_
      · skip
        refine J.r hX tab_ok 400 (fun _ => rfl) fun b16 => ?_
        refine J.rt hX tab_ok [] rfl rfl rfl ?_
        exact ⟨rfl, rfl⟩
      · skip
        refine J.r hX tab_ok 400 (fun _ => rfl) fun b17 => ?_
        refine J.rt hX tab_ok [] rfl rfl rfl ?_
        exact ⟨rfl, rfl⟩
    · skip
      refine J.r hX tab_ok 400 (fun _ => rfl) fun b18 => ?_
      refine J.alts ?_ ?_
      · skip
        refine J.r hX tab_ok 400 (fun _ => rfl) fun b19 => ?_
        refine J.rt hX tab_ok [] rfl rfl rfl ?_
        exact ⟨rfl, rfl⟩
      · skip
        refine J.r hX tab_ok 400 (fun _ => rfl) fun b20 => ?_
        refine J.rt hX tab_ok [] rfl rfl rfl ?_
        exact ⟨rfl, rfl⟩
    · skip
      refine J.r hX tab_ok 400 (fun _ => rfl) fun b21 => ?_
      refine J.alts ?_ ?_
      · skip
        refine J.r hX tab_ok 400 (fun _ => rfl) fun b22 => ?_
        refine J.rt hX tab_ok [] rfl rfl rfl ?_
        exact ⟨rfl, rfl⟩
      · skip
        refine J.r hX tab_ok 400 (fun _ => rfl) fun b23 => ?_
        refine J.rt hX tab_ok [] rfl rfl rfl ?_
        exact ⟨rfl, rfl⟩
/-- a row's parity as the reference has it: the first k laid over one another -/
def F9.par (b r m : Int) (l : List En) : Sh := l.foldl (fun s e => F9.over s (W.sh b r m e)) ⟨zeros16, 0, 0, 0, 2, b, r, m⟩
theorem par_len (b r m : Int) (l : List En) (hd : ∀ s ∈ l, s.data.length = 16) : (F9.par b r m l).data.length = 16 := by
  have : ∀ (l : List En) (s : Sh), (∀ s ∈ l, s.data.length = 16) → s.data.length = 16 → (l.foldl (fun s e => F9.over s (W.sh b r m e)) s).data.length = 16 := by
    intro l
    induction l with
    | nil => intro s _ h; exact h
    | cons x l ih => intro s hd h; exact ih _ (fun t ht => hd t (by simp [ht])) (mix_len h (hd x (by simp)) 16 (by omega))
  exact this l _ hd rfl
theorem slots_dI (m : Int) : (if 2 ≤ (dI m).length then ((dI m).length : Int) - 1 else 0) = G.slots m := by
  rw [dI_count, G.slots]
  by_cases h : L.count m < 2
  · rw [if_pos h, if_neg (by omega)]
  · rw [if_neg h, if_pos (by omega)]
theorem f9_Parity (b r m : Int) (A : Atom) (a : Option Addr) (n cap : Nat) (l : List En) (hA : Rd A a 19 n (cellsE l)) (hl : l.length = n) (hd : ∀ s ∈ l, s.data.length = 16) : Fn Tryz.prog 22 [.int .i64 b, .int .i64 r, .int .i64 m, .slice a n cap] [A]
    (fun v As => v = .tuple #[shV (if W.parB b r m l then F9.par b r m l else Sh.zero), .bool (W.parB b r m l)] ∧ As = [A]) := by
  refine Fn.enter [0, 0, 0, 0] Tryz.func22 rfl rfl rfl fun X F hX => ?_
  refine J.r hX tab_ok 400 (fun _ => rfl) fun bb => ?_
  refine J.r hX tab_ok 400 (fun _ => rfl) fun b24 => ?_
  refine J.ca hX (by kernel_rfl) (f6_Slots m) [] 0 rfl rfl rfl rfl rfl rfl (fun _ => rfl) ?_
  rintro v As ⟨rfl, rfl⟩
  refine ⟨_, rfl, trivial, ?_⟩
  rw [slots_dI]
  refine J.r hX tab_ok 400 (fun _ => rfl) fun b25 => ?_
  refine J.cond rfl (fun h1 => ?_) (fun h1 => ?_)
  · refine J.r hX tab_ok 400 (fun _ => rfl) fun b26 => ?_
    refine J.rt hX tab_ok [1] rfl rfl rfl ?_
    have : W.parB b r m l = false := by
      simp only [Bool.or_eq_true, bne_iff_ne, ne_eq, beq_iff_eq] at h1
      unfold W.parB
      rw [hl]
      rcases h1 with h1 | h1
      · simp [h1]
      · have : l = [] := List.eq_nil_of_length_eq_zero (by omega)
        subst this; simp
    exact ⟨by rw [this]; rfl, rfl⟩
  simp only [Bool.or_eq_false_iff, bne_eq_false_iff_eq, beq_eq_false_iff_ne, ne_eq] at h1
  have hsb := gslots_bd m
  have hn : n ≤ 1000 := by omega
  refine J.r hX tab_ok 400 (fun _ => rfl) fun b27 => ?_
  refine J.r hX tab_ok 400 (fun _ => rfl) fun b28 => ?_
  refine J.lo (α := Nat) (fun k => k ≤ n ∧ (l.take k).all (W.ok b r m) = true) (fun k => [⟨11, .int .i64 k, 0, .tt⟩, ⟨3, .slice a n cap, 0, .tt⟩, ⟨10, .pointer (some ⟨bb (0 + 1), 0, none⟩), 4, .tt⟩, ⟨8, .pointer (some ⟨bb 0, 0, none⟩), 3, .tt⟩, ⟨9, .bool false, 0, .tt⟩, ⟨0, .int .i64 b, 0, .tt⟩, ⟨1, .int .i64 r, 0, .tt⟩, ⟨2, .int .i64 m, 0, .tt⟩]) [3] (fun k => [.pt (bb (0 + 1)) 43 (shL (F9.par b r m (l.take k)))]) (fun k => n - k) (0) (⟨Nat.zero_le _, rfl⟩) rfl ?_ (fun _ => rfl) fun k hI => ?_
  · rfl
  have hpl : (F9.par b r m (l.take k)).data.length = 16 := par_len b r m _ (fun s hs => hd s (List.mem_of_mem_take hs))
  refine J.r hX tab_ok 400 (fun _ => rfl) fun b29 => ?_
  refine J.cond rfl (fun h2 => ?_) (fun h2 => ?_)
  · simp only [decide_eq_true_eq, Int.ofNat_lt] at h2
    obtain ⟨e, he0⟩ : ∃ e, l[k]? = some e := ⟨_, List.getElem?_eq_getElem (by omega)⟩
    have hel : e.data.length = 16 := hd e (List.mem_of_getElem? he0)
    refine J.know (p := ∃ g o, a = some ⟨g, o, none⟩) (fun h' s => Rd.addr (hA _ (s.get (i := 1) rfl)) (by omega)) fun hk => ?_
    obtain ⟨g, o, rfl⟩ := hk
    refine J.r hX tab_ok 400 (fun _ => rfl) fun b30 => ?_
    refine J.val hX (enV e) 0 rfl rfl (fun hg a w he hw => ?_) rfl trivial ?_
    · exact rdN_run tab_ok rfl rfl he rfl rfl rfl (hA _ (hw.get (i := 1) rfl)) (by omega) (j := k * 19) (by omega) (by have := cellsE_at l [] k e he0; rwa [List.append_nil] at this) rfl
    refine J.r hX tab_ok 400 (fun _ => rfl) fun b31 => ?_
    refine J.r hX tab_ok 400 (fun _ => rfl) fun b32 => ?_
    refine J.ca hX (by kernel_rfl) (f9_Own b r m e hel) [] 0 rfl rfl rfl rfl rfl rfl (fun _ => rfl) ?_
    rintro v As ⟨rfl, rfl⟩
    refine ⟨_, rfl, trivial, ?_⟩
    have htk : l.take (k + 1) = l.take k ++ [e] := by rw [List.take_add_one, he0]; rfl
    refine J.r hX tab_ok 400 (fun _ => rfl) fun b33 => ?_
    refine J.cond rfl (fun h3 => ?_) (fun h3 => ?_)
    · simp only [Bool.not_eq_true'] at h3
      refine J.r hX tab_ok 400 (fun _ => rfl) fun b34 => ?_
      refine J.rt hX tab_ok [1] rfl rfl rfl ?_
      have : W.parB b r m l = false := by
        unfold W.parB
        have : l.all (W.ok b r m) = false := by
          rw [List.all_eq_false]
          exact ⟨e, List.mem_of_getElem? he0, by simp [h3]⟩
        rw [this]; simp
      exact ⟨by rw [this]; rfl, rfl⟩
    · simp only [Bool.not_eq_false'] at h3
      rw [show W.own b r m e = W.sh b r m e from if_pos h3]
      refine J.r hX tab_ok 400 (fun _ => rfl) fun b35 => ?_
      refine J.r hX tab_ok 400 (fun _ => rfl) fun b36 => ?_
      refine J.ca hX (by kernel_rfl) (f9_over (F9.par b r m (l.take k)) (W.sh b r m e) hpl hel) [] 0 rfl rfl rfl rfl rfl rfl (fun _ => rfl) ?_
      rintro v As ⟨rfl, rfl⟩
      refine ⟨_, rfl, trivial, ?_⟩
      rw [show F9.over (F9.par b r m (l.take k)) (W.sh b r m e) = F9.par b r m (l.take (k + 1)) from by rw [htk, F9.par, F9.par, List.foldl_append]; rfl]
      refine J.r hX tab_ok 400 (fun _ => rfl) fun b37 => ?_
      refine J.r hX tab_ok 400 (fun _ => rfl) fun b38 => ?_
      refine J.nS ((k + 1)) (⟨by omega, by rw [htk, List.all_append, hI.2]; simp [h3]⟩) (by omega) [0, 1, 2, 3] rfl rfl
  · simp only [decide_eq_false_iff_not, Int.ofNat_lt] at h2
    obtain rfl : k = n := by omega
    rw [show l.take k = l from List.take_of_length_le (by omega)] at *
    have hB : W.parB b r m l = true := by
      unfold W.parB
      rw [hI.2, hl, decide_eq_true h1.1]
      have : l.isEmpty = false := by cases l with | nil => exact absurd hl.symm (by simp; omega) | cons _ _ => rfl
      rw [this]; rfl
    refine J.r hX tab_ok 400 (fun _ => rfl) fun b39 => ?_
    refine J.rt hX tab_ok [1] rfl rfl rfl ?_
    exact ⟨by rw [hB]; rfl, rfl⟩
end Go.Proofs.YtmohcbniepdncaaGreat
namespace Go.Proofs.YtmohcbniepdncaaGreat
open Go Go.RowKit
theorem and_mask {D : Nat} (h : D ≤ 6) (x : Int) : ∃ M : Nat, IntKind.i64.wrap ((BitVec.ofInt IntKind.i64.bits x &&& BitVec.ofInt IntKind.i64.bits (mAll D)).toNat : Int) = (M : Int) ∧ M < 2 ^ D := by
  have hp : 2 ^ D ≤ 2 ^ 6 := Nat.pow_le_pow_right (by omega) h
  have h1 : 1 ≤ 2 ^ D := Nat.one_le_two_pow
  have hb : (BitVec.ofInt IntKind.i64.bits (mAll D)).toNat = 2 ^ D - 1 := by
    unfold mAll
    rw [BitVec.ofInt_natCast, BitVec.toNat_ofNat]
    exact Nat.mod_eq_of_lt (by show _ < 2 ^ 64; omega)
  have hle : (BitVec.ofInt IntKind.i64.bits x &&& BitVec.ofInt IntKind.i64.bits (mAll D)).toNat ≤ 2 ^ D - 1 := by
    rw [BitVec.toNat_and, hb]
    exact Nat.and_le_right
  generalize (BitVec.ofInt IntKind.i64.bits x &&& BitVec.ofInt IntKind.i64.bits (mAll D)).toNat = M at hle
  refine ⟨M, ?_, by omega⟩
  simp [IntKind.wrap, IntKind.bits, IntKind.signed]
  omega
theorem s_RowCut (g0 g1 g2 bl mk ops keep : Int) (A : Atom) (al : Option Addr) (nl cl : Nat) (l : List En) (hAl : Rd A al 19 nl (cellsE l)) (hll : l.length = nl) (hcl : nl ≤ cl) (hdl : ∀ s ∈ l, s.data.length = 16) :
    Fn Tryz.prog 5 [.agg #[.int .i64 g0, .int .i64 g1, .int .i64 g2], .int .i64 bl, .int .i64 mk, .slice al nl cl, .int .i64 ops, .int .i64 keep] [A] (fun v As => v = .bool true ∧ As = [A]) := by
  refine Fn.enter [0, 0, 0, 0, 0, 0] Tryz.func5 rfl rfl rfl fun X F hX => ?_
  refine J.r hX tab_ok 400 (fun _ => rfl) fun bb => ?_
  refine J.r hX tab_ok 400 (fun _ => rfl) fun b1 => ?_
  refine J.ca hX (by kernel_rfl) (l11_begun) [] 0 rfl rfl rfl rfl rfl rfl (fun _ => rfl) ?_
  rintro v As ⟨rfl, rfl⟩
  refine ⟨_, rfl, trivial, ?_⟩
  refine J.r hX tab_ok 400 (fun _ => rfl) fun b2 => ?_
  refine J.cond rfl (fun h => absurd h (by decide)) (fun _ => ?_)
  refine J.r hX tab_ok 400 (fun _ => rfl) fun b3 => ?_
  refine J.r hX tab_ok 400 (fun _ => rfl) fun b4 => ?_
  refine J.ca hX (by kernel_rfl) (l6_Geo g0 g1 g2) [] 0 rfl rfl rfl rfl rfl rfl (fun _ => rfl) ?_
  rintro v As ⟨D, B, P, rfl, hD, hB, hP, rfl⟩
  refine ⟨_, rfl, trivial, ?_⟩
  have hgm : geoMay D B P = true := by simp [geoMay]; omega
  refine J.r hX tab_ok 400 (fun _ => rfl) fun b5 => ?_
  refine J.r hX tab_ok 400 (fun _ => rfl) fun b6 => ?_
  refine J.ca hX (by kernel_rfl) (n_New D B P hgm) [] 0 rfl rfl rfl rfl rfl rfl (fun _ => rfl) ?_
  rintro v As ⟨q, rfl, rfl⟩
  refine ⟨_, rfl, trivial, ?_⟩
  have hb1 := tm_bd bl B (by omega)
  have hb2 := tm_2 bl B (by omega)
  have hpw := pow_bd D hD.2
  refine J.r hX tab_ok 400 (fun _ => rfl) fun b7 => ?_
  refine J.plan (.of [0,4,9,12,16,21,24,28,33,36,40]) [9,10] [2] (by rw [hX.hP]; kernel_rfl) (by kernel_rfl) ?_
  refine J.r hX tab_ok 22 (fun _ => rfl) fun b8 => ?_
  obtain ⟨b, hbe⟩ := Int.eq_ofNat_of_zero_le hb2.1
  rw [hbe] at hb2
  have hbB : b < B := by omega
  have hone : 1 ≤ 2 ^ D := Nat.one_le_two_pow
  have eall : (1 * 2 ^ min (D : Int).toNat IntKind.i64.bits - 1 : Int) = mAll D := by rw [hpw.1]; unfold mAll; omega
  obtain ⟨mm, hM1, hM2⟩ := and_mask hD.2 mk
  have hM3 : 0 ≤ (mm : Int) ∧ (mm : Int) < 2 ^ D := ⟨by omega, by exact_mod_cast hM2⟩
  rw [hbe, eall, hM1]
  have e8 : ∀ n : Nat, (if (8 : Int) < (n : Int) then 8 else (n : Int)) = ((min n 8 : Nat) : Int) := fun n => by split <;> omega
  obtain ⟨n8, hn8⟩ : ∃ x, min nl 8 = x := ⟨_, rfl⟩
  obtain ⟨l8, hl8⟩ : ∃ x, l.take n8 = x := ⟨_, rfl⟩
  have R1 : Rd A al 19 n8 (cellsE l8) := by rw [← hl8, ← cellsE_take]; exact hAl.take n8 (by omega)
  have L1 : l8.length = n8 := by rw [← hl8, List.length_take]; omega
  have D1 : ∀ s ∈ l8, s.data.length = 16 := fun s hs => hdl s (by rw [← hl8] at hs; exact List.mem_of_mem_take hs)
  refine J.r hX tab_ok 7 (fun _ => rfl) fun b9 => ?_
  rw [e8, hn8]
  refine J.val hX (.slice al n8 cl) 0 rfl rfl (fun _ a w he hC => cut_run rfl rfl rfl he rfl rfl (by omega)) rfl trivial ?_
  refine J.r hX tab_ok 400 (fun _ => rfl) fun b10 => ?_
  refine J.r hX tab_ok 400 (fun _ => rfl) fun b11 => ?_
  refine J.ca hX (by kernel_rfl) (f9_Parity b 0 mm A al n8 cl l8 R1 L1 D1) [1] 0 rfl rfl rfl rfl rfl rfl (fun _ => rfl) ?_
  rintro v As ⟨rfl, rfl⟩
  refine ⟨_, rfl, trivial, ?_⟩
  refine J.r hX tab_ok 400 (fun _ => rfl) fun b12 => ?_
  refine J.r hX tab_ok 400 (fun _ => rfl) fun b13 => ?_
  refine J.cond rfl (fun h1 => ?_) (fun h1 => ?_)
  · refine J.r hX tab_ok 400 (fun _ => rfl) fun b14 => ?_
    refine J.rt hX tab_ok [1] rfl rfl rfl ?_
    exact ⟨rfl, rfl⟩
  simp only [Bool.or_eq_false_iff, Bool.not_eq_false', decide_eq_false_iff_not] at h1
  obtain ⟨⟨⟨⟨hPB, ho1⟩, ho2⟩, hk1⟩, hk2⟩ := h1
  obtain ⟨n, rfl⟩ := Int.eq_ofNat_of_zero_le (show 0 ≤ ops by omega)
  obtain ⟨K, rfl⟩ := Int.eq_ofNat_of_zero_le (show 0 ≤ keep by omega)
  obtain ⟨law1, law2, law3⟩ := cut_law (n := n) (K := K) hD hB hP hbB hM3 D1 hPB (by omega)
  have G0 : (Nand.new D B P).Gd 1000 0 := Nand.Gd.new D B P hgm 1000 (by decide)
  have G1 : (cuN0 D B P n K).Gd 1000 0 := G0.cut n K (by omega) (by omega)
  have G2 : (cuN1 D B P b n K mm l8).Gd 992 0 := write_Gd D1 (G1.less (by decide) (Nat.le_refl _))
  have G3 : (cuN2 D B P b n K mm l8).Gd 992 0 := G2.on
  refine J.r hX tab_ok 400 (fun _ => rfl) fun b15 => ?_
  refine J.r hX tab_ok 400 (fun _ => rfl) fun b16 => ?_
  refine J.ca hX (by kernel_rfl) (n_Cut q (Nand.new D B P) n K) [3] 0 rfl rfl rfl rfl rfl rfl (fun _ => rfl) ?_
  rintro v As ⟨rfl, rfl⟩
  refine ⟨_, rfl, trivial, ?_⟩
  refine J.r hX tab_ok 400 (fun _ => rfl) fun b17 => ?_
  refine J.r hX tab_ok 400 (fun _ => rfl) fun b18 => ?_
  refine J.ca hX (by kernel_rfl) (r_Write q (cuN0 D B P n K) A b 0 mm al n8 cl 0 l8 R1 L1 D1 (G1.less (by decide) (Nat.le_refl _))) [3, 1] 0 rfl rfl rfl rfl rfl rfl (fun _ => rfl) ?_
  rintro v As ⟨rfl, rfl⟩
  refine ⟨_, rfl, trivial, ?_⟩
  refine J.r hX tab_ok 400 (fun _ => rfl) fun b19 => ?_
  rw [law1]
  refine J.r hX tab_ok 400 (fun _ => rfl) fun b20 => ?_
  refine J.cond rfl (fun w1 => ?_) (fun w1 => ?_)
  · exfalso
    rw [L1] at w1
    by_cases h : n ≤ n8
    · rw [if_pos h, decide_eq_true (show (n : Int) ≤ (n8 : Int) by omega)] at w1; simp at w1
    · rw [if_neg h, decide_eq_false (show ¬ (n : Int) ≤ (n8 : Int) by omega)] at w1; simp at w1
  refine J.r hX tab_ok 400 (fun _ => rfl) fun b21 => ?_
  refine J.r hX tab_ok 400 (fun _ => rfl) fun b22 => ?_
  refine J.ca hX (by kernel_rfl) (n_On q (cuN1 D B P b n K mm l8)) [3] 0 rfl rfl rfl rfl rfl rfl (fun _ => rfl) ?_
  rintro v As ⟨rfl, rfl⟩
  refine ⟨_, rfl, trivial, ?_⟩
  refine J.r hX tab_ok 400 (fun _ => rfl) fun b23 => ?_
  refine J.r hX tab_ok 400 (fun _ => rfl) fun b24 => ?_
  refine J.ca hX (by kernel_rfl) (r_All q (cuN2 D B P b n K mm l8) G3.ok G3.room b 0) [3] 0 rfl rfl rfl rfl rfl rfl (fun _ => rfl) ?_
  rintro v As ⟨af, cf, rfl, rfl⟩
  refine ⟨_, rfl, trivial, ?_⟩
  generalize hF : R.all (cuN2 D B P b n K mm l8) b 0 = FF at law2 law3
  have hFl : FF.length ≤ 42 := by
    rw [← hF]
    have := outI_len (cuN2 D B P b n K mm l8) b 0 (M.masks (cuN2 D B P b n K mm l8) b 0).length (by have := G3.ok.bd; omega)
    unfold outI at this; rw [List.take_length] at this; exact this
  refine J.r hX tab_ok 400 (fun _ => rfl) fun b25 => ?_
  refine J.r hX tab_ok 400 (fun _ => rfl) fun b26 => ?_
  refine J.lo (α := Nat) (fun i => i ≤ FF.length) (fun i => [⟨20, .int .i64 i, 0, .tt⟩, ⟨19, slv af FF.length cf, 0, .tt⟩, ⟨3, .slice al n8 cl, 0, .tt⟩, ⟨4, .int .i64 n, 0, .tt⟩, ⟨5, .int .i64 K, 0, .tt⟩]) [] (fun i => []) (fun i => FF.length - i) (0) (Nat.zero_le _) rfl ?_ (fun _ => rfl) fun i hI => ?_
  · rfl
  refine J.r hX tab_ok 400 (fun _ => rfl) fun b27 => ?_
  refine J.cond rfl (fun h2 => ?_) (fun h2 => ?_)
  · simp only [decide_eq_true_eq, Int.ofNat_lt] at h2
    refine J.know (fun h' s => own_some (c := (af, cf)) (by omega) (s.get (i := 5) rfl)) fun hg => ?_
    obtain ⟨gf, rfl⟩ := hg
    obtain ⟨x, hx⟩ : ∃ x, FF[i]? = some x := ⟨_, List.getElem?_eq_getElem h2⟩
    obtain ⟨hw, k, hk, hkn, hmk⟩ := law2 x (List.mem_of_getElem? hx)
    have hkm : k < n8 := by rw [← L1]; exact (List.getElem?_eq_some_iff.1 hmk).1
    have hxd : x.en.data.length = 16 := D1 _ (List.mem_of_getElem? hmk)
    refine J.r hX tab_ok 400 (fun _ => rfl) fun b28 => ?_
    refine J.val hX (.bool x.whole) 0 rfl rfl (fun hg a w he hw => own1_run tab_ok rfl rfl he rfl rfl rfl (hw.get (i := 5) rfl) (by rw [show 0 + (i : Int).toNat * 25 + 23 = i * 25 + 23 from by omega, cellsF_cell hx 23 (by decide)]; rfl)) rfl trivial ?_
    refine J.r hX tab_ok 400 (fun _ => rfl) fun b29 => ?_
    refine J.cond rfl (fun h3 => ?_) (fun h3 => ?_)
    · exfalso
      simp only [Bool.and_eq_true, decide_eq_true_eq] at h3
      have := hw (by omega)
      rw [L1] at this
      rw [this] at h3
      have h4 := h3.1
      by_cases h : n8 < n
      · rw [decide_eq_true h, decide_eq_true (show (n : Int) > (n8 : Int) by omega)] at h4; simp at h4
      · rw [decide_eq_false h, decide_eq_false (show ¬ (n : Int) > (n8 : Int) by omega)] at h4; simp at h4
    refine J.know (p := ∃ g o, al = some ⟨g, o, none⟩) (fun h' s => Rd.addr (R1 _ (s.get (i := 1) rfl)) (by omega)) fun hk => ?_
    obtain ⟨gm, om, rfl⟩ := hk
    refine J.r hX tab_ok 400 (fun _ => rfl) fun b30 => ?_
    refine J.plan (.of [0,4,8,12,17,20,24,28,32,36,40,45,48,53,56,60,64,68,72,76,80,85,88,92,96]) [] [1,5] (by rw [hX.hP]; kernel_rfl) (by kernel_rfl) ?_
    refine J.r hX tab_ok 4 (fun _ => rfl) fun b31 => ?_
    refine J.valT hX (enV x.en) 0 rfl rfl (fun hg a w he hC => ownN_run tab_ok rfl rfl he rfl rfl rfl (hC rfl _ (cget_mem (i := 5) rfl)) (by rw [show 0 + (i : Int).toNat * 25 + 0 = i * 25 from by omega]; exact cellsF_en hx) rfl) rfl ?_
    refine J.r hX tab_ok 400 (fun _ => rfl) fun b32 => ?_
    refine J.valT hX (.int .i64 k) 0 rfl rfl (fun hg a w he hC => own1_run tab_ok rfl rfl he rfl rfl rfl (hC rfl _ (cget_mem (i := 5) rfl)) (by rw [show 0 + (i : Int).toNat * 25 + 19 + 2 = i * 25 + 21 from by omega, cellsF_cell hx 21 (by decide), ← hk]; rfl)) rfl ?_
    refine J.r hX tab_ok 400 (fun _ => rfl) fun b33 => ?_
    refine J.valT hX (enV x.en) 0 rfl rfl (fun hg a w he hC => rdN_run tab_ok rfl rfl he rfl rfl rfl (R1 _ (hC rfl _ (cget_mem (i := 1) rfl))) (by omega) (j := k * 19) (by omega) (cellsE_get hmk) rfl) rfl ?_
    refine J.valT hX (.bool false) 0 rfl rfl (fun hg a w he hC => (neAgg_run (xs := enL x.en) (ys := enL x.en) rfl rfl rfl he rfl rfl leavesEn (fitsEn _) (fitsEn _) mkEn gdEn).trans (by rw [(eqEn _ _ hxd hxd).2 rfl]; rfl)) rfl ?_
    refine J.r hX tab_ok 400 (fun _ => rfl) fun b34 => ?_
    refine J.valT hX (.int .i64 k) 0 rfl rfl (fun hg a w he hC => own1_run tab_ok rfl rfl he rfl rfl rfl (hC rfl _ (cget_mem (i := 5) rfl)) (by rw [show 0 + (i : Int).toNat * 25 + 19 + 2 = i * 25 + 21 from by omega, cellsF_cell hx 21 (by decide), ← hk]; rfl)) rfl ?_
    refine J.r hX tab_ok 400 (fun _ => rfl) fun b35 => ?_
    refine J.cond rfl (fun h4 => ?_) (fun h4 => ?_)
    · exfalso
      simp only [Bool.false_or, decide_eq_true_eq] at h4
      omega
    refine J.r hX tab_ok 400 (fun _ => rfl) fun b36 => ?_
    refine J.r hX tab_ok 400 (fun _ => rfl) fun b37 => ?_
    refine J.nS (i + 1) (by omega) (by omega) [0, 1, 2, 3, 4, 5] rfl rfl
  simp only [decide_eq_false_iff_not, Int.ofNat_lt] at h2
  obtain rfl : i = FF.length := by omega
  obtain ⟨c8, hc8⟩ : ∃ x, min n n8 = x := ⟨_, rfl⟩
  have emin : (if (n8 : Int) < (n : Int) then (n8 : Int) else (n : Int)) = (c8 : Int) := by split <;> omega
  have hcl8 : ∀ i, ((l8.take i).filter fun e => e.role != 3).length ≤ i := fun i => Nat.le_trans (List.length_filter_le _ _) (by rw [List.length_take]; omega)
  refine J.r hX tab_ok 400 (fun _ => rfl) fun b38 => ?_
  refine J.r hX tab_ok 400 (fun _ => rfl) fun b39 => ?_
  refine J.lo (α := Nat) (fun i => i ≤ c8) (fun i => [⟨22, .int .i64 i, 0, .tt⟩, ⟨21, .int .i64 ((l8.take i).filter fun e => e.role != 3).length, 0, .tt⟩, ⟨19, slv af FF.length cf, 0, .tt⟩, ⟨3, .slice al n8 cl, 0, .tt⟩, ⟨4, .int .i64 n, 0, .tt⟩]) [] (fun i => []) (fun i => c8 - i) (0) (Nat.zero_le _) rfl ?_ (fun _ => rfl) fun i hI => ?_
  · rfl
  have hcc := hcl8 i
  refine J.r hX tab_ok 400 (fun _ => rfl) fun b40 => ?_
  rw [emin]
  refine J.r hX tab_ok 400 (fun _ => rfl) fun b41 => ?_
  refine J.cond rfl (fun h2 => ?_) (fun h2 => ?_)
  · simp only [decide_eq_true_eq, Int.ofNat_lt] at h2
    obtain ⟨x, hx⟩ : ∃ x, l8[i]? = some x := ⟨_, List.getElem?_eq_getElem (by omega)⟩
    have hfs := filter_succ (fun e => e.role != 3) l8 i x hx
    refine J.know (p := ∃ g o, al = some ⟨g, o, none⟩) (fun h' s => Rd.addr (R1 _ (s.get (i := 1) rfl)) (by omega)) fun hk => ?_
    obtain ⟨gm, om, rfl⟩ := hk
    refine J.r hX tab_ok 400 (fun _ => rfl) fun b42 => ?_
    refine J.val hX (.int .i64 x.role) 0 rfl rfl (fun hg a w he hw => rd1_run tab_ok rfl rfl he rfl rfl rfl (R1 _ (hw.get (i := 1) rfl)) (by omega) (j := i * 19 + 2) (by omega) (by rw [cellsE_cell hx 2 (by decide)]; rfl)) rfl trivial ?_
    refine J.r hX tab_ok 400 (fun _ => rfl) fun b43 => ?_
    refine J.cond rfl (fun h3 => ?_) (fun h3 => ?_)
    · rw [if_pos h3] at hfs
      refine J.r hX tab_ok 400 (fun _ => rfl) fun b44 => ?_
      have e22 : (((l8.take i).filter fun e => e.role != 3).length : Int) + 1 = (((l8.take (i + 1)).filter fun e => e.role != 3).length : Int) := by omega
      rw [e22]
      refine J.r hX tab_ok 400 (fun _ => rfl) fun b45 => ?_
      refine J.nS (i + 1) (by omega) (by omega) [0, 1, 2, 3, 4, 5] rfl rfl
    · rw [if_neg (by rw [h3]; simp)] at hfs
      have e22 : (((l8.take i).filter fun e => e.role != 3).length : Int) = (((l8.take (i + 1)).filter fun e => e.role != 3).length : Int) := by omega
      rw [e22]
      refine J.r hX tab_ok 400 (fun _ => rfl) fun b46 => ?_
      refine J.r hX tab_ok 400 (fun _ => rfl) fun b47 => ?_
      refine J.nS (i + 1) (by omega) (by omega) [0, 1, 2, 3, 4, 5] rfl rfl
  simp only [decide_eq_false_iff_not, Int.ofNat_lt] at h2
  obtain rfl : i = c8 := by omega
  rw [L1, hc8] at law3
  refine J.r hX tab_ok 400 (fun _ => rfl) fun b48 => ?_
  rw [decide_eq_true (show (FF.length : Int) ≥ (((l8.take i).filter fun e => e.role != 3).length : Int) by omega)]
  refine J.r hX tab_ok 400 (fun _ => rfl) fun b49 => ?_
  refine J.rt hX tab_ok [1] rfl rfl rfl ?_
  exact ⟨rfl, rfl⟩
end Go.Proofs.YtmohcbniepdncaaGreat
