/- Helpers of the proofs about ostrakonlaw11, proved here: Dsk, SvD, BgK, BgL, DskZ, Lz, PlDk. No condition. -/
import Derived.Test.YtoideahgjgaddaaGreatQ13
import Derived.Test.YtoideahgjgaddaaGreatQ16
import Derived.Test.YtoideahgjgaddaaGreatQ18
import Derived.Test.YtoideahgjgaddaaGreatQ20
import Derived.Test.YtoideahgjgaddaaGreatQ21
import Derived.Test.YtoideahgjgaddaaGreatQ22
import Derived.Test.YtoideahgjgaddaaGreatQ25
set_option maxRecDepth 20000
set_option linter.unusedVariables false
set_option linter.unusedSimpArgs false
set_option linter.unusedSectionVars false
set_option linter.unnecessarySimpa false
namespace Go.Proofs.YtoideahgjgaddaaGreat
open Go Go.RowKit
theorem cutE_run {E : Env} {n : Nat} {ac : Act} {w : World} {o : Oper} {x y : Operand} {k1 k2 t1 t2 : Nat} {g1 g2 : G} {a : Option Addr} {m c h : Nat} {kk : IntKind} {hI : Int} (hop : o.op = .slice 31 x none (some y) none) (hx : ev E x = some ⟨k1, .slice a m c, t1, g1⟩) (hy : ev E y = some ⟨k2, .int kk hI, t2, g2⟩) (he : EnvOK n E ac) (v1 : g1.on = true) (v2 : g2.on = true) (hh : hI = (h : Int)) (hc : h ≤ c) :
  (execOp ac.eval o).run Tryz.prog w = .ok (.value (.slice a h c)) w := by
 subst hh
 have e1 := ev_spec he hx
 have e2 := ev_spec he hy
 simp only [Slot.val, v1, v2] at e1 e2
 obtain ⟨d, f, zv, ok⟩ := tiOf_spec (tk.get (t := 31) rfl)
 obtain ⟨fe, rfl, g1, g2⟩ := ok.slice rfl
 have h0 : ∀ ad : Addr, ad.add 0 = ad := fun ad => by unfold Addr.add; rw [if_pos rfl]
 cases a with
 | none =>
  simp only [execOp, hop, Option.map_some, Option.map_none, e1, e2, Instr.sliceAt, Instr.slice, Instr.sliceBounds, Instr.sliceBound, asIntOf, Sem.run_bind, Sem.run_pure, Result.andThen_ok, underlying_run ok.hd, sizeOf_run g1, g2]
  simp [hc, h0]
 | some ad =>
  simp only [execOp, hop, Option.map_some, Option.map_none, e1, e2, Instr.sliceAt, Instr.slice, Instr.sliceBounds, Instr.sliceBound, asIntOf, Sem.run_bind, Sem.run_pure, Result.andThen_ok, underlying_run ok.hd, sizeOf_run g1, g2]
  simp [hc, h0]
theorem ownP_cap {e size : Nat} {a : Option Nat} {n cap : Nat} {xs : List Value} {h : Hl} (s : ownP e size a n cap xs h) : n ≤ cap := by
 obtain ⟨_, s⟩ := s
 cases a with
 | none => obtain ⟨rfl, rfl⟩ := s; exact Nat.le_refl _
 | some g => obtain ⟨_, _, h, _⟩ := s; exact h
theorem cellsE_take' (l : List En) : ∀ k, (cellsE l).take (k * 19) = cellsE (l.take k) := by
 induction l with
 | nil => intro k; simp [cellsE]
 | cons x l ih =>
  intro k
  cases k with
  | zero => simp [cellsE]
  | succ k =>
   have e1 : cellsE (x :: l) = enL x ++ cellsE l := by simp [cellsE]
   have e2 : cellsE (x :: l.take k) = enL x ++ cellsE (l.take k) := by simp [cellsE]
   rw [e1, List.take_succ_cons, e2, ← ih k, show (k + 1) * 19 = (enL x).length + k * 19 from by show _ = 19 + k * 19; omega, List.take_length_add_append]
theorem cellsE_snoc (l : List En) (e : En) : cellsE l ++ enL e = cellsE (l ++ [e]) := by simp [cellsE]
theorem x_CloneP (a : Option Nat) (N cap cap2 k : Nat) (l : List En) (hl : l.length = N) (hk : k ≤ N) (hn : N ≤ 1000000) : Fn Tryz.prog 70 [slv a k cap2] [ownA 45 19 a N cap (cellsE l)]
  (fun v As => ∃ a' c', v = slv a' k c' ∧ As = [ownA 45 19 a N cap (cellsE l), ownA 45 19 a' k c' (cellsE (l.take k))]) := by
 refine Fn.enter [0] Tryz.func70 rfl rfl rfl fun X F hX => ?_
 cases a with
 | none =>
  refine J.know (fun h' s => (s.get (i := 1) rfl).2) fun hn0 => ?_
  obtain ⟨rfl, rfl⟩ := hn0
  obtain rfl : k = 0 := by omega
  have : l = [] := List.eq_nil_of_length_eq_zero hl
  subst this
  refine J.r hX tk 400 (fun _ => rfl) fun b1 => ?_
  refine J.cond rfl (fun _ => ?_) (fun h => by simp at h)
  refine J.turn1 [] rfl (As := [ownA 45 19 none 0 0 (cellsE [])]) (fun h s => Sep.one ⟨rfl, rfl, rfl⟩) rfl ?_
  refine J.r hX tk 400 (fun _ => rfl) fun b2 => ?_
  refine J.rt hX tk [1, 2] rfl rfl rfl ?_
  exact ⟨none, 0, rfl, rfl⟩
 | some g =>
  refine J.r hX tk 400 (fun _ => rfl) fun b3 => ?_
  refine J.cond rfl (fun h => by simp at h) (fun _ => ?_)
  refine J.r hX tk 5 (fun _ => rfl) fun bb => ?_
  refine J.closeOwn (e := 45) (size := 19) (n := 0) (cap := 0) (xs := []) 2 rfl rfl rfl (Nat.le_refl _) (Nat.zero_le _) rfl rfl rfl ?_
  refine J.r hX tk 400 (fun _ => rfl) fun b4 => ?_
  have hRd : Rd (ownA 45 19 (some g) N cap (cellsE l)) (some ⟨g, 0, none⟩) 19 k (cellsE (l.take k)) := by
   have := (own_rd 45 19 (some g) N cap (cellsE l)).take k hk
   rwa [cellsE_take'] at this
  refine J.appendR hX tk (a := some (bb 0)) (n := 0) (cap := 0) (xs := []) (oo := 0) (Ay := ownA 45 19 (some g) N cap (cellsE l)) 2 1 0 rfl rfl rfl rfl rfl rfl rfl rfl rfl rfl hRd rfl rfl rfl rfl (cellsE_one _) ?_ ?_ (fun _ => rfl) fun a' c' => ⟨_, rfl, trivial, ?_⟩
  ·simp only [maxLen]; omega
  ·omega
  rw [Nat.zero_add k, List.nil_append]
  refine J.r hX tk 400 (fun _ => rfl) fun b5 => ?_
  refine J.rt hX tk [1, 2] rfl rfl rfl ?_
  exact ⟨a', c', rfl, rfl⟩
theorem x_IndexR (c : Nat) (cs : List Value) (p : En → Bool) (A B : Atom) (hcal : callable Tryz.prog c = true) (l : List En) (hf : ∀ x ∈ l, Fn Tryz.prog c (enV x :: cs) [A] (fun v As => v = .bool (p x) ∧ As = [A]))
  (a : Option Addr) (n cap : Nat) (hB : Rd B a 19 n (cellsE l)) (hl : l.length = n) (hn : n ≤ 4611686018427387904) : Fn Tryz.prog 75 [.slice a n cap, fnC c cs] [B, A]
  (fun v As => v = .int .i64 (idxE p l) ∧ As = [B, A]) := by
 refine Fn.enter [0, 0] Tryz.func75 rfl rfl rfl fun X F hX => ?_
 refine J.r hX tk 400 (fun _ => rfl) fun b6 => ?_
 refine J.lo (α := Nat) (fun k => k ≤ n ∧ ∀ i < k, p (l.getD i En.zero) = false) (fun k => [⟨8, .int .i64 k, 0, .tt⟩, ⟨7, .int .i64 n, 0, .tt⟩, ⟨0, .slice a n cap, 0, .tt⟩, ⟨1, fnC c cs, 0, .tt⟩]) [] (fun k => []) (fun k => n - k) (0) (⟨by omega, by omega⟩) rfl ?_ (fun _ => rfl) fun k hI => ?_
 ·rfl
 refine J.r hX tk 400 (fun _ => rfl) fun b8 => ?_
 refine J.cond rfl (fun h1 => ?_) (fun h1 => ?_)
 ·simp only [decide_eq_true_eq, Int.ofNat_lt] at h1
  refine J.know (p := ∃ g o, a = some ⟨g, o, none⟩) (fun h' s => Rd.addr (hB _ (s.get (i := 1) rfl)) (by omega)) fun hk => ?_
  obtain ⟨g, o, rfl⟩ := hk
  have hk : l[k]? = some (l.getD k En.zero) := by rw [List.getD_eq_getElem?_getD, List.getElem?_eq_getElem (by omega), Option.getD_some]
  refine J.r hX tk 400 (fun _ => rfl) fun b9 => ?_
  refine J.val hX (enV (l.getD k En.zero)) 0 rfl rfl (fun hg a w he hs => ?_) rfl trivial ?_
  ·exact rdN_run tk rfl rfl he rfl rfl rfl (hB _ (hs.get (i := 1) rfl)) (by omega) (j := k * 19) (by omega) (by have := cellsE_at l [] k _ hk; rwa [List.append_nil] at this) rfl
  refine J.r hX tk 400 (fun _ => rfl) fun b10 => ?_
  refine J.call hX hcal (hf (l.getD k En.zero) (List.mem_of_getElem? hk)) [2] 0 rfl rfl rfl rfl (by (repeat' (first | exact Conj.nil | refine Conj.cons ?_ ?_ | omega | exact hq0 | (simpa using hq0) | (exact fun h => h) | exact rfl | (intro hq; have hq0 := hq; try simp only [Bool.and_eq_true, Bool.or_eq_true, decide_eq_true_eq, Bool.not_eq_true', decide_eq_false_iff_not] at hq) | (simp; done) | (simp; omega) | decide))) rfl rfl (fun _ => rfl) ?_
  rintro v As ⟨rfl, rfl⟩
  refine ⟨_, rfl, trivial, ?_⟩
  refine J.r hX tk 400 (fun _ => rfl) fun b11 => ?_
  refine J.cond rfl (fun h2 => ?_) (fun h2 => ?_)
  ·refine J.r hX tk 400 (fun _ => rfl) fun b12 => ?_
   refine J.rt hX tk [1, 2] rfl rfl rfl ?_
   exact ⟨by rw [idxE, idxE_step hk hI.2 h2], rfl⟩
  ·refine J.r hX tk 400 (fun _ => rfl) fun b13 => ?_
   refine J.nx (k + 1) (⟨by omega, fun i hi => by
    rcases Nat.lt_succ_iff_lt_or_eq.1 hi with h3 | h3
    ·exact hI.2 i h3
    ·rw [h3]; exact h2⟩) (by omega) (fun _ s => s)
 ·simp only [decide_eq_false_iff_not, Int.ofNat_lt] at h1
  refine J.r hX tk 400 (fun _ => rfl) fun b14 => ?_
  refine J.rt hX tk [1, 2] rfl rfl rfl ?_
  exact ⟨by rw [idxE, idxE_none (fun i hi => hI.2 i (by omega))], rfl⟩
theorem x_ContainsR (c : Nat) (cs : List Value) (p : En → Bool) (A B : Atom) (hcal : callable Tryz.prog c = true) (l : List En) (hf : ∀ x ∈ l, Fn Tryz.prog c (enV x :: cs) [A] (fun v As => v = .bool (p x) ∧ As = [A]))
  (a : Option Addr) (n cap : Nat) (hB : Rd B a 19 n (cellsE l)) (hl : l.length = n) (hn : n ≤ 4611686018427387904) : Fn Tryz.prog 73 [.slice a n cap, fnC c cs] [B, A]
  (fun v As => v = .bool (l.any p) ∧ As = [B, A]) := by
 refine Fn.enter [0, 0] Tryz.func73 rfl rfl rfl fun X F hX => ?_
 refine J.r hX tk 400 (fun _ => rfl) fun b15 => ?_
 refine J.ca hX (by kernel_rfl) (x_IndexR c cs p A B hcal l hf a n cap hB hl hn) [1, 2] 0 rfl rfl rfl rfl rfl rfl (fun _ => rfl) ?_
 rintro v As ⟨rfl, rfl⟩
 refine ⟨_, rfl, trivial, ?_⟩
 refine J.r hX tk 400 (fun _ => rfl) fun b17 => ?_
 refine J.rt hX tk [1, 2] rfl rfl rfl ?_
 exact ⟨by rw [← idxE_any], rfl⟩
def DeskA (d : Nat) (L : List En) : Atom := exA fun x : Option Nat × Nat => [.pt d 150 [slv x.1 L.length x.2], ownA 45 19 x.1 L.length x.2 (cellsE L)]
theorem d_New : Fn Tryz.prog 26 [] [] (fun v As => ∃ d, v = .pointer (some ⟨d, 0, none⟩) ∧ As = [DeskA d []]) := by
 refine Fn.enter [] Tryz.func26 rfl rfl rfl fun X F hX => ?_
 refine J.r hX tk 400 (fun _ => rfl) fun bs => ?_
 refine J.turn1 [] rfl (As := [ownA 45 19 none 0 0 (cellsE [])]) (fun h s => Sep.one ⟨rfl, rfl, rfl⟩) rfl ?_
 refine J.close (f := fun x : Option Nat × Nat => [.pt (bs 0) 150 [slv x.1 ([] : List En).length x.2], ownA 45 19 x.1 ([] : List En).length x.2 (cellsE [])]) (none, 0) [1, 2] rfl rfl rfl ?_
 refine J.r hX tk 400 (fun _ => rfl) fun b18 => ?_
 refine J.rt hX tk [1] rfl rfl rfl ?_
 exact ⟨bs 0, rfl, rfl⟩
theorem d_Len (d : Nat) (L : List En) : Fn Tryz.prog 31 [.pointer (some ⟨d, 0, none⟩)] [DeskA d L] (fun v As => v = .int .i64 L.length ∧ As = [DeskA d L]) := by
 refine Fn.enter [2] Tryz.func31 rfl rfl rfl fun X F hX => ?_
 refine J.open_ (α := (Option Nat × Nat)) 1 rfl rfl (fun _ => rfl) fun x => ?_
 refine J.r hX tk 400 (fun _ => rfl) fun b19 => ?_
 refine J.cond rfl (fun h => by simp at h) (fun _ => ?_)
 refine J.r hX tk 400 (fun _ => rfl) fun b20 => ?_
 refine J.close (f := fun x : Option Nat × Nat => [.pt d 150 [slv x.1 L.length x.2], ownA 45 19 x.1 L.length x.2 (cellsE L)]) x [1, 2] rfl rfl rfl ?_
 refine J.r hX tk 400 (fun _ => rfl) fun b21 => ?_
 refine J.rt hX tk [1] rfl rfl rfl ?_
 exact ⟨rfl, rfl⟩
theorem d_Put1 (b : Nat) (e x : En) : Fn Tryz.prog 77 [enV x, .pointer (some ⟨b, 0, none⟩)] [.pt b 45 (enL e)] (fun v As => v = .bool (x.lpn == e.lpn) ∧ As = [.pt b 45 (enL e)]) := by
 refine Fn.enter [0, 2] Tryz.func77 rfl rfl rfl fun X F hX => ?_
 refine J.r hX tk 400 (fun _ => rfl) fun b22 => ?_
 refine J.rt hX tk [1] rfl rfl rfl ?_
 exact ⟨rfl, rfl⟩
def dkPut (L : List En) (e : En) : List En := (L.filter fun x => !(x.lpn == e.lpn)) ++ [e]
theorem d_Put (d : Nat) (L : List En) (hL : L.length ≤ 100000) (e : En) : Fn Tryz.prog 30 [.pointer (some ⟨d, 0, none⟩), enV e] [DeskA d L] (fun v As => v = .tuple #[] ∧ As = [DeskA d (dkPut L e)]) := by
 refine Fn.enter [2, 0] Tryz.func30 rfl rfl rfl fun X F hX => ?_
 refine J.open_ (α := (Option Nat × Nat)) 1 rfl rfl (fun _ => rfl) fun x => ?_
 obtain ⟨a, c⟩ := x
 refine J.r hX tk 400 (fun _ => rfl) fun bb => ?_
 refine J.cond rfl (fun h => by simp at h) (fun _ => ?_)
 refine J.r hX tk 400 (fun _ => rfl) fun b24 => ?_
 refine J.ca hX (by kernel_rfl) (x_DeleteE 77 [.pointer (some ⟨bb 0, 0, none⟩)] (fun x => x.lpn == e.lpn) (.pt (bb 0) 45 (enL e)) (by kernel_rfl) (fun x => d_Put1 (bb 0) e x) a L.length c L rfl (by omega)) [2, 3] 0 rfl rfl rfl rfl rfl rfl (fun _ => rfl) ?_
 rintro v As ⟨l', hl', rfl, rfl⟩
 refine ⟨_, rfl, trivial, ?_⟩
 have hll : l'.length ≤ L.length := by rw [hl']; exact List.length_filter_le _ _
 have hput : dkPut L e = l' ++ [e] := by unfold dkPut; rw [hl']
 refine J.r hX tk 400 (fun _ => rfl) fun b26 => ?_
 refine J.plan (.of [0,4,8,12,17,21,26,30,32,36,43]) [8,9,10] [1,3] (by rw [hX.hP]; kernel_rfl) (by kernel_rfl) ?_
 refine J.r hX tk 400 (fun _ => rfl) fun b27 => ?_
 refine J.append hX tk 2 4 0 rfl rfl rfl rfl rfl rfl rfl rfl rfl rfl rfl rfl rfl rfl rfl rfl ?_ ?_ (fun _ => rfl) fun a2 c2 => ⟨_, (congrArg (fun z => lset _ 2 (ownA _ _ _ _ _ z)) (cellsE_snoc l' e)).trans rfl, ⟨rfl, rfl, trivial⟩, ?_⟩
 ·simp only [maxLen]; omega
 ·omega
 refine J.r hX tk 400 (fun _ => rfl) fun b28 => ?_
 rw [show l'.length + 1 = (dkPut L e).length from by rw [hput]; simp, ← hput]
 refine J.close (f := fun x : Option Nat × Nat => [.pt d 150 [slv x.1 (dkPut L e).length x.2], ownA 45 19 x.1 (dkPut L e).length x.2 (cellsE (dkPut L e))]) (a2, c2) [1, 2] rfl rfl rfl ?_
 refine J.r hX tk 400 (fun _ => rfl) fun b29 => ?_
 refine J.fi hX tk [1] rfl rfl rfl ?_
 exact ⟨rfl, rfl⟩
theorem d_Get1 (b : Nat) (k : Int) (x : En) : Fn Tryz.prog 76 [enV x, .pointer (some ⟨b, 0, none⟩)] [.pt b 3 [.int .i64 k]] (fun v As => v = .bool (x.lpn == k) ∧ As = [.pt b 3 [.int .i64 k]]) := by
 refine Fn.enter [0, 2] Tryz.func76 rfl rfl rfl fun X F hX => ?_
 refine J.r hX tk 400 (fun _ => rfl) fun b30 => ?_
 refine J.rt hX tk [1] rfl rfl rfl ?_
 exact ⟨rfl, rfl⟩
def dkGet (L : List En) (k : Int) : En × Bool := match L.find? (fun x => x.lpn == k) with
 | some e => (e, true)
 | none => (En.zero, false)
theorem find_idx {p : En → Bool} {l : List En} {k : Nat} (h : l.findIdx? p = some k) : l.find? p = some (l.getD k En.zero) ∧ l[k]? = some (l.getD k En.zero) := by
 rw [List.findIdx?_eq_some_iff_getElem] at h
 obtain ⟨h1, h2, h3⟩ := h
 have e : l[k]? = some (l.getD k En.zero) := by rw [List.getD_eq_getElem?_getD, List.getElem?_eq_getElem h1, Option.getD_some]
 refine ⟨?_, e⟩
 have e2 : l.getD k En.zero = l[k] := by rw [List.getElem?_eq_getElem h1] at e; injection e with e; exact e.symm
 rw [List.find?_eq_some_iff_getElem, e2]
 exact ⟨h2, k, h1, rfl, fun j hj => by simpa using h3 j hj⟩
theorem d_Get (d : Nat) (L : List En) (hL : L.length ≤ 100000) (k : Int) : Fn Tryz.prog 29 [.pointer (some ⟨d, 0, none⟩), .int .i64 k] [DeskA d L] (fun v As => v = .tuple #[enV (dkGet L k).1, .bool (dkGet L k).2] ∧ As = [DeskA d L]) := by
 refine Fn.enter [2, 0] Tryz.func29 rfl rfl rfl fun X F hX => ?_
 refine J.open_ (α := (Option Nat × Nat)) 1 rfl rfl (fun _ => rfl) fun x => ?_
 obtain ⟨a, c⟩ := x
 refine J.r hX tk 400 (fun _ => rfl) fun bb => ?_
 refine J.cond rfl (fun h => by simp at h) (fun _ => ?_)
 refine J.r hX tk 400 (fun _ => rfl) fun b32 => ?_
 refine J.ca hX (by kernel_rfl) (x_IndexE 76 [.pointer (some ⟨bb 0, 0, none⟩)] (fun x => x.lpn == k) (.pt (bb 0) 3 [.int .i64 k]) (by kernel_rfl) L (fun x _ => d_Get1 (bb 0) k x) a L.length c rfl (by omega)) [2, 3] 0 rfl rfl rfl rfl rfl rfl (fun _ => rfl) ?_
 rintro v As ⟨rfl, rfl⟩
 refine ⟨_, rfl, trivial, ?_⟩
 rw [idxE]
 cases hx : L.findIdx? (fun x => x.lpn == k) with
 | none =>
  dsimp only
  refine J.r hX tk 400 (fun _ => rfl) fun b34 => ?_
  refine J.cond rfl (fun _ => ?_) (fun h => by simp at h)
  refine J.close (f := fun x : Option Nat × Nat => [.pt d 150 [slv x.1 L.length x.2], ownA 45 19 x.1 L.length x.2 (cellsE L)]) (a, c) [1, 2] rfl rfl rfl ?_
  refine J.r hX tk 400 (fun _ => rfl) fun b35 => ?_
  refine J.rt hX tk [1] rfl rfl rfl ?_
  have : dkGet L k = (En.zero, false) := by
   unfold dkGet
   rw [List.find?_eq_none.2 (fun x hm => by rw [List.findIdx?_eq_none_iff] at hx; simp [hx x hm])]
  rw [this]
  exact ⟨rfl, rfl⟩
 | some i =>
  dsimp only
  obtain ⟨f1, f2⟩ := find_idx hx
  have hi : i < L.length := (List.getElem?_eq_some_iff.1 f2).1
  refine J.r hX tk 400 (fun _ => rfl) fun b36 => ?_
  refine J.cond rfl (fun h0 => ?_) (fun h0 => ?_)
  ·simp only [decide_eq_true_eq] at h0; omega
  cases a with
  | none =>
   refine J.know (fun h' s => (s.get (i := 2) rfl).2.1) fun hn0 => ?_
   omega
  | some g =>
   refine J.r hX tk 400 (fun _ => rfl) fun b37 => ?_
   refine J.val hX (enV (L.getD i En.zero)) 0 rfl rfl (fun hg a w he hs => ?_) rfl trivial ?_
   ·exact ownN_run tk rfl rfl he rfl rfl rfl (hs.get (i := 2) rfl) (by rw [show 0 + (i : Int).toNat * 19 = i * 19 from by omega]; have := cellsE_at L [] i _ f2; rwa [List.append_nil] at this) rfl
   refine J.close (f := fun x : Option Nat × Nat => [.pt d 150 [slv x.1 L.length x.2], ownA 45 19 x.1 L.length x.2 (cellsE L)]) (some g, c) [1, 2] rfl rfl rfl ?_
   refine J.r hX tk 400 (fun _ => rfl) fun b38 => ?_
   refine J.rt hX tk [1] rfl rfl rfl ?_
   have : dkGet L k = (L.getD i En.zero, true) := by
    unfold dkGet
    rw [f1]
   rw [this]
   exact ⟨rfl, rfl⟩
def dkN (L : List En) (n : Int) : Nat := min n.toNat L.length
theorem d_First (d : Nat) (L : List En) (hL : L.length ≤ 100000) (n : Int) : Fn Tryz.prog 27 [.pointer (some ⟨d, 0, none⟩), .int .i64 n] [DeskA d L] (fun v As => ∃ a' c', v = slv a' (dkN L n) c' ∧ As = [DeskA d L, ownA 45 19 a' (dkN L n) c' (cellsE (L.take (dkN L n)))]) := by
 refine Fn.enter [2, 0] Tryz.func27 rfl rfl rfl fun X F hX => ?_
 refine J.open_ (α := (Option Nat × Nat)) 1 rfl rfl (fun _ => rfl) fun x => ?_
 obtain ⟨a, c⟩ := x
 refine J.r hX tk 400 (fun _ => rfl) fun b39 => ?_
 refine J.cond rfl (fun h => by simp at h) (fun _ => ?_)
 refine J.know (fun h' s => ownP_cap (s.get (i := 2) rfl)) fun hcap => ?_
 dsimp only at hcap
 have hmin : (if (L.length : Int) < (if (0 : Int) > n then 0 else n) then (L.length : Int) else (if (0 : Int) > n then 0 else n)) = (dkN L n : Int) := by
  unfold dkN
  by_cases h : (0 : Int) > n
  ·simp only [if_pos h]; rw [if_neg (by omega)]; omega
  ·simp only [if_neg h]; split <;> omega
 have hk : dkN L n ≤ L.length := Nat.min_le_right _ _
 refine J.r hX tk 400 (fun _ => rfl) fun b40 => ?_
 refine J.plan (.of [0,4,8,13,16,20,24,28,32,37,40,44,48,54,56]) [14] [1,2] (by rw [hX.hP]; kernel_rfl) (by kernel_rfl) ?_
 refine J.r hX tk 12 (fun _ => rfl) fun b41 => ?_
 refine J.valT hX (slv a (dkN L n) c) 0 rfl rfl (fun hg aa w he hC => ?_) rfl ?_
 ·exact cutE_run rfl rfl rfl he rfl rfl hmin (by omega)
 refine J.r hX tk 400 (fun _ => rfl) fun b42 => ?_
 refine J.ca hX (by kernel_rfl) (x_CloneP a L.length c c (dkN L n) L rfl hk (by omega)) [2] 0 rfl rfl rfl rfl rfl rfl (fun _ => rfl) ?_
 rintro v As ⟨a', c', rfl, rfl⟩
 refine ⟨_, rfl, ⟨rfl, rfl, trivial⟩, ?_⟩
 refine J.r hX tk 400 (fun _ => rfl) fun b44 => ?_
 refine J.close (f := fun x : Option Nat × Nat => [.pt d 150 [slv x.1 L.length x.2], ownA 45 19 x.1 L.length x.2 (cellsE L)]) (a, c) [1, 2] rfl rfl rfl ?_
 refine J.r hX tk 400 (fun _ => rfl) fun b45 => ?_
 refine J.rt hX tk [1, 3] rfl rfl rfl ?_
 exact ⟨a', c', rfl, rfl⟩
theorem d_Done2 (b be : Nat) (x e : En) : Fn Tryz.prog 74 [enV e, .pointer (some ⟨b, 0, none⟩)] [.pt b 45 (enL x)] (fun v As => v = .bool (e.lpn == x.lpn && e.seq == x.seq) ∧ As = [.pt b 45 (enL x)]) := by
 refine Fn.enter [0, 2] Tryz.func74 rfl rfl rfl fun X F hX => ?_
 refine J.r hX tk 400 (fun _ => rfl) fun b46 => ?_
 refine J.rt hX tk [1] rfl rfl rfl ?_
 exact ⟨rfl, rfl⟩
theorem d_Done1 (b : Nat) (B : Atom) (al : Option Addr) (nl cl : Nat) (l : List En) (hB : Rd B al 19 nl (cellsE l)) (hl : l.length = nl) (hn : nl ≤ 4611686018427387904) (x : En) : Fn Tryz.prog 72 [enV x, .pointer (some ⟨b, 0, none⟩)] [.pt b 31 [.slice al nl cl], B] (fun v As => v = .bool (l.any fun e => e.lpn == x.lpn && e.seq == x.seq) ∧ As = [.pt b 31 [.slice al nl cl], B]) := by
 refine Fn.enter [0, 2] Tryz.func72 rfl rfl rfl fun X F hX => ?_
 refine J.r hX tk 400 (fun _ => rfl) fun bb => ?_
 refine J.ca hX (by kernel_rfl) (x_ContainsR 74 [.pointer (some ⟨bb 0, 0, none⟩)] (fun e => e.lpn == x.lpn && e.seq == x.seq) (.pt (bb 0) 45 (enL x)) B (by kernel_rfl) l (fun e _ => d_Done2 (bb 0) 0 x e) al nl cl hB hl hn) [2, 3] 0 rfl rfl rfl rfl rfl rfl (fun _ => rfl) ?_
 rintro v As ⟨rfl, rfl⟩
 refine ⟨_, rfl, trivial, ?_⟩
 refine J.r hX tk 400 (fun _ => rfl) fun b48 => ?_
 refine J.rt hX tk [1, 2] rfl rfl rfl ?_
 exact ⟨rfl, rfl⟩
def dkDone (L l : List En) : List En := L.filter fun x => !(l.any fun e => e.lpn == x.lpn && e.seq == x.seq)
theorem d_Done (d : Nat) (L : List En) (hL : L.length ≤ 100000) (B : Atom) (al : Option Addr) (nl cl : Nat) (l : List En) (hB : Rd B al 19 nl (cellsE l)) (hl : l.length = nl) (hn : nl ≤ 4611686018427387904) : Fn Tryz.prog 28 [.pointer (some ⟨d, 0, none⟩), .slice al nl cl] [DeskA d L, B] (fun v As => v = .int .i64 ((L.length : Int) - (dkDone L l).length) ∧ As = [DeskA d (dkDone L l), B]) := by
 refine Fn.enter [2, 0] Tryz.func28 rfl rfl rfl fun X F hX => ?_
 refine J.open_ (α := (Option Nat × Nat)) 1 rfl rfl (fun _ => rfl) fun x => ?_
 obtain ⟨a, c⟩ := x
 refine J.r hX tk 400 (fun _ => rfl) fun bb => ?_
 refine J.cond rfl (fun h => by simp at h) (fun _ => ?_)
 refine J.r hX tk 400 (fun _ => rfl) fun b50 => ?_
 refine J.turn1 [4, 2] rfl (As := [.hp (HP.of [.pt (bb 0) 31 [.slice al nl cl], B])]) (fun h s => Sep.hpOf.2 s) rfl ?_
 refine J.r hX tk 400 (fun _ => rfl) fun b51 => ?_
 refine J.ca hX (by kernel_rfl) (x_DeleteE 72 [.pointer (some ⟨bb 0, 0, none⟩)] (fun x => l.any fun e => e.lpn == x.lpn && e.seq == x.seq) _ (by kernel_rfl) (fun x => Fn.pack (d_Done1 (bb 0) B al nl cl l hB hl hn x)) a L.length c L rfl (by omega)) [3, 4] 0 rfl rfl rfl rfl rfl rfl (fun _ => rfl) ?_
 rintro v As ⟨l', hl', rfl, rfl⟩
 refine ⟨_, rfl, trivial, ?_⟩
 have hll : l'.length ≤ L.length := by rw [hl']; exact List.length_filter_le _ _
 have hdn : dkDone L l = l' := hl'.symm
 refine J.r hX tk 400 (fun _ => rfl) fun b52 => ?_
 refine J.turn1 [4] rfl (As := [.pt (bb 0) 31 [.slice al nl cl], B]) (fun h s => Sep.hpOf.1 s) rfl ?_
 refine J.close (f := fun x : Option Nat × Nat => [.pt d 150 [slv x.1 l'.length x.2], ownA 45 19 x.1 l'.length x.2 (cellsE l')]) (a, c) [1, 3] rfl rfl rfl ?_
 refine J.r hX tk 400 (fun _ => rfl) fun b53 => ?_
 refine J.rt hX tk [1, 5] rfl rfl rfl ?_
 rw [hdn]
 exact ⟨rfl, rfl⟩
def FOk (m : Nat) (L : List Fnd) (Z : List FSlot) : Prop := Z.map (·.l) = (List.range m).map fun k : Nat => V.of L (k : Int)
theorem FOk.len {m : Nat} {L : List Fnd} {Z : List FSlot} (h : FOk m L Z) : Z.length = m := by have := congrArg List.length h; simpa using this
theorem FOk.get {m : Nat} {L : List Fnd} {Z : List FSlot} (h : FOk m L Z) {k : Nat} (hk : k < m) : ∃ z, Z[k]? = some z ∧ z.l = V.of L (k : Int) := by
 have hl := h.len
 refine ⟨Z[k], List.getElem?_eq_getElem (by omega), ?_⟩
 have := congrArg (fun l => l[k]?) h
 simp only [List.getElem?_map, List.getElem?_range hk, List.getElem?_eq_getElem (show k < Z.length by omega), Option.map_some, Option.some.injEq] at this
 exact this
theorem FOk.zero (m : Nat) : FOk m [] (List.replicate m ⟨none, 0, []⟩) := by
 unfold FOk
 apply List.ext_getElem?
 intro i
 rw [List.getElem?_map, List.getElem?_replicate, List.getElem?_map]
 by_cases h : i < m
 ·rw [if_pos h, List.getElem?_range h]; simp [V.of]
 ·rw [if_neg h, List.getElem?_eq_none (by simp; omega)]; rfl
theorem FOk.hit {m : Nat} {L : List Fnd} {Z : List FSlot} (h : FOk m L Z) {x : Fnd} {k : Nat} (hx : x.en.lpn = (k : Int)) {z z' : FSlot} (hz : Z[k]? = some z) (hz' : z'.l = z.l ++ [x]) : FOk m (L ++ [x]) (Z.set k z') := by
 have hl := h.len
 have hk : k < Z.length := (List.getElem?_eq_some_iff.1 hz).1
 have hzl : z.l = V.of L (k : Int) := by
  obtain ⟨z2, h1, h2⟩ := h.get (k := k) (by omega)
  rw [hz] at h1; injection h1 with h1; subst h1; exact h2
 unfold FOk
 rw [List.map_set, show Z.map (·.l) = _ from h, hz', hzl]
 apply List.ext_getElem?
 intro i
 rw [List.getElem?_set, List.getElem?_map, List.getElem?_map]
 by_cases e : k = i
 ·subst e
  rw [if_pos rfl, if_pos (by simp; omega), List.getElem?_range (by omega), Option.map_some, V.of_snoc, if_pos hx]
 ·rw [if_neg e]
  by_cases h2 : i < m
  ·rw [List.getElem?_range h2, Option.map_some, Option.map_some, V.of_snoc, if_neg (by omega)]
  ·rw [List.getElem?_eq_none (by simp; omega)]; rfl
theorem FOk.miss {m : Nat} {L : List Fnd} {Z : List FSlot} (h : FOk m L Z) {x : Fnd} (hx : (m : Int) ≤ x.en.lpn) : FOk m (L ++ [x]) Z := by
 unfold FOk
 rw [show Z.map (·.l) = _ from h]
 apply List.map_congr_left
 intro i hi
 rw [List.mem_range] at hi
 rw [V.of_snoc, if_neg (by omega)]
theorem FOk.le {m : Nat} {L : List Fnd} {Z : List FSlot} (h : FOk m L Z) {k : Nat} {z : FSlot} (hz : Z[k]? = some z) : z.l.length ≤ L.length := by
 have hl := h.len
 have hk : k < Z.length := (List.getElem?_eq_some_iff.1 hz).1
 obtain ⟨z2, h1, h2⟩ := h.get (k := k) (by omega)
 rw [hz] at h1; injection h1 with h1; subst h1
 rw [h2]; exact V.of_len L k
theorem flatMap_le {α β : Type} (f : α → List β) (c : Nat) (l : List α) (h : ∀ x ∈ l, (f x).length ≤ c) : (l.flatMap f).length ≤ c * l.length := by
 induction l with
 | nil => simp
 | cons x l ih =>
  rw [List.flatMap_cons, List.length_append, List.length_cons]
  have := h x (List.mem_cons_self ..)
  have := ih (fun y hy => h y (List.mem_cons_of_mem _ hy))
  rw [Nat.mul_add]; omega
theorem rall_len (N : Nand) (hN : N.Ok) (b r : Int) : (R.all N b r).length ≤ 42 := by
 have hbd := hN.bd
 have := outI_len N b r (M.masks N b r).length (by omega)
 unfold outI at this
 rwa [List.take_length] at this
theorem upB_len (N : Nand) (hN : N.Ok) (b : Nat) (hb : b ≤ 16) : (V.upB N b).length ≤ 5376 := by
 have hbd := hN.bd
 unfold V.upB
 have := flatMap_le (fun b : Nat => (List.range N.pages).flatMap fun r => R.all N (b : Nat) (r : Nat)) 336 (List.range b) (fun x _ => by
  have := flatMap_le (fun r : Nat => R.all N (x : Nat) (r : Nat)) 42 (List.range N.pages) (fun r _ => rall_len N hN _ _)
  rw [List.length_range] at this
  omega)
 rw [List.length_range] at this
 omega
theorem upR_len (N : Nand) (hN : N.Ok) (b r : Nat) (hb : b ≤ 16) (hr : r ≤ 8) : (V.upR N b r).length ≤ 5712 := by
 have h1 := upB_len N hN b hb
 have := flatMap_le (fun r : Nat => R.all N (b : Nat) (r : Nat)) 42 (List.range r) (fun r _ => rall_len N hN _ _)
 rw [List.length_range] at this
 unfold V.upR
 rw [List.length_append]; omega
theorem upI_len (N : Nand) (hN : N.Ok) (b r i : Nat) (hb : b ≤ 16) (hr : r ≤ 8) : (V.upI N b r i).length ≤ 5754 := by
 have h1 := upR_len N hN b r hb hr
 have := rall_len N hN b r
 unfold V.upI
 rw [List.length_append, List.length_take]; omega
theorem upB_bd (N : Nand) (b : Nat) : ∀ f ∈ V.upB N b, EnBd f.en := by
 intro f h
 unfold V.upB at h
 rw [List.mem_flatMap] at h
 obtain ⟨_, _, h⟩ := h
 rw [List.mem_flatMap] at h
 obtain ⟨_, _, h⟩ := h
 exact (fnd_bd h).2.2
theorem upR_bd (N : Nand) (b r : Nat) : ∀ f ∈ V.upR N b r, EnBd f.en := by
 intro f h
 unfold V.upR at h
 rw [List.mem_append] at h
 rcases h with h | h
 ·exact upB_bd N b f h
 ·rw [List.mem_flatMap] at h
  obtain ⟨_, _, h⟩ := h
  exact (fnd_bd h).2.2
theorem upI_bd (N : Nand) (b r i : Nat) : ∀ f ∈ V.upI N b r i, EnBd f.en := by
 intro f h
 unfold V.upI at h
 rw [List.mem_append] at h
 rcases h with h | h
 ·exact upR_bd N b r f h
 ·exact (fnd_bd (List.mem_of_mem_take h)).2.2
theorem Sep.ofAll {L : List Atom} {h : Hl} (hL : ∀ A ∈ L, ∀ h, A.sat h) : Sep L h := ⟨fun _ => 0, fun i A hA => hL A (List.mem_of_getElem? hA) _⟩
def svL (q : Nat) (torn : Value) (first : Int) (held : Value) (next pages : Int) : List Value := [.pointer (some ⟨q, 0, none⟩), torn, .int .i64 first, held, .int .i64 next, .int .i64 pages]
def svV (q : Nat) (S : Scd) (a1 : Option Nat) (c1 : Nat) (a2 : Option Nat) (c2 : Nat) : Value := .agg (svL q (slv a1 S.torn.length c1) S.first (slv a2 S.held.length c2) S.next S.pages).toArray
def sv0 (q : Nat) (L : List Fnd) : List Value := svL q (.slice none 0 0) 0 (.slice none 0 0) (V.nextOf L) L.length
theorem flat_single {α : Type} (x : α) : ∀ n : Nat, (List.replicate n [x]).flatten = List.replicate n x
 | 0 => rfl
 | n + 1 => by rw [List.replicate_succ, List.replicate_succ, List.flatten_cons, flat_single x n]; rfl
theorem hdrs_zero (m : Nat) : (List.replicate m [Value.slice none 0 0]).flatten = hdrs (List.replicate m ⟨none, 0, []⟩) := by
 rw [flat_single]; unfold hdrs; rw [List.map_replicate]; rfl
theorem hdrs_getI {Z : List FSlot} {k : Int} {z : FSlot} (h : Z[k.toNat]? = some z) : (hdrs Z)[0 + k.toNat * 1]? = some z.hdr := by
 rw [show 0 + k.toNat * 1 = k.toNat from by omega, hdrs, List.getElem?_map, h]; rfl
theorem max_if (a b : Int) : (if b > a then b else a) = max a b := by split <;> omega
theorem cellsI_app (l m : List Int) : cellsI l ++ cellsI m = cellsI (l ++ m) := by simp [cellsI]
theorem cellsE_app (l m : List En) : cellsE l ++ cellsE m = cellsE (l ++ m) := by simp [cellsE]
theorem cellsI_one (l : List Int) : ∀ u ∈ cellsI l, u.oneCell' = true := by
 intro u hu
 simp only [cellsI, List.mem_map] at hu
 obtain ⟨x, _, rfl⟩ := hu
 rfl
theorem v_Scan (p : Nat) (N : Nand) (hN : N.Ok) (hR : N.Room) (hoff : N.off = false) (n : Int) : Fn Tryz.prog 15 [.pointer (some ⟨p, 0, none⟩), .int .i64 n] [NandA p N]
  (fun v As => ∃ q a1 c1 a2 c2, v = .tuple #[svV q (V.scan N n) a1 c1 a2 c2, .int .i64 0] ∧ As = [NandA p N, TbA q (V.scan N n).tb, ownA 45 19 a1 (V.scan N n).torn.length c1 (cellsE (V.scan N n).torn), ownA 3 1 a2 (V.scan N n).held.length c2 (cellsI (V.scan N n).held)]) := by
 have hbd := hN.bd
 refine Fn.enter [2, 0] Tryz.func15 rfl rfl rfl fun X F hX => ?_
 refine J.r hX tk 400 (fun _ => rfl) fun br => ?_
 refine J.cond rfl (fun h => by simp at h) (fun _ => ?_)
 refine J.r hX tk 400 (fun _ => rfl) fun b2 => ?_
 refine J.ca hX (by kernel_rfl) (n_Power p N) [1] 0 rfl rfl rfl rfl rfl rfl (fun _ => rfl) ?_
 rintro v As ⟨rfl, rfl⟩
 refine ⟨_, rfl, trivial, ?_⟩
 rw [hoff]
 refine J.r hX tk 400 (fun _ => rfl) fun b4 => ?_
 refine J.cond rfl (fun h => absurd h (by decide)) (fun _ => ?_)
 refine J.r hX tk 400 (fun _ => rfl) fun b5 => ?_
 refine J.ca hX (by kernel_rfl) (tb_New n) [] 0 rfl rfl rfl rfl rfl rfl (fun _ => rfl) ?_
 rintro v As ⟨q, rfl, rfl⟩
 refine ⟨_, rfl, trivial, ?_⟩
 refine J.r hX tk 11 (fun _ => rfl) fun bo => ?_
 rw [tb_mm]
 obtain ⟨m, hm⟩ : ∃ m : Nat, min (max n 0) 65536 = (m : Int) := ⟨(min (max n 0) 65536).toNat, by omega⟩
 have hms : V.size n = m := by unfold V.size; omega
 have hm1 : m ≤ 65536 := by omega
 rw [hm]
 refine J.makeMany hX tk 6 rfl rfl rfl rfl rfl rfl rfl rfl rfl rfl rfl ?_ ?_ (fun _ => rfl) (fun _ => rfl) fun g => ⟨trivial, ?_⟩
 ·simp only [maxLen]; omega
 ·omega
 rw [hdrs_zero]
 refine J.r hX tk 400 (fun _ => rfl) fun bs => ?_
 refine J.turn1 [] rfl (As := [.hp (HP.of (fats (List.replicate m ⟨none, 0, []⟩)))]) (fun h s => Sep.hpOf.2 (Sep.ofAll fun A hA h => by
  unfold fats at hA
  rw [List.map_replicate, List.mem_replicate] at hA
  rw [hA.2]
  exact ⟨rfl, rfl, rfl⟩)) rfl ?_
 refine J.r hX tk 400 (fun _ => rfl) fun b7 => ?_
 refine J.ca hX (by kernel_rfl) (n_Geo p N) [1] 0 rfl rfl rfl rfl rfl rfl (fun _ => rfl) ?_
 rintro v As ⟨rfl, rfl⟩
 refine ⟨_, rfl, trivial, ?_⟩
 refine J.r hX tk 400 (fun _ => rfl) fun b8 => ?_
 refine J.lo (α := (Nat × List FSlot)) (fun z => z.1 ≤ N.blocks ∧ FOk m (V.upB N z.1) z.2) (fun z => [⟨38, .int .i64 z.1, 0, .tt⟩, ⟨37, .int .i64 N.blocks, 0, .tt⟩, ⟨0, .pointer (some ⟨p, 0, none⟩), 2, .tt⟩, ⟨4, .pointer (some ⟨br 0, 0, none⟩), 3, .tt⟩, ⟨6, .pointer (some ⟨bo 0, 0, none⟩), 5, .tt⟩, ⟨7, .pointer (some ⟨bs 0, 0, none⟩), 7, .tt⟩]) [4, 5, 7] (fun z => [.pt (bo 0) 34 (sv0 q (V.upB N z.1)), .pt g 100 (hdrs z.2), .hp (HP.of (fats z.2))]) (fun z => N.blocks - z.1) ((0, List.replicate m ⟨none, 0, []⟩)) (⟨Nat.zero_le _, FOk.zero m⟩) rfl ?_ (fun _ => rfl) fun z hI => ?_
 ·rfl
 obtain ⟨b, Z⟩ := z
 dsimp only at hI ⊢
 obtain ⟨hb, hZ⟩ := hI
 refine J.r hX tk 400 (fun _ => rfl) fun b9 => ?_
 refine J.cond rfl (fun h1 => ?_) (fun h1 => ?_)
 ·simp only [decide_eq_true_eq, Int.ofNat_lt] at h1
  refine J.r hX tk 400 (fun _ => rfl) fun b10 => ?_
  refine J.ca hX (by kernel_rfl) (n_Geo p N) [1] 0 rfl rfl rfl rfl rfl rfl (fun _ => rfl) ?_
  rintro v As ⟨rfl, rfl⟩
  refine ⟨_, rfl, trivial, ?_⟩
  rw [← V.upR_zero] at hZ
  rw [← V.upR_zero]
  refine J.r hX tk 400 (fun _ => rfl) fun b12 => ?_
  refine J.lo (α := (Nat × List FSlot)) (fun z => z.1 ≤ N.pages ∧ FOk m (V.upR N b z.1) z.2) (fun z => [⟨44, .int .i64 z.1, 0, .tt⟩, ⟨43, .int .i64 N.pages, 0, .tt⟩, ⟨8, .int .i64 b, 0, .tt⟩, ⟨38, .int .i64 b, 0, .tt⟩, ⟨37, .int .i64 N.blocks, 0, .tt⟩, ⟨0, .pointer (some ⟨p, 0, none⟩), 2, .tt⟩, ⟨4, .pointer (some ⟨br 0, 0, none⟩), 3, .tt⟩, ⟨6, .pointer (some ⟨bo 0, 0, none⟩), 5, .tt⟩, ⟨7, .pointer (some ⟨bs 0, 0, none⟩), 7, .tt⟩]) [4, 5, 7] (fun z => [.pt (bo 0) 34 (sv0 q (V.upR N b z.1)), .pt g 100 (hdrs z.2), .hp (HP.of (fats z.2))]) (fun z => N.pages - z.1) ((0, Z)) (⟨Nat.zero_le _, hZ⟩) rfl ?_ (fun _ => rfl) fun z hI => ?_
  ·rfl
  clear hZ Z
  obtain ⟨r, Z⟩ := z
  dsimp only at hI ⊢
  obtain ⟨hr, hZ⟩ := hI
  refine J.r hX tk 400 (fun _ => rfl) fun b13 => ?_
  refine J.cond rfl (fun h2 => ?_) (fun h2 => ?_)
  ·simp only [decide_eq_true_eq, Int.ofNat_lt] at h2
   refine J.r hX tk 400 (fun _ => rfl) fun b14 => ?_
   refine J.ca hX (by kernel_rfl) (r_All p N hN hR b r) [1] 0 rfl rfl rfl rfl rfl rfl (fun _ => rfl) ?_
   rintro v As ⟨al, cl, rfl, rfl⟩
   refine ⟨_, rfl, trivial, ?_⟩
   rw [← V.upI_zero] at hZ
   rw [← V.upI_zero]
   refine J.r hX tk 400 (fun _ => rfl) fun b16 => ?_
   refine J.lo (α := (Nat × List FSlot)) (fun z => z.1 ≤ (R.all N b r).length ∧ FOk m (V.upI N b r z.1) z.2) (fun z => [⟨52, .int .i64 z.1, 0, .tt⟩, ⟨51, .int .i64 (R.all N b r).length, 0, .tt⟩, ⟨50, slv al (R.all N b r).length cl, 0, .tt⟩, ⟨9, .int .i64 r, 0, .tt⟩, ⟨44, .int .i64 r, 0, .tt⟩, ⟨43, .int .i64 N.pages, 0, .tt⟩, ⟨8, .int .i64 b, 0, .tt⟩, ⟨38, .int .i64 b, 0, .tt⟩, ⟨37, .int .i64 N.blocks, 0, .tt⟩, ⟨0, .pointer (some ⟨p, 0, none⟩), 2, .tt⟩, ⟨4, .pointer (some ⟨br 0, 0, none⟩), 3, .tt⟩, ⟨6, .pointer (some ⟨bo 0, 0, none⟩), 5, .tt⟩, ⟨7, .pointer (some ⟨bs 0, 0, none⟩), 7, .tt⟩]) [4, 5, 7] (fun z => [.pt (bo 0) 34 (sv0 q (V.upI N b r z.1)), .pt g 100 (hdrs z.2), .hp (HP.of (fats z.2))]) (fun z => (R.all N b r).length - z.1) ((0, Z)) (⟨Nat.zero_le _, hZ⟩) rfl ?_ (fun _ => rfl) fun z hI => ?_
   ·rfl
   clear hZ Z
   obtain ⟨i, Z⟩ := z
   dsimp only at hI ⊢
   obtain ⟨hi, hZ⟩ := hI
   refine J.r hX tk 400 (fun _ => rfl) fun b17 => ?_
   refine J.cond rfl (fun h3 => ?_) (fun h3 => ?_)
   ·simp only [decide_eq_true_eq, Int.ofNat_lt] at h3
    obtain ⟨x, hx⟩ : ∃ x, (R.all N b r)[i]? = some x := ⟨_, List.getElem?_eq_getElem h3⟩
    have hup := V.upI_succ hx
    have hrl := rall_len N hN b r
    have hxb := (fnd_bd (List.mem_of_getElem? hx)).2.2
    have hul := upI_len N hN b r i (by omega) (by omega)
    have hnb := V.nextOf_bd (upI_bd N b r i)
    refine J.know (fun h' s => own_some (c := (al, cl)) (by omega) (s.get (i := 8) rfl)) fun hg => ?_
    obtain ⟨gl, rfl⟩ := hg
    refine J.r hX tk 400 (fun _ => rfl) fun b18 => ?_
    refine J.val hX (fdV x) 0 rfl rfl (fun hg a w he hs => ?_) rfl trivial ?_
    ·exact ownN_run tk rfl rfl he rfl rfl rfl (hs.get (i := 8) rfl) (by rw [show 0 + (i : Int).toNat * 25 = i * 25 from by omega]; exact cellsF_get hx) rfl
    unfold EnBd at hxb
    refine J.r hX tk 400 (fun _ => rfl) fun bf => ?_
    have hn1 : V.nextOf (V.upI N b r (i + 1)) = max (V.nextOf (V.upI N b r i)) (x.en.seq + 1) := by rw [hup, V.nextOf_snoc]
    have hn2 : ((V.upI N b r i).length : Int) + 1 = ((V.upI N b r (i + 1)).length : Int) := by rw [hup, List.length_append]; rfl
    rw [max_if, ← hn1, hn2]
    refine J.r hX tk 400 (fun _ => rfl) fun b19 => ?_
    refine J.plan (.of [0,4,9,12,16,20,25,28,32]) [] [6, 9] (by rw [hX.hP]; kernel_rfl) (by kernel_rfl) ?_
    refine J.r hX tk 400 (fun _ => rfl) fun b20 => ?_
    refine J.cond rfl (fun h4 => ?_) (fun h4 => ?_)
    ·simp only [decide_eq_true_eq] at h4
     obtain ⟨z, hz, hzl⟩ := hZ.get (k := x.en.lpn.toNat) (by omega)
     have hzle := hZ.le hz
     have hZl := hZ.len
     refine J.openAt 7 x.en.lpn.toNat rfl rfl (fats_get hz) rfl ?_
     refine J.r hX tk 400 (fun _ => rfl) fun b22 => ?_
     refine J.plan (.of [0,4,8,13,16,20,25,28,32,36,41,44,48,53,56,61,65,70,74,76,83]) [19,20] [5,6,9] (by rw [hX.hP]; kernel_rfl) (by kernel_rfl) ?_
     refine J.r hX tk 15 (fun _ => rfl) fun b23 => ?_
     refine J.valT hX z.hdr 0 rfl rfl (fun hg a w he hC => load1_run tk rfl rfl he rfl rfl rfl (hC rfl _ (cget_mem (i := 5) rfl)) (hdrs_getI hz)) rfl ?_
     refine J.r hX tk 400 (fun _ => rfl) fun b24 => ?_
     refine J.append hX tk 10 11 0 rfl rfl rfl rfl rfl rfl rfl rfl rfl rfl rfl rfl rfl rfl rfl rfl ?_ ?_ (fun _ => rfl) fun a' c' => ⟨_, (congrArg (fun y => lset _ 10 (ownA _ _ _ _ _ y)) (cellsF_snoc z.l x).symm).trans rfl, ⟨rfl, rfl, rfl, trivial⟩, ?_⟩
     ·simp only [maxLen]; omega
     ·omega
     rw [show z.l.length + 1 = (z.l ++ [x]).length from by simp]
     refine J.r hX tk 400 (fun _ => rfl) fun b25 => ?_
     have hhit := hZ.hit (x := x) (k := x.en.lpn.toNat) (by omega) hz (z' := ⟨a', c', z.l ++ [x]⟩) rfl
     refine J.store1 hX tk 5 rfl rfl rfl rfl rfl rfl rfl rfl rfl rfl rfl rfl rfl ?_ (hdrs (Z.set x.en.lpn.toNat ⟨a', c', z.l ++ [x]⟩)) ?_ rfl (fun _ => rfl) ⟨(by first | exact trivial | (repeat' (first | exact trivial | refine ⟨rfl, ?_⟩))), ?_⟩
     ·rw [show (hdrs Z).length = Z.length from by simp [hdrs]]; omega
     ·rw [show 0 + x.en.lpn.toNat * 1 = x.en.lpn.toNat from by omega]; exact hdrs_set Z _ ⟨a', c', z.l ++ [x]⟩
     refine J.closeAt (A := (FSlot.mk a' c' (z.l ++ [x])).atom) 7 10 x.en.lpn.toNat rfl rfl rfl ?_
     rw [fats_set]
     refine J.r hX tk 400 (fun _ => rfl) fun b26 => ?_
     refine J.nS ((i + 1, Z.set x.en.lpn.toNat ⟨a', c', z.l ++ [x]⟩)) (⟨by dsimp only; omega, by dsimp only; rw [hup]; exact hhit⟩) (by dsimp only; omega) [0, 1, 2, 3, 4, 5, 6, 7, 8] rfl rfl
    ·simp only [decide_eq_false_iff_not] at h4
     have hmiss := hZ.miss (x := x) (by omega)
     refine J.r hX tk 400 (fun _ => rfl) fun b27 => ?_
     refine J.nS ((i + 1, Z)) (⟨by dsimp only; omega, by dsimp only; rw [hup]; exact hmiss⟩) (by dsimp only; omega) [0, 1, 2, 3, 4, 5, 6, 7, 8] rfl rfl
   ·simp only [decide_eq_false_iff_not, Int.ofNat_lt] at h3
    obtain rfl : i = (R.all N b r).length := by omega
    rw [← V.upR_succ] at hZ
    rw [← V.upR_succ]
    refine J.r hX tk 400 (fun _ => rfl) fun b28 => ?_
    refine J.nS ((r + 1, Z)) (⟨by dsimp only; omega, hZ⟩) (by dsimp only; omega) [0, 1, 2, 3, 4, 5, 6, 7] rfl rfl
  ·simp only [decide_eq_false_iff_not, Int.ofNat_lt] at h2
   obtain rfl : r = N.pages := by omega
   rw [← V.upB_succ] at hZ
   rw [← V.upB_succ]
   refine J.r hX tk 400 (fun _ => rfl) fun b30 => ?_
   refine J.nS ((b + 1, Z)) (⟨by dsimp only; omega, hZ⟩) (by dsimp only; omega) [0, 1, 2, 3, 4, 5, 6, 7] rfl rfl
 simp only [decide_eq_false_iff_not, Int.ofNat_lt] at h1
 obtain rfl : b = N.blocks := by omega
 rw [V.upB_all] at hZ
 rw [V.upB_all]
 have hZl := hZ.len
 have hLb : ∀ f ∈ V.all N, EnBd f.en := fun f hf => (all_bd hf).2
 have hLl := all_len N hN
 subst hZl
 refine J.r hX tk 400 (fun _ => rfl) fun b32 => ?_
 refine J.turn1 [] rfl (As := [ownA 45 19 none 0 0 (cellsE []), ownA 3 1 none 0 0 (cellsI []), ownA 45 19 none 0 0 (cellsE [])]) (fun h s => Sep.ofAll fun A hA h => by
  simp only [List.mem_cons, List.not_mem_nil, or_false] at hA
  rcases hA with rfl | rfl | rfl <;> exact ⟨rfl, rfl, rfl⟩) rfl ?_
 refine J.r hX tk 400 (fun _ => rfl) fun b33 => ?_
 refine J.lo (α := (Nat × (Option Nat × Nat) × (Option Nat × Nat) × (Option Nat × Nat))) (fun z => z.1 ≤ Z.length) (fun z => [⟨105, .int .i64 z.1, 0, .tt⟩, ⟨104, .int .i64 Z.length, 0, .tt⟩, ⟨12, slv z.2.2.2.1 (V.goS N (V.all N) n z.1).others.length z.2.2.2.2, 0, .tt⟩, ⟨0, .pointer (some ⟨p, 0, none⟩), 2, .tt⟩, ⟨4, .pointer (some ⟨br 0, 0, none⟩), 3, .tt⟩, ⟨6, .pointer (some ⟨bo 0, 0, none⟩), 5, .tt⟩, ⟨7, .pointer (some ⟨bs 0, 0, none⟩), 7, .tt⟩]) [3, 4, 8, 9, 10] (fun z => [TbA q (V.goS N (V.all N) n z.1).tb, .pt (bo 0) 34 (svL q (slv z.2.1.1 (V.goS N (V.all N) n z.1).torn.length z.2.1.2) 0 (slv z.2.2.1.1 (V.goS N (V.all N) n z.1).held.length z.2.2.1.2) (V.nextOf (V.all N)) (V.all N).length), ownA 45 19 z.2.1.1 (V.goS N (V.all N) n z.1).torn.length z.2.1.2 (cellsE (V.goS N (V.all N) n z.1).torn), ownA 3 1 z.2.2.1.1 (V.goS N (V.all N) n z.1).held.length z.2.2.1.2 (cellsI (V.goS N (V.all N) n z.1).held), ownA 45 19 z.2.2.2.1 (V.goS N (V.all N) n z.1).others.length z.2.2.2.2 (cellsE (V.goS N (V.all N) n z.1).others)]) (fun z => Z.length - z.1) ((0, (none, 0), (none, 0), (none, 0))) (Nat.zero_le _) rfl ?_ (fun _ => rfl) fun z hI => ?_
 ·rfl
 obtain ⟨k, ⟨a1, c1⟩, ⟨a2, c2⟩, ⟨a3, c3⟩⟩ := z
 dsimp only at hI ⊢
 have hgl := V.goS_len N (V.all N) n k
 have hgh := V.goS_held N (V.all N) n k
 refine J.r hX tk 400 (fun _ => rfl) fun b34 => ?_
 refine J.cond rfl (fun h2 => ?_) (fun h2 => ?_)
 ·simp only [decide_eq_true_eq, Int.ofNat_lt] at h2
  obtain ⟨z, hz, hzl⟩ := hZ.get (k := k) h2
  have hzle := hZ.le hz
  have hstep := V.goS_succ N (V.all N) n k
  have hok := V.goS_ok N (V.all N) n k
  have hhl := V.holds_len (V.of (V.all N) k)
  have hol := V.of_len (V.all N) k
  have hsm := V.standOf_mem (l := V.of (V.all N) k)
  generalize hS : V.goS N (V.all N) n k = S at hgl hgh hstep hok
  refine J.r hX tk 400 (fun _ => rfl) fun b35 => ?_
  refine J.ca hX (by kernel_rfl) (v_stands (bs 0) p g Z k z hz (by omega) (by omega)) [6, 5, 7] 0 rfl rfl rfl rfl rfl rfl (fun _ => rfl) ?_
  rintro v As ⟨rfl, rfl⟩
  refine ⟨_, rfl, trivial, ?_⟩
  rw [hzl]
  unfold V.step at hstep
  obtain ⟨f, is, hs⟩ : ∃ f is, V.standOf (V.of (V.all N) k) = (f, is) := ⟨_, _, rfl⟩
  rw [hs] at hsm hstep ⊢
  dsimp only at hsm hstep ⊢
  refine J.r hX tk 400 (fun _ => rfl) fun bf => ?_
  refine J.cond rfl (fun h3 => ?_) (fun h3 => ?_)
  ·simp only [Bool.not_eq_true'] at h3
   subst h3
   rw [if_neg Bool.false_ne_true] at hstep
   rw [← hstep]
   refine J.r hX tk 400 (fun _ => rfl) fun b38 => ?_
   refine J.nS ((k + 1, (a1, c1), (a2, c2), (a3, c3))) (by dsimp only; omega) (by dsimp only; omega) [0, 1, 2, 3, 4, 5, 6, 7, 8, 9, 10] rfl rfl
  simp only [Bool.not_eq_false'] at h3
  subst h3
  rw [if_pos rfl] at hstep
  have hfm : f ∈ V.all N := by have := hsm rfl; unfold V.of at this; exact (List.mem_filter.1 this).1
  obtain ⟨⟨r0, hr0, hr1⟩, hfb⟩ := all_bd hfm
  unfold EnBd at hfb
  refine J.r hX tk 400 (fun _ => rfl) fun b40 => ?_
  refine J.ca hX (by kernel_rfl) (tb_Put q S.tb f.en f.block f.row f.slot f.mask (by omega) hok.bd) [3] 0 rfl rfl rfl rfl rfl rfl (fun _ => rfl) ?_
  rintro v As ⟨rfl, rfl⟩
  refine ⟨_, rfl, trivial, ?_⟩
  refine J.r hX tk 400 (fun _ => rfl) fun b42 => ?_
  refine J.cond rfl (fun h4 => ?_) (fun h4 => ?_)
  ·rw [if_pos h4] at hstep
   have e1 := congrArg Sst.tb hstep
   have e2 := congrArg Sst.torn hstep
   have e3 := congrArg Sst.held hstep
   have e4 := congrArg Sst.others hstep
   dsimp only at e1 e2 e3 e4
   rw [← e1, ← e2, ← e3, ← e4]
   refine J.r hX tk 400 (fun _ => rfl) fun b43 => ?_
   refine J.nS ((k + 1, (a1, c1), (a2, c2), (a3, c3))) (by dsimp only; omega) (by dsimp only; omega) [0, 1, 2, 3, 4, 5, 6, 7, 8, 9, 10] rfl rfl
  rw [if_neg (by rw [h4]; exact Bool.false_ne_true)] at hstep
  refine J.r hX tk 400 (fun _ => rfl) fun b45 => ?_
  refine J.ca hX (by kernel_rfl) (v_last p N hN hR (bs 0) (.slice (some ⟨g, 0, none⟩) Z.length Z.length) f r0 hr0 (by omega)) [1, 6] 0 rfl rfl rfl rfl rfl rfl (fun _ => rfl) ?_
  rintro v As ⟨rfl, rfl⟩
  refine ⟨_, rfl, trivial, ?_⟩
  refine J.r hX tk 400 (fun _ => rfl) fun b47 => ?_
  refine J.cond rfl (fun h5 => ?_) (fun h5 => ?_)
  ·rw [if_pos h5] at hstep
   have e1 := congrArg Sst.tb hstep
   have e2 := congrArg Sst.torn hstep
   have e3 := congrArg Sst.held hstep
   have e4 := congrArg Sst.others hstep
   dsimp only at e1 e2 e3 e4
   refine J.r hX tk 400 (fun _ => rfl) fun b48 => ?_
   refine J.append hX tk 8 12 0 rfl rfl rfl rfl rfl rfl rfl rfl rfl rfl rfl rfl rfl rfl rfl rfl ?_ ?_ (fun _ => rfl) fun a4 c4 => ⟨_, (congrArg (fun y => lset _ 8 (ownA _ _ _ _ _ y)) (cellsE_snoc S.torn f.en)).trans rfl, trivial, ?_⟩
   ·simp only [maxLen]; omega
   ·omega
   rw [show S.torn.length + 1 = (S.torn ++ [f.en]).length from by simp]
   refine J.r hX tk 400 (fun _ => rfl) fun b49 => ?_
   refine J.plan (.of [0,5,8,12,18,23,24,31]) [5,6,7] [4] (by rw [hX.hP]; kernel_rfl) (by kernel_rfl) ?_
   refine J.r hX tk 400 (fun _ => rfl) fun b50 => ?_
   refine J.ca hX (by kernel_rfl) (v_holds (bs 0) p g Z k z hz (by omega) (by omega)) [6, 5, 7] 0 rfl rfl rfl rfl rfl rfl (fun _ => rfl) ?_
   rintro v As ⟨a5, c5, rfl, rfl⟩
   refine ⟨_, rfl, (by first | exact trivial | (repeat' (first | exact trivial | refine ⟨rfl, ?_⟩))), ?_⟩
   rw [hzl]
   refine J.r hX tk 400 (fun _ => rfl) fun b52 => ?_
   refine J.appendO hX tk 9 13 rfl rfl rfl rfl rfl rfl rfl rfl rfl rfl rfl rfl rfl (cellsI_one _) ?_ ?_ (fun _ => rfl) fun a6 c6 => ⟨_, (congrArg (fun y => lset _ 9 (ownA _ _ _ _ _ y)) (cellsI_app S.held (V.holds (V.of (V.all N) k)))).trans rfl, (by first | exact trivial | (repeat' (first | exact trivial | refine ⟨rfl, ?_⟩))), ?_⟩
   ·simp only [maxLen]; omega
   ·omega
   rw [show S.held.length + (V.holds (V.of (V.all N) k)).length = (S.held ++ V.holds (V.of (V.all N) k)).length from by simp]
   rw [← e1, ← e2, ← e3, ← e4]
   refine J.r hX tk 400 (fun _ => rfl) fun b53 => ?_
   refine J.nS ((k + 1, (a4, c4), (a6, c6), (a3, c3))) (by dsimp only; omega) (by dsimp only; omega) [0, 1, 2, 3, 4, 5, 6, 7, 8, 9, 10] rfl rfl
  ·rw [if_neg (by rw [h5]; exact Bool.false_ne_true)] at hstep
   have e1 := congrArg Sst.tb hstep
   have e2 := congrArg Sst.torn hstep
   have e3 := congrArg Sst.held hstep
   have e4 := congrArg Sst.others hstep
   dsimp only at e1 e2 e3 e4
   refine J.r hX tk 400 (fun _ => rfl) fun b55 => ?_
   refine J.append hX tk 10 12 0 rfl rfl rfl rfl rfl rfl rfl rfl rfl rfl rfl rfl rfl rfl rfl rfl ?_ ?_ (fun _ => rfl) fun a4 c4 => ⟨_, (congrArg (fun y => lset _ 10 (ownA _ _ _ _ _ y)) (cellsE_snoc S.others f.en)).trans rfl, trivial, ?_⟩
   ·simp only [maxLen]; omega
   ·omega
   rw [show S.others.length + 1 = (S.others ++ [f.en]).length from by simp]
   rw [← e1, ← e2, ← e3, ← e4]
   refine J.r hX tk 400 (fun _ => rfl) fun b56 => ?_
   refine J.nS ((k + 1, (a1, c1), (a2, c2), (a4, c4))) (by dsimp only; omega) (by dsimp only; omega) [0, 1, 2, 3, 4, 5, 6, 7, 8, 9, 10] rfl rfl
 simp only [decide_eq_false_iff_not, Int.ofNat_lt] at h2
 obtain rfl : k = Z.length := by omega
 have hsc : V.scan N n = ⟨(V.goS N (V.all N) n Z.length).tb, (V.goS N (V.all N) n Z.length).torn ++ (V.goS N (V.all N) n Z.length).others, (V.goS N (V.all N) n Z.length).torn.length, compactI (sortI (V.goS N (V.all N) n Z.length).held), V.nextOf (V.all N), (V.all N).length⟩ := by
  unfold V.scan V.scanOf; rw [hms]
 generalize V.goS N (V.all N) n Z.length = S at hgl hgh hsc
 refine J.r hX tk 400 (fun _ => rfl) fun b58 => ?_
 refine J.appendO hX tk 8 10 rfl rfl rfl rfl rfl rfl rfl rfl rfl rfl rfl rfl rfl (cellsE_one _) ?_ ?_ (fun _ => rfl) fun a6 c6 => ⟨_, (congrArg (fun y => lset _ 8 (ownA _ _ _ _ _ y)) (cellsE_app S.torn S.others)).trans rfl, (by first | exact trivial | (repeat' (first | exact trivial | refine ⟨rfl, ?_⟩))), ?_⟩
 ·simp only [maxLen]; omega
 ·omega
 rw [show S.torn.length + S.others.length = (S.torn ++ S.others).length from by simp]
 refine J.r hX tk 400 (fun _ => rfl) fun b59 => ?_
 refine J.ca hX (by kernel_rfl) (x_SortN a2 S.held.length c2 S.held rfl (by omega)) [9] 0 rfl rfl rfl rfl rfl rfl (fun _ => rfl) ?_
 rintro v As ⟨rfl, rfl⟩
 refine ⟨_, rfl, trivial, ?_⟩
 refine J.r hX tk 400 (fun _ => rfl) fun b61 => ?_
 refine J.ca hX (by kernel_rfl) (x_Compact a2 S.held.length c2 (sortI S.held) (sortI_len _) (by omega)) [9] 0 rfl rfl rfl rfl rfl rfl (fun _ => rfl) ?_
 rintro v As ⟨l', hl', rfl, rfl⟩
 refine ⟨_, rfl, trivial, ?_⟩
 refine J.r hX tk 400 (fun _ => rfl) fun b63 => ?_
 refine J.rt hX tk [1, 3, 8, 9] rfl rfl rfl ?_
 rw [hsc, ← hl']
 exact ⟨q, a6, c6, a2, c2, rfl, rfl⟩
namespace B16
def e1 : En := ⟨2, 5, 1, 1 :: List.replicate 15 0⟩
def e2 : En := ⟨2, 4, 1, 2 :: List.replicate 15 0⟩
def e3 : En := ⟨1, 8, 2, zeros16⟩
def w1 : En := ⟨4, 1, 0, zeros16⟩
def w2 : En := ⟨5, 2, 0, zeros16⟩
def w3 : En := ⟨4, 3, 0, zeros16⟩
def N0 : Nand := Nand.new 3 8 2
def N1 : Nand := (R.write N0 1 0 7 [e1, B9.pad]).1
def N2 : Nand := (R.write N1 2 0 7 [e2, e3]).1
theorem G0 : N0.Gd 100 0 := Nand.Gd.new 3 8 2 rfl 100 (by decide)
theorem G1 : N1.Gd 92 0 := write_Gd (by decide) G0
theorem G2 : N2.Gd 84 0 := write_Gd (by decide) G1
theorem off2 : N2.off = false := by kernel_rfl
def L : List Fnd := [⟨e1, 1, 0, 0, 7, true, false⟩, ⟨e2, 2, 0, 0, 7, true, false⟩, ⟨e3, 2, 0, 1, 7, true, false⟩]
def T : Tb := ⟨3, [(1, ⟨2, 0, 1, 7, 8, 2⟩), (2, ⟨1, 0, 0, 7, 5, 1⟩)], [(2, 1), (1, 1)], 9⟩
theorem h_all : V.all N2 = L := by kernel_rfl
theorem h_go : V.goS N2 L 3 3 = ⟨T, [], [], []⟩ := by kernel_rfl
theorem h_size : V.size 3 = 3 := by kernel_rfl
theorem h_next : V.nextOf L = 9 := by kernel_rfl
theorem h_scan : V.scan N2 3 = ⟨T, [], 0, [], 9, 3⟩ := by
 unfold V.scan
 rw [h_all]
 unfold V.scanOf
 rw [h_size, h_go, h_next]
 have : compactI (sortI []) = [] := normI_nil
 dsimp only
 rw [this]
 rfl
end B16
end Go.Proofs.YtoideahgjgaddaaGreat
namespace Go.Proofs.YtoideahgjgaddaaGreat
open Go Go.RowKit
theorem l11_Begun : Fn Tryz.prog 37 [] [] (fun v As => v = .bool true ∧ As = []) := by
 refine Fn.enter [] Tryz.func37 rfl rfl rfl fun X F hX => ?_
 refine J.r hX tk 400 (fun _ => rfl) fun b1 => ?_
 refine J.ca hX (by kernel_rfl) (l11_begun) [] 0 rfl rfl rfl rfl rfl rfl (fun _ => rfl) ?_
 rintro v As ⟨rfl, rfl⟩
 refine ⟨_, rfl, trivial, ?_⟩
 refine J.r hX tk 400 (fun _ => rfl) fun b3 => ?_
 refine J.rt hX tk [] rfl rfl rfl ?_
 exact ⟨rfl, rfl⟩
open B16
theorem l16_begun : Fn Tryz.prog 13 [] [] (fun v As => v = .bool true ∧ As = []) := by
 refine Fn.enter [] Tryz.func13 rfl rfl rfl fun X F hX => ?_
 refine J.r hX tk 400 (fun _ => rfl) fun b4 => ?_
 refine J.ca hX (by kernel_rfl) (n_New 3 8 2 rfl) [] 0 rfl rfl rfl rfl rfl rfl (fun _ => rfl) ?_
 rintro v As ⟨q, rfl, rfl⟩
 refine ⟨_, rfl, trivial, ?_⟩
 refine J.r hX tk 400 (fun _ => rfl) fun b6 => ?_
 refine J.cond rfl (fun h => absurd h (by decide)) (fun _ => ?_)
 refine J.r hX tk 400 (fun _ => rfl) fun bx => ?_
 refine J.ca hX (by kernel_rfl) (r_Write q N0 (.pt (bx 0) 45 (cellsE [e1, B9.pad])) 1 0 7 (some ⟨bx 0, 0, none⟩) 2 2 0 [e1, B9.pad] (pt_rd _ _ _ _ _ rfl) rfl (by decide) (G0.less (by decide) (Nat.le_refl _))) [1, 2] 0 rfl rfl rfl rfl rfl rfl (fun _ => rfl) ?_
 rintro v As ⟨rfl, rfl⟩
 refine ⟨_, rfl, trivial, ?_⟩
 refine J.r hX tk 400 (fun _ => rfl) fun by_ => ?_
 refine J.ca hX (by kernel_rfl) (r_Write q N1 (.pt (by_ 0) 45 (cellsE [e2, e3])) 2 0 7 (some ⟨by_ 0, 0, none⟩) 2 2 0 [e2, e3] (pt_rd _ _ _ _ _ rfl) rfl (by decide) (G1.less (by decide) (Nat.le_refl _))) [1, 3] 0 rfl rfl rfl rfl rfl rfl (fun _ => rfl) ?_
 rintro v As ⟨rfl, rfl⟩
 refine ⟨_, rfl, trivial, ?_⟩
 refine J.r hX tk 400 (fun _ => rfl) fun b9 => ?_
 refine J.ca hX (by kernel_rfl) (v_Scan q N2 G2.ok G2.room off2 3) [1] 0 rfl rfl rfl rfl rfl rfl (fun _ => rfl) ?_
 rintro v As ⟨r, a1, c1, a2, c2, rfl, rfl⟩
 refine ⟨_, rfl, trivial, ?_⟩
 rw [h_scan]
 refine J.r hX tk 400 (fun _ => rfl) fun b11 => ?_
 refine J.cond rfl (fun h => absurd h (by decide)) (fun _ => ?_)
 refine J.r hX tk 400 (fun _ => rfl) fun b13 => ?_
 refine J.ca hX (by kernel_rfl) (tb_Get r T 2) [4] 0 rfl rfl rfl rfl rfl rfl (fun _ => rfl) ?_
 rintro v As ⟨rfl, rfl⟩
 refine ⟨_, rfl, trivial, ?_⟩
 rw [show Tb.look T.at_ 2 = some ⟨1, 0, 0, 7, 5, 1⟩ from rfl, Option.getD_some, Option.isSome_some]
 refine J.r hX tk 400 (fun _ => rfl) fun b15 => ?_
 refine J.ca hX (by kernel_rfl) (d_New) [] 0 rfl rfl rfl rfl rfl rfl (fun _ => rfl) ?_
 rintro v As ⟨d, rfl, rfl⟩
 refine ⟨_, rfl, trivial, ?_⟩
 refine J.r hX tk 400 (fun _ => rfl) fun b17 => ?_
 refine J.ca hX (by kernel_rfl) (d_Put d [] (by decide) w1) [9] 0 rfl rfl rfl rfl rfl rfl (fun _ => rfl) ?_
 rintro v As ⟨rfl, rfl⟩
 refine ⟨_, rfl, trivial, ?_⟩
 rw [show dkPut [] w1 = [w1] from rfl]
 refine J.r hX tk 400 (fun _ => rfl) fun b19 => ?_
 refine J.ca hX (by kernel_rfl) (d_Put d [w1] (by decide) w2) [9] 0 rfl rfl rfl rfl rfl rfl (fun _ => rfl) ?_
 rintro v As ⟨rfl, rfl⟩
 refine ⟨_, rfl, trivial, ?_⟩
 rw [show dkPut [w1] w2 = [w1, w2] from rfl]
 refine J.r hX tk 400 (fun _ => rfl) fun b21 => ?_
 refine J.ca hX (by kernel_rfl) (d_Put d [w1, w2] (by decide) w3) [9] 0 rfl rfl rfl rfl rfl rfl (fun _ => rfl) ?_
 rintro v As ⟨rfl, rfl⟩
 refine ⟨_, rfl, trivial, ?_⟩
 rw [show dkPut [w1, w2] w3 = [w2, w3] from rfl]
 refine J.r hX tk 400 (fun _ => rfl) fun b23 => ?_
 refine J.ca hX (by kernel_rfl) (d_First d [w2, w3] (by decide) 5) [9] 0 rfl rfl rfl rfl rfl rfl (fun _ => rfl) ?_
 rintro v As ⟨a3, c3, rfl, rfl⟩
 refine ⟨_, rfl, trivial, ?_⟩
 rw [show dkN [w2, w3] 5 = 2 from rfl, show [w2, w3].take 2 = [w2, w3] from rfl]
 refine J.know (fun h' s => own_some (c := (a3, c3)) (by decide) (s.get (i := 10) rfl)) fun hg => ?_
 obtain ⟨ga, rfl⟩ := hg
 refine J.know (fun h' s => ownP_cap (show ownP _ _ (some ga) 2 c3 _ _ from s.get (i := 10) rfl)) fun hcap => ?_
 refine J.r hX tk 400 (fun _ => rfl) fun b25 => ?_
 refine J.ca hX (by kernel_rfl) (d_Get d [w2, w3] (by decide) 4) [9] 0 rfl rfl rfl rfl rfl rfl (fun _ => rfl) ?_
 rintro v As ⟨rfl, rfl⟩
 refine ⟨_, rfl, trivial, ?_⟩
 rw [show dkGet [w2, w3] 4 = (w3, true) from rfl]
 refine J.r hX tk 400 (fun _ => rfl) fun b27 => ?_
 refine J.ca hX (by kernel_rfl) (l11_Begun) [] 0 rfl rfl rfl rfl rfl rfl (fun _ => rfl) ?_
 rintro v As ⟨rfl, rfl⟩
 refine ⟨_, rfl, trivial, ?_⟩
 refine J.r hX tk 400 (fun _ => rfl) fun b29 => ?_
 refine J.ca hX (by kernel_rfl) (l13_Begun) [] 0 rfl rfl rfl rfl rfl rfl (fun _ => rfl) ?_
 rintro v As ⟨rfl, rfl⟩
 refine ⟨_, rfl, trivial, ?_⟩
 refine J.r hX tk 400 (fun _ => rfl) fun b31 => ?_
 refine J.ca hX (by kernel_rfl) (tb_Len r T) [4] 0 rfl rfl rfl rfl rfl rfl (fun _ => rfl) ?_
 rintro v As ⟨rfl, rfl⟩
 refine ⟨_, rfl, trivial, ?_⟩
 refine J.r hX tk 400 (fun _ => rfl) fun b33 => ?_
 refine J.val hX (.int .i64 5) 0 rfl rfl (fun hg a w he hw => own1_run tk rfl rfl he hg rfl rfl (hw.get (i := 10) rfl) rfl) rfl trivial ?_
 refine J.r hX tk 400 (fun _ => rfl) fun b34 => ?_
 have hRd : Rd (ownA 45 19 (some ga) 2 c3 (cellsE [w2, w3])) (some ⟨ga, 0, none⟩) 19 1 (cellsE [w2]) := (own_rd 45 19 (some ga) 2 c3 (cellsE [w2, w3])).take 1 (by decide)
 refine J.r hX tk 400 (fun _ => rfl) fun b35 => ?_
 refine J.ca hX (by kernel_rfl) (d_Done d [w2, w3] (by decide) (ownA 45 19 (some ga) 2 c3 (cellsE [w2, w3])) (some ⟨ga, 0, none⟩) 1 c3 [w2] hRd rfl (by decide)) [9, 10] 0 rfl rfl rfl rfl rfl rfl (fun _ => rfl) ?_
 rintro v As ⟨rfl, rfl⟩
 refine ⟨_, rfl, trivial, ?_⟩
 rw [show dkDone [w2, w3] [w2] = [w3] from rfl]
 refine J.r hX tk 400 (fun _ => rfl) fun b36 => ?_
 refine J.ca hX (by kernel_rfl) (d_Len d [w3]) [9] 0 rfl rfl rfl rfl rfl rfl (fun _ => rfl) ?_
 rintro v As ⟨rfl, rfl⟩
 refine ⟨_, rfl, trivial, ?_⟩
 refine J.r hX tk 400 (fun _ => rfl) fun b38 => ?_
 refine J.rt hX tk [] rfl rfl rfl ?_
 exact ⟨rfl, rfl⟩
end Go.Proofs.YtoideahgjgaddaaGreat
namespace Go.Proofs.YtoideahgjgaddaaGreat
end Go.Proofs.YtoideahgjgaddaaGreat
