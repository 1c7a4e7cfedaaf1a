/- Helpers, proved here. No condition. -/
import Derived.Test.YtdocmcapegcoeaaGreatV06
import Derived.Test.YtdocmcapegcoeaaGreatV13
import Derived.Test.YtdocmcapegcoeaaGreatV16
import Derived.Test.YtdocmcapegcoeaaGreatV17
set_option maxRecDepth 20000
set_option linter.all false
namespace Go.Proofs.YtdocmcapegcoeaaGreat
open Go Go.RowKit
theorem cutE_run {E : Env} {n : Nat} {ac : Act} {w : World} {o : Oper} {x y : Operand} {k1 k2 t1 t2 : Nat} {g1 g2 : G} {a : Option Addr} {m c h : Nat} {kk : IntKind} {hI : Int} (hop : o.op = .slice 34 x none (some y) none) (hx : ev E x = some ⟨k1, .slice a m c, t1, g1⟩) (hy : ev E y = some ⟨k2, .int kk hI, t2, g2⟩) (he : EnvOK n E ac) (v1 : g1.on = true) (v2 : g2.on = true) (hh : hI = (h : Int)) (hc : h ≤ c) :
  (execOp ac.eval o).run Tryz.prog w = .ok (.value (.slice a h c)) w := by
 subst hh
 have e1 := ev_spec he hx
 have e2 := ev_spec he hy
 simp only [Slot.val, v1, v2] at e1 e2
 obtain ⟨d, f, zv, ok⟩ := tiOf_spec (tk.get (t := 34) rfl)
 obtain ⟨fe, rfl, g1, g2⟩ := ok.slice rfl
 have h0 : ∀ ad : Addr, ad.add 0 = ad := fun ad => by unfold Addr.add; rw [if_pos rfl]
 cases a with
 | none =>
  simp only [execOp, hop, Option.map_some, Option.map_none, e1, e2, Instr.sliceAt, Instr.slice, Instr.sliceBounds, Instr.sliceBound, asIntOf, Sem.run_bind, Sem.run_pure, Result.andThen_ok, underlying_run ok.hd, sizeOf_run g1, g2]
  simp [hc, h0]
 | some ad =>
  simp only [execOp, hop, Option.map_some, Option.map_none, e1, e2, Instr.sliceAt, Instr.slice, Instr.sliceBounds, Instr.sliceBound, asIntOf, Sem.run_bind, Sem.run_pure, Result.andThen_ok, underlying_run ok.hd, sizeOf_run g1, g2]
  simp [hc, h0]
theorem ownP_cap {e size : Nat} {a : Option Nat} {n cap : Nat} {xs : List Value} {h : Hl} (s : ownP e size a n cap xs h) : n ≤ cap := by
 obtain ⟨_, s⟩ := s
 cases a with
 | none => obtain ⟨rfl, rfl⟩ := s; exact Nat.le_refl _
 | some g => obtain ⟨_, _, h, _⟩ := s; exact h
theorem cellsE_take' (l : List En) : ∀ k, (cellsE l).take (k * 19) = cellsE (l.take k) := by
 induction l with
 | nil => intro k; simp [cellsE]
 | cons x l ih =>
  intro k
  cases k with
  | zero => simp [cellsE]
  | succ k =>
   have e1 : cellsE (x :: l) = enL x ++ cellsE l := by simp [cellsE]
   have e2 : cellsE (x :: l.take k) = enL x ++ cellsE (l.take k) := by simp [cellsE]
   rw [e1, List.take_succ_cons, e2, ← ih k, show (k + 1) * 19 = (enL x).length + k * 19 from by show _ = 19 + k * 19; omega, List.take_length_add_append]
theorem cellsE_snoc (l : List En) (e : En) : cellsE l ++ enL e = cellsE (l ++ [e]) := by simp [cellsE]
theorem x_CloneP (a : Option Nat) (N cap cap2 k : Nat) (l : List En) (hl : l.length = N) (hk : k ≤ N) (hn : N ≤ 1000000) : Fn Tryz.prog 178 [slv a k cap2] [ownA 38 19 a N cap (cellsE l)]
  (fun v As => ∃ a' c', v = slv a' k c' ∧ As = [ownA 38 19 a N cap (cellsE l), ownA 38 19 a' k c' (cellsE (l.take k))]) := by
 refine Fn.enter [0] Tryz.func178 rfl rfl rfl fun X F hX => ?_
 cases a with
 | none =>
  refine J.know (fun h' s => (s.get (i := 1) rfl).2) fun hn0 => ?_
  obtain ⟨rfl, rfl⟩ := hn0
  obtain rfl : k = 0 := by omega
  have : l = [] := List.eq_nil_of_length_eq_zero hl
  subst this
  refine J.q hX fun b1 => ?_
  refine J.cT ?_
  refine J.turn1 [] rfl (As := [ownA 38 19 none 0 0 (cellsE [])]) (fun h s => Sep.one ⟨rfl, rfl, rfl⟩) rfl ?_
  refine J.q hX fun b2 => ?_
  refine J.ru hX [1, 2] ?_
  exact ⟨none, 0, rfl, rfl⟩
 | some g =>
  refine J.q hX fun b3 => ?_
  refine J.cF ?_
  refine J.qn hX 5 fun bb => ?_
  refine J.closeOwn (e := 38) (size := 19) (n := 0) (cap := 0) (xs := []) 2 rfl rfl rfl (Nat.le_refl _) (Nat.zero_le _) rfl rfl rfl ?_
  refine J.q hX fun b4 => ?_
  have hRd : Rd (ownA 38 19 (some g) N cap (cellsE l)) (some ⟨g, 0, none⟩) 19 k (cellsE (l.take k)) := by
   have := (own_rd 38 19 (some g) N cap (cellsE l)).take k hk
   rwa [cellsE_take'] at this
  refine J.appendR hX tk (a := some (bb 0)) (n := 0) (cap := 0) (xs := []) (oo := 0) (Ay := ownA 38 19 (some g) N cap (cellsE l)) 2 1 0 rfl rfl rfl rfl rfl rfl rfl rfl rfl rfl hRd rfl rfl rfl rfl (cellsE_one _) ?_ ?_ (fun _ => rfl) fun a' c' => ⟨_, rfl, trivial, ?_⟩
  ·simp only [maxLen]; omega
  ·omega
  rw [Nat.zero_add k, List.nil_append]
  refine J.q hX fun b5 => ?_
  refine J.ru hX [1, 2] ?_
  exact ⟨a', c', rfl, rfl⟩
theorem x_IndexR (c : Nat) (cs : List Value) (p : En → Bool) (A B : Atom) (hcal : callable Tryz.prog c = true) (l : List En) (hf : ∀ x ∈ l, Fn Tryz.prog c (enV x :: cs) [A] (fun v As => v = .bool (p x) ∧ As = [A]))
  (a : Option Addr) (n cap : Nat) (hB : Rd B a 19 n (cellsE l)) (hl : l.length = n) (hn : n ≤ 4611686018427387904) : Fn Tryz.prog 179 [.slice a n cap, fnC c cs] [B, A]
  (fun v As => v = .int .i64 (idxE p l) ∧ As = [B, A]) := by
 refine Fn.enter [0, 0] Tryz.func179 rfl rfl rfl fun X F hX => ?_
 refine J.q hX fun b6 => ?_
 refine J.lo (α := Nat) (fun k => k ≤ n ∧ ∀ i < k, p (l.getD i En.zero) = false) (fun k => [⟨8, .int .i64 k, 0, .tt⟩, ⟨7, .int .i64 n, 0, .tt⟩, ⟨0, .slice a n cap, 0, .tt⟩, ⟨1, fnC c cs, 0, .tt⟩]) [] (fun k => []) (fun k => n - k) (0) (⟨by omega, by omega⟩) rfl ?_ (fun _ => rfl) fun k hI => ?_
 ·rfl
 refine J.q hX fun b8 => ?_
 refine J.cond rfl (fun h1 => ?_) (fun h1 => ?_)
 ·simp only [decide_eq_true_eq, Int.ofNat_lt] at h1
  refine J.know (p := ∃ g o, a = some ⟨g, o, none⟩) (fun h' s => Rd.addr (hB _ (s.get (i := 1) rfl)) (by omega)) fun hk => ?_
  obtain ⟨g, o, rfl⟩ := hk
  have hk : l[k]? = some (l.getD k En.zero) := by rw [List.getD_eq_getElem?_getD, List.getElem?_eq_getElem (by omega), Option.getD_some]
  refine J.q hX fun b9 => ?_
  refine J.val hX (enV (l.getD k En.zero)) 0 rfl rfl (fun hg a w he hs => ?_) rfl trivial ?_
  ·exact rdN_run tk rfl rfl he rfl rfl rfl (hB _ (hs.get (i := 1) rfl)) (by omega) (j := k * 19) (by omega) (by have := cellsE_at l [] k _ hk; rwa [List.append_nil] at this) rfl
  refine J.q hX fun b10 => ?_
  refine J.call hX hcal (hf (l.getD k En.zero) (List.mem_of_getElem? hk)) [2] 0 rfl rfl rfl rfl (by (repeat' (first | exact Conj.nil | refine Conj.cons ?_ ?_ | omega | exact hq0 | (simpa using hq0) | (exact fun h => h) | exact rfl | (intro hq; have hq0 := hq; try simp only [Bool.and_eq_true, Bool.or_eq_true, decide_eq_true_eq, Bool.not_eq_true', decide_eq_false_iff_not] at hq) | (simp; done) | (simp; omega) | decide))) rfl rfl (fun _ => rfl) ?_
  refine cpq ⟨_, rfl, trivial, ?_⟩
  refine J.q hX fun b11 => ?_
  refine J.cond rfl (fun h2 => ?_) (fun h2 => ?_)
  ·refine J.q hX fun b12 => ?_
   refine J.ru hX [1, 2] ?_
   exact ⟨by rw [idxE, idxE_step hk hI.2 h2], rfl⟩
  ·refine J.q hX fun b13 => ?_
   refine J.nx (k + 1) (⟨by omega, fun i hi => by
    rcases Nat.lt_succ_iff_lt_or_eq.1 hi with h3 | h3
    ·exact hI.2 i h3
    ·rw [h3]; exact h2⟩) (by omega) (fun _ s => s)
 ·simp only [decide_eq_false_iff_not, Int.ofNat_lt] at h1
  refine J.q hX fun b14 => ?_
  refine J.ru hX [1, 2] ?_
  exact ⟨by rw [idxE, idxE_none (fun i hi => hI.2 i (by omega))], rfl⟩
theorem x_ContainsR (c : Nat) (cs : List Value) (p : En → Bool) (A B : Atom) (hcal : callable Tryz.prog c = true) (l : List En) (hf : ∀ x ∈ l, Fn Tryz.prog c (enV x :: cs) [A] (fun v As => v = .bool (p x) ∧ As = [A]))
  (a : Option Addr) (n cap : Nat) (hB : Rd B a 19 n (cellsE l)) (hl : l.length = n) (hn : n ≤ 4611686018427387904) : Fn Tryz.prog 184 [.slice a n cap, fnC c cs] [B, A]
  (fun v As => v = .bool (l.any p) ∧ As = [B, A]) := by
 refine Fn.enter [0, 0] Tryz.func184 rfl rfl rfl fun X F hX => ?_
 refine J.q hX fun b15 => ?_
 refine J.cb hX (x_IndexR c cs p A B hcal l hf a n cap hB hl hn) [1, 2] ?_
 refine cpq ⟨_, rfl, trivial, ?_⟩
 refine J.q hX fun b17 => ?_
 refine J.ru hX [1, 2] ?_
 exact ⟨by rw [← idxE_any], rfl⟩
def DeskA (d : Nat) (L : List En) : Atom := exA fun x : Option Nat × Nat => [.pt d 227 [slv x.1 L.length x.2], ownA 38 19 x.1 L.length x.2 (cellsE L)]
theorem d_New : Fn Tryz.prog 135 [] [] (fun v As => ∃ d, v = .pointer (some ⟨d, 0, none⟩) ∧ As = [DeskA d []]) := by
 refine Fn.enter [] Tryz.func135 rfl rfl rfl fun X F hX => ?_
 refine J.q hX fun bs => ?_
 refine J.turn1 [] rfl (As := [ownA 38 19 none 0 0 (cellsE [])]) (fun h s => Sep.one ⟨rfl, rfl, rfl⟩) rfl ?_
 refine J.close (f := fun x : Option Nat × Nat => [.pt (bs 0) 227 [slv x.1 ([] : List En).length x.2], ownA 38 19 x.1 ([] : List En).length x.2 (cellsE [])]) (none, 0) [1, 2] rfl rfl rfl ?_
 refine J.q hX fun b18 => ?_
 refine J.ru hX [1] ?_
 exact ⟨bs 0, rfl, rfl⟩
theorem d_Len (d : Nat) (L : List En) : Fn Tryz.prog 142 [.pointer (some ⟨d, 0, none⟩)] [DeskA d L] (fun v As => v = .int .i64 L.length ∧ As = [DeskA d L]) := by
 refine Fn.enter [2] Tryz.func142 rfl rfl rfl fun X F hX => ?_
 refine J.open_ (α := (Option Nat × Nat)) 1 rfl rfl (fun _ => rfl) fun x => ?_
 refine J.q hX fun b19 => ?_
 refine J.cF ?_
 refine J.q hX fun b20 => ?_
 refine J.close (f := fun x : Option Nat × Nat => [.pt d 227 [slv x.1 L.length x.2], ownA 38 19 x.1 L.length x.2 (cellsE L)]) x [1, 2] rfl rfl rfl ?_
 refine J.q hX fun b21 => ?_
 exact J.ru hX [1] ⟨rfl, rfl⟩
theorem d_Put1 (b : Nat) (e x : En) : Fn Tryz.prog 177 [enV x, .pointer (some ⟨b, 0, none⟩)] [.pt b 38 (enL e)] (fun v As => v = .bool (x.lpn == e.lpn) ∧ As = [.pt b 38 (enL e)]) := by
 refine Fn.enter [0, 2] Tryz.func177 rfl rfl rfl fun X F hX => ?_
 refine J.q hX fun b22 => ?_
 exact J.ru hX [1] ⟨rfl, rfl⟩
def dkPut (L : List En) (e : En) : List En := (L.filter fun x => !(x.lpn == e.lpn)) ++ [e]
theorem d_Put (d : Nat) (L : List En) (hL : L.length ≤ 100000) (e : En) : Fn Tryz.prog 136 [.pointer (some ⟨d, 0, none⟩), enV e] [DeskA d L] (fun v As => v = .tuple #[] ∧ As = [DeskA d (dkPut L e)]) := by
 refine Fn.enter [2, 0] Tryz.func136 rfl rfl rfl fun X F hX => ?_
 refine J.open_ (α := (Option Nat × Nat)) 1 rfl rfl (fun _ => rfl) fun x => ?_
 obtain ⟨a, c⟩ := x
 refine J.q hX fun bb => ?_
 refine J.cF ?_
 refine J.q hX fun b24 => ?_
 refine J.cb hX (x_DeleteE 177 [.pointer (some ⟨bb 0, 0, none⟩)] (fun x => x.lpn == e.lpn) (.pt (bb 0) 38 (enL e)) (by kernel_rfl) (fun x => d_Put1 (bb 0) e x) a L.length c L rfl (by omega)) [2, 3] ?_
 rintro v As ⟨l', hl', rfl, rfl⟩
 refine ⟨_, rfl, trivial, ?_⟩
 have hll : l'.length ≤ L.length := by rw [hl']; exact List.length_filter_le _ _
 have hput : dkPut L e = l' ++ [e] := by unfold dkPut; rw [hl']
 refine J.q hX fun b26 => ?_
 refine J.plan (.of [0,4,8,12,17,21,26,30,32,36,43]) [8,9,10] [1,3] (by rw [hX.hP]; kernel_rfl) (by kernel_rfl) ?_
 refine J.q hX fun b27 => ?_
 refine J.append hX tk 2 4 0 rfl rfl rfl rfl rfl rfl rfl rfl rfl rfl rfl rfl rfl rfl rfl rfl ?_ ?_ (fun _ => rfl) fun a2 c2 => ⟨_, (congrArg (fun z => lset _ 2 (ownA _ _ _ _ _ z)) (cellsE_snoc l' e)).trans rfl, ⟨rfl, rfl, trivial⟩, ?_⟩
 ·simp only [maxLen]; omega
 ·omega
 refine J.q hX fun b28 => ?_
 rw [show l'.length + 1 = (dkPut L e).length from by rw [hput]; simp, ← hput]
 refine J.close (f := fun x : Option Nat × Nat => [.pt d 227 [slv x.1 (dkPut L e).length x.2], ownA 38 19 x.1 (dkPut L e).length x.2 (cellsE (dkPut L e))]) (a2, c2) [1, 2] rfl rfl rfl ?_
 refine J.q hX fun b29 => ?_
 refine J.fi hX tk [1] rfl rfl rfl ?_
 exact ⟨rfl, rfl⟩
theorem d_Get1 (b : Nat) (k : Int) (x : En) : Fn Tryz.prog 180 [enV x, .pointer (some ⟨b, 0, none⟩)] [.pt b 3 [.int .i64 k]] (fun v As => v = .bool (x.lpn == k) ∧ As = [.pt b 3 [.int .i64 k]]) := by
 refine Fn.enter [0, 2] Tryz.func180 rfl rfl rfl fun X F hX => ?_
 refine J.q hX fun b30 => ?_
 exact J.ru hX [1] ⟨rfl, rfl⟩
def dkGet (L : List En) (k : Int) : En × Bool := match L.find? (fun x => x.lpn == k) with
 | some e => (e, true)
 | none => (En.zero, false)
theorem find_idx {p : En → Bool} {l : List En} {k : Nat} (h : l.findIdx? p = some k) : l.find? p = some (l.getD k En.zero) ∧ l[k]? = some (l.getD k En.zero) := by
 rw [List.findIdx?_eq_some_iff_getElem] at h
 obtain ⟨h1, h2, h3⟩ := h
 have e : l[k]? = some (l.getD k En.zero) := by rw [List.getD_eq_getElem?_getD, List.getElem?_eq_getElem h1, Option.getD_some]
 refine ⟨?_, e⟩
 have e2 : l.getD k En.zero = l[k] := by rw [List.getElem?_eq_getElem h1] at e; injection e with e; exact e.symm
 rw [List.find?_eq_some_iff_getElem, e2]
 exact ⟨h2, k, h1, rfl, fun j hj => by simpa using h3 j hj⟩
theorem d_Get (d : Nat) (L : List En) (hL : L.length ≤ 100000) (k : Int) : Fn Tryz.prog 138 [.pointer (some ⟨d, 0, none⟩), .int .i64 k] [DeskA d L] (fun v As => v = .tuple #[enV (dkGet L k).1, .bool (dkGet L k).2] ∧ As = [DeskA d L]) := by
 refine Fn.enter [2, 0] Tryz.func138 rfl rfl rfl fun X F hX => ?_
 refine J.open_ (α := (Option Nat × Nat)) 1 rfl rfl (fun _ => rfl) fun x => ?_
 obtain ⟨a, c⟩ := x
 refine J.q hX fun bb => ?_
 refine J.cF ?_
 refine J.q hX fun b32 => ?_
 refine J.ca hX (by kernel_rfl) (x_IndexE 180 [.pointer (some ⟨bb 0, 0, none⟩)] (fun x => x.lpn == k) (.pt (bb 0) 3 [.int .i64 k]) (by kernel_rfl) L (fun x _ => d_Get1 (bb 0) k x) a L.length c rfl (by omega)) [2, 3] 0 rfl rfl rfl rfl rfl rfl (fun _ => rfl) ?_
 refine cpq ⟨_, rfl, trivial, ?_⟩
 rw [idxE]
 cases hx : L.findIdx? (fun x => x.lpn == k) with
 | none =>
  dsimp only
  refine J.q hX fun b34 => ?_
  refine J.cT ?_
  refine J.close (f := fun x : Option Nat × Nat => [.pt d 227 [slv x.1 L.length x.2], ownA 38 19 x.1 L.length x.2 (cellsE L)]) (a, c) [1, 2] rfl rfl rfl ?_
  refine J.q hX fun b35 => ?_
  refine J.ru hX [1] ?_
  have : dkGet L k = (En.zero, false) := by
   unfold dkGet
   rw [List.find?_eq_none.2 (fun x hm => by rw [List.findIdx?_eq_none_iff] at hx; simp [hx x hm])]
  rw [this]
  exact ⟨rfl, rfl⟩
 | some i =>
  dsimp only
  obtain ⟨f1, f2⟩ := find_idx hx
  have hi : i < L.length := (List.getElem?_eq_some_iff.1 f2).1
  refine J.q hX fun b36 => ?_
  refine J.cond rfl (fun h0 => ?_) (fun h0 => ?_)
  ·simp only [decide_eq_true_eq] at h0; omega
  cases a with
  | none =>
   refine J.know (fun h' s => (s.get (i := 2) rfl).2.1) fun hn0 => ?_
   omega
  | some g =>
   refine J.q hX fun b37 => ?_
   refine J.val hX (enV (L.getD i En.zero)) 0 rfl rfl (fun hg a w he hs => ?_) rfl trivial ?_
   ·exact ownN_run tk rfl rfl he rfl rfl rfl (hs.get (i := 2) rfl) (by rw [show 0 + (i : Int).toNat * 19 = i * 19 from by omega]; have := cellsE_at L [] i _ f2; rwa [List.append_nil] at this) rfl
   refine J.close (f := fun x : Option Nat × Nat => [.pt d 227 [slv x.1 L.length x.2], ownA 38 19 x.1 L.length x.2 (cellsE L)]) (some g, c) [1, 2] rfl rfl rfl ?_
   refine J.q hX fun b38 => ?_
   refine J.ru hX [1] ?_
   have : dkGet L k = (L.getD i En.zero, true) := by
    unfold dkGet
    rw [f1]
   rw [this]
   exact ⟨rfl, rfl⟩
def dkN (L : List En) (n : Int) : Nat := min n.toNat L.length
theorem d_First (d : Nat) (L : List En) (hL : L.length ≤ 100000) (n : Int) : Fn Tryz.prog 137 [.pointer (some ⟨d, 0, none⟩), .int .i64 n] [DeskA d L] (fun v As => ∃ a' c', v = slv a' (dkN L n) c' ∧ As = [DeskA d L, ownA 38 19 a' (dkN L n) c' (cellsE (L.take (dkN L n)))]) := by
 refine Fn.enter [2, 0] Tryz.func137 rfl rfl rfl fun X F hX => ?_
 refine J.open_ (α := (Option Nat × Nat)) 1 rfl rfl (fun _ => rfl) fun x => ?_
 obtain ⟨a, c⟩ := x
 refine J.q hX fun b39 => ?_
 refine J.cF ?_
 refine J.know (fun h' s => ownP_cap (s.get (i := 2) rfl)) fun hcap => ?_
 dsimp only at hcap
 have hmin : (if (L.length : Int) < (if (0 : Int) > n then 0 else n) then (L.length : Int) else (if (0 : Int) > n then 0 else n)) = (dkN L n : Int) := by
  unfold dkN
  by_cases h : (0 : Int) > n
  ·simp only [if_pos h]; rw [if_neg (by omega)]; omega
  ·simp only [if_neg h]; split <;> omega
 have hk : dkN L n ≤ L.length := Nat.min_le_right _ _
 refine J.q hX fun b40 => ?_
 refine J.plan (.of [0,4,8,13,16,20,24,28,32,37,40,44,48,54,56]) [14] [1,2] (by rw [hX.hP]; kernel_rfl) (by kernel_rfl) ?_
 refine J.qn hX 12 fun b41 => ?_
 refine J.valT hX (slv a (dkN L n) c) 0 rfl rfl (fun hg aa w he hC => ?_) rfl ?_
 ·exact cutE_run rfl rfl rfl he rfl rfl hmin (by omega)
 refine J.q hX fun b42 => ?_
 refine J.cb hX (x_CloneP a L.length c c (dkN L n) L rfl hk (by omega)) [2] ?_
 rintro v As ⟨a', c', rfl, rfl⟩
 refine ⟨_, rfl, ⟨rfl, rfl, trivial⟩, ?_⟩
 refine J.q hX fun b44 => ?_
 refine J.close (f := fun x : Option Nat × Nat => [.pt d 227 [slv x.1 L.length x.2], ownA 38 19 x.1 L.length x.2 (cellsE L)]) (a, c) [1, 2] rfl rfl rfl ?_
 refine J.q hX fun b45 => ?_
 refine J.ru hX [1, 3] ?_
 exact ⟨a', c', rfl, rfl⟩
theorem d_Done2 (b be : Nat) (x e : En) : Fn Tryz.prog 185 [enV e, .pointer (some ⟨b, 0, none⟩)] [.pt b 38 (enL x)] (fun v As => v = .bool (e.lpn == x.lpn && e.seq == x.seq) ∧ As = [.pt b 38 (enL x)]) := by
 refine Fn.enter [0, 2] Tryz.func185 rfl rfl rfl fun X F hX => ?_
 refine J.q hX fun b46 => ?_
 exact J.ru hX [1] ⟨rfl, rfl⟩
theorem d_Done1 (b : Nat) (B : Atom) (al : Option Addr) (nl cl : Nat) (l : List En) (hB : Rd B al 19 nl (cellsE l)) (hl : l.length = nl) (hn : nl ≤ 4611686018427387904) (x : En) : Fn Tryz.prog 183 [enV x, .pointer (some ⟨b, 0, none⟩)] [.pt b 34 [.slice al nl cl], B] (fun v As => v = .bool (l.any fun e => e.lpn == x.lpn && e.seq == x.seq) ∧ As = [.pt b 34 [.slice al nl cl], B]) := by
 refine Fn.enter [0, 2] Tryz.func183 rfl rfl rfl fun X F hX => ?_
 refine J.q hX fun bb => ?_
 refine J.ca hX (by kernel_rfl) (x_ContainsR 185 [.pointer (some ⟨bb 0, 0, none⟩)] (fun e => e.lpn == x.lpn && e.seq == x.seq) (.pt (bb 0) 38 (enL x)) B (by kernel_rfl) l (fun e _ => d_Done2 (bb 0) 0 x e) al nl cl hB hl hn) [2, 3] 0 rfl rfl rfl rfl rfl rfl (fun _ => rfl) ?_
 refine cpq ⟨_, rfl, trivial, ?_⟩
 refine J.q hX fun b48 => ?_
 exact J.ru hX [1, 2] ⟨rfl, rfl⟩
def dkDone (L l : List En) : List En := L.filter fun x => !(l.any fun e => e.lpn == x.lpn && e.seq == x.seq)
theorem d_Done (d : Nat) (L : List En) (hL : L.length ≤ 100000) (B : Atom) (al : Option Addr) (nl cl : Nat) (l : List En) (hB : Rd B al 19 nl (cellsE l)) (hl : l.length = nl) (hn : nl ≤ 4611686018427387904) : Fn Tryz.prog 141 [.pointer (some ⟨d, 0, none⟩), .slice al nl cl] [DeskA d L, B] (fun v As => v = .int .i64 ((L.length : Int) - (dkDone L l).length) ∧ As = [DeskA d (dkDone L l), B]) := by
 refine Fn.enter [2, 0] Tryz.func141 rfl rfl rfl fun X F hX => ?_
 refine J.open_ (α := (Option Nat × Nat)) 1 rfl rfl (fun _ => rfl) fun x => ?_
 obtain ⟨a, c⟩ := x
 refine J.q hX fun bb => ?_
 refine J.cF ?_
 refine J.q hX fun b50 => ?_
 refine J.turn1 [4, 2] rfl (As := [.hp (HP.of [.pt (bb 0) 34 [.slice al nl cl], B])]) (fun h s => Sep.hpOf.2 s) rfl ?_
 refine J.q hX fun b51 => ?_
 refine J.ca hX (by kernel_rfl) (x_DeleteE 183 [.pointer (some ⟨bb 0, 0, none⟩)] (fun x => l.any fun e => e.lpn == x.lpn && e.seq == x.seq) _ (by kernel_rfl) (fun x => Fn.pack (d_Done1 (bb 0) B al nl cl l hB hl hn x)) a L.length c L rfl (by omega)) [3, 4] 0 rfl rfl rfl rfl rfl rfl (fun _ => rfl) ?_
 rintro v As ⟨l', hl', rfl, rfl⟩
 refine ⟨_, rfl, trivial, ?_⟩
 have hll : l'.length ≤ L.length := by rw [hl']; exact List.length_filter_le _ _
 have hdn : dkDone L l = l' := hl'.symm
 refine J.q hX fun b52 => ?_
 refine J.turn1 [4] rfl (As := [.pt (bb 0) 34 [.slice al nl cl], B]) (fun h s => Sep.hpOf.1 s) rfl ?_
 refine J.close (f := fun x : Option Nat × Nat => [.pt d 227 [slv x.1 l'.length x.2], ownA 38 19 x.1 l'.length x.2 (cellsE l')]) (a, c) [1, 3] rfl rfl rfl ?_
 refine J.q hX fun b53 => ?_
 refine J.ru hX [1, 5] ?_
 rw [hdn]
 exact ⟨rfl, rfl⟩
theorem num_snoc (l : List En) (next : Int) (k : Nat) : Dv.num l next (k + 1) = Dv.num l next k ++ [Dv.numAt l next k] := by unfold Dv.num; rw [List.range_succ, List.map_append]; rfl
theorem pn_numbered (p n t l : Nat) (S : Dv) (A : Atom) (a : Option Addr) (m c : Nat) (es : List En) (hA : Rd A a 19 m (cellsE es)) (hl : es.length = m) (hm : m ≤ 1000000) (hd : ∀ s ∈ es, s.data.length = 16) (hn : 1 ≤ S.next ∧ S.next ≤ 1099511627776) (sl : Nat) (hsl : sl ≤ 7) :
  Fn Tryz.prog 57 [.pointer (some ⟨p, 0, none⟩), .slice a m c, .int .i64 sl] [PenA p n t l S, A]
  (fun v As => ∃ g c', v = slv g sl c' ∧ As = [PenA p n t l { S with next := S.next + (min m sl : Nat) }, A, ownA 38 19 g sl c' (cellsE (Dv.num es S.next sl))]) := by
 refine Fn.enter [2, 0, 0] Tryz.func57 rfl rfl rfl fun X F hX => ?_
 refine J.q hX fun b1 => ?_
 refine J.turn1 [] rfl (As := [ownA 38 19 none 0 0 (cellsE [])]) (fun h s => Sep.one ⟨rfl, rfl, rfl⟩) rfl ?_
 refine J.q hX fun b2 => ?_
 refine J.lo (α := (Nat × Int × Option Nat × Nat)) (fun z => z.1 ≤ sl ∧ z.2.1 = S.next + (min m z.1 : Nat)) (fun z => [⟨11, .int .i64 z.1, 0, .tt⟩, ⟨10, .int .i64 sl, 0, .tt⟩, ⟨7, slv z.2.2.1 (Dv.num es S.next z.1).length z.2.2.2, 0, .tt⟩, ⟨0, .pointer (some ⟨p, 0, none⟩), 2, .tt⟩, ⟨1, .slice a m c, 0, .tt⟩]) [1, 3] (fun z => [PenA p n t l { S with next := z.2.1 }, ownA 38 19 z.2.2.1 (Dv.num es S.next z.1).length z.2.2.2 (cellsE (Dv.num es S.next z.1))]) (fun z => sl - z.1) ((0, S.next, none, 0)) (⟨Nat.zero_le _, by simp⟩) rfl ?_ (fun _ => rfl) fun z hI => ?_
 ·rfl
 obtain ⟨k, nx, ga, ca⟩ := z
 dsimp only at hI ⊢
 obtain ⟨hk, hnx⟩ := hI
 have hlen : (Dv.num es S.next k).length = k := Dv.num_len _ _ _
 refine J.q hX fun b3 => ?_
 refine J.cond rfl (fun h1 => ?_) (fun h1 => ?_)
 ·simp only [decide_eq_true_eq, Int.ofNat_lt] at h1
  have hs := num_snoc es S.next k
  refine J.q hX fun b4 => ?_
  refine J.cond rfl (fun h2 => ?_) (fun h2 => ?_)
  ·simp only [decide_eq_true_eq, ge_iff_le, Int.ofNat_le] at h2
   have hx : Dv.numAt es S.next k = En.pad := by unfold Dv.numAt; rw [if_neg (by omega)]
   refine J.q hX fun b6 => ?_
   refine J.append hX tk 3 4 0 rfl rfl rfl rfl rfl rfl rfl rfl rfl rfl rfl rfl rfl rfl rfl rfl ?_ ?_ (fun _ => rfl) fun a3 c3 => ⟨_, (congrArg (fun z => lset _ 3 (ownA _ _ _ _ _ z)) (cellsE_snoc (Dv.num es S.next k) En.pad)).trans rfl, trivial, ?_⟩
   ·simp only [maxLen]; omega
   ·omega
   rw [← hx, ← hs, show (Dv.num es S.next k).length + 1 = (Dv.num es S.next (k + 1)).length from by rw [hs]; simp]
   refine J.q hX fun b7 => ?_
   refine J.nS ((k + 1, nx, a3, c3)) (⟨by dsimp only; omega, by dsimp only; rw [hnx]; congr 2; omega⟩) (by dsimp only; omega) [0, 1, 2, 3] rfl rfl
  simp only [decide_eq_false_iff_not, ge_iff_le, Int.ofNat_le] at h2
  have hkl : k < es.length := by omega
  have hx : Dv.numAt es S.next k = { es.getD k En.zero with seq := S.next + k } := by unfold Dv.numAt; rw [if_pos hkl]
  have hget : es[k]? = some (es.getD k En.zero) := by rw [List.getD_eq_getElem?_getD, List.getElem?_eq_getElem hkl, Option.getD_some]
  refine J.know (p := ∃ g o, a = some ⟨g, o, none⟩) (fun h' s => Rd.addr (hA _ (s.get (i := 2) rfl)) (by omega)) fun hk2 => ?_
  obtain ⟨g, o, rfl⟩ := hk2
  refine J.q hX fun b9 => ?_
  refine J.val hX (enV (es.getD k En.zero)) 0 rfl rfl (fun hg a w he hw => ?_) rfl trivial ?_
  ·exact rdN_run tk rfl rfl he rfl rfl rfl (hA _ (hw.get (i := 2) rfl)) (by omega) (j := k * 19) (by omega) (by have := cellsE_at es [] k _ hget; rwa [List.append_nil] at this) rfl
  refine J.q hX fun bb => ?_
  refine J.append hX tk 3 5 0 rfl rfl rfl rfl rfl rfl rfl rfl rfl rfl rfl rfl rfl rfl rfl rfl ?_ ?_ (fun _ => rfl) fun a3 c3 => ⟨_, (congrArg (fun z => lset _ 3 (ownA _ _ _ _ _ z)) (cellsE_snoc (Dv.num es S.next k) { es.getD k En.zero with seq := nx })).trans rfl, trivial, ?_⟩
  ·simp only [maxLen]; omega
  ·omega
  have hnk : nx = S.next + (k : Int) := by rw [hnx, Nat.min_eq_right (by omega)]
  rw [hnk, ← hx, ← hs, show (Dv.num es S.next k).length + 1 = (Dv.num es S.next (k + 1)).length from by rw [hs]; simp]
  refine J.q hX fun b10 => ?_
  refine J.nS ((k + 1, S.next + k + 1, a3, c3)) (⟨by dsimp only; omega, by dsimp only; rw [Nat.min_eq_right (by omega)]; omega⟩) (by dsimp only; omega) [0, 1, 2, 3] rfl rfl
 ·simp only [decide_eq_false_iff_not, Int.ofNat_lt] at h1
  obtain rfl : k = sl := by omega
  rw [hnx]
  refine J.q hX fun b12 => ?_
  refine J.ru hX [1, 2, 3] ?_
  exact ⟨ga, ca, by rw [hlen], by rw [hlen]; rfl⟩
theorem pn_Write (p n t l : Nat) (S : Dv) (k mm : Nat) (hO : S.Ok (8 * Dv.fuel + k) mm) (A : Atom) (a : Option Addr) (m c : Nat) (es : List En) (hA : Rd A a 19 m (cellsE es)) (hl : es.length = m) (hm : m ≤ 1000000) (hd : ∀ s ∈ es, s.data.length = 16) :
  Fn Tryz.prog 21 [.pointer (some ⟨p, 0, none⟩), .slice a m c] (DvP p n t l S ++ [A])
  (fun v As => v = .tuple #[.int .i64 (S.pen es).2.1, .int .i64 (S.pen es).2.2] ∧ As = DvP p n t l (S.pen es).1 ++ [A]) := by
 have hmu := Dv.mu_le hO
 refine Fn.enter [2, 0] Tryz.func21 rfl rfl rfl fun X F hX => ?_
 refine J.q hX fun b13 => ?_
 refine J.cF ?_
 refine J.q hX fun b14 => ?_
 refine J.lo (α := (Nat × Dv)) (fun z => z.2.Ok (8 * z.1 + k) mm ∧ z.2.mu < z.1 ∧ Dv.write z.1 z.2 es = S.pen es) (fun z => [⟨0, .pointer (some ⟨p, 0, none⟩), 2, .tt⟩, ⟨1, .slice a m c, 0, .tt⟩]) [1, 2, 3, 4] (fun z => DvP p n t l z.2) (fun z => z.1) ((Dv.fuel, S)) (⟨hO, by dsimp only; unfold Dv.fuel; omega, rfl⟩) rfl ?_ (fun _ => rfl) fun z hI => ?_
 ·rfl
 obtain ⟨j, Q⟩ := z
 dsimp only at hI ⊢
 obtain ⟨hQ, hj, hw⟩ := hI
 obtain ⟨j, rfl⟩ : ∃ i, j = i + 1 := ⟨j - 1, by omega⟩
 have hQ1 : Q.Ok (8 + (8 * j + k)) mm := hQ.less (by omega)
 have hbd := hQ.gd.ok.bd16
 have hlb := hQ.t.len
 have hbb : Q.t.b ≤ 1000 := by have := hQ.t.b; omega
 rw [Dv.write_succ] at hw
 refine J.q hX fun b15 => ?_
 refine J.cond rfl (fun h1 => ?_) (fun h1 => ?_)
 ·simp only [decide_eq_true_eq] at h1
  have hlen : es.length ≠ 0 := by omega
  rw [if_neg hlen] at hw
  refine J.q hX fun b16 => ?_
  refine J.cb hX (pn_left p n t l Q) [1, 2, 3, 4] ?_
  refine cpq ⟨_, rfl, trivial, ?_⟩
  refine J.q hX fun b18 => ?_
  by_cases hns : Q.left = false ∧ Q.pick < 0
  ·rw [if_pos hns] at hw
   rw [hns.1]
   refine J.q hX fun b19 => ?_
   refine J.cT ?_
   refine J.q hX fun b20 => ?_
   refine J.cb hX (pn_opens p n t l Q hbb hlb) [1, 2, 3, 4] ?_
   refine cpq ⟨_, rfl, trivial, ?_⟩
   rw [if_pos hns.2, if_pos hns.2]
   refine J.q hX fun b22 => ?_
   refine J.cT ?_
   refine J.q hX fun b23 => ?_
   refine J.ru hX [1, 2, 3, 4, 5] ?_
   rw [← hw]
   exact ⟨rfl, rfl⟩
  rw [if_neg hns] at hw
  refine J.join (α := Unit) (fun _ => [⟨0, .pointer (some ⟨p, 0, none⟩), 2, .tt⟩, ⟨1, .slice a m c, 0, .tt⟩]) (fun _ => [.hp F, PenA p n t l Q.at1, NandA n Q.at1.N, TlA t Q.at1.t, TbA l Q.at1.T, A]) (fun hj => ?_) (fun _ => ?_)
  ·refine J.q hX fun b24 => ?_
   refine J.cond rfl (fun h2 => ?_) (fun h2 => ?_)
   ·simp only [Bool.not_eq_true'] at h2
    have hp : ¬ Q.pick < 0 := fun e => hns ⟨h2, e⟩
    refine J.q hX fun b25 => ?_
    refine J.cb hX (pn_opens p n t l Q hbb hlb) [1, 2, 3, 4] ?_
    refine cpq ⟨_, rfl, trivial, ?_⟩
    rw [if_neg hp, if_neg hp]
    have ha : Q.at1 = Q.opened := by unfold Dv.at1; rw [h2]; rfl
    rw [ha] at hj
    refine J.q hX fun b27 => ?_
    refine J.cF ?_
    refine J.qn hX 1 fun b28 => ?_
    exact J.goto [0, 1, 2, 3, 4, 5] (hj ()) ⟨rfl, rfl, trivial⟩ rfl rfl
   ·simp only [Bool.not_eq_false'] at h2
    have ha : Q.at1 = Q := by unfold Dv.at1; rw [h2]; rfl
    rw [ha] at hj
    refine J.qn hX 1 fun b29 => ?_
    exact J.goto [0, 1, 2, 3, 4, 5] (hj ()) ⟨rfl, rfl, trivial⟩ rfl rfl
  have h3 := Dv.at1_left' hQ hns
  have h4 := Dv.mu_at1 hQ hns
  have hQ3 := hQ1.at1
  clear hQ1 hlb hbb
  generalize Q.at1 = P at hw h3 h4 hQ3 ⊢
  have hs := Dv.left_spec h3
  have hfit := Dv.fit_le P es
  have hsb := Dv.slots_le P.mask
  have hnx := hQ3.next
  have hrow := hQ3.row
  obtain ⟨sl, hsl⟩ : ∃ sl : Nat, G.slots P.mask = (sl : Int) := ⟨(G.slots P.mask).toNat, by omega⟩
  have hfs : P.fit es = min m sl := by unfold Dv.fit; rw [hsl, hl, Int.toNat_natCast]
  have hes : P.es es = Dv.num es P.next sl := by unfold Dv.es; rw [hsl, Int.toNat_natCast]
  have hmin : (if (sl : Int) < (m : Int) then (sl : Int) else (m : Int)) = (P.fit es : Int) := by rw [hfs]; split <;> omega
  refine J.q hX fun b30 => ?_
  refine J.cb hX (g_Slots P.mask) [] ?_
  refine cpq ⟨_, rfl, trivial, ?_⟩
  rw [hsl]
  refine J.qn hX 8 fun b32 => ?_
  rw [hmin]
  refine J.q hX fun b33 => ?_
  refine J.cond rfl (fun h5 => ?_) (fun h5 => ?_)
  ·simp only [decide_eq_true_eq] at h5
   have h5 : P.next > 1099511627775 - (P.fit es : Int) + 1 := h5
   rw [if_pos h5] at hw
   refine J.q hX fun b34 => ?_
   refine J.ru hX [1, 2, 3, 4, 5] ?_
   rw [← hw]
   exact ⟨rfl, rfl⟩
  simp only [decide_eq_false_iff_not] at h5
  have h5 : ¬ P.next > 1099511627775 - (P.fit es : Int) + 1 := h5
  rw [if_neg h5] at hw
  refine J.q hX fun b35 => ?_
  refine J.cb hX (pn_numbered p n t l P A a m c es hA hl hm hd hnx sl (by omega)) [1, 5] ?_
  rintro v As ⟨g, c1, rfl, rfl⟩
  refine ⟨_, rfl, trivial, ?_⟩
  rw [← hes, ← hfs]
  have hdn : ∀ s ∈ P.es es, s.data.length = 16 := Dv.num_data hd _ _
  have hlen2 : (P.es es).length = sl := by rw [hes, Dv.num_len]
  refine J.know (fun h' s => own_some (c := (g, c1)) (by omega) (s.get (i := 6) rfl)) fun hg => ?_
  obtain ⟨ga, rfl⟩ := hg
  refine J.know (fun h' s => ownP_cap (show ownP _ _ (some ga) sl c1 _ _ from s.get (i := 6) rfl)) fun hcap => ?_
  have hRd : Rd (ownA 38 19 (some ga) sl c1 (cellsE (P.es es))) (some ⟨ga, 0, none⟩) 19 sl (cellsE (P.es es)) := own_rd 38 19 (some ga) sl c1 (cellsE (P.es es))
  refine J.q hX fun b37 => ?_
  refine J.plan (.of [0,4,8,13,16,20,24,29,32,36,40,44,49,52,58,60,64,68,72,76]) [19] [1,3,4,5,6] (by rw [hX.hP]; kernel_rfl) (by kernel_rfl) ?_
  refine J.q hX fun b38 => ?_
  refine J.ca hX (by kernel_rfl) (r_Write n P.N (ownA 38 19 (some ga) sl c1 (cellsE (P.es es))) P.op P.row P.mask (some ⟨ga, 0, none⟩) sl c1 mm (P.es es) hRd hlen2 hdn (hQ3.gd.less (by omega) (Nat.le_refl _))) [2, 6] 0 rfl rfl rfl rfl rfl rfl (fun _ => rfl) ?_
  refine cpq ⟨_, rfl, (by first | exact trivial | (repeat' (first | exact trivial | refine ⟨rfl, ?_⟩))), ?_⟩
  have hwr : R.write P.N P.op P.row P.mask (P.es es) = P.wr es := rfl
  rw [hwr]
  refine J.q hX fun b40 => ?_
  refine J.cond rfl (fun h6 => ?_) (fun h6 => ?_)
  ·simp only [beq_iff_eq] at h6
   rw [if_pos h6] at hw
   refine J.q hX fun b41 => ?_
   refine J.ru hX [1, 2, 3, 4, 5] ?_
   rw [← hw]
   exact ⟨by rw [h6], rfl⟩
  simp only [beq_eq_false_iff_ne, ne_eq] at h6
  rw [if_neg h6] at hw
  refine J.q hX fun b42 => ?_
  refine J.cond rfl (fun h7 => ?_) (fun h7 => ?_)
  ·simp only [beq_iff_eq] at h7
   rw [if_pos h7] at hw
   refine J.q hX fun b44 => ?_
   have hfn : (P.fit es : Int).toNat - 0 = P.fit es := by omega
   rw [hfn]
   have hpo := fun i (hi : i ≤ 1000) => Dv.puts_ok hQ3.T hQ3.sl P.op P.row P.mask (P.es es) i hi
   refine J.q hX fun b45 => ?_
   refine J.lo (α := Nat) (fun i => i ≤ P.fit es) (fun i => [⟨109, .int .i64 i, 0, .tt⟩, ⟨108, .int .i64 (P.fit es : Int), 0, .tt⟩, ⟨107, .slice (some ⟨ga, 0, none⟩) (P.fit es) (c1 - 0), 0, .tt⟩, ⟨0, .pointer (some ⟨p, 0, none⟩), 2, .tt⟩, ⟨8, .int .i64 (P.fit es : Int), 0, .tt⟩, ⟨9, .int .i64 P.row, 0, .tt⟩]) [4] (fun i => [TbA l (Dv.puts P.T P.op P.row P.mask (P.es es) i)]) (fun i => P.fit es - i) (0) (Nat.zero_le _) rfl ?_ (fun _ => rfl) fun i hI => ?_
   ·rfl
   refine J.q hX fun b46 => ?_
   refine J.cond rfl (fun h9 => ?_) (fun h9 => ?_)
   ·simp only [decide_eq_true_eq, Int.ofNat_lt] at h9
    have hil : i < (P.es es).length := by omega
    have hget : (P.es es)[i]? = some ((P.es es).getD i En.zero) := by rw [List.getD_eq_getElem?_getD, List.getElem?_eq_getElem hil, Option.getD_some]
    have hseq : -9223372036854775808 ≤ ((P.es es).getD i En.zero).seq ∧ ((P.es es).getD i En.zero).seq < 9223372036854775807 := by
     have : (P.es es).getD i En.zero = Dv.numAt es P.next i := by
      rw [hes]; unfold Dv.num; rw [List.getD_eq_getElem?_getD, List.getElem?_map, List.getElem?_range (by omega)]; rfl
     rw [this]
     unfold Dv.numAt
     split
     ·show -9223372036854775808 ≤ P.next + (i : Int) ∧ P.next + (i : Int) < 9223372036854775807
      omega
     ·show -9223372036854775808 ≤ (0 : Int) ∧ (0 : Int) < 9223372036854775807
      omega
    refine J.q hX fun b47 => ?_
    refine J.val hX (enV ((P.es es).getD i En.zero)) 0 rfl rfl (fun hg a w he hw => ?_) rfl trivial ?_
    ·exact rdN_run tk rfl rfl he rfl rfl rfl (hRd _ (hw.get (i := 6) rfl)) (by omega) (j := i * 19) (by omega) (by have := cellsE_at (P.es es) [] i _ hget; rwa [List.append_nil] at this) rfl
    refine J.q hX fun bb => ?_
    refine J.plan (.of [0,4,8,13,17,20,24,28,33,36,40,44,48,52,56,61,66]) [] [1,2,3,5,6,7] (by rw [hX.hP]; kernel_rfl) (by kernel_rfl) ?_
    refine J.q hX fun b49 => ?_
    refine J.cb hX (tb_Put l (Dv.puts P.T P.op P.row P.mask (P.es es) i) ((P.es es).getD i En.zero) P.op P.row i P.mask hseq (hpo i (by omega)).1.bd) [4] ?_
    refine cpq ⟨_, rfl, (by first | exact trivial | (repeat' (first | exact trivial | refine ⟨rfl, ?_⟩))), ?_⟩
    rw [← Dv.puts_succ]
    refine J.q hX fun b51 => ?_
    refine J.nS (i + 1) (by omega) (by omega) [0, 1, 2, 3, 4, 5, 6] rfl rfl
   ·simp only [decide_eq_false_iff_not, Int.ofNat_lt] at h9
    obtain rfl : i = P.fit es := by omega
    refine J.q hX fun b53 => ?_
    refine J.ru hX [1, 2, 3, 4, 5] ?_
    rw [← hw]
    exact ⟨rfl, rfl⟩
  simp only [beq_eq_false_iff_ne, ne_eq] at h7
  rw [if_neg h7] at hw
  refine J.q hX fun b54 => ?_
  refine J.cond rfl (fun h8 => ?_) (fun h8 => ?_)
  ·simp only [beq_iff_eq] at h8
   rw [if_pos h8] at hw
   refine J.q hX fun b56 => ?_
   refine J.ru hX [1, 2, 3, 4, 5] ?_
   rw [← hw]
   exact ⟨by rw [h8], rfl⟩
  simp only [beq_eq_false_iff_ne, ne_eq] at h8
  rw [if_neg h8] at hw
  have hWO := hQ3.wrote hd hs.2.1 h5
  have hmu2 := Dv.mu_wrote hQ3 h3 es (P.wr es).2.1
  refine J.q hX fun b57 => ?_
  refine J.cb hX (pn_loses p n t l (P.wrote es) hWO.gd.ok hWO.t (P.wr es).2.1) [1, 2, 3, 4] ?_
  refine cpq ⟨_, rfl, trivial, ?_⟩
  refine J.q hX fun b59 => ?_
  refine J.nS ((j, (P.wrote es).loses (P.wr es).2.1)) (⟨hWO.loses _, by dsimp only; omega, hw⟩) (by dsimp only; omega) [0, 1, 2, 3, 4, 5] rfl rfl
 ·simp only [decide_eq_false_iff_not] at h1
  have hlen : es.length = 0 := by omega
  rw [if_pos hlen] at hw
  refine J.q hX fun b61 => ?_
  refine J.ru hX [1, 2, 3, 4, 5] ?_
  rw [← hw]
  exact ⟨rfl, rfl⟩
theorem cutH_run {P : Program} {T : Tab} {E : Env} {n : Nat} {ac : Act} {w : World} (hT : TabOK P T) {o : Oper} {t e size : Nat} {x y : Operand} {k1 k2 t1 t2 : Nat} {g1 g2 : G} {a : Option Addr} {m c h : Nat} {kk : IntKind} {s1 b1 b2 : Nat} {z1 z2 : List Value} {td : TD} (hop : o.op = .slice t x none (some y) none) (hx : ev E x = some ⟨k1, .slice a m c, t1, g1⟩) (hy : ev E y = some ⟨k2, .int kk h, t2, g2⟩) (he : EnvOK n E ac) (v1 : g1.on = true) (v2 : g2.on = true)
  (ht : T.get t = some ⟨.slice e size, s1, z1, b1⟩) (hte : T.get e = some ⟨td, size, z2, b2⟩) (hc : h ≤ c) :
  (execOp ac.eval o).run P w = .ok (.value (.slice a h c)) w := by
 have e1 := ev_spec he hx
 have e2 := ev_spec he hy
 simp only [Slot.val, v1, v2] at e1 e2
 obtain ⟨d, f, zv, ok⟩ := tiOf_spec (hT.get ht)
 obtain ⟨fe, rfl, g1, g2⟩ := ok.slice rfl
 have h0 : ∀ ad : Addr, ad.add 0 = ad := fun ad => by unfold Addr.add; rw [if_pos rfl]
 cases a with
 | none =>
  simp only [execOp, hop, Option.map_some, Option.map_none, e1, e2, Instr.sliceAt, Instr.slice, Instr.sliceBounds, Instr.sliceBound, asIntOf, Sem.run_bind, Sem.run_pure, Result.andThen_ok, underlying_run ok.hd, sizeOf_run g1, g2]
  simp [hc, h0]
 | some ad =>
  simp only [execOp, hop, Option.map_some, Option.map_none, e1, e2, Instr.sliceAt, Instr.slice, Instr.sliceBounds, Instr.sliceBound, asIntOf, Sem.run_bind, Sem.run_pure, Result.andThen_ok, underlying_run ok.hd, sizeOf_run g1, g2]
  simp [hc, h0]
theorem max0 (x : Int) : (if (0 : Int) > x then 0 else x) = max x 0 := by split <;> omega
theorem min2 (x y : Int) : (if y < x then y else x) = min x y := by split <;> omega
end Go.Proofs.YtdocmcapegcoeaaGreat
namespace Go.Proofs.YtdocmcapegcoeaaGreat
theorem mend_len {N : Nand} (hN : N.Ok) (b r m : Int) (k : Nat) : (R.mend (R.look N b r m) k).data.length = 16 := by
 unfold R.mend
 split
 ·unfold W.back
  split
  ·unfold W.backS
   refine fold_len (fun t ht => ?_) _ rfl
   have hd := look_data hN b r m
   rw [List.mem_append, List.mem_singleton] at ht
   rcases ht with ht | rfl
   ·exact hd.1 t (List.mem_of_mem_eraseIdx ht)
   ·exact hd.2
  ·rfl
 ·rfl
theorem read_len {N : Nand} (hN : N.Ok) (b r s m : Int) : (R.read N b r s m).1.data.length = 16 := by
 unfold R.read
 split
 ·rfl
 split
 ·rfl
 split
 ·rename_i h
  have hd := (look_data hN b r m).1
  have hl := look_len N b r m
  rw [List.getD_eq_getElem?_getD] at h ⊢
  by_cases hs : s.toNat < (R.look N b r m).slots.length
  ·rw [List.getElem?_eq_getElem hs]
   exact hd _ (List.getElem_mem _)
  ·rw [List.getElem?_eq_none (by omega)]; rfl
 ·split
  ·exact mend_len hN _ _ _ _
  ·rfl
namespace Dv
variable {S : Dv} {k m : Nat}
theorem rd_len (h : S.Ok k m) (i : Int) : (S.rd i).1.data.length = 16 := by
 unfold rd
 dsimp only
 split
 ·rfl
 split
 ·rfl
 ·exact read_len h.gd.ok _ _ _ _
theorem rds_len (h : S.Ok k m) : ∀ l : List Int, (∀ s ∈ (S.rds l).1, s.data.length = 16) ∧ (S.rds l).1.length ≤ l.length ∧ ((S.rds l).2 = 0 → (S.rds l).1.length = l.length)
 | [] => ⟨by simp [rds], by simp [rds], fun _ => rfl⟩
 | i :: l => by
  have ih := rds_len h l
  rw [rds]
  split
  ·rename_i h0
   exact ⟨by simp, by simp, fun e => absurd e h0⟩
  ·refine ⟨fun s hs => ?_, by simp only [List.length_cons]; omega, fun e => by simp only [List.length_cons]; rw [ih.2.2 e]⟩
   rcases List.mem_cons.1 hs with rfl | hs
   ·exact rd_len h i
   ·exact ih.1 s hs
def cost : Nat := 8 * fuel
theorem carryGo_keep : ∀ (f : Nat) (S : Dv) (l : List Int) (d : Int) (k : Nat), S.Ok (cost * f + k) m → (carryGo f S l d).1.Ok k m ∧ S.N.Like (carryGo f S l d).1.N ∧ (carryGo f S l d).1.T.logical = S.T.logical
 | 0, S, l, d, k, h => ⟨h.less (by omega), Nand.Like.refl _, rfl⟩
 | f + 1, S, l, d, k, h => by
  rw [carryGo]
  dsimp only
  have hs : S.Ok (8 * fuel + (cost * f + k)) m := h.less (by unfold cost; rw [Nat.mul_succ]; omega)
  split
  ·exact ⟨h.less (by omega), Nand.Like.refl _, rfl⟩
  split
  ·exact ⟨h.less (by omega), Nand.Like.refl _, rfl⟩
  have hp := pen_keep hs (rds_len h (l.take (max S.slots 1).toNat)).1
  split
  ·exact ⟨hp.1.less (by omega), hp.2.1, hp.2.2⟩
  ·have ih := carryGo_keep f _ (l.drop (S.pen (S.rds (l.take (max S.slots 1).toNat)).1).2.1.toNat) (d + (S.pen (S.rds (l.take (max S.slots 1).toNat)).1).2.1) k hp.1
   exact ⟨ih.1, hp.2.1.trans ih.2.1, ih.2.2.trans hp.2.2⟩
theorem take_le (l : List Int) (n : Nat) : (l.take n).length ≤ l.length := by rw [List.length_take]; omega
theorem ins_le (h : S.Ok k m) (b : Int) : (S.T.ins b).length ≤ 65536 := by
 have h1 := h.T.ins_len b
 have h2 := h.T.log
 rw [h.T.ins] at h1 ⊢
 have := S.T.inK_len b S.T.logical.toNat
 omega
def costC : Nat := cost * 65536
theorem carry_keep (h : S.Ok (costC + k) m) (b most : Int) : (S.carry b most).1.Ok k m ∧ S.N.Like (S.carry b most).1.N ∧ (S.carry b most).1.T.logical = S.T.logical := by
 unfold carry
 dsimp only
 have h1 := ins_le h b
 have h2 := take_le (S.T.ins b) (max most 0).toNat
 have h3 : cost * ((S.T.ins b).take (max most 0).toNat).length ≤ costC := Nat.mul_le_mul_left _ (by omega)
 exact carryGo_keep _ S _ 0 k (h.less (by omega))
theorem seeDead_fit {N : Nand} {t : Tl} (N' : Nand) (h : t.Fit N) : (seeDead N' t).Fit N := by
 unfold seeDead
 generalize List.range t.d = q
 induction q generalizing t with
 | nil => exact h
 | cons d q ih =>
  rw [List.foldl_cons]
  apply ih
  split
  ·exact h.die _
  ·exact h
theorem Ok.seen (h : S.Ok k m) : S.seen.Ok k m := ⟨h.gd, seeDead_fit _ h.t, h.T, h.sl, h.row, h.next⟩
theorem eraseD_keep (b mk : Int) (x : Nand × Tl × Int) (d : Nat) (hN : x.1.Gd (1 + k) m) (ht : x.2.1.Fit x.1) : (eraseD b mk x d).1.Gd k m ∧ (eraseD b mk x d).2.1.Fit x.1 ∧ x.1.Like (eraseD b mk x d).1 := by
 unfold eraseD
 split
 ·exact ⟨hN.less (by omega) (Nat.le_refl _), ht, Nand.Like.refl _⟩
 split
 ·exact ⟨hN.less (by omega) (Nat.le_refl _), ht, Nand.Like.refl _⟩
 ·refine ⟨Nand.Gd.erase (by rw [Nat.add_comm]; exact hN) _ _, ?_, Nand.like_erase _ _ _⟩
  dsimp only
  (repeat' split) <;> first | exact ht | exact ht.die _ | exact ht.bad _ _
theorem foldl_eraseD (b mk : Int) : ∀ (q : List Nat) (x : Nand × Tl × Int), x.1.Gd (q.length + k) m → x.2.1.Fit x.1 → (q.foldl (eraseD b mk) x).1.Gd k m ∧ (q.foldl (eraseD b mk) x).2.1.Fit x.1 ∧ x.1.Like (q.foldl (eraseD b mk) x).1
 | [], x, h, ht => ⟨h.less (by simp) (Nat.le_refl _), ht, Nand.Like.refl _⟩
 | d :: q, x, h, ht => by
  have h1 := eraseD_keep b mk x d (k := q.length + k) (h.less (by simp only [List.length_cons]; omega) (Nat.le_refl _)) ht
  have ih := foldl_eraseD b mk q (eraseD b mk x d) h1.1 (h1.2.1.like h1.2.2)
  rw [List.foldl_cons]
  exact ⟨ih.1, ⟨ih.2.1.d.trans h1.2.2.dies, ih.2.1.b.trans h1.2.2.blocks, ih.2.1.p.trans h1.2.2.pages, ih.2.1.len⟩, h1.2.2.trans ih.2.2⟩
theorem eraseB_keep {N : Nand} {t : Tl} (hN : N.Gd (6 + k) m) (ht : t.Fit N) (b : Int) : (eraseB N t b).1.Gd k m ∧ (eraseB N t b).2.1.Fit N ∧ N.Like (eraseB N t b).1 := by
 have := hN.ok.bd16
 exact foldl_eraseD b _ _ _ (hN.less (by rw [List.length_range]; omega) (Nat.le_refl _)) ht
theorem wores_fit {N N' : Nand} {t : Tl} (h : t.Fit N) (b : Int) : (wores N' t b).Fit N := by
 unfold wores
 generalize List.range N'.dies = q
 induction q generalizing t with
 | nil => exact h
 | cons d q ih => rw [List.foldl_cons]; exact ih (h.wore _ _)
theorem eraseT_fit {N N' : Nand} {t : Tl} (h : t.Fit N) (b : Int) : (eraseT N' t b).Fit N := by
 unfold eraseT
 split
 ·exact (wores_fit h b).clean _ _
 ·exact wores_fit h b
theorem erase_keep {N : Nand} {t : Tl} (hN : N.Gd (6 + k) m) (ht : t.Fit N) (b : Int) : (erase N t b).1.Gd k m ∧ (erase N t b).2.1.Fit N ∧ N.Like (erase N t b).1 := by
 have h := eraseB_keep hN ht b
 unfold erase
 dsimp only
 split
 ·exact h
 ·exact ⟨h.1, eraseT_fit h.2.1 b, h.2.2⟩
theorem clearGo_keep : ∀ (l : List Int) (N : Nand) (t : Tl), N.Gd (6 * l.length + k) m → t.Fit N → (clearGo l N t).1.Gd k m ∧ (clearGo l N t).2.1.Fit N ∧ N.Like (clearGo l N t).1
 | [], N, t, h, ht => ⟨h.less (by simp) (Nat.le_refl _), ht, Nand.Like.refl _⟩
 | b :: l, N, t, h, ht => by
  have h1 := erase_keep (k := 6 * l.length + k) (h.less (by simp only [List.length_cons]; omega) (Nat.le_refl _)) ht b
  rw [clearGo]
  split
  ·exact ⟨h1.1.less (by omega) (Nat.le_refl _), h1.2⟩
  ·have ih := clearGo_keep l _ _ h1.1 (h1.2.1.like h1.2.2)
   exact ⟨ih.1, ⟨ih.2.1.d.trans h1.2.2.dies, ih.2.1.b.trans h1.2.2.blocks, ih.2.1.p.trans h1.2.2.pages, ih.2.1.len⟩, h1.2.2.trans ih.2.2⟩
theorem clearX_keep {N : Nand} {t : Tl} (hN : N.Gd (96 + k) m) (ht : t.Fit N) (T : Tb) (o : Int) : (clearX N t T o).1.Gd k m ∧ (clearX N t T o).2.1.Fit N ∧ N.Like (clearX N t T o).1 := by
 have h1 := hN.ok.bd16
 have h2 := ht.b
 have h3 := pkSome_len (pkSpent t T) o t.b
 exact clearGo_keep _ N t (hN.less (by omega) (Nat.le_refl _)) ht
theorem clear_keep (h : S.Ok (96 + k) m) : S.clear.1.Ok k m ∧ S.N.Like S.clear.1.N ∧ S.clear.1.T = S.T := by
 have h1 := clearX_keep h.gd h.t S.T S.op
 exact ⟨⟨h1.1, h1.2.1.like h1.2.2, h.T, h.sl, h.row, h.next⟩, h1.2.2, rfl⟩
def costR : Nat := costC + 96
theorem roomGo_keep : ∀ (f : Nat) (S : Dv) (k : Nat), S.Ok (costR * f + k) m → (roomGo f S).1.Ok k m ∧ S.N.Like (roomGo f S).1.N ∧ (roomGo f S).1.T.logical = S.T.logical
 | 0, S, k, h => ⟨h.less (by omega), Nand.Like.refl _, rfl⟩
 | f + 1, S, k, h => by
  rw [roomGo]
  split
  ·exact ⟨h.less (by omega), Nand.Like.refl _, rfl⟩
  split
  ·exact ⟨h.less (by omega), Nand.Like.refl _, rfl⟩
  dsimp only
  have hc := carry_keep (S := S) (k := 96 + (costR * f + k)) (m := m) (h.less (by unfold costR; rw [Nat.mul_succ]; omega)) S.victim (S.T.count S.victim)
  split
  ·exact ⟨hc.1.less (by omega), hc.2⟩
  have hd := clear_keep hc.1
  split
  ·exact ⟨hd.1.less (by omega), hc.2.1.trans hd.2.1, by rw [hd.2.2]; exact hc.2.2⟩
  ·have ih := roomGo_keep f _ k hd.1
   exact ⟨ih.1, (hc.2.1.trans hd.2.1).trans ih.2.1, by rw [ih.2.2, hd.2.2]; exact hc.2.2⟩
def costM : Nat := costR * 16 + 96
theorem room_keep (h : S.Ok (costM + k) m) : S.room.1.Ok k m ∧ S.N.Like S.room.1.N ∧ S.room.1.T.logical = S.T.logical := by
 have hb := h.gd.ok.bd16
 have htb := h.t.b
 have hc := clear_keep (S := S) (k := costR * 16 + k) (m := m) (h.less (by unfold costM; omega))
 unfold room
 split
 ·exact ⟨hc.1.less (by omega), hc.2.1, by rw [hc.2.2]⟩
 ·have h1 : costR * S.t.b ≤ costR * 16 := Nat.mul_le_mul_left _ (by omega)
  have ih := roomGo_keep S.t.b S.clear.1 k (hc.1.less (by omega))
  exact ⟨ih.1, hc.2.1.trans ih.2.1, by rw [ih.2.2, hc.2.2]⟩
def costS : Nat := costM + costC
theorem step_keep (h : S.Ok (costS + k) m) (most : Int) : (S.step most).1.Ok k m ∧ S.N.Like (S.step most).1.N ∧ (S.step most).1.T.logical = S.T.logical := by
 have hr := room_keep (S := S.seen) (k := costC + k) (m := m) (h.seen.less (by unfold costS; omega))
 have e : S.seen.N = S.N := rfl
 have e2 : S.seen.T = S.T := rfl
 rw [e, e2] at hr
 unfold step
 dsimp only
 split
 ·exact ⟨hr.1.less (by omega), hr.2⟩
 ·split
  ·exact ⟨hr.1.less (by omega), hr.2⟩
  ·rename_i b _ _
   have hc := carry_keep hr.1 b most
   exact ⟨hc.1, hr.2.1.trans hc.2.1, hc.2.2.trans hr.2.2⟩
def costT : Nat := costM + cost
theorem tornGo_keep : ∀ (f : Nat) (S : Dv) (l : List En) (k : Nat), S.Ok (costT * f + k) m → (∀ s ∈ l, s.data.length = 16) → (tornGo f S l).1.Ok k m ∧ S.N.Like (tornGo f S l).1.N ∧ (tornGo f S l).1.T.logical = S.T.logical
 | 0, S, l, k, h, _ => ⟨h.less (by omega), Nand.Like.refl _, rfl⟩
 | f + 1, S, l, k, h, hd => by
  rw [tornGo]
  dsimp only
  split
  ·exact ⟨h.less (by omega), Nand.Like.refl _, rfl⟩
  have hr := room_keep (S := S) (k := 8 * fuel + (costT * f + k)) (m := m) (h.less (by unfold costT cost; rw [Nat.mul_succ]; omega))
  split
  ·exact ⟨hr.1.less (by omega), hr.2⟩
  have hp := pen_keep hr.1 hd
  split
  ·exact ⟨hp.1.less (by omega), hr.2.1.trans hp.2.1, hp.2.2.trans hr.2.2⟩
  ·have ih := tornGo_keep f _ (l.drop (S.room.1.pen l).2.1.toNat) k hp.1 (fun s hs => hd s (List.mem_of_mem_drop hs))
   exact ⟨ih.1, (hr.2.1.trans hp.2.1).trans ih.2.1, (ih.2.2.trans hp.2.2).trans hr.2.2⟩
end Dv
end Go.Proofs.YtdocmcapegcoeaaGreat
