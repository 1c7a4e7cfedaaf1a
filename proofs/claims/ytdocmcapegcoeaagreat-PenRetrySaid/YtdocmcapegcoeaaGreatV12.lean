/- Helpers, proved here. No condition. -/
import Derived.Test.YtdocmcapegcoeaaGreatV06
import Derived.Test.YtdocmcapegcoeaaGreatV11
set_option maxRecDepth 20000
set_option linter.all false
namespace Go.Proofs.YtdocmcapegcoeaaGreat
open Go Go.RowKit
theorem shL_len (s : Sh) : (shL s).length = 23 := rfl
theorem cellsS_at : ∀ (l : List Sh) (r : List Value) (k : Nat) (x : Sh), l[k]? = some x → ((cellsS l ++ r).drop (k * 23)).take 23 = shL x
 | [], _, _, _, h => by simp at h
 | y :: l, r, 0, x, h => by
  simp at h; subst h
  rw [Nat.zero_mul, List.drop_zero]
  simp only [cellsS, List.flatMap_cons, List.append_assoc]
  exact List.take_left' (shL_len y)
 | y :: l, r, k + 1, x, h => by
  have := cellsS_at l r k x (by simpa using h)
  rw [show (k + 1) * 23 = 23 + k * 23 from by omega, ← List.drop_drop]
  simp only [cellsS, List.flatMap_cons, List.append_assoc] at this ⊢
  rw [List.drop_left' (shL_len y)]
  exact this
theorem mix_len {x s : List UInt8} (hx : x.length = 16) (hs : s.length = 16) (k : Nat) (hk : k ≤ 16) : (W.mix x s k).length = 16 := by simp [W.mix, hx, hs]; omega
theorem mix_get {x s : List UInt8} (hx : x.length = 16) (hs : s.length = 16) {k : Nat} (hk : k < 16) : (W.mix x s k).getD k 0 = x.getD k 0 := by
 have e : (W.mix x s k)[k]? = x[k]? := by
  rw [W.mix, List.getElem?_append_right (by simp [hx, hs]; omega), List.getElem?_drop]
  congr 1; simp [hx, hs]; omega
 rw [List.getD_eq_getElem?_getD, e, List.getD_eq_getElem?_getD]
theorem mix_set {x s : List UInt8} (hx : x.length = 16) (hs : s.length = 16) {k : Nat} (hk : k < 16) : (W.mix x s k).set k (x.getD k 0 ^^^ s.getD k 0) = W.mix x s (k + 1) := by
 apply List.ext_getElem?; intro j
 rw [List.getElem?_set, mix_len hx hs k (by omega)]
 simp only [W.mix, List.getElem?_append, List.length_take, List.length_zipWith, hx, hs, Nat.min_self, List.getElem?_take, List.getElem?_drop]
 by_cases e : k = j
 ·subst e
  rw [if_pos rfl, if_pos hk, if_pos (by omega), if_pos (by omega)]
  simp [List.getElem?_zipWith, hx, hs, hk]
 ·rw [if_neg e]
  by_cases h1 : j < k
  ·rw [if_pos (show j < min k 16 by omega), if_pos h1, if_pos (show j < min (k + 1) 16 by omega), if_pos (show j < k + 1 by omega)]
  ·rw [if_neg (show ¬j < min k 16 by omega), if_neg (show ¬j < min (k + 1) 16 by omega), show k + (j - min k 16) = j from by omega, show k + 1 + (j - min (k + 1) 16) = j from by omega]
theorem u81 : Tryz.prog.underlying 36 = some (.array 16 5) := by kernel_rfl
theorem dataC_get {x : List UInt8} (h : x.length = 16) {k : Nat} (hk : k < 16) : (dataC x)[k]? = some (bv (x.getD k 0)) := by
 rw [dataC_eq x h, List.getElem?_map]
 simp [h, hk]
theorem dataC_set {x : List UInt8} (h : x.length = 16) {k : Nat} {b : UInt8} : (dataC x).set k (bv b) = dataC (x.set k b) := by
 rw [dataC_eq x h, dataC_eq _ (by simpa using h), List.map_set]
theorem xor_u8b (b c : UInt8) : IntKind.u8.wrap ((BitVec.ofInt IntKind.u8.bits (b.toNat : Int) ^^^ BitVec.ofInt IntKind.u8.bits (c.toNat : Int)).toNat : Int) = ((b ^^^ c).toNat : Int) := by
 have h := xor_u8 b (c.toNat : Int)
 have h1 : ((c.toNat : Int) % 256) = c.toNat := by have := c.toNat_lt; omega
 have h2 : IntKind.u8.wrap (c.toNat : Int) = (c.toNat : Int) := by
  have : IntKind.u8.wrap (c.toNat : Int) = (c.toNat : Int) % 256 := by simp [IntKind.wrap, IntKind.bits, IntKind.signed]
  rw [this, h1]
 rw [h2, h1] at h
 simpa using h
theorem fold_len {l : List Sh} (hd : ∀ s ∈ l, s.data.length = 16) : ∀ (x : List UInt8 × Int), x.1.length = 16 → (l.foldl W.over1 x).1.length = 16 := by
 induction l with
 | nil => intro x h; exact h
 | cons s l ih => intro x h; exact ih (fun t ht => hd t (by simp [ht])) _ (mix_len h (hd s (by simp)) 16 (by omega))
theorem w_Over (a : Option Nat) (n cap : Nat) (l : List Sh) (hl : l.length = n) (hn : n ≤ 1000) (hd : ∀ s ∈ l, s.data.length = 16) : Fn Tryz.prog 146 [slv a n cap] [ownA 132 23 a n cap (cellsS l)]
  (fun v As => v = .tuple #[.agg (dataC (W.over l).1).toArray, .int .u64 (W.over l).2] ∧ As = [ownA 132 23 a n cap (cellsS l)]) := by
 refine Fn.enter [0] Tryz.func146 rfl rfl rfl fun X F hX => ?_
 refine J.q hX fun bb => ?_
 refine J.lo (α := Nat) (fun k => k ≤ n) (fun k => [⟨12, .int .i64 k, 0, .tt⟩, ⟨11, .int .i64 n, 0, .tt⟩, ⟨10, slv a n cap, 0, .tt⟩, ⟨5, .int .u64 ((l.take k).foldl W.over1 (zeros16, 0)).2, 0, .tt⟩, ⟨4, .pointer (some ⟨bb (0 + 1), 0, none⟩), 4, .tt⟩, ⟨2, .pointer (some ⟨bb 0, 0, none⟩), 3, .tt⟩]) [3] (fun k => [.pt (bb (0 + 1)) 36 (dataC ((l.take k).foldl W.over1 (zeros16, 0)).1)]) (fun k => n - k) (0) (Nat.zero_le _) rfl ?_ (fun _ => rfl) fun k hI => ?_
 ·rfl
 have hxl : ((l.take k).foldl W.over1 (zeros16, 0)).1.length = 16 := fold_len (fun t ht => hd t (List.mem_of_mem_take ht)) _ rfl
 refine J.q hX fun b2 => ?_
 refine J.cond rfl (fun h1 => ?_) (fun h1 => ?_)
 ·simp only [decide_eq_true_eq, Int.ofNat_lt] at h1
  obtain ⟨s, hs⟩ : ∃ s, l[k]? = some s := ⟨_, List.getElem?_eq_getElem (by omega)⟩
  have hsl : s.data.length = 16 := hd s (List.mem_of_getElem? hs)
  have hnext : (l.take (k + 1)).foldl W.over1 (zeros16, 0) = W.over1 ((l.take k).foldl W.over1 (zeros16, 0)) s := by
   rw [List.take_add_one, hs]; simp
  generalize (l.take k).foldl W.over1 (zeros16, 0) = x at hxl hnext
  cases a with
  | none =>
   refine J.know (fun h' s => (s.get (i := 1) rfl).2.1) fun hn0 => ?_
   omega
  | some g =>
   refine J.q hX fun b3 => ?_
   refine J.val hX (shV s) 0 rfl rfl (fun hg a w he hw => ?_) rfl trivial ?_
   ·exact ownN_run tk rfl rfl he rfl rfl rfl (hw.get (i := 1) rfl) (by rw [show 0 + (k : Int).toNat * 23 = k * 23 from by omega]; have := cellsS_at l [] k s hs; rwa [List.append_nil] at this) rfl
   refine J.q hX fun cc => ?_
   refine J.lo (α := Nat) (fun i => i ≤ 16) (fun i => [⟨18, .int .i64 i, 0, .tt⟩, ⟨17, .agg (dataC s.data).toArray, 0, .tt⟩, ⟨7, .pointer (some ⟨cc 0, 0, none⟩), 5, .tt⟩, ⟨12, .int .i64 k, 0, .tt⟩, ⟨11, .int .i64 n, 0, .tt⟩, ⟨10, slv (some g) n cap, 0, .tt⟩, ⟨5, .int .u64 x.2, 0, .tt⟩, ⟨4, .pointer (some ⟨bb (0 + 1), 0, none⟩), 4, .tt⟩, ⟨2, .pointer (some ⟨bb 0, 0, none⟩), 3, .tt⟩]) [3] (fun i => [.pt (bb (0 + 1)) 36 (dataC (W.mix x.1 s.data i))]) (fun i => 16 - i) (0) (Nat.zero_le _) rfl ?_ (fun _ => rfl) fun i hI => ?_
   ·rw [show W.mix x.1 s.data 0 = x.1 from by simp [W.mix]]; rfl
   have hml := mix_len hxl hsl i hI
   refine J.q hX fun b5 => ?_
   refine J.cond rfl (fun h2 => ?_) (fun h2 => ?_)
   ·simp only [decide_eq_true_eq] at h2
    have h3 : i < 16 := by omega
    refine J.q hX fun b6 => ?_
    refine J.val hX (bv (s.data.getD i 0)) 0 rfl rfl (fun hg a w he hw => ?_) rfl trivial ?_
    ·exact indexAgg_run tk rfl rfl rfl he rfl rfl u81 rfl rfl rfl (by omega) (by omega) (by rw [Int.toNat_natCast]; have := dataC_get hsl h3; simpa using this)
    refine J.q hX fun b7 => ?_
    refine J.val hX (bv (x.1.getD i 0)) 0 rfl rfl (fun hg a w he hw => ?_) rfl trivial ?_
    ·exact load1_run tk rfl rfl he rfl rfl rfl (hw.get (i := 3) rfl) (by rw [show 0 + (i : Int).toNat * 1 = i from by omega, dataC_get hml h3, mix_get hxl hsl h3])
    refine J.q hX fun b8 => ?_
    refine J.store1 hX tk 3 rfl rfl rfl rfl rfl rfl rfl rfl rfl rfl rfl rfl rfl ?_ (dataC (W.mix x.1 s.data (i + 1))) ?_ rfl (fun _ => rfl) ⟨trivial, ?_⟩
    ·show 0 + (i : Int).toNat * 1 < 16
     omega
    ·rw [show 0 + (i : Int).toNat * 1 = i from by omega, xor_u8b, ← mix_set hxl hsl h3]
     exact dataC_set hml
    refine J.q hX fun b9 => ?_
    refine J.nx (i + 1) (by omega) (by omega) (fun _ s => s)
   ·simp only [decide_eq_false_iff_not] at h2
    obtain rfl : i = 16 := by omega
    refine J.q hX fun b10 => ?_
    refine J.cb hX (h_Meta s.role s.lpn s.seq) [] ?_
    refine cpq ⟨_, rfl, trivial, ?_⟩
    refine J.q hX fun b12 => ?_
    have e1 : W.mix x.1 s.data 16 = ((l.take (k + 1)).foldl W.over1 (zeros16, 0)).1 := by rw [hnext]; rfl
    have e2 : IntKind.u64.wrap ((BitVec.ofInt IntKind.u64.bits x.2 ^^^ BitVec.ofInt IntKind.u64.bits (S.meta_ s.role s.lpn s.seq)).toNat : Int) = ((l.take (k + 1)).foldl W.over1 (zeros16, 0)).2 := by rw [hnext]; rfl
    rw [e1, e2]
    refine J.q hX fun b13 => ?_
    refine J.nS (k + 1) (by omega) (by omega) [0, 1, 2, 3] rfl rfl
 ·simp only [decide_eq_false_iff_not, Int.ofNat_lt] at h1
  obtain rfl : k = l.length := by omega
  rw [List.take_length]
  refine J.q hX fun b14 => ?_
  exact J.ru hX [1] ⟨rfl, rfl⟩
def rdP (a : Option Addr) (size n : Nat) (xs : List Value) (h : Hl) : Prop :=
 xs.length = n * size ∧ (0 < n → ∃ b o cs ty fr, a = some ⟨b, o, none⟩ ∧ h b = some (.cells cs ty fr) ∧ (cs.toList.drop o).take (n * size) = xs)
theorem rdP.up {a : Option Addr} {size n : Nat} {xs : List Value} {h h' : Hl} (l : Hle h h') (s : rdP a size n xs h) : rdP a size n xs h' :=
 ⟨s.1, fun hn => let ⟨b, o, cs, ty, fr, h1, h2, h3⟩ := s.2 hn; ⟨b, o, cs, ty, fr, h1, l _ _ h2, h3⟩⟩
def Rd (A : Atom) (a : Option Addr) (size n : Nat) (xs : List Value) : Prop := ∀ h, A.sat h → rdP a size n xs h
theorem Rd.addr {a : Option Addr} {size n : Nat} {xs : List Value} {h : Hl} (s : rdP a size n xs h) (hn : 0 < n) : ∃ g o, a = some ⟨g, o, none⟩ := let ⟨b, o, _, _, _, e, _⟩ := s.2 hn; ⟨b, o, e⟩
def oad (a : Option Nat) : Option Addr := match a with | some g => some ⟨g, 0, none⟩ | none => none
theorem own_rd (e size : Nat) (a : Option Nat) (n cap : Nat) (xs : List Value) : Rd (ownA e size a n cap xs) (oad a) size n xs := by
 intro h s
 obtain ⟨h0, h1⟩ := s
 refine ⟨h0, fun hn => ?_⟩
 cases a with
 | none => omega
 | some g =>
  obtain ⟨cur, q1, q2, q3, q4, q5⟩ := h1
  exact ⟨g, 0, cur, e, (0, 0), rfl, q1, by simpa using q5⟩
theorem pt_rd (b t : Nat) (cs : List Value) (size n : Nat) (h : cs.length = n * size) : Rd (.pt b t cs) (some ⟨b, 0, none⟩) size n cs := by
 intro h' s
 exact ⟨h, fun _ => ⟨b, 0, cs.toArray, t, (0, 0), rfl, s, by simp [← h]⟩⟩
theorem Rd.take {A : Atom} {a : Option Addr} {size n : Nat} {xs : List Value} (h : Rd A a size n xs) (k : Nat) (hk : k ≤ n) : Rd A a size k (xs.take (k * size)) := by
 intro h' s
 obtain ⟨h0, h1⟩ := h h' s
 have hle : k * size ≤ n * size := Nat.mul_le_mul_right _ hk
 refine ⟨by rw [List.length_take, h0]; omega, fun hk0 => ?_⟩
 obtain ⟨b, o, cs, ty, fr, e1, e2, e3⟩ := h1 (by omega)
 refine ⟨b, o, cs, ty, fr, e1, e2, ?_⟩
 rw [← e3, List.take_take, Nat.min_eq_left hle]
section
variable {P : Program} {T : Tab} {E : Env} {n : Nat} {a : Act} {w : World}
theorem rd_cell {b o size m : Nat} {xs : List Value} (hb : rdP (some ⟨b, o, none⟩) size m xs (hl w)) (hm : 0 < m) {j : Nat} {v : Value} (hv : xs[j]? = some v) : w.cell? ⟨b, o + j, none⟩ = some v := by
 obtain ⟨b', o', cs, ty, fr, e1, e2, e3⟩ := hb.2 hm
 simp only [Option.some.injEq, Addr.mk.injEq, and_true] at e1
 obtain ⟨rfl, rfl⟩ := e1
 rw [cell_of_row w b (o + j) cs ty fr e2]
 rw [← e3, List.getElem?_take] at hv
 split at hv
 ·rw [List.getElem?_drop] at hv; simpa using hv
 ·cases hv
theorem rdN_run (hT : TabOK P T) {oo : Oper} {t : TypeId} {x : Operand} {k tg b off o j size m : Nat} {g : G} {ti : TI} {xs l : List Value} (hop : oo.op = .load t x) (hx : ev E x = some ⟨k, .pointer (some ⟨b, off, none⟩), tg, g⟩) (he : EnvOK n E a) (hg : g.on = true) (hti : T.get t = some ti) (h1 : ti.d.one = false)
  (hb : rdP (some ⟨b, o, none⟩) size m xs (hl w)) (hm : 0 < m) (hoff : off = o + j) (hv : (xs.drop j).take ti.size = l) (hl : l.length = ti.size) : (execOp a.eval oo).run P w = .ok (.value (.agg l.toArray)) w := by
 have ex := ev_spec he hx
 simp only [Slot.val, hg] at ex
 obtain ⟨d, f, z, ok⟩ := tiOf_spec (hT.get hti)
 have hmm := ok.many h1
 have hr : w.rangeAt b off l := by
  intro i v hi
  subst hoff
  rw [← hv, List.getElem?_take] at hi
  split at hi
  ·rw [List.getElem?_drop] at hi
   rw [Nat.add_assoc]
   exact rd_cell hb hm hi
  ·cases hi
 have hr2 := run_loadVar_mid (P := P) w b off t l d hr ok.hd (by cases d <;> simp_all [isAggD, TypeDesc.isRow]) (by rw [ok.hf]; simp [hl, ok.hsize])
 simp only [execOp, hop, ex, Instr.loadAt, Instr.sureAddr, Sem.run_bind, Sem.run_pure, Result.andThen_ok, hr2]
theorem rd1_run (hT : TabOK P T) {oo : Oper} {t : TypeId} {x : Operand} {k tg b off o j size m : Nat} {g : G} {ti : TI} {xs : List Value} {v : Value} (hop : oo.op = .load t x) (hx : ev E x = some ⟨k, .pointer (some ⟨b, off, none⟩), tg, g⟩) (he : EnvOK n E a) (hg : g.on = true) (hti : T.get t = some ti) (h1 : ti.d.one = true)
  (hb : rdP (some ⟨b, o, none⟩) size m xs (hl w)) (hm : 0 < m) (hoff : off = o + j) (hv : xs[j]? = some v) : (execOp a.eval oo).run P w = .ok (.value v) w := by
 have ex := ev_spec he hx
 simp only [Slot.val, hg] at ex
 obtain ⟨d, f, z, ok⟩ := tiOf_spec (hT.get hti)
 subst hoff
 simp only [execOp, hop, ex, Instr.loadAt, Instr.sureAddr, Sem.run_bind, Sem.run_pure, Result.andThen_ok, loadScalar_run ok.hd (ok.one h1) (rd_cell hb hm hv)]
end
section
variable {X : Cx} {P : Program} {T : Tab} {K : List KI} {E : Env} {L : List Atom} {N : Nat} {F : HP} {Post : Value → List Atom → Prop} {rs : List ResultVar}
theorem J.appendR (hX : IsCx X P rs N F Post) (hT : TabOK P T) {ops : Array Oper} {C : Cl} {lt : Bool} {i : Nat} {t : PT} {o : Oper} {g : G} {x y : Operand} {st e size by_ : Nat} {ks tgs : Nat} {gs : G} {a : Option Nat} {n cap : Nat} {xs : List Value} {ky tgy : Nat} {gy : G} {b oo m c : Nat} {cs : List Value} {s1 b1 : Nat} {z1 : List Value} {E' : Value → Env} {Ay : Atom} (is iy tag : Nat)
  (ho : lget ops.toList i = some o) (hg : gd ops.toList E o = some g) (hgo : g.on = true) (hop : o.op = .call ⟨.builtin .append, #[x, y], #[st, st]⟩)
  (hx : ev E x = some ⟨ks, slv a n cap, tgs, gs⟩) (hvx : gs.on = true) (hy : ev E y = some ⟨ky, .slice (some ⟨b, oo, none⟩) m c, tgy, gy⟩) (hvy : gy.on = true)
  (hLs : lget L is = some (ownA e size a n cap xs)) (hLy : lget L iy = some Ay) (hrd : Rd Ay (some ⟨b, oo, none⟩) size m cs) (hst : T.get st = some ⟨.slice e size, s1, z1, b1⟩) {td : TD} {z : List Value} (he : T.get e = some ⟨td, size, z, by_⟩) (hz : Nat.beq z.length size = true)
  (hsz : Nat.blt 0 size = true) (h1 : ∀ u ∈ cs, u.oneCell' = true) (h63 : n + m ≤ maxLen) (hbytes : (n + m) * by_ ≤ 140737488355328)
  (hd : ∀ v, putE N o.dst v tag .tt E = some (E' v))
  (hJ : ∀ a' cap', ∃ L', lset L is (ownA e size a' (n + m) cap' (xs ++ cs)) = some L' ∧ Conj (staysL lt C L') ∧ J X (.reg ops C t :: K) (E' (slv a' (n + m) cap')) L') : J X (.reg ops C (.alt lt i t .non) :: K) E L := by
 refine J.op hX (S := fun v L' => ∃ a' cap', v = slv a' (n + m) cap' ∧ L' = L.set is (ownA e size a' (n + m) cap' (xs ++ cs))) tag ho hg hgo (fun a0 w hen hs => ?_) hd (fun v L' ⟨a', cap', e1, e2⟩ => by subst e1; subst e2; obtain ⟨L2, q1, q2⟩ := hJ a' cap'; rw [← lset_eq q1]; exact q2)
 obtain ⟨d, f, zv, ok⟩ := tiOf_spec (hT.get hst)
 obtain ⟨fe, rfl, g1, g2⟩ := ok.slice rfl
 obtain ⟨d', f', zv', ok'⟩ := tiOf_spec (hT.get he)
 have hf : fe = f' := by have := g1.symm.trans ok'.hf; injection this
 subst hf
 have hzz : z = zv'.cells.toList := ok'.hzero
 subst hzz
 rw [lget_eq] at hLs hLy
 have hrow := ownP_row (hs.get hLs)
 have hrd2 := hrd _ (hs.get hLy)
 have hnews : ∀ j u, cs[j]? = some u → w.cell? ((⟨b, oo, none⟩ : Addr).add j) = some u := fun j u hu => by
  rw [Addr.add_none]
  refine rd_cell hrd2 ?_ hu
  rcases Nat.eq_zero_or_pos m with h0 | h0
  ·have := hrd2.1
   rw [h0, Nat.zero_mul] at this
   rw [List.eq_nil_of_length_eq_zero this] at hu; simp at hu
  ·exact h0
 obtain ⟨v', w', r1, r2, r3, _, r5⟩ := run_append_own_at (P := P) w 0 st o.type e fe zv' size by_ ok.hd ok'.hf ok'.hz g2 ok'.hbytes.symm (by have := Nat.eq_of_beq_eq_true hz; simpa using this) (Nat.le_of_ble_eq_true hsz) _ n xs hrow ⟨b, oo, none⟩ m c cs hrd2.1 hnews h1 h63 hbytes (Nat.zero_le _)
 obtain ⟨a', cap', e1, e2, e3⟩ := row_ownP r2
 subst e1
 have ex := ev_spec hen hx
 have ey := ev_spec hen hy
 simp only [Slot.val, hvx, hvy] at ex ey
 refine ⟨_, _, .value (slv a' (n + m) cap'), w', ⟨a', cap', rfl, rfl⟩, ?_, .inl rfl, ?_, Ext.grown r3⟩
 ·simp only [execOp, hop, resolve, Sem.run_bind, Sem.run_pure, Result.andThen_ok, invoke, builtin, List.map_toArray, List.map_cons, List.map_nil, ex, ey, r1]
 ·refine Sep.step hs hLs (x := (slv a n cap).ownBlock) (x' := a') (fun h g0 hh he0 => ?_) r3 (by rw [← e3]; exact r5) (fun h hh => ⟨e2.1, ?_⟩)
  ·cases a with
   | none => simp [slv, Value.ownBlock] at he0
   | some ga =>
    simp only [slv, Value.ownBlock, Option.some.injEq] at he0
    subst he0
    obtain ⟨cur, h1, _⟩ := hh.2
    exact ⟨_, h1⟩
  ·have e22 := e2.2
   cases a' with
   | none => exact e22
   | some ga =>
    obtain ⟨cur, q1, q2⟩ := e22
    exact ⟨cur, (hh ga rfl).trans q1, q2⟩
end
def cellsE (l : List En) : List Value := l.flatMap enL
theorem enL_len (e : En) : (enL e).length = 19 := rfl
theorem cellsE_at : ∀ (l : List En) (r : List Value) (k : Nat) (x : En), l[k]? = some x → ((cellsE l ++ r).drop (k * 19)).take 19 = enL x
 | [], _, _, _, h => by simp at h
 | y :: l, r, 0, x, h => by
  simp at h; subst h
  rw [Nat.zero_mul, List.drop_zero]
  simp only [cellsE, List.flatMap_cons, List.append_assoc]
  exact List.take_left' rfl
 | y :: l, r, k + 1, x, h => by
  have := cellsE_at l r k x (by simpa using h)
  rw [show (k + 1) * 19 = 19 + k * 19 from by omega, ← List.drop_drop]
  simp only [cellsE, List.flatMap_cons, List.append_assoc] at this ⊢
  rw [List.drop_left' (enL_len y)]
  exact this
theorem cellsS_snoc (l : List Sh) (s : Sh) : cellsS (l ++ [s]) = cellsS l ++ shL s := by simp [cellsS]
namespace W
def parS (b r m : Int) (l : List En) : Sh :=
 let x := over (l.map (sh b r m))
 ⟨x.1, (x.2.toNat / 72057594037927936 : Nat), (x.2.toNat / 1099511627776 % 65536 : Nat), (x.2.toNat % 1099511627776 : Nat), 2, b, r, m⟩
def parB (b r m : Int) (l : List En) : Bool := decide ((l.length : Int) = G.slots m) && !l.isEmpty && l.all (ok b r m)
def par (b r m : Int) (l : List En) : Sh := if parB b r m l then parS b r m l else Sh.zero
end W
theorem ovM_bd (m x : Int) : 0 ≤ W.ovM m x ∧ W.ovM m x < 18446744073709551616 := by
 have : W.ovM m x = ((BitVec.ofInt 64 m ^^^ BitVec.ofInt 64 x).toNat : Int) % 18446744073709551616 := by simp [W.ovM, IntKind.wrap, IntKind.bits, IntKind.signed]
 rw [this]; omega
theorem over_nat : ∀ (l : List Sh) (x : List UInt8 × Int), 0 ≤ x.2 ∧ x.2 < 18446744073709551616 → ∃ k : Nat, (l.foldl W.over1 x).2 = k ∧ k < 18446744073709551616
 | [], x, h => ⟨x.2.toNat, by simp only [List.foldl_nil]; omega, by omega⟩
 | s :: l, x, _ => over_nat l _ (ovM_bd _ _)
theorem gslots_bd (m : Int) : 0 ≤ G.slots m ∧ G.slots m ≤ 7 := by
 have := L.count_le m
 unfold G.slots; split <;> omega
theorem w_Parity (b r m : Int) (A : Atom) (a : Option Addr) (n cap : Nat) (l : List En) (hA : Rd A a 19 n (cellsE l)) (hl : l.length = n) (hd : ∀ s ∈ l, s.data.length = 16) : Fn Tryz.prog 105 [.int .i64 b, .int .i64 r, .int .i64 m, .slice a n cap] [A]
  (fun v As => v = .tuple #[shV (W.par b r m l), .bool (W.parB b r m l)] ∧ As = [A]) := by
 refine Fn.enter [0, 0, 0, 0] Tryz.func105 rfl rfl rfl fun X F hX => ?_
 refine J.q hX fun bb => ?_
 refine J.cb hX (g_Slots m) [] ?_
 refine cpq ⟨_, rfl, trivial, ?_⟩
 refine J.q hX fun b2 => ?_
 refine J.cond rfl (fun h1 => ?_) (fun h1 => ?_)
 ·refine J.q hX fun b3 => ?_
  refine J.ru hX [1] ?_
  have : W.parB b r m l = false := by
   simp only [Bool.or_eq_true, bne_iff_ne, ne_eq, beq_iff_eq] at h1
   unfold W.parB
   rw [hl]
   rcases h1 with h1 | h1
   ·simp [h1]
   ·have : l = [] := List.eq_nil_of_length_eq_zero (by omega)
    subst this; simp
  exact ⟨by rw [W.par, this]; rfl, rfl⟩
 simp only [Bool.or_eq_false_iff, bne_eq_false_iff_eq, beq_eq_false_iff_ne, ne_eq] at h1
 have hn : n ≤ 1000 := by have := gslots_bd m; omega
 refine J.turn1 [] rfl (As := [ownA 132 23 none 0 0 (cellsS [])]) (fun h s => Sep.one ⟨rfl, rfl, rfl⟩) rfl ?_
 refine J.q hX fun b4 => ?_
 refine J.lo (α := (Nat × Option Nat × Nat)) (fun z => z.1 ≤ n ∧ (l.take z.1).all (W.ok b r m) = true) (fun z => [⟨31, .int .i64 z.1, 0, .tt⟩, ⟨30, .int .i64 n, 0, .tt⟩, ⟨29, .slice a n cap, 0, .tt⟩, ⟨10, slv z.2.1 z.1 z.2.2, 0, .tt⟩, ⟨8, .pointer (some ⟨bb 0, 0, none⟩), 3, .tt⟩, ⟨0, .int .i64 b, 0, .tt⟩, ⟨1, .int .i64 r, 0, .tt⟩, ⟨2, .int .i64 m, 0, .tt⟩]) [3] (fun z => [ownA 132 23 z.2.1 z.1 z.2.2 (cellsS ((l.take z.1).map (W.sh b r m)))]) (fun z => n - z.1) ((0, none, 0)) (⟨Nat.zero_le _, rfl⟩) rfl ?_ (fun _ => rfl) fun z hI => ?_
 ·rfl
 obtain ⟨k, a', cap'⟩ := z
 dsimp only at hI ⊢
 refine J.q hX fun b6 => ?_
 refine J.cond rfl (fun h2 => ?_) (fun h2 => ?_)
 ·simp only [decide_eq_true_eq, Int.ofNat_lt] at h2
  obtain ⟨e, he0⟩ : ∃ e, l[k]? = some e := ⟨_, List.getElem?_eq_getElem (by omega)⟩
  have hel : e.data.length = 16 := hd e (List.mem_of_getElem? he0)
  refine J.know (p := ∃ g o, a = some ⟨g, o, none⟩) (fun h' s => Rd.addr (hA _ (s.get (i := 1) rfl)) (by omega)) fun hk => ?_
  obtain ⟨g, o, rfl⟩ := hk
  refine J.q hX fun b7 => ?_
  refine J.val hX (enV e) 0 rfl rfl (fun hg a w he hw => ?_) rfl trivial ?_
  ·exact rdN_run tk rfl rfl he rfl rfl rfl (hA _ (hw.get (i := 1) rfl)) (by omega) (j := k * 19) (by omega) (by have := cellsE_at l [] k e he0; rwa [List.append_nil] at this) rfl
  refine J.q hX fun b8 => ?_
  refine J.cb hX (w_Own b r m e hel) [] ?_
  refine cpq ⟨_, rfl, trivial, ?_⟩
  have htk : l.take (k + 1) = l.take k ++ [e] := by rw [List.take_add_one, he0]; rfl
  refine J.q hX fun b10 => ?_
  refine J.cond rfl (fun h3 => ?_) (fun h3 => ?_)
  ·simp only [Bool.not_eq_true'] at h3
   refine J.q hX fun b11 => ?_
   refine J.ru hX [1] ?_
   have : W.parB b r m l = false := by
    unfold W.parB
    have : l.all (W.ok b r m) = false := by
     rw [List.all_eq_false]
     exact ⟨e, List.mem_of_getElem? he0, by simp [h3]⟩
    rw [this]; simp
   exact ⟨by rw [W.par, this]; rfl, rfl⟩
  ·simp only [Bool.not_eq_false'] at h3
   rw [show W.own b r m e = W.sh b r m e from if_pos h3]
   refine J.q hX fun b12 => ?_
   refine J.append hX tk 3 6 0 rfl rfl rfl rfl rfl rfl rfl rfl rfl rfl rfl rfl rfl rfl rfl rfl ?_ ?_ (fun _ => rfl) fun a2 cap2 => ⟨_, (congrArg (fun z => lset _ 3 (ownA _ _ _ _ _ z)) (cellsS_snoc _ (W.sh b r m e)).symm).trans rfl, trivial, ?_⟩
   ·simp only [maxLen]; omega
   ·omega
   rw [show (l.take k).map (W.sh b r m) ++ [W.sh b r m e] = (l.take (k + 1)).map (W.sh b r m) from by rw [htk, List.map_append]; rfl]
   refine J.q hX fun b13 => ?_
   refine J.nS ((k + 1, a2, cap2)) (⟨by dsimp only; omega, by dsimp only; rw [htk, List.all_append, hI.2]; simp [h3]⟩) (by dsimp only; omega) [0, 1, 2, 3] rfl rfl
 ·simp only [decide_eq_false_iff_not, Int.ofNat_lt] at h2
  obtain rfl : k = n := by omega
  rw [show l.take k = l from List.take_of_length_le (by omega)] at *
  refine J.q hX fun b15 => ?_
  refine J.cb hX (w_Over a' k cap' (l.map (W.sh b r m)) (by rw [List.length_map, hl]) hn (fun s hs => by obtain ⟨e, he, rfl⟩ := List.mem_map.1 hs; exact hd e he)) [3] ?_
  refine cpq ⟨_, rfl, trivial, ?_⟩
  obtain ⟨mm, hm1, hm2⟩ := over_nat (l.map (W.sh b r m)) (zeros16, 0) ⟨by decide, by decide⟩
  have hm1 : (W.over (l.map (W.sh b r m))).2 = (mm : Int) := hm1
  rw [hm1]
  refine J.q hX fun b17 => ?_
  refine J.cb hX (h_Of mm hm2) [] ?_
  refine cpq ⟨_, rfl, trivial, ?_⟩
  refine J.q hX fun b19 => ?_
  refine J.ru hX [1] ?_
  have hB : W.parB b r m l = true := by
   unfold W.parB
   rw [hl, hI.2]
   have : l.isEmpty = false := by
    cases l with
    | nil => simp at hl; omega
    | cons x l => rfl
   rw [this]; simp [h1.1]
  refine ⟨?_, rfl⟩
  have hx : mm = (W.over (l.map (W.sh b r m))).2.toNat := by rw [hm1]; rfl
  rw [W.par, hB, if_pos rfl, W.parS, ← hx]
  rfl
theorem readV_len {N : Nand} (hN : N.Ok) (x y z : Int) : (N.readV x y z).length = 32 := by
 unfold Nand.readV
 split
 ·rfl
 ·rename_i h
  simp only [ne_eq, Decidable.not_not] at h
  obtain ⟨_, _, hr⟩ := Nand.refuses_zero h
  split
  ·rfl
  ·rename_i c hc
   split
   ·rfl
   ·exact (hN.cells _ _ (by omega) (by omega)).2 c (List.mem_of_getElem? hc)
namespace M
def bad (s : Sh) (x y z : Int) : Bool := s.block != y || s.row != z || !L.has s.mask x || (G.parity s.mask s.block s.row == x) != (s.kind == 2)
def look (N : Nand) (x y z : Int) : Sh × Int :=
 let e := N.readE x y z
 if e = 0 then
  let p := N.readV x y z
  if S.getE p ≠ 0 ∨ bad (S.getV p) x y z = true then (Sh.zero, 3) else (S.getV p, 1)
 else if e = 5 then (Sh.zero, 2)
 else if e = 8 ∨ e = 9 ∨ e = 3 ∨ e = 12 then (Sh.zero, 4)
 else (Sh.zero, 3)
end M
theorem m_Look (p : Nat) (N : Nand) (hN : N.Ok) (hR : N.Room) (x y z : Int) : Fn Tryz.prog 194 [.pointer (some ⟨p, 0, none⟩), .agg #[.int .i64 x, .int .i64 y, .int .i64 z]] [NandA p N]
  (fun v As => v = .tuple #[shV (M.look N x y z).1, .int .i64 (M.look N x y z).2] ∧ As = [NandA p N]) := by
 refine Fn.enter [2, 0] Tryz.func194 rfl rfl rfl fun X F hX => ?_
 refine J.q hX fun b1 => ?_
 refine J.cb hX (n_Read p N hN x y z) [1] ?_
 refine cpq ⟨_, rfl, trivial, ?_⟩
 refine J.q hX fun b3 => ?_
 refine J.cond rfl (fun h1 => ?_) (fun h1 => ?_)
 ·simp only [beq_iff_eq] at h1
  refine J.q hX fun b4 => ?_
  refine J.cb hX (h_Get (N.readV x y z) (readV_len hN x y z)) [] ?_
  refine cpq ⟨_, rfl, trivial, ?_⟩
  refine J.q hX fun b6 => ?_
  refine J.plan (.of [0,5,8,13,16,21,28,33,26,36,40]) [10] [1,2,3,4,5] (by rw [hX.hP]; kernel_rfl) (by kernel_rfl) ?_
  refine J.q hX fun b7 => ?_
  refine J.cb hX (g_Parity (S.getV (N.readV x y z)).mask (S.getV (N.readV x y z)).block (S.getV (N.readV x y z)).row) [] ?_
  refine cpq ⟨_, rfl, ⟨rfl, rfl, rfl, rfl, rfl, trivial⟩, ?_⟩
  have hlk : M.look N x y z = if S.getE (N.readV x y z) ≠ 0 ∨ M.bad (S.getV (N.readV x y z)) x y z = true then (Sh.zero, 3) else (S.getV (N.readV x y z), 1) := by simp only [M.look]; rw [if_pos h1]
  generalize hE : S.getE (N.readV x y z) = ge at hlk
  generalize hS : S.getV (N.readV x y z) = s at hlk
  refine J.q hX fun b9 => ?_
  refine J.gcase hX rfl rfl rfl trivial (fun hb => ?_) (fun hb => ?_)
  ·have hb2 : (ge != 0 || s.block != y || s.row != z) = false := by rw [Bool.not_eq_true'] at hb; exact hb
   rw [hb2]
   refine J.q hX fun b10 => ?_
   refine J.cb hX (l_Has s.mask x) [] ?_
   refine cpq ⟨_, rfl, trivial, ?_⟩
   have hcond : (false || !L.has s.mask x || (G.parity s.mask s.block s.row == x) != (s.kind == 2)) = true → ge ≠ 0 ∨ M.bad s x y z = true := fun h => by
    simp only [Bool.or_eq_false_iff] at hb2
    right; unfold M.bad; rw [hb2.1.2, hb2.2]; exact h
   have hcond2 : (false || !L.has s.mask x || (G.parity s.mask s.block s.row == x) != (s.kind == 2)) = false → ¬(ge ≠ 0 ∨ M.bad s x y z = true) := fun h => by
    simp only [Bool.or_eq_false_iff] at hb2
    have h0 : ge = 0 := by simpa using hb2.1.1
    have h2 : M.bad s x y z = false := by unfold M.bad; rw [hb2.1.2, hb2.2]; exact h
    simp [h0, h2]
   refine J.q hX fun b11 => ?_
   refine J.cond rfl (fun h5 => ?_) (fun h5 => ?_)
   ·refine J.q hX fun b12 => ?_
    refine J.ru hX [1] ?_
    have hc : ge ≠ 0 ∨ M.bad s x y z = true := hcond h5
    rw [hlk, if_pos hc]
    exact ⟨rfl, rfl⟩
   ·refine J.q hX fun b13 => ?_
    refine J.ru hX [1] ?_
    have hc : ¬(ge ≠ 0 ∨ M.bad s x y z = true) := hcond2 h5
    rw [hlk, if_neg hc]
    exact ⟨rfl, rfl⟩
  ·have hb2 : (ge != 0 || s.block != y || s.row != z) = true := by rw [Bool.not_eq_false'] at hb; exact hb
   rw [hb2]
   refine J.q hX fun b14 => ?_
   refine J.val hX (.bool false) 0 rfl rfl (fun hg a w he hw => by simp [G.on] at hg) rfl trivial ?_
   have hc : ge ≠ 0 ∨ M.bad s x y z = true := by
    simp only [Bool.or_eq_true, bne_iff_ne, ne_eq] at hb2
    rcases hb2 with (h | h) | h
    ·exact .inl h
    ·right; simp [M.bad, h]
    ·right; simp [M.bad, h]
   rw [if_pos hc] at hlk
   refine J.q hX fun b15 => ?_
   refine J.cond rfl (fun h5 => ?_) (fun h5 => ?_)
   ·refine J.q hX fun b16 => ?_
    refine J.ru hX [1] ?_
    rw [hlk]
    exact ⟨rfl, rfl⟩
   ·simp at h5
 simp only [beq_eq_false_iff_ne, ne_eq] at h1
 refine J.q hX fun b17 => ?_
 refine J.cond rfl (fun h2 => ?_) (fun h2 => ?_)
 ·simp only [beq_iff_eq] at h2
  refine J.q hX fun b18 => ?_
  refine J.ru hX [1] ?_
  exact ⟨by simp only [M.look]; rw [if_neg h1, if_pos h2]; rfl, rfl⟩
 simp only [beq_eq_false_iff_ne, ne_eq] at h2
 have hgone : (N.readE x y z = 8 ∨ N.readE x y z = 9 ∨ N.readE x y z = 3 ∨ N.readE x y z = 12) → M.look N x y z = (Sh.zero, 4) := fun h => by simp only [M.look]; rw [if_neg h1, if_neg h2, if_pos h]
 have hbad : ¬(N.readE x y z = 8 ∨ N.readE x y z = 9 ∨ N.readE x y z = 3 ∨ N.readE x y z = 12) → M.look N x y z = (Sh.zero, 3) := fun h => by simp only [M.look]; rw [if_neg h1, if_neg h2, if_neg h]
 refine J.q hX fun b19 => ?_
 refine J.cond rfl (fun g8 => ?_) (fun g8 => ?_)
 ·rw [g8]
  refine J.q hX fun b20 => ?_
  refine J.cT ?_
  refine J.q hX fun b21 => ?_
  refine J.ru hX [1] ?_
  simp only [beq_iff_eq] at g8
  rw [hgone (by simp [g8])]
  exact ⟨rfl, rfl⟩
 refine J.q hX fun b22 => ?_
 refine J.cond rfl (fun g9 => ?_) (fun g9 => ?_)
 ·rw [g9]
  refine J.q hX fun b23 => ?_
  refine J.cT ?_
  refine J.q hX fun b24 => ?_
  refine J.ru hX [1] ?_
  simp only [beq_iff_eq] at g9
  rw [hgone (by simp [g9])]
  exact ⟨rfl, rfl⟩
 refine J.q hX fun b25 => ?_
 refine J.cond rfl (fun g3 => ?_) (fun g3 => ?_)
 ·rw [g3]
  refine J.q hX fun b26 => ?_
  refine J.cT ?_
  refine J.q hX fun b27 => ?_
  refine J.ru hX [1] ?_
  simp only [beq_iff_eq] at g3
  rw [hgone (by simp [g3])]
  exact ⟨rfl, rfl⟩
 refine J.q hX fun b28 => ?_
 refine J.cond rfl (fun g12 => ?_) (fun g12 => ?_)
 ·refine J.q hX fun b29 => ?_
  refine J.ru hX [1] ?_
  simp only [beq_iff_eq] at g12
  rw [hgone (by simp [g12])]
  exact ⟨rfl, rfl⟩
 refine J.q hX fun b30 => ?_
 refine J.ru hX [1] ?_
 simp only [beq_eq_false_iff_ne, ne_eq] at g8 g9 g3 g12
 rw [hbad (by simp [g8, g9, g3, g12])]
 exact ⟨rfl, rfl⟩
def cellsI (l : List Int) : List Value := l.map (.int .i64)
theorem cellsI_snoc (l : List Int) (x : Int) : cellsI (l ++ [x]) = cellsI l ++ [.int .i64 x] := by simp [cellsI]
namespace M
def rowN (N : Nand) (b r : Int) (k : Nat) : List (Sh × Int) := (List.range k).map fun d : Nat => look N (d : Int) b r
end M
theorem rowN_succ (N : Nand) (b r : Int) (k : Nat) : M.rowN N b r (k + 1) = M.rowN N b r k ++ [M.look N (k : Int) b r] := by simp [M.rowN, List.range_succ]
theorem m_Row (p : Nat) (N : Nand) (hN : N.Ok) (hR : N.Room) (b r : Int) : Fn Tryz.prog 204 [.pointer (some ⟨p, 0, none⟩), .int .i64 b, .int .i64 r] [NandA p N]
  (fun v As => ∃ a1 c1 a2 c2, v = .tuple #[slv a1 N.dies c1, slv a2 N.dies c2] ∧ As = [NandA p N, ownA 132 23 a1 N.dies c1 (cellsS ((M.rowN N b r N.dies).map (·.1))), ownA 3 1 a2 N.dies c2 (cellsI ((M.rowN N b r N.dies).map (·.2)))]) := by
 have hbd := hN.bd
 refine Fn.enter [2, 0, 0] Tryz.func204 rfl rfl rfl fun X F hX => ?_
 refine J.q hX fun b1 => ?_
 refine J.cb hX (n_Geo p N) [1] ?_
 refine cpq ⟨_, rfl, trivial, ?_⟩
 refine J.turn1 [] rfl (As := [ownA 132 23 none 0 0 (cellsS []), ownA 3 1 none 0 0 (cellsI [])]) (fun h s => ⟨fun _ => 0, fun i A hA => by
  match i, hA with
  | 0, hA => simp at hA; subst hA; exact ⟨rfl, rfl, rfl⟩
  | 1, hA => simp at hA; subst hA; exact ⟨rfl, rfl, rfl⟩
  | k + 2, hA => simp at hA⟩) rfl ?_
 refine J.q hX fun b3 => ?_
 refine J.lo (α := (Nat × (Option Nat × Nat) × (Option Nat × Nat))) (fun z => z.1 ≤ N.dies) (fun z => [⟨16, .int .i64 z.1, 0, .tt⟩, ⟨15, .int .i64 N.dies, 0, .tt⟩, ⟨8, slv z.2.1.1 z.1 z.2.1.2, 0, .tt⟩, ⟨9, slv z.2.2.1 z.1 z.2.2.2, 0, .tt⟩, ⟨0, .pointer (some ⟨p, 0, none⟩), 2, .tt⟩, ⟨1, .int .i64 b, 0, .tt⟩, ⟨2, .int .i64 r, 0, .tt⟩]) [2, 3] (fun z => [ownA 132 23 z.2.1.1 z.1 z.2.1.2 (cellsS ((M.rowN N b r z.1).map (·.1))), ownA 3 1 z.2.2.1 z.1 z.2.2.2 (cellsI ((M.rowN N b r z.1).map (·.2)))]) (fun z => N.dies - z.1) ((0, (none, 0), (none, 0))) (Nat.zero_le _) rfl ?_ (fun _ => rfl) fun z hI => ?_
 ·rfl
 obtain ⟨k, ⟨a1, c1⟩, ⟨a2, c2⟩⟩ := z
 dsimp only at hI ⊢
 refine J.q hX fun b5 => ?_
 refine J.cond rfl (fun h1 => ?_) (fun h1 => ?_)
 ·simp only [decide_eq_true_eq, Int.ofNat_lt] at h1
  refine J.q hX fun b6 => ?_
  refine J.cb hX (m_Look p N hN hR k b r) [1] ?_
  refine cpq ⟨_, rfl, trivial, ?_⟩
  refine J.q hX fun b8 => ?_
  refine J.append hX tk 2 5 0 rfl rfl rfl rfl rfl rfl rfl rfl rfl rfl rfl rfl rfl rfl rfl rfl ?_ ?_ (fun _ => rfl) fun a3 c3 => ⟨_, (congrArg (fun z => lset _ 2 (ownA _ _ _ _ _ z)) (cellsS_snoc _ (M.look N k b r).1).symm).trans rfl, trivial, ?_⟩
  ·simp only [maxLen]; omega
  ·omega
  refine J.q hX fun b9 => ?_
  refine J.append hX tk 3 6 0 rfl rfl rfl rfl rfl rfl rfl rfl rfl rfl rfl rfl rfl rfl rfl rfl ?_ ?_ (fun _ => rfl) fun a4 c4 => ⟨_, (congrArg (fun z => lset _ 3 (ownA _ _ _ _ _ z)) (cellsI_snoc _ (M.look N k b r).2).symm).trans rfl, trivial, ?_⟩
  ·simp only [maxLen]; omega
  ·omega
  rw [show (M.rowN N b r k).map (·.1) ++ [(M.look N k b r).1] = (M.rowN N b r (k + 1)).map (·.1) from by rw [rowN_succ, List.map_append]; rfl, show (M.rowN N b r k).map (·.2) ++ [(M.look N k b r).2] = (M.rowN N b r (k + 1)).map (·.2) from by rw [rowN_succ, List.map_append]; rfl]
  refine J.q hX fun b10 => ?_
  refine J.nS ((k + 1, (a3, c3), (a4, c4))) (by dsimp only; omega) (by dsimp only; omega) [0, 1, 2, 3] rfl rfl
 ·simp only [decide_eq_false_iff_not, Int.ofNat_lt] at h1
  obtain rfl : k = N.dies := by omega
  refine J.q hX fun b11 => ?_
  refine J.ru hX [1, 2, 3] ?_
  exact ⟨a1, c1, a2, c2, rfl, rfl⟩
theorem c_Less (x y : Int) : Fn Tryz.prog 232 [.int .i64 x, .int .i64 y] [] (fun v As => v = .bool (decide (x < y)) ∧ As = []) := by
 refine Fn.enter [] Tryz.func232 rfl rfl rfl fun X F hX => ?_
 refine J.q hX fun b1 => ?_
 refine J.cb hX (c_isNaN x) [] ?_
 refine cpq ⟨_, rfl, trivial, ?_⟩
 refine J.q hX fun b3 => ?_
 refine J.gcase hX rfl rfl rfl trivial (fun hb => by cases hb) (fun _ => ?_)
 refine J.q hX fun b4 => ?_
 refine J.val hX (.bool false) 0 rfl rfl (fun hg a w he hw => by simp [G.on] at hg) rfl trivial ?_
 refine J.q hX fun b5 => ?_
 refine J.ru hX [] ?_
 exact ⟨by simp, rfl⟩
theorem cellsI_len (l : List Int) : (cellsI l).length = l.length := by simp [cellsI]
theorem cellsI_at (l : List Int) (r : List Value) (k : Nat) (x : Int) (h : l[k]? = some x) : (cellsI l ++ r)[k]? = some (.int .i64 x) := by
 obtain ⟨h1, h2⟩ := List.getElem?_eq_some_iff.1 h
 rw [List.getElem?_append_left (by rw [cellsI_len]; exact h1), cellsI, List.getElem?_map, h]; rfl
theorem cellsI_set (l : List Int) (r : List Value) (k : Nat) (x : Int) (h : k < l.length) : (cellsI l ++ r).set k (.int .i64 x) = cellsI (l.set k x) ++ r := by
 rw [List.set_append_left _ _ (by rw [cellsI_len]; exact h), cellsI, cellsI, List.map_set]
def swpI (l : List Int) (j : Nat) : List Int := (l.set j (l.getD (j - 1) 0)).set (j - 1) (l.getD j 0)
def sinkI : Nat → List Int → List Int
 | 0, l => l
 | j + 1, l => if l.getD (j + 1) 0 < l.getD j 0 then sinkI j (swpI l (j + 1)) else l
def isortI (l : List Int) : Nat → List Int
 | 0 => l
 | k + 1 => sinkI (k + 1) (isortI l k)
def isortL (l : List Int) : List Int := isortI l (l.length - 1)
theorem swpI_len (l : List Int) (j : Nat) : (swpI l j).length = l.length := by simp [swpI]
theorem sinkI_len : ∀ (j : Nat) (l : List Int), (sinkI j l).length = l.length
  | 0, l => rfl
  | j + 1, l => by unfold sinkI; split
                   · rw [sinkI_len j, swpI_len]
                   · rfl
theorem isortI_len (l : List Int) : ∀ k, (isortI l k).length = l.length
 | 0 => rfl
 | k + 1 => by rw [isortI, sinkI_len, isortI_len l k]
theorem i_SortI (g n cap : Nat) (l : List Int) (hl : l.length = n) (hn : n ≤ 4611686018427387904) (r : List Value) : Fn Tryz.prog 226 [.slice (some ⟨g, 0, none⟩) n cap, .int .i64 0, .int .i64 n] [.pt g 3 (cellsI l ++ r)]
  (fun v As => v = .tuple #[] ∧ As = [.pt g 3 (cellsI (isortL l) ++ r)]) := by
 refine Fn.enter [2, 0, 0] Tryz.func226 rfl rfl rfl fun X F hX => ?_
 refine J.q hX fun b1 => ?_
 refine J.lo (α := Nat) (fun i => 1 ≤ i ∧ i ≤ max 1 n) (fun i => [⟨6, .int .i64 i, 0, .tt⟩, ⟨0, .slice (some ⟨g, 0, none⟩) n cap, 2, .tt⟩, ⟨1, .int .i64 0, 0, .tt⟩, ⟨2, .int .i64 n, 0, .tt⟩]) [1] (fun i => [.pt g 3 (cellsI (isortI l (i - 1)) ++ r)]) (fun i => n - i) (1) (⟨by omega, by omega⟩) rfl ?_ (fun _ => rfl) fun i hI => ?_
 ·rfl
 refine J.q hX fun b3 => ?_
 refine J.cond rfl (fun h1 => ?_) (fun h1 => ?_)
 ·simp only [decide_eq_true_eq, Int.ofNat_lt] at h1
  refine J.q hX fun b4 => ?_
  refine J.lo (α := (Nat × List Int)) (fun y => y.1 ≤ i ∧ y.2.length = n ∧ sinkI y.1 y.2 = isortI l i) (fun y => [⟨7, .int .i64 y.1, 0, .tt⟩, ⟨6, .int .i64 i, 0, .tt⟩, ⟨0, .slice (some ⟨g, 0, none⟩) n cap, 2, .tt⟩, ⟨1, .int .i64 0, 0, .tt⟩, ⟨2, .int .i64 n, 0, .tt⟩]) [1] (fun y => [.pt g 3 (cellsI y.2 ++ r)]) (fun y => y.1) ((i, isortI l (i - 1))) (⟨Nat.le_refl _, by rw [isortI_len, hl], by obtain ⟨k, rfl⟩ : ∃ k, i = k + 1 := ⟨i - 1, by omega⟩; rfl⟩) rfl ?_ (fun _ => rfl) fun y hI => ?_
  ·rfl
  obtain ⟨j, m⟩ := y
  dsimp only at hI ⊢
  have hget : ∀ e, e < n → m[e]? = some (m.getD e 0) := fun e he => by rw [List.getD_eq_getElem?_getD, List.getElem?_eq_getElem (by omega), Option.getD_some]
  rcases Nat.eq_zero_or_pos j with h2 | h2
  ·subst h2
   refine J.q hX fun b6 => ?_
   refine J.plan (.of [0,4,8,12,16,20,24,29,32,36,40,44,49,54,56]) [] [1] (by rw [hX.hP]; kernel_rfl) (by kernel_rfl) ?_
   refine J.qn hX 4 fun b7 => ?_
   rw [show decide (((0 : Nat) : Int) > 0) = false from rfl]
   refine J.q hX fun b8 => ?_
   refine J.valT hX (.int .i64 0) 0 rfl rfl (fun hg a w he hC => by simp [G.on] at hg) rfl ?_
   refine J.q hX fun b9 => ?_
   refine J.valT hX (.int .i64 0) 0 rfl rfl (fun hg a w he hC => by simp [G.on] at hg) rfl ?_
   refine J.q hX fun b10 => ?_
   refine J.gcase hX rfl rfl rfl ⟨rfl, trivial⟩ (fun h => by cases h) (fun _ => ?_)
   refine J.slot (k := 29) (s' := ⟨29, .bool false, 0, .when false⟩) rfl rfl rfl ?_
   refine J.q hX fun b11 => ?_
   refine J.cF ?_
   have hm : m = isortI l (i + 1 - 1) := hI.2.2
   rw [hm]
   refine J.q hX fun b12 => ?_
   refine J.nS (i + 1) (⟨by omega, by omega⟩) (by omega) [0, 1] rfl rfl
  ·obtain ⟨j, rfl⟩ : ∃ k, j = k + 1 := ⟨j - 1, by omega⟩
   refine J.q hX fun b13 => ?_
   refine J.plan (.of [0,4,8,12,16,20,24,29,32,36,40,44,49,54,56]) [] [1] (by rw [hX.hP]; kernel_rfl) (by kernel_rfl) ?_
   refine J.qn hX 4 fun b14 => ?_
   rw [show decide (((j + 1 : Nat) : Int) > 0) = true from decide_eq_true (by omega)]
   refine J.q hX fun b15 => ?_
   refine J.valT hX (.int .i64 (m.getD (j + 1) 0)) 0 rfl rfl (fun hg a w he hC => ?_) rfl ?_
   ·exact load1_run tk rfl rfl he hg rfl rfl (hC rfl _ (cget_mem (i := 1) rfl)) (by rw [show 0 + ((j + 1 : Nat) : Int).toNat * 1 = j + 1 from by omega]; exact cellsI_at m r _ _ (hget _ (by omega)))
   refine J.q hX fun b16 => ?_
   refine J.valT hX (.int .i64 (m.getD j 0)) 0 rfl rfl (fun hg a w he hC => ?_) rfl ?_
   ·exact load1_run tk rfl rfl he hg rfl rfl (hC rfl _ (cget_mem (i := 1) rfl)) (by rw [show 0 + (((j + 1 : Nat) : Int) - 1).toNat * 1 = j from by omega]; exact cellsI_at m r _ _ (hget _ (by omega)))
   refine J.q hX fun b17 => ?_
   refine J.call hX (by kernel_rfl) (c_Less (m.getD (j + 1) 0) (m.getD j 0)) [] 0 rfl rfl rfl rfl (by (repeat' (first | exact Conj.nil | refine Conj.cons ?_ ?_ | omega | exact hq0 | (simpa using hq0) | (exact fun h => h) | exact rfl | (intro hq; have hq0 := hq; try simp only [Bool.and_eq_true, Bool.or_eq_true, decide_eq_true_eq, Bool.not_eq_true', decide_eq_false_iff_not] at hq) | (simp; done) | (simp; omega) | decide))) rfl rfl (fun _ => rfl) ?_
   refine cpq ⟨_, rfl, ⟨rfl, trivial⟩, ?_⟩
   refine J.q hX fun b18 => ?_
   refine J.cond rfl (fun h3 => ?_) (fun h3 => ?_)
   ·simp only [Bool.true_and, decide_eq_true_eq] at h3
    refine J.q hX fun b19 => ?_
    refine J.plan (.take true 0 (.take true 1 (.take true 2 (.take true 3 (.take true 4 (.take true 5 (.take true 6 (.take true 7 (.take true 8 (.take true 10 (.take true 11 (.take true 12 (.alt false 9 ((.of [54,56,62,64,71])) (.alt false 13 ((.of [38,56,62,64,71])) .non)))))))))))))) [16,17] [] (by rw [hX.hP]; kernel_rfl) (by kernel_rfl) ?_
    refine J.q hX fun b20 => ?_
    refine J.alts ?_ ?_
    ·refine J.val hX (.int .i64 (m.getD j 0)) 0 rfl rfl (fun hg a w he hs => ?_) rfl trivial ?_
     ·exact load1_run tk rfl rfl he hg rfl rfl (hs.get (i := 1) rfl) (by rw [show 0 + (((j + 1 : Nat) : Int) - 1).toNat * 1 = j from by omega]; exact cellsI_at m r _ _ (hget _ (by omega)))
     refine J.q hX fun b21 => ?_
     refine J.val hX (.int .i64 (m.getD (j + 1) 0)) 0 rfl rfl (fun hg a w he hs => ?_) rfl trivial ?_
     ·exact load1_run tk rfl rfl he hg rfl rfl (hs.get (i := 1) rfl) (by rw [show 0 + ((j + 1 : Nat) : Int).toNat * 1 = j + 1 from by omega]; exact cellsI_at m r _ _ (hget _ (by omega)))
     refine J.q hX fun b22 => ?_
     refine J.store1 hX tk 1 rfl rfl rfl rfl rfl rfl rfl rfl rfl rfl rfl rfl rfl ?_ (cellsI (m.set (j + 1) (m.getD j 0)) ++ r) ?_ rfl (fun _ => rfl) ⟨trivial, ?_⟩
     ·rw [List.length_append, cellsI_len]; show 0 + ((j + 1 : Nat) : Int).toNat * 1 < _; omega
     ·rw [show 0 + ((j + 1 : Nat) : Int).toNat * 1 = j + 1 from by omega]; exact cellsI_set m r (j + 1) _ (by omega)
     refine J.q hX fun b23 => ?_
     refine J.store1 hX tk 1 rfl rfl rfl rfl rfl rfl rfl rfl rfl rfl rfl rfl rfl ?_ (cellsI (swpI m (j + 1)) ++ r) ?_ rfl (fun _ => rfl) ⟨trivial, ?_⟩
     ·rw [List.length_append, cellsI_len, List.length_set]; show 0 + (((j + 1 : Nat) : Int) - 1).toNat * 1 < _; omega
     ·rw [show 0 + (((j + 1 : Nat) : Int) - 1).toNat * 1 = j from by omega]; exact cellsI_set _ r j _ (by rw [List.length_set]; omega)
     refine J.q hX fun b24 => ?_
     rw [show ((j + 1 : Nat) : Int) - 1 = (j : Int) from by omega]
     refine J.q hX fun b25 => ?_
     refine J.nS ((j, swpI m (j + 1))) (⟨by dsimp only; omega, by rw [swpI_len]; exact hI.2.1, by rw [← hI.2.2]; exact (if_pos h3).symm⟩) (by dsimp only; omega) [0, 1] rfl rfl
    ·refine J.val hX (.int .i64 (m.getD (j + 1) 0)) 0 rfl rfl (fun hg a w he hs => ?_) rfl trivial ?_
     ·exact load1_run tk rfl rfl he hg rfl rfl (hs.get (i := 1) rfl) (by rw [show 0 + ((j + 1 : Nat) : Int).toNat * 1 = j + 1 from by omega]; exact cellsI_at m r _ _ (hget _ (by omega)))
     refine J.q hX fun b26 => ?_
     refine J.val hX (.int .i64 (m.getD j 0)) 0 rfl rfl (fun hg a w he hs => ?_) rfl trivial ?_
     ·exact load1_run tk rfl rfl he hg rfl rfl (hs.get (i := 1) rfl) (by rw [show 0 + (((j + 1 : Nat) : Int) - 1).toNat * 1 = j from by omega]; exact cellsI_at m r _ _ (hget _ (by omega)))
     refine J.q hX fun b27 => ?_
     refine J.store1 hX tk 1 rfl rfl rfl rfl rfl rfl rfl rfl rfl rfl rfl rfl rfl ?_ (cellsI (m.set (j + 1) (m.getD j 0)) ++ r) ?_ rfl (fun _ => rfl) ⟨trivial, ?_⟩
     ·rw [List.length_append, cellsI_len]; show 0 + ((j + 1 : Nat) : Int).toNat * 1 < _; omega
     ·rw [show 0 + ((j + 1 : Nat) : Int).toNat * 1 = j + 1 from by omega]; exact cellsI_set m r (j + 1) _ (by omega)
     refine J.q hX fun b28 => ?_
     refine J.store1 hX tk 1 rfl rfl rfl rfl rfl rfl rfl rfl rfl rfl rfl rfl rfl ?_ (cellsI (swpI m (j + 1)) ++ r) ?_ rfl (fun _ => rfl) ⟨trivial, ?_⟩
     ·rw [List.length_append, cellsI_len, List.length_set]; show 0 + (((j + 1 : Nat) : Int) - 1).toNat * 1 < _; omega
     ·rw [show 0 + (((j + 1 : Nat) : Int) - 1).toNat * 1 = j from by omega]; exact cellsI_set _ r j _ (by rw [List.length_set]; omega)
     refine J.q hX fun b29 => ?_
     rw [show ((j + 1 : Nat) : Int) - 1 = (j : Int) from by omega]
     refine J.q hX fun b30 => ?_
     refine J.nS ((j, swpI m (j + 1))) (⟨by dsimp only; omega, by rw [swpI_len]; exact hI.2.1, by rw [← hI.2.2]; exact (if_pos h3).symm⟩) (by dsimp only; omega) [0, 1] rfl rfl
   ·simp only [Bool.true_and, decide_eq_false_iff_not] at h3
    have hm : m = isortI l (i + 1 - 1) := by rw [show i + 1 - 1 = i from rfl, ← hI.2.2]; exact (if_neg h3).symm
    rw [hm]
    refine J.q hX fun b31 => ?_
    refine J.nS (i + 1) (⟨by omega, by omega⟩) (by omega) [0, 1] rfl rfl
 ·simp only [decide_eq_false_iff_not, Int.ofNat_lt] at h1
  have hi : isortI l (i - 1) = isortL l := by
   rw [isortL, hl, show i - 1 = n - 1 from by omega]
  rw [hi]
  refine J.q hX fun b32 => ?_
  refine J.fi hX tk [1] rfl rfl rfl ?_
  exact ⟨rfl, rfl⟩
theorem isortL_len (l : List Int) : (isortL l).length = l.length := isortI_len l _
theorem p_SortI (g n cap : Nat) (l : List Int) (hl : l.length = n) (hn : n ≤ 12) (r : List Value) (k : Nat) : Fn Tryz.prog 209 [.slice (some ⟨g, 0, none⟩) n cap, .int .i64 0, .int .i64 n, .int .i64 k] [.pt g 3 (cellsI l ++ r)]
  (fun v As => v = .tuple #[] ∧ As = [.pt g 3 (cellsI (isortL l) ++ r)]) := by
 refine Fn.enter [2, 0, 0, 0] Tryz.func209 rfl rfl rfl fun X F hX => ?_
 refine J.q hX fun b1 => ?_
 refine J.lo (α := Nat) (fun y => True) (fun y => [⟨0, .slice (some ⟨g, 0, none⟩) n cap, 2, .tt⟩, ⟨1, .int .i64 0, 0, .tt⟩, ⟨2, .int .i64 n, 0, .tt⟩, ⟨3, .int .i64 k, 0, .tt⟩]) [1] (fun y => [.pt g 3 (cellsI l ++ r)]) (fun y => 0) (0) (trivial) rfl ?_ (fun _ => rfl) fun y hI => ?_
 ·rfl
 refine J.q hX fun b3 => ?_
 refine J.cond rfl (fun h1 => ?_) (fun h1 => ?_)
 ·refine J.q hX fun b4 => ?_
  rw [show (n : Int) - 0 = n from by omega] at *
  refine J.q hX fun b5 => ?_
  refine J.cb hX (i_SortI g n cap l hl (by omega) r) [1] ?_
  refine cpq ⟨_, rfl, trivial, ?_⟩
  refine J.q hX fun b6 => ?_
  exact J.ru hX [1] ⟨rfl, rfl⟩
 ·simp only [decide_eq_false_iff_not] at h1; omega
theorem p_SortI0 (d : Value) (k : Nat) : Fn Tryz.prog 209 [d, .int .i64 0, .int .i64 0, .int .i64 k] [] (fun v As => v = .tuple #[] ∧ As = []) := by
 have h0 : Fn Tryz.prog 226 [d, .int .i64 0, .int .i64 0] [] (fun v As => v = .tuple #[] ∧ As = []) := by
  refine Fn.enter [0, 0, 0] Tryz.func226 rfl rfl rfl fun X F hX => ?_
  refine J.q hX fun b7 => ?_
  refine J.lo (α := Nat) (fun y => True) (fun y => [⟨6, .int .i64 (0 + 1), 0, .tt⟩, ⟨0, d, 0, .tt⟩, ⟨1, .int .i64 0, 0, .tt⟩, ⟨2, .int .i64 0, 0, .tt⟩]) [] (fun y => []) (fun y => 0) (0) (trivial) rfl ?_ (fun _ => rfl) fun y hI => ?_
  ·rfl
  refine J.q hX fun b9 => ?_
  refine J.cond rfl (fun h1 => ?_) (fun h1 => ?_)
  ·simp at h1
  ·refine J.q hX fun b10 => ?_
   refine J.fi hX tk [] rfl rfl rfl ?_
   exact ⟨rfl, rfl⟩
 refine Fn.enter [0, 0, 0, 0] Tryz.func209 rfl rfl rfl fun X F hX => ?_
 refine J.q hX fun b11 => ?_
 refine J.lo (α := Nat) (fun y => True) (fun y => [⟨0, d, 0, .tt⟩, ⟨1, .int .i64 0, 0, .tt⟩, ⟨2, .int .i64 0, 0, .tt⟩, ⟨3, .int .i64 k, 0, .tt⟩]) [] (fun y => []) (fun y => 0) (0) (trivial) rfl ?_ (fun _ => rfl) fun y hI => ?_
 ·rfl
 refine J.q hX fun b13 => ?_
 refine J.cond rfl (fun h1 => ?_) (fun h1 => ?_)
 ·refine J.q hX fun b14 => ?_
  refine J.cb hX (h0) [] ?_
  refine cpq ⟨_, rfl, trivial, ?_⟩
  refine J.q hX fun b16 => ?_
  exact J.ru hX [] ⟨rfl, rfl⟩
 ·simp at h1
theorem s_SortInts (a : Option Nat) (n cap : Nat) (l : List Int) (hl : l.length = n) (hn : n ≤ 12) : Fn Tryz.prog 174 [slv a n cap] [ownA 3 1 a n cap (cellsI l)]
  (fun v As => v = .tuple #[] ∧ As = [ownA 3 1 a n cap (cellsI (isortL l))]) := by
 refine Fn.enter [0] Tryz.func174 rfl rfl rfl fun X F hX => ?_
 refine J.q hX fun b17 => ?_
 refine J.cb hX (b_Len n hn) [] ?_
 rintro v As ⟨⟨k, hk, rfl⟩, rfl⟩
 refine ⟨_, rfl, trivial, ?_⟩
 refine J.q hX fun b19 => ?_
 cases a with
 | none =>
  refine J.know (fun h' s => (s.get (i := 1) rfl).2.1) fun hn0 => ?_
  subst hn0
  have : l = [] := List.eq_nil_of_length_eq_zero hl
  subst this
  refine J.q hX fun b20 => ?_
  refine J.cb hX (p_SortI0 (slv none 0 cap) k) [] ?_
  refine cpq ⟨_, rfl, trivial, ?_⟩
  refine J.q hX fun b21 => ?_
  refine J.fi hX tk [1] rfl rfl rfl ?_
  exact ⟨rfl, rfl⟩
 | some g =>
  refine J.openOwn 1 rfl rfl (fun _ => rfl) fun r q1 q2 q3 q4 => ?_
  refine J.q hX fun b22 => ?_
  refine J.cb hX (p_SortI g n cap l hl hn r k) [1] ?_
  refine cpq ⟨_, rfl, trivial, ?_⟩
  refine J.closeOwn (e := 3) (size := 1) (n := n) (cap := cap) (xs := cellsI (isortL l)) 1 rfl rfl (by rw [cellsI_len, isortL_len l, hl, Nat.mul_one]) q2 q3 (by rw [List.length_append, cellsI_len, isortL_len l]; rw [cellsI_len] at q4; exact q4) (by rw [List.take_left' (by rw [cellsI_len, isortL_len l, hl, Nat.mul_one])]) rfl ?_
  refine J.q hX fun b23 => ?_
  refine J.fi hX tk [1] rfl rfl rfl ?_
  exact ⟨rfl, rfl⟩
def dedFrom (p : Int) : List Int → List Int
 | [] => []
 | x :: r => if x = p then dedFrom x r else x :: dedFrom x r
def compactI : List Int → List Int
 | [] => []
 | x :: r => x :: dedFrom x r
def CpI (l m : List Int) (k j : Nat) : Prop := m.length = l.length ∧ 1 ≤ k ∧ k + 1 ≤ j ∧ j ≤ l.length ∧ m.drop (j - 1) = l.drop (j - 1) ∧ m.take k ++ dedFrom (l.getD (j - 1) 0) (l.drop j) = compactI l
theorem ded_at {l : List Int} {k : Nat} (hk : 1 ≤ k) (hl : k < l.length) (h : l.take k ++ dedFrom (l.getD (k - 1) 0) (l.drop k) = compactI l) (hne : l.getD k 0 ≠ l.getD (k - 1) 0) : l.take (k + 1) ++ dedFrom (l.getD k 0) (l.drop (k + 1)) = compactI l := by
 have hx : l.getD k 0 = l[k] := by rw [List.getD_eq_getElem?_getD, List.getElem?_eq_getElem hl, Option.getD_some]
 rw [List.drop_eq_getElem_cons hl, dedFrom, if_neg (by rw [← hx]; exact hne)] at h
 rw [← h, hx, List.take_add_one, List.getElem?_eq_getElem hl]
 simp only [Option.toList_some, List.append_assoc, List.singleton_append]
theorem CpI.start {l : List Int} {k : Nat} (hk : 1 ≤ k) (hl : k < l.length) (h : l.take k ++ dedFrom (l.getD (k - 1) 0) (l.drop k) = compactI l) (he : l.getD k 0 = l.getD (k - 1) 0) : CpI l l k (k + 1) := by
 have hx : l.getD k 0 = l[k] := by rw [List.getD_eq_getElem?_getD, List.getElem?_eq_getElem hl, Option.getD_some]
 refine ⟨rfl, hk, by omega, by omega, rfl, ?_⟩
 rw [List.drop_eq_getElem_cons hl, dedFrom, if_pos (by rw [← hx]; exact he)] at h
 rw [Nat.add_sub_cancel, hx]; exact h
theorem CpI.get {l m : List Int} {k j : Nat} (h : CpI l m k j) (i : Nat) (hi : j - 1 ≤ i) : m.getD i 0 = l.getD i 0 := by
 have h5 := h.2.2.2.2.1
 have e : m[i]? = l[i]? := by
  have := congrArg (fun z => z[i - (j - 1)]?) h5
  simp only [List.getElem?_drop] at this
  rwa [show j - 1 + (i - (j - 1)) = i from by omega] at this
 rw [List.getD_eq_getElem?_getD, e, List.getD_eq_getElem?_getD]
theorem CpI.skip {l m : List Int} {k j : Nat} (h : CpI l m k j) (hj : j < l.length) (he : l.getD j 0 = l.getD (j - 1) 0) : CpI l m k (j + 1) := by
 obtain ⟨h1, h2, h3, h4, h5, h6⟩ := h
 have hx : l.getD j 0 = l[j] := by rw [List.getD_eq_getElem?_getD, List.getElem?_eq_getElem hj, Option.getD_some]
 refine ⟨h1, h2, by omega, by omega, ?_, ?_⟩
 ·have := congrArg (List.drop 1) h5
  rw [List.drop_drop, List.drop_drop] at this
  rwa [show j - 1 + 1 = j + 1 - 1 from by omega] at this
 ·rw [List.drop_eq_getElem_cons hj, dedFrom, if_pos (by rw [← hx]; exact he)] at h6
  rw [Nat.add_sub_cancel, hx]; exact h6
theorem CpI.keep {l m : List Int} {k j : Nat} (h : CpI l m k j) (hj : j < l.length) (he : l.getD j 0 ≠ l.getD (j - 1) 0) : CpI l (m.set k (l.getD j 0)) (k + 1) (j + 1) := by
 obtain ⟨h1, h2, h3, h4, h5, h6⟩ := h
 have hx : l.getD j 0 = l[j] := by rw [List.getD_eq_getElem?_getD, List.getElem?_eq_getElem hj, Option.getD_some]
 refine ⟨by simp [h1], by omega, by omega, by omega, ?_, ?_⟩
 ·rw [List.drop_set_of_lt (by omega)]
  have := congrArg (List.drop 1) h5
  rw [List.drop_drop, List.drop_drop] at this
  rwa [show j - 1 + 1 = j + 1 - 1 from by omega] at this
 ·rw [List.drop_eq_getElem_cons hj, dedFrom, if_neg (by rw [← hx]; exact he)] at h6
  rw [Nat.add_sub_cancel, hx, ← h6, List.take_set, List.take_add_one, List.getElem?_eq_getElem (by omega), List.set_append_right _ _ (by simp; omega)]
  simp [List.length_take, Nat.min_eq_left (show k ≤ m.length by omega)]
end Go.Proofs.YtdocmcapegcoeaaGreat
