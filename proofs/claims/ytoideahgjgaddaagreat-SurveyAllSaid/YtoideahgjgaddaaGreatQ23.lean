/- Helpers of the proofs about ostrakonlaw11, proved here: RfO, RfP, RfN, TblB. No condition. -/
import Derived.Test.YtoideahgjgaddaaGreatQ12
import Derived.Test.YtoideahgjgaddaaGreatQ15
import Derived.Test.YtoideahgjgaddaaGreatQ16
import Derived.Test.YtoideahgjgaddaaGreatQ20
import Derived.Test.YtoideahgjgaddaaGreatQ21
import Derived.Test.YtoideahgjgaddaaGreatQ22
set_option maxRecDepth 20000
set_option linter.unusedVariables false
set_option linter.unusedSimpArgs false
set_option linter.unusedSectionVars false
set_option linter.unnecessarySimpa false
namespace Go.Proofs.YtoideahgjgaddaaGreat
open Go Go.RowKit
def stL (o : Option AtV) : List Value := [.bool o.isSome, .int .i64 (o.getD AtV.zero).block, .int .i64 (o.getD AtV.zero).row, .int .i64 (o.getD AtV.zero).slot, .int .i64 (o.getD AtV.zero).mask, .int .i64 (o.getD AtV.zero).seq, .int .i64 (o.getD AtV.zero).role]
def stC (l : List (Int × AtV)) (m : Nat) : List Value := (List.range m).flatMap fun i => stL (Tb.look l (i : Nat))
theorem range_get {m i : Nat} (h : i < m) : (List.range m)[i]? = some i := List.getElem?_range h
theorem stC_len (l : List (Int × AtV)) (m : Nat) : (stC l m).length = m * 7 := by
 unfold stC
 induction m with
 | zero => rfl
 | succ m ih => rw [List.range_succ, List.flatMap_append, List.length_append, ih, Nat.succ_mul]; rfl
theorem stC_at (l : List (Int × AtV)) {m i : Nat} (h : i < m) : ((stC l m).drop (i * 7)).take 7 = stL (Tb.look l (i : Nat)) := flat_get (fun i : Nat => stL (Tb.look l (i : Nat))) 7 (fun _ => rfl) (List.range m) i i (range_get h)
theorem stC_cell (l : List (Int × AtV)) {m i : Nat} (h : i < m) (j : Nat) (hj : j < 7) : (stC l m)[i * 7 + j]? = (stL (Tb.look l (i : Nat)))[j]? := by
 rw [← stC_at l h, List.getElem?_take, if_pos hj, List.getElem?_drop]
theorem stC_zero (m : Nat) : (List.replicate m (stL none)).flatten = stC [] m := by
 unfold stC
 induction m with
 | zero => rfl
 | succ m ih => rw [List.range_succ, List.flatMap_append, ← ih, List.replicate_succ', List.flatten_append]; simp [Tb.look]
theorem stC_put (l : List (Int × AtV)) {m i : Nat} (h : i < m) (a : AtV) : (stC l m).take (i * 7) ++ stL (some a) ++ (stC l m).drop (i * 7 + 7) = stC (Tb.put1 l i a) m := by
 have hlen := stC_len l m
 have hlen2 := stC_len (Tb.put1 l i a) m
 apply List.ext_getElem?
 intro n
 rcases Nat.lt_or_ge n (m * 7) with hn | hn
 ·have hk : n / 7 < m := by omega
  have hj : n % 7 < 7 := Nat.mod_lt _ (by decide)
  have hnn : n = n / 7 * 7 + n % 7 := by omega
  have hr : (stC (Tb.put1 l i a) m)[n]? = (stL (if n / 7 = i then some a else Tb.look l ((n / 7 : Nat) : Int)))[n % 7]? := by
   conv => lhs; rw [hnn]
   rw [stC_cell _ hk _ hj, Tb.look_put1]
   by_cases e : n / 7 = i
   ·rw [if_pos e, if_pos (by omega)]
   ·rw [if_neg e, if_neg (by omega)]
  rw [hr]
  have hmid : (stL (some a)).length = 7 := rfl
  have htk : ((stC l m).take (i * 7)).length = i * 7 := by rw [List.length_take, hlen]; omega
  rcases Nat.lt_trichotomy (n / 7) i with h1 | h1 | h1
  ·rw [if_neg (by omega), List.getElem?_append_left (by rw [List.length_append, htk]; omega), List.getElem?_append_left (by rw [htk]; omega), List.getElem?_take, if_pos (by omega)]
   conv => lhs; rw [hnn]
   rw [stC_cell _ hk _ hj]
  ·rw [if_pos h1, List.getElem?_append_left (by rw [List.length_append, htk, hmid]; omega), List.getElem?_append_right (by rw [htk]; omega), htk]
   congr 1
   omega
  ·rw [if_neg (by omega), List.getElem?_append_right (by rw [List.length_append, htk, hmid]; omega), List.length_append, htk, hmid, List.getElem?_drop, show i * 7 + 7 + (n - (i * 7 + 7)) = n from by omega]
   conv => lhs; rw [hnn]
   rw [stC_cell _ hk _ hj]
 ·have e1 : (stC (Tb.put1 l i a) m)[n]? = none := List.getElem?_eq_none (by rw [hlen2]; exact hn)
  rw [e1]
  refine List.getElem?_eq_none ?_
  rw [List.length_append, List.length_append, List.length_take, List.length_drop, hlen]
  show min (i * 7) (m * 7) + 7 + (m * 7 - (i * 7 + 7)) ≤ n
  omega
def RefP (q : Nat) (t : Tb) (m : Nat) (g : Nat) : List Atom := [.pt q 114 [.slice (some ⟨g, 0, none⟩) m m, .int .i64 t.next], .pt g 119 (stC t.at_ m)]
def RefA (q : Nat) (t : Tb) (m : Nat) : Atom := exA fun g : Nat => RefP q t m g
theorem mm13 (n : Int) : (if (if (65536 : Int) < n then 65536 else n) > 0 then (if (65536 : Int) < n then 65536 else n) else 0) = min (max n 0) 65536 := by
 by_cases h : (65536 : Int) < n
 ·simp only [if_pos h]; rw [if_pos (by decide)]; omega
 ·simp only [if_neg h]; split <;> omega
theorem f13_New (n : Int) (m : Nat) (hm : min (max n 0) 65536 = (m : Int)) : Fn Tryz.prog 50 [.int .i64 n] [] (fun v As => ∃ q, v = .pointer (some ⟨q, 0, none⟩) ∧ As = [RefA q (Tb.new n) m]) := by
 have hm1 : m ≤ 65536 := by omega
 refine Fn.enter [0] Tryz.func50 rfl rfl rfl fun X F hX => ?_
 refine J.r hX tk 9 (fun _ => rfl) fun b1 => ?_
 rw [mm13, hm]
 refine J.makeMany hX tk 2 rfl rfl rfl rfl rfl rfl rfl rfl rfl rfl rfl ?_ ?_ (fun _ => rfl) (fun _ => rfl) fun g => ⟨trivial, ?_⟩
 ·simp only [maxLen]; omega
 ·omega
 have hz : (List.replicate m [Value.bool false, .int .i64 0, .int .i64 0, .int .i64 0, .int .i64 0, .int .i64 0, .int .i64 0]).flatten = stC (Tb.new n).at_ m := stC_zero m
 rw [hz]
 refine J.r hX tk 400 (fun _ => rfl) fun bs => ?_
 refine J.close (f := fun g : Nat => RefP (bs 0) (Tb.new n) m g) g [2, 1] rfl rfl rfl ?_
 refine J.r hX tk 400 (fun _ => rfl) fun b2 => ?_
 refine J.rt hX tk [2] rfl rfl rfl ?_
 exact ⟨bs 0, rfl, rfl⟩
theorem f13_Put (q : Nat) (t : Tb) (m : Nat) (e : En) (b r s mk : Int) (hl : 0 ≤ e.lpn ∧ e.lpn < (m : Int)) (hm : m ≤ 65536) (hlog : t.logical = (m : Int)) (hr : e.role = 1 ∨ e.role = 2 ∨ e.role = 4) (hs : 0 ≤ e.seq ∧ e.seq ≤ 1099511627775) (hno : Tb.look t.at_ e.lpn = none) :
  Fn Tryz.prog 53 [.pointer (some ⟨q, 0, none⟩), enV e, plV b r s, .int .i64 mk] [RefA q t m] (fun v As => v = .bool true ∧ As = [RefA q (t.put e b r s mk) m]) := by
 obtain ⟨i, hi⟩ := Int.eq_ofNat_of_zero_le hl.1
 have him : i < m := by omega
 have hput : t.put e b r s mk = ⟨t.logical, Tb.put1 t.at_ e.lpn ⟨b, r, s, mk, e.seq, e.role⟩, Tb.cnt2 t e b, if e.seq ≥ t.next then e.seq + 1 else t.next⟩ := by
  have ho : t.ok e = true := by
   unfold Tb.ok
   rw [hlog, decide_eq_false (by omega), decide_eq_false (by omega)]
   rcases hr with h | h | h <;> rw [h] <;> rfl
  have he : t.elder e = false := by unfold Tb.elder; rw [hno]
  unfold Tb.put Tb.putB
  rw [ho, he]; rfl
 have hcell0 := stC_cell t.at_ him 0 (by decide)
 rw [← hi, hno] at hcell0
 refine Fn.enter [2, 0, 0, 0] Tryz.func53 rfl rfl rfl fun X F hX => ?_
 refine J.open_ (α := Nat) 1 rfl rfl (fun _ => rfl) fun g => ?_
 refine J.r hX tk 400 (fun _ => rfl) fun bb => ?_
 refine J.plan (.of [0,5,8,12,16,21,24,28,32,37,40,44,48,52,56,61,64,68,72,77,80,84,88,92,97,100,104,108,112,116,120,124,129,132,137,140,144,149,152,156,161,164,168,172,177,180,185,188,192,197,200,204,208]) [] [1,2,3,4] (by rw [hX.hP]; kernel_rfl) (by kernel_rfl) ?_
 refine J.r hX tk 1 (fun _ => rfl) fun b4 => ?_
 refine J.run hX tk 400 (fun b5 => rfl) (fun b5 => ?_) (fun b5 => ?_)
 ·(repeat' (first | exact Conj.nil | refine Conj.cons ?_ ?_ | exact rfl | exact hq | (rw [hq]; rfl) | (rw [(Bool.not_eq_true' _).mp hq]) | intro hq | omega | (simp; done) | (simp_all; done)))
 have hgd : (decide (e.lpn < 0) || decide (e.lpn ≥ (m : Int)) || e.role != 1 && e.role != 2 && e.role != 4) = false := by
  rw [decide_eq_false (by omega), decide_eq_false (by omega)]
  rcases hr with h | h | h <;> rw [h] <;> rfl
 rw [hgd]
 refine J.valT hX (.bool false) 0 rfl rfl (fun hg a w he hC => ?_) rfl ?_
 ·exact load1_run tk rfl rfl he rfl rfl rfl (hC rfl _ (cget_mem (i := 2) rfl)) (by rw [show 0 + e.lpn.toNat * 7 + 0 = i * 7 + 0 from by omega]; exact hcell0)
 refine J.run hX tk 400 (fun b6 => rfl) (fun b6 => ?_) (fun b6 => ?_)
 ·(repeat' (first | exact Conj.nil | refine Conj.cons ?_ ?_ | exact rfl | exact (fun hq => absurd hq (by decide)) | intro hq | omega))
 refine J.valT hX (.int .i64 0) 0 rfl rfl (fun hg a w he hC => by simp [G.on] at hg) rfl ?_
 refine J.run hX tk 400 (fun b7 => rfl) (fun b7 => ?_) (fun b7 => ?_)
 ·(repeat' (first | exact Conj.nil | refine Conj.cons ?_ ?_ | exact rfl | exact (fun hq => absurd hq (by decide)) | intro hq | omega))
 refine J.r hX tk 400 (fun _ => rfl) fun b8 => ?_
 refine J.cond rfl (fun h => by simp at h) (fun _ => ?_)
 refine J.r hX tk 400 (fun _ => rfl) fun b9 => ?_
 refine J.plan (.of [0,4,8,13,16,21,25,28,32,37,40,45,48,52,59]) [13,14] [1,3,4] (by rw [hX.hP]; kernel_rfl) (by kernel_rfl) ?_
 refine J.r hX tk 2 (fun _ => rfl) fun b10 => ?_
 refine J.run hX tk 400 (fun b11 => rfl) (fun b11 => ?_) (fun b11 => ?_)
 ·(repeat' (first | exact Conj.nil | refine Conj.cons ?_ ?_ | exact rfl | exact (fun hq => absurd hq (by decide)) | intro hq | omega))
 refine J.storeN hX tk 2 rfl rfl rfl rfl rfl rfl rfl rfl rfl rfl rfl rfl rfl ?_ (stC (Tb.put1 t.at_ i ⟨b, r, s, mk, e.seq, e.role⟩) m) ?_ rfl (fun _ => rfl) ⟨trivial, ?_⟩
 ·rw [stC_len]; show 0 + e.lpn.toNat * 7 + 7 ≤ m * 7; omega
 ·rw [show 0 + e.lpn.toNat * 7 = i * 7 from by omega]; exact stC_put t.at_ him ⟨b, r, s, mk, e.seq, e.role⟩
 refine J.r hX tk 400 (fun _ => rfl) fun b12 => ?_
 refine J.plan (.of [0,5,8,12,16,21,24]) [] [1,2,3,4] (by rw [hX.hP]; kernel_rfl) (by kernel_rfl) ?_
 refine J.r hX tk 2 (fun _ => rfl) fun b13 => ?_
 refine J.r hX tk 400 (fun _ => rfl) fun b14 => ?_
 refine J.cond rfl (fun hq => ?_) (fun hq => ?_)
 ·have hq2 : e.seq ≥ t.next := by simpa using hq
  refine J.r hX tk 400 (fun _ => rfl) fun b15 => ?_
  refine J.close (f := fun g : Nat => RefP q (t.put e b r s mk) m g) g [1, 2] rfl (by rw [hput, if_pos hq2, hi]; rfl) rfl ?_
  refine J.r hX tk 400 (fun _ => rfl) fun b16 => ?_
  refine J.rt hX tk [1] rfl rfl rfl ?_
  exact ⟨rfl, rfl⟩
 ·have hq2 : ¬ e.seq ≥ t.next := by simpa using hq
  refine J.r hX tk 400 (fun _ => rfl) fun b17 => ?_
  refine J.close (f := fun g : Nat => RefP q (t.put e b r s mk) m g) g [1, 2] rfl (by rw [hput, if_neg hq2, hi]; rfl) rfl ?_
  refine J.r hX tk 400 (fun _ => rfl) fun b18 => ?_
  refine J.rt hX tk [1] rfl rfl rfl ?_
  exact ⟨rfl, rfl⟩
theorem f13_better (x b : Fnd) : Fn Tryz.prog 52 [fdV x, fdV b] [] (fun v As => v = .bool (betB x b) ∧ As = []) := by
 refine Fn.enter [0, 0] Tryz.func52 rfl rfl rfl fun X F hX => ?_
 refine J.run hX tk 400 (fun b1 => rfl) (fun b1 => ?_) (fun b1 => ?_)
 ·(repeat' (first | exact Conj.nil | refine Conj.cons ?_ ?_ | exact rfl | intro hq | assumption | (simp_all; done)))
 refine J.r hX tk 400 (fun _ => rfl) fun b2 => ?_
 refine J.rt hX tk [] rfl rfl rfl ?_
 exact ⟨rfl, rfl⟩
theorem ne_and24 (x : Int) : (x != 2 && x != 4) = !(x == 2 || x == 4) := by
 simp only [bne, Bool.not_or]
theorem blank_iff (N : Nand) (b r : Int) : V.blankRow N b r = true ↔ ∀ d : Nat, d < N.dies → ((M.look N (d : Nat) b r).2 == 2 || (M.look N (d : Nat) b r).2 == 4) = true := by
 unfold V.blankRow M.rowN
 rw [List.all_eq_true]
 constructor
 ·intro h d hd
  exact h _ (List.mem_map.2 ⟨d, List.mem_range.2 hd, rfl⟩)
 ·intro h x hx
  obtain ⟨d, hd, rfl⟩ := List.mem_map.1 hx
  exact h d (List.mem_range.1 hd)
theorem last_no {N : Nand} {f : Fnd} {r0 r : Nat} (hr : f.row = (r0 : Int)) (h1 : r0 < r) (h2 : r < N.pages) (h3 : V.blankRow N f.block (r : Nat) = false) : V.last N f = false := by
 unfold V.last
 rw [Bool.and_eq_false_iff]
 left
 rw [List.all_eq_false]
 refine ⟨r, List.mem_range.2 h2, ?_⟩
 rw [h3, hr, decide_eq_false (by omega)]
 exact Bool.false_ne_true
theorem last_yes {N : Nand} {f : Fnd} {r0 : Nat} (hr : f.row = (r0 : Int)) (h : ∀ r : Nat, r0 < r → r < N.pages → V.blankRow N f.block (r : Nat) = true) : V.last N f = ((M.look N (G.parity f.mask f.block f.row) f.block f.row).2 != 4) := by
 have : ((List.range N.pages).all fun r : Nat => decide ((r : Int) ≤ f.row) || V.blankRow N f.block r) = true := by
  rw [List.all_eq_true]
  intro r hrm
  rw [hr, Bool.or_eq_true]
  by_cases hle : (r : Int) ≤ (r0 : Int)
  ·exact .inl (decide_eq_true hle)
  ·exact .inr (h r (by omega) (List.mem_range.1 hrm))
 unfold V.last
 rw [this]
 show (_ != (4 : Int)) = _
 rfl
theorem f13_last (p : Nat) (N : Nand) (hN : N.Ok) (hR : N.Room) (f : Fnd) (r0 : Nat) (hr : f.row = (r0 : Int)) (hr2 : r0 ≤ 1000) : Fn Tryz.prog 54 [.pointer (some ⟨p, 0, none⟩), fdV f] [NandA p N]
  (fun v As => v = .bool (V.last N f) ∧ As = [NandA p N]) := by
 have hbd := hN.bd
 have e5 : f.row + 1 = ((r0 + 1 : Nat) : Int) := by omega
 refine Fn.enter [2, 0] Tryz.func54 rfl rfl rfl fun X F hX => ?_
 refine J.r hX tk 400 (fun _ => rfl) fun bb => ?_
 rw [e5]
 refine J.r hX tk 400 (fun _ => rfl) fun b3 => ?_
 refine J.lo (α := Nat) (fun r => r0 < r ∧ r ≤ 1100 ∧ ∀ r' : Nat, r0 < r' → r' < r → V.blankRow N f.block (r' : Nat) = true) (fun r => [⟨5, .int .i64 r, 0, .tt⟩, ⟨3, .pointer (some ⟨bb 0, 0, none⟩), 3, .tt⟩, ⟨0, .pointer (some ⟨p, 0, none⟩), 2, .tt⟩]) [] (fun r => []) (fun r => N.pages - r) (r0 + 1) (⟨by omega, by omega, fun r' h1 h2 => by omega⟩) rfl ?_ (fun _ => rfl) fun r hI => ?_
 ·rfl
 obtain ⟨hI1, hI2, hI3⟩ := hI
 refine J.r hX tk 400 (fun _ => rfl) fun b4 => ?_
 refine J.ca hX (by kernel_rfl) (n_Geo p N) [1] 0 rfl rfl rfl rfl rfl rfl (fun _ => rfl) ?_
 rintro v As ⟨rfl, rfl⟩
 refine ⟨_, rfl, trivial, ?_⟩
 refine J.r hX tk 400 (fun _ => rfl) fun b6 => ?_
 refine J.cond rfl (fun h1 => ?_) (fun h1 => ?_)
 ·simp only [decide_eq_true_eq, Int.ofNat_lt] at h1
  refine J.r hX tk 400 (fun _ => rfl) fun b7 => ?_
  refine J.lo (α := Nat) (fun d => d ≤ N.dies ∧ ∀ d' : Nat, d' < d → ((M.look N (d' : Nat) f.block (r : Nat)).2 == 2 || (M.look N (d' : Nat) f.block (r : Nat)).2 == 4) = true) (fun d => [⟨6, .int .i64 d, 0, .tt⟩, ⟨5, .int .i64 r, 0, .tt⟩, ⟨3, .pointer (some ⟨bb 0, 0, none⟩), 3, .tt⟩, ⟨0, .pointer (some ⟨p, 0, none⟩), 2, .tt⟩]) [] (fun d => []) (fun d => N.dies - d) (0) (⟨Nat.zero_le _, fun d' h => by omega⟩) rfl ?_ (fun _ => rfl) fun d hI => ?_
  ·rfl
  obtain ⟨hJ1, hJ2⟩ := hI
  refine J.r hX tk 400 (fun _ => rfl) fun b9 => ?_
  refine J.ca hX (by kernel_rfl) (n_Geo p N) [1] 0 rfl rfl rfl rfl rfl rfl (fun _ => rfl) ?_
  rintro v As ⟨rfl, rfl⟩
  refine ⟨_, rfl, trivial, ?_⟩
  refine J.r hX tk 400 (fun _ => rfl) fun b11 => ?_
  refine J.cond rfl (fun h2 => ?_) (fun h2 => ?_)
  ·simp only [decide_eq_true_eq, Int.ofNat_lt] at h2
   refine J.r hX tk 400 (fun _ => rfl) fun b12 => ?_
   refine J.ca hX (by kernel_rfl) (f9_Look p N hN hR d f.block r) [1] 0 rfl rfl rfl rfl rfl rfl (fun _ => rfl) ?_
   rintro v As ⟨rfl, rfl⟩
   refine ⟨_, rfl, trivial, ?_⟩
   refine J.r hX tk 400 (fun _ => rfl) fun b14 => ?_
   refine J.cond rfl (fun h3 => ?_) (fun h3 => ?_)
   ·have hnb : V.blankRow N f.block (r : Nat) = false := by
     rw [Bool.eq_false_iff]
     intro hb
     have := (blank_iff N f.block r).1 hb d h2
     have h3' : ((M.look N (d : Nat) f.block (r : Nat)).2 != 2 && (M.look N (d : Nat) f.block (r : Nat)).2 != 4) = true := h3
     rw [ne_and24, this] at h3'
     cases h3'
    refine J.r hX tk 400 (fun _ => rfl) fun b15 => ?_
    refine J.rt hX tk [1] rfl rfl rfl ?_
    exact ⟨by rw [last_no hr hI1 h1 hnb], rfl⟩
   ·have hok : ((M.look N (d : Nat) f.block (r : Nat)).2 == 2 || (M.look N (d : Nat) f.block (r : Nat)).2 == 4) = true := by
     have h3' : ((M.look N (d : Nat) f.block (r : Nat)).2 != 2 && (M.look N (d : Nat) f.block (r : Nat)).2 != 4) = false := h3
     rw [ne_and24, Bool.not_eq_false'] at h3'
     exact h3'
    refine J.r hX tk 400 (fun _ => rfl) fun b16 => ?_
    refine J.nS (d + 1) (⟨by omega, fun d' hd' => by
     rcases Nat.lt_succ_iff_lt_or_eq.1 hd' with h | h
     ·exact hJ2 d' h
     ·rw [h]; exact hok⟩) (by omega) [0, 1, 2] rfl rfl
  simp only [decide_eq_false_iff_not, Int.ofNat_lt] at h2
  have hbl : V.blankRow N f.block (r : Nat) = true := (blank_iff N f.block r).2 fun d' hd' => hJ2 d' (by omega)
  refine J.r hX tk 400 (fun _ => rfl) fun b18 => ?_
  refine J.nS (r + 1) (⟨by omega, by omega, fun r' h3 h4 => by
   rcases Nat.lt_succ_iff_lt_or_eq.1 h4 with h | h
   ·exact hI3 r' h3 h
   ·rw [h]; exact hbl⟩) (by omega) [0, 1, 2] rfl rfl
 simp only [decide_eq_false_iff_not, Int.ofNat_lt] at h1
 have hlast := last_yes hr fun r' h2 h3 => hI3 r' h2 (by omega)
 refine J.r hX tk 400 (fun _ => rfl) fun b20 => ?_
 refine J.plan (.take true 0 (.take false 1 (.take true 2 (.take true 3 (.take false 4 (.take true 5 (.take true 6 (.take false 7 (.take true 9 (.take true 10 (.take false 11 (.take true 12 (.take true 13 (.take false 14 (.alt false 8 ((.of [60,66,71])) (.alt false 16 ((.of [34,60,71])) .non)))))))))))))))) [17] [2] (by rw [hX.hP]; kernel_rfl) (by kernel_rfl) ?_
 refine J.join (α := Nat) (fun x => [⟨9, .pointer (some ⟨x, 0, none⟩), 4, .tt⟩, ⟨3, .pointer (some ⟨bb 0, 0, none⟩), 3, .tt⟩, ⟨0, .pointer (some ⟨p, 0, none⟩), 2, .tt⟩]) (fun x => [.hp F, NandA p N, .pt (bb 0) 103 (fnL f), .pt x 66 [.int .i64 (G.parity f.mask f.block f.row), .int .i64 f.block, .int .i64 f.row]]) (fun hj => ?_) (fun x => ?_)
 ·refine J.r hX tk 400 (fun _ => rfl) fun b21 => ?_
  refine J.alts ?_ ?_
  ·refine J.r hX tk 400 (fun _ => rfl) fun b22 => ?_
   refine J.ca hX (by kernel_rfl) (f6_Parity f.mask f.block f.row) [] 0 rfl rfl rfl rfl rfl rfl (fun _ => rfl) ?_
   rintro v As ⟨rfl, rfl⟩
   refine ⟨_, rfl, (by first | exact trivial | (repeat' (first | exact trivial | refine ⟨rfl, ?_⟩))), ?_⟩
   refine J.r hX tk 2 (fun _ => rfl) fun b7 => ?_
   refine J.r hX tk 2 (fun _ => rfl) fun b23 => ?_
   exact J.goto [0, 1, 2, 3] (hj (b7 0)) ⟨rfl, rfl, rfl, trivial⟩ rfl rfl
  ·refine J.r hX tk 1 (fun _ => rfl) fun b7 => ?_
   refine J.r hX tk 400 (fun _ => rfl) fun b24 => ?_
   refine J.ca hX (by kernel_rfl) (f6_Parity f.mask f.block f.row) [] 0 rfl rfl rfl rfl rfl rfl (fun _ => rfl) ?_
   rintro v As ⟨rfl, rfl⟩
   refine ⟨_, rfl, (by first | exact trivial | (repeat' (first | exact trivial | refine ⟨rfl, ?_⟩))), ?_⟩
   refine J.r hX tk 3 (fun _ => rfl) fun b25 => ?_
   exact J.goto [0, 1, 2, 3] (hj (b7 0)) ⟨rfl, rfl, rfl, trivial⟩ rfl rfl
 refine J.r hX tk 400 (fun _ => rfl) fun b26 => ?_
 refine J.ca hX (by kernel_rfl) (f9_Look p N hN hR (G.parity f.mask f.block f.row) f.block f.row) [1] 0 rfl rfl rfl rfl rfl rfl (fun _ => rfl) ?_
 rintro v As ⟨rfl, rfl⟩
 refine ⟨_, rfl, trivial, ?_⟩
 refine J.r hX tk 400 (fun _ => rfl) fun b28 => ?_
 refine J.rt hX tk [1] rfl rfl rfl ?_
 exact ⟨by rw [hlast], rfl⟩
theorem cellsF_snoc' (l : List Fnd) (x : Fnd) : cellsF l ++ fnL x = cellsF (l ++ [x]) := by simp [cellsF]
theorem cellsF_app' (l m : List Fnd) : cellsF l ++ cellsF m = cellsF (l ++ m) := by simp [cellsF]
def outK (N : Nand) (b r m : Int) (j : Nat) : List Fnd := (List.range j).filterMap (R.fnd (R.look N b r m) b r m)
theorem outK_succ (N : Nand) (b r m : Int) (j : Nat) : outK N b r m (j + 1) = outK N b r m j ++ (R.fnd (R.look N b r m) b r m j).toList := by
 unfold outK
 rw [List.range_succ, List.filterMap_append]
 congr 1
theorem outK_len (N : Nand) (b r m : Int) (j : Nat) : (outK N b r m j).length ≤ j := by
 have := List.length_filterMap_le (R.fnd (R.look N b r m) b r m) (List.range j)
 rwa [List.length_range] at this
theorem outK_all (N : Nand) (b r m : Int) {n : Nat} (hn : (G.slots m).toNat = n) : outK N b r m n = R.allM N b r m := by
 unfold outK R.allM
 rw [(look_len N b r m).1, hn]
theorem f9_all (p : Nat) (N : Nand) (hN : N.Ok) (hR : N.Room) (b r m : Int) : Fn Tryz.prog 99 [.pointer (some ⟨p, 0, none⟩), .int .i64 b, .int .i64 r, .int .i64 m] [NandA p N]
  (fun v As => ∃ a c, v = slv a (R.allM N b r m).length c ∧ As = [NandA p N, ownA 103 25 a (R.allM N b r m).length c (cellsF (R.allM N b r m))]) := by
 have hG := gslots_bd m
 obtain ⟨n, hn⟩ : ∃ n : Nat, G.slots m = (n : Int) := ⟨(G.slots m).toNat, by omega⟩
 have hnt : (G.slots m).toNat = n := by omega
 have hn7 : n ≤ 7 := by omega
 obtain ⟨hsl, hgl⟩ := look_len N b r m
 rw [hnt] at hsl hgl
 have hone : ∀ i : Nat, i < n → (R.look N b r m).slots.getD i Sh.zero = (R.one N b r m (G.die m b r i)).1 ∧ (R.look N b r m).good.getD i false = (R.one N b r m (G.die m b r i)).2 := fun i hi => by
  obtain ⟨e1, e2⟩ := look_slot N b r m (i := i) (by omega)
  exact ⟨by rw [List.getD_eq_getElem?_getD, e1, Option.getD_some], e2⟩
 have hwh : (R.look N b r m).whole = (R.one N b r m (G.parity m b r)).2 := rfl
 obtain ⟨g, hgd⟩ : ∃ g : Nat → Bool, g = fun j => (R.look N b r m).good.getD j false := ⟨_, rfl⟩
 refine Fn.enter [2, 0, 0, 0] Tryz.func99 rfl rfl rfl fun X F hX => ?_
 refine J.r hX tk 400 (fun _ => rfl) fun b1 => ?_
 refine J.ca hX (by kernel_rfl) (f6_Parity m b r) [] 0 rfl rfl rfl rfl rfl rfl (fun _ => rfl) ?_
 rintro v As ⟨rfl, rfl⟩
 refine ⟨_, rfl, trivial, ?_⟩
 refine J.r hX tk 400 (fun _ => rfl) fun b3 => ?_
 refine J.ca hX (by kernel_rfl) (f9_one p N hN hR b r m (G.parity m b r)) [1] 0 rfl rfl rfl rfl rfl rfl (fun _ => rfl) ?_
 rintro v As ⟨rfl, rfl⟩
 refine ⟨_, rfl, trivial, ?_⟩
 rw [← hwh]
 obtain ⟨wh, hwh2⟩ : ∃ wh, wh = (R.look N b r m).whole := ⟨_, rfl⟩
 rw [← hwh2]
 refine J.r hX tk 400 (fun _ => rfl) fun b5 => ?_
 refine J.goto (E0 := [⟨13, .int .i64 0, 0, .tt⟩, ⟨12, .int .i64 0, 0, .tt⟩, ⟨10, .bool wh, 0, .tt⟩, ⟨11, slv none 0 0, 0, .tt⟩, ⟨0, .pointer (some ⟨p, 0, none⟩), 2, .tt⟩, ⟨1, .int .i64 b, 0, .tt⟩, ⟨2, .int .i64 r, 0, .tt⟩, ⟨3, .int .i64 m, 0, .tt⟩]) (L0 := [.hp F, NandA p N]) [0, 1] ?_ ⟨rfl, rfl, rfl, rfl, rfl, rfl, rfl, rfl, trivial⟩ rfl rfl
 refine J.r hX tk 400 (fun _ => rfl) fun b6 => ?_
 refine J.lo (α := Nat) (fun k => k ≤ n) (fun k => [⟨13, .int .i64 k, 0, .tt⟩, ⟨12, .int .i64 (missN g k), 0, .tt⟩, ⟨10, .bool wh, 0, .tt⟩, ⟨11, slv none 0 0, 0, .tt⟩, ⟨0, .pointer (some ⟨p, 0, none⟩), 2, .tt⟩, ⟨1, .int .i64 b, 0, .tt⟩, ⟨2, .int .i64 r, 0, .tt⟩, ⟨3, .int .i64 m, 0, .tt⟩]) [] (fun k => []) (fun k => n - k) (0) (Nat.zero_le _) rfl ?_ (fun _ => rfl) fun k hI => ?_
 ·rfl
 have hms := missN_succ g k
 have hml := missN_le g k
 refine J.r hX tk 400 (fun _ => rfl) fun b7 => ?_
 refine J.ca hX (by kernel_rfl) (f6_SlotsG m) [] 0 rfl rfl rfl rfl rfl rfl (fun _ => rfl) ?_
 rintro v As ⟨rfl, rfl⟩
 refine ⟨_, rfl, trivial, ?_⟩
 rw [hn]
 refine J.r hX tk 400 (fun _ => rfl) fun b9 => ?_
 refine J.cond rfl (fun h1 => ?_) (fun h1 => ?_)
 ·simp only [decide_eq_true_eq, Int.ofNat_lt] at h1
  obtain ⟨_, o2⟩ := hone k h1
  have hgk : g k = (R.one N b r m (G.die m b r k)).2 := by rw [hgd]; exact o2
  refine J.r hX tk 400 (fun _ => rfl) fun b10 => ?_
  refine J.ca hX (by kernel_rfl) (f6_Die m b r k) [] 0 rfl rfl rfl rfl rfl rfl (fun _ => rfl) ?_
  rintro v As ⟨rfl, rfl⟩
  refine ⟨_, rfl, trivial, ?_⟩
  refine J.r hX tk 400 (fun _ => rfl) fun b12 => ?_
  refine J.ca hX (by kernel_rfl) (f9_one p N hN hR b r m (G.die m b r k)) [1] 0 rfl rfl rfl rfl rfl rfl (fun _ => rfl) ?_
  rintro v As ⟨rfl, rfl⟩
  refine ⟨_, rfl, trivial, ?_⟩
  rw [← hgk]
  refine J.r hX tk 400 (fun _ => rfl) fun b14 => ?_
  refine J.cond rfl (fun h2 => ?_) (fun h2 => ?_)
  ·simp only [Bool.not_eq_true'] at h2
   rw [h2] at hms
   have hms : missN g (k + 1) = missN g k + 1 := hms
   refine J.r hX tk 400 (fun _ => rfl) fun b15 => ?_
   rw [show ((missN g k : Nat) : Int) + 1 = ((missN g (k + 1) : Nat) : Int) from by omega]
   refine J.r hX tk 400 (fun _ => rfl) fun b16 => ?_
   refine J.nS (k + 1) (by omega) (by omega) [0, 1] rfl rfl
  ·simp only [Bool.not_eq_false'] at h2
   rw [h2] at hms
   have hms : missN g (k + 1) = missN g k := hms
   rw [← hms]
   refine J.r hX tk 400 (fun _ => rfl) fun b17 => ?_
   refine J.nS (k + 1) (by omega) (by omega) [0, 1] rfl rfl
 simp only [decide_eq_false_iff_not, Int.ofNat_lt] at h1
 obtain rfl : k = n := by omega
 obtain ⟨ms, hmsn⟩ : ∃ ms, missN g k = ms := ⟨_, rfl⟩
 rw [hmsn]
 refine J.turn1 [] rfl (As := [ownA 103 25 none 0 0 (cellsF (outK N b r m 0))]) (fun h s => Sep.one ⟨rfl, rfl, rfl⟩) rfl ?_
 refine J.r hX tk 400 (fun _ => rfl) fun b19 => ?_
 refine J.lo (α := (Nat × Option Nat × Nat)) (fun z => z.1 ≤ k) (fun z => [⟨16, .int .i64 z.1, 0, .tt⟩, ⟨12, .int .i64 ms, 0, .tt⟩, ⟨10, .bool wh, 0, .tt⟩, ⟨11, slv z.2.1 (outK N b r m z.1).length z.2.2, 0, .tt⟩, ⟨0, .pointer (some ⟨p, 0, none⟩), 2, .tt⟩, ⟨1, .int .i64 b, 0, .tt⟩, ⟨2, .int .i64 r, 0, .tt⟩, ⟨3, .int .i64 m, 0, .tt⟩]) [2] (fun z => [ownA 103 25 z.2.1 (outK N b r m z.1).length z.2.2 (cellsF (outK N b r m z.1))]) (fun z => k - z.1) ((0, none, 0)) (Nat.zero_le _) rfl ?_ (fun _ => rfl) fun z hI => ?_
 ·rfl
 obtain ⟨j, ao, co⟩ := z
 dsimp only at hI ⊢
 have hos := outK_succ N b r m j
 have hol := outK_len N b r m j
 refine J.r hX tk 400 (fun _ => rfl) fun b21 => ?_
 refine J.ca hX (by kernel_rfl) (f6_SlotsG m) [] 0 rfl rfl rfl rfl rfl rfl (fun _ => rfl) ?_
 rintro v As ⟨rfl, rfl⟩
 refine ⟨_, rfl, trivial, ?_⟩
 rw [hn]
 refine J.r hX tk 400 (fun _ => rfl) fun b23 => ?_
 refine J.cond rfl (fun h3 => ?_) (fun h3 => ?_)
 ·simp only [decide_eq_true_eq, Int.ofNat_lt] at h3
  obtain ⟨o1, o2⟩ := hone j h3
  have hfd : R.fnd (R.look N b r m) b r m j = if R.okAt (R.look N b r m) j && (R.enAt (R.look N b r m) j).role != 3 then some ⟨R.enAt (R.look N b r m) j, b, r, j, m, (R.look N b r m).whole, !((R.look N b r m).good.getD j false)⟩ else none := rfl
  rw [← hwh2] at hfd
  refine J.r hX tk 400 (fun _ => rfl) fun b24 => ?_
  refine J.ca hX (by kernel_rfl) (f6_Die m b r j) [] 0 rfl rfl rfl rfl rfl rfl (fun _ => rfl) ?_
  rintro v As ⟨rfl, rfl⟩
  refine ⟨_, rfl, trivial, ?_⟩
  refine J.r hX tk 400 (fun _ => rfl) fun b26 => ?_
  refine J.ca hX (by kernel_rfl) (f9_one p N hN hR b r m (G.die m b r j)) [1] 0 rfl rfl rfl rfl rfl rfl (fun _ => rfl) ?_
  rintro v As ⟨rfl, rfl⟩
  refine ⟨_, rfl, trivial, ?_⟩
  rw [← o1, ← o2]
  obtain ⟨s, hs⟩ : ∃ s, (R.look N b r m).slots.getD j Sh.zero = s := ⟨_, rfl⟩
  obtain ⟨gj, hgj⟩ : ∃ gj, (R.look N b r m).good.getD j false = gj := ⟨_, rfl⟩
  rw [hs, hgj]
  refine J.r hX tk 400 (fun _ => rfl) fun b28 => ?_
  refine J.ca hX (by kernel_rfl) (f9_entry s) [] 0 rfl rfl rfl rfl rfl rfl (fun _ => rfl) ?_
  rintro v As ⟨rfl, rfl⟩
  refine ⟨_, rfl, trivial, ?_⟩
  refine J.r hX tk 400 (fun _ => rfl) fun be => ?_
  refine J.join (α := {x : Nat × En × Bool // R.okAt (R.look N b r m) j = (gj || x.2.2) ∧ (R.okAt (R.look N b r m) j = true → x.2.1 = R.enAt (R.look N b r m) j ∧ x.2.2 = !gj)}) (fun x => [⟨19, .pointer (some ⟨x.1.1, 0, none⟩), 4, .tt⟩, ⟨18, .bool gj, 0, .tt⟩, ⟨20, .bool x.1.2.2, 0, .tt⟩, ⟨16, .int .i64 j, 0, .tt⟩, ⟨12, .int .i64 ms, 0, .tt⟩, ⟨10, .bool wh, 0, .tt⟩, ⟨11, slv ao (outK N b r m j).length co, 0, .tt⟩, ⟨0, .pointer (some ⟨p, 0, none⟩), 2, .tt⟩, ⟨1, .int .i64 b, 0, .tt⟩, ⟨2, .int .i64 r, 0, .tt⟩, ⟨3, .int .i64 m, 0, .tt⟩]) (fun x => [.hp F, NandA p N, ownA 103 25 ao (outK N b r m j).length co (cellsF (outK N b r m j)), .pt x.1.1 45 (enL x.1.2.1)]) (fun hj => ?_) (fun x => ?_)
  ·cases gj with
   | true =>
    have hok : R.okAt (R.look N b r m) j = true := by unfold R.okAt; rw [hgj]; rfl
    have hen : R.enAt (R.look N b r m) j = s.en := by unfold R.enAt; rw [hgj, if_pos rfl, hs]
    refine J.r hX tk 400 (fun _ => rfl) fun b30 => ?_
    refine J.cond rfl (fun h => by simp at h) (fun _ => ?_)
    refine J.r hX tk 1 (fun _ => rfl) fun b31 => ?_
    exact J.goto [0, 1, 2, 4] (hj ⟨(be 0, s.en, false), hok, fun _ => ⟨hen.symm, rfl⟩⟩) ⟨rfl, rfl, rfl, rfl, rfl, rfl, rfl, rfl, rfl, rfl, rfl, trivial⟩ rfl rfl
   | false =>
    have hok : R.okAt (R.look N b r m) j = R.mendB (R.look N b r m) j := by unfold R.okAt; rw [hgj]; rfl
    have hen : R.enAt (R.look N b r m) j = R.mend (R.look N b r m) j := by unfold R.enAt; rw [hgj, if_neg Bool.false_ne_true]
    refine J.r hX tk 400 (fun _ => rfl) fun b32 => ?_
    refine J.cond rfl (fun h4 => ?_) (fun h4 => ?_)
    ·refine J.r hX tk 400 (fun _ => rfl) fun b33 => ?_
     refine J.ca hX (by kernel_rfl) (f9_mended p N hN hR b r m j (by omega)) [1] 0 rfl rfl rfl rfl rfl rfl (fun _ => rfl) ?_
     rintro v As ⟨rfl, rfl⟩
     refine ⟨_, rfl, trivial, ?_⟩
     refine J.r hX tk 6 (fun _ => rfl) fun b35 => ?_
     exact J.goto [0, 1, 2, 4] (hj ⟨(be 0, R.mend (R.look N b r m) j, R.mendB (R.look N b r m) j), hok, fun h => ⟨hen.symm, hok.symm.trans h⟩⟩) ⟨rfl, rfl, rfl, rfl, rfl, rfl, rfl, rfl, rfl, rfl, rfl, trivial⟩ rfl rfl
    ·have hno : R.okAt (R.look N b r m) j = false := by
      rw [hok, Bool.eq_false_iff]
      intro hmb
      unfold R.mendB at hmb
      simp only [Bool.and_eq_true] at hmb
      have h1 := miss_rest hsl h3 hgj hmb.1.1
      rw [← hgd, hmsn] at h1
      rw [h1] at h4
      simp at h4
     refine J.r hX tk 1 (fun _ => rfl) fun b36 => ?_
     exact J.goto [0, 1, 2, 4] (hj ⟨(be 0, s.en, false), hno, fun h => by rw [hno] at h; cases h⟩) ⟨rfl, rfl, rfl, rfl, rfl, rfl, rfl, rfl, rfl, rfl, rfl, trivial⟩ rfl rfl
  obtain ⟨⟨e, e1, bk⟩, x1, x2⟩ := x
  dsimp only at x1 x2 ⊢
  rw [hgj] at hfd
  refine J.r hX tk 400 (fun _ => rfl) fun b37 => ?_
  refine J.cond rfl (fun h5 => ?_) (fun h5 => ?_)
  ·have h6 : (gj || bk) = true ∧ (e1.role != 3) = true := by
    revert h5
    cases gj <;> cases bk <;> simp
   have h7 := x2 (x1.trans h6.1)
   rw [x1, ← h7.1, h6.1, h6.2, ← h7.2] at hfd
   have hfd : R.fnd (R.look N b r m) b r m j = some ⟨e1, b, r, j, m, wh, bk⟩ := hfd
   rw [hfd, Option.toList_some] at hos
   refine J.r hX tk 400 (fun _ => rfl) fun b38 => ?_
   refine J.append hX tk 2 4 0 rfl rfl rfl rfl rfl rfl rfl rfl rfl rfl rfl rfl rfl rfl rfl rfl ?_ ?_ (fun _ => rfl) fun a2 c2 => ⟨_, (congrArg (fun y => lset _ 2 (ownA _ _ _ _ _ y)) (cellsF_snoc' _ ⟨e1, b, r, j, m, wh, bk⟩)).trans rfl, trivial, ?_⟩
   ·simp only [maxLen]; omega
   ·omega
   rw [show (outK N b r m j).length + 1 = (outK N b r m (j + 1)).length from by rw [hos, List.length_append]; rfl, ← hos]
   refine J.r hX tk 400 (fun _ => rfl) fun b39 => ?_
   refine J.nS ((j + 1, a2, c2)) (by dsimp only; omega) (by dsimp only; omega) [0, 1, 2] rfl rfl
  ·have hno : R.fnd (R.look N b r m) b r m j = none := by
    rw [hfd]
    cases hk : R.okAt (R.look N b r m) j with
    | false => rfl
    | true =>
     obtain ⟨h7, _⟩ := x2 hk
     rw [hk] at x1
     rw [← h7]
     have : (e1.role != 3) = false := by
      revert h5
      rw [← x1]
      cases gj <;> cases bk <;> simp
     rw [this]; rfl
   rw [hno, Option.toList_none, List.append_nil] at hos
   rw [← hos]
   refine J.r hX tk 400 (fun _ => rfl) fun b41 => ?_
   refine J.nS ((j + 1, ao, co)) (by dsimp only; omega) (by dsimp only; omega) [0, 1, 2] rfl rfl
 simp only [decide_eq_false_iff_not, Int.ofNat_lt] at h3
 obtain rfl : j = k := by omega
 rw [outK_all N b r m hnt]
 refine J.r hX tk 400 (fun _ => rfl) fun b43 => ?_
 refine J.rt hX tk [1, 2] rfl rfl rfl ?_
 exact ⟨ao, co, rfl, rfl⟩
theorem f9_All (p : Nat) (N : Nand) (hN : N.Ok) (hR : N.Room) (b r : Int) : Fn Tryz.prog 51 [.pointer (some ⟨p, 0, none⟩), .int .i64 b, .int .i64 r] [NandA p N]
  (fun v As => ∃ a c, v = slv a (R.all N b r).length c ∧ As = [NandA p N, ownA 103 25 a (R.all N b r).length c (cellsF (R.all N b r))]) := by
 have hbd := hN.bd
 have hml := masks_len N b r
 refine Fn.enter [2, 0, 0] Tryz.func51 rfl rfl rfl fun X F hX => ?_
 refine J.r hX tk 400 (fun _ => rfl) fun b44 => ?_
 refine J.ca hX (by kernel_rfl) (T2.f9_Masks p N hN hR b r) [1] 0 rfl rfl rfl rfl rfl rfl (fun _ => rfl) ?_
 rintro v As ⟨am, cm, rfl, rfl⟩
 refine ⟨_, rfl, trivial, ?_⟩
 refine J.turn1 [] rfl (As := [ownA 103 25 none 0 0 (cellsF (outI N b r 0))]) (fun h s => Sep.one ⟨rfl, rfl, rfl⟩) rfl ?_
 refine J.r hX tk 400 (fun _ => rfl) fun b46 => ?_
 refine J.lo (α := (Nat × Option Nat × Nat)) (fun z => z.1 ≤ (M.masks N b r).length) (fun z => [⟨9, .int .i64 z.1, 0, .tt⟩, ⟨8, slv am (M.masks N b r).length cm, 0, .tt⟩, ⟨7, slv z.2.1 (outI N b r z.1).length z.2.2, 0, .tt⟩, ⟨0, .pointer (some ⟨p, 0, none⟩), 2, .tt⟩, ⟨1, .int .i64 b, 0, .tt⟩, ⟨2, .int .i64 r, 0, .tt⟩]) [3] (fun z => [ownA 103 25 z.2.1 (outI N b r z.1).length z.2.2 (cellsF (outI N b r z.1))]) (fun z => (M.masks N b r).length - z.1) ((0, none, 0)) (Nat.zero_le _) rfl ?_ (fun _ => rfl) fun z hI => ?_
 ·rfl
 obtain ⟨i, ao, co⟩ := z
 dsimp only at hI ⊢
 have hol := outI_len N b r i (by omega)
 refine J.r hX tk 400 (fun _ => rfl) fun b48 => ?_
 refine J.cond rfl (fun h1 => ?_) (fun h1 => ?_)
 ·simp only [decide_eq_true_eq, Int.ofNat_lt] at h1
  refine J.know (fun h' s => own_some (c := (am, cm)) (by omega) (s.get (i := 2) rfl)) fun hg => ?_
  obtain ⟨gm, rfl⟩ := hg
  obtain ⟨mk, hmk⟩ : ∃ mk, (M.masks N b r)[i]? = some mk := ⟨_, List.getElem?_eq_getElem h1⟩
  have hal := allM_len N b r mk
  have hout : outI N b r (i + 1) = outI N b r i ++ R.allM N b r mk := by
   unfold outI
   rw [List.take_add_one, hmk, Option.toList_some, List.flatMap_append, List.flatMap_cons, List.flatMap_nil, List.append_nil]
  refine J.r hX tk 400 (fun _ => rfl) fun b49 => ?_
  refine J.val hX (.int .i64 mk) 0 rfl rfl (fun hg a w he hw => ?_) rfl trivial ?_
  ·exact own1_run tk rfl rfl he rfl rfl rfl (hw.get (i := 2) rfl) (by rw [show 0 + (i : Int).toNat * 1 = i from by omega]; exact cellsI_get hmk)
  refine J.r hX tk 400 (fun _ => rfl) fun b50 => ?_
  refine J.ca hX (by kernel_rfl) (f9_all p N hN hR b r mk) [1] 0 rfl rfl rfl rfl rfl rfl (fun _ => rfl) ?_
  rintro v As ⟨a1, c1, rfl, rfl⟩
  refine ⟨_, rfl, trivial, ?_⟩
  refine J.r hX tk 400 (fun _ => rfl) fun b52 => ?_
  refine J.appendO hX tk 3 4 rfl rfl rfl rfl rfl rfl rfl rfl rfl rfl rfl rfl rfl (cellsF_one _) ?_ ?_ (fun _ => rfl) fun a6 c6 => ⟨_, (congrArg (fun y => lset _ 3 (ownA _ _ _ _ _ y)) (cellsF_app' _ _)).trans rfl, trivial, ?_⟩
  ·simp only [maxLen]; omega
  ·omega
  rw [show (outI N b r i).length + (R.allM N b r mk).length = (outI N b r (i + 1)).length from by rw [hout, List.length_append], ← hout]
  refine J.r hX tk 400 (fun _ => rfl) fun b53 => ?_
  refine J.nS ((i + 1, a6, c6)) (by dsimp only; omega) (by dsimp only; omega) [0, 1, 2, 3] rfl rfl
 simp only [decide_eq_false_iff_not, Int.ofNat_lt] at h1
 obtain rfl : i = (M.masks N b r).length := by omega
 have hall : outI N b r (M.masks N b r).length = R.all N b r := by unfold outI R.all; rw [List.take_length]
 rw [hall]
 refine J.r hX tk 400 (fun _ => rfl) fun b55 => ?_
 refine J.rt hX tk [1, 3] rfl rfl rfl ?_
 exact ⟨ao, co, rfl, rfl⟩
theorem tb_In (q : Nat) (t : Tb) (n : Nat) (hlog : t.logical = (n : Int)) (hn : n ≤ 65536) (b : Int) : Fn Tryz.prog 56 [.pointer (some ⟨q, 0, none⟩), .int .i64 b] [TbA q t]
  (fun v As => ∃ a c, v = slv a (t.ins b).length c ∧ As = [TbA q t, ownA 3 1 a (t.ins b).length c (cellsI (t.ins b))]) := by
 refine Fn.enter [2, 0] Tryz.func56 rfl rfl rfl fun X F hX => ?_
 refine J.r hX tk 400 (fun _ => rfl) fun b1 => ?_
 refine J.ca hX (by kernel_rfl) (tb_Count q t b) [1] 0 rfl rfl rfl rfl rfl rfl (fun _ => rfl) ?_
 rintro v As ⟨rfl, rfl⟩
 refine ⟨_, rfl, trivial, ?_⟩
 refine J.turn1 [] rfl (As := [ownA 3 1 none 0 0 (cellsI [])]) (fun h s => Sep.one ⟨rfl, rfl, rfl⟩) rfl ?_
 refine J.r hX tk 400 (fun _ => rfl) fun b3 => ?_
 refine J.cond rfl (fun h1 => ?_) (fun h1 => ?_)
 ·simp only [beq_iff_eq] at h1
  refine J.r hX tk 400 (fun _ => rfl) fun b4 => ?_
  refine J.rt hX tk [1, 2] rfl rfl rfl ?_
  have : t.ins b = [] := by unfold Tb.ins; rw [if_pos h1]
  rw [this]
  exact ⟨none, 0, rfl, rfl⟩
 simp only [beq_eq_false_iff_ne, ne_eq] at h1
 have hins : t.ins b = t.inK b n := by unfold Tb.ins; rw [if_neg h1, hlog]; rfl
 refine J.open_ (α := (Nat × Nat)) 1 rfl rfl (fun _ => rfl) fun x => ?_
 refine J.r hX tk 400 (fun _ => rfl) fun b5 => ?_
 refine J.lo (α := (Nat × Option Nat × Nat)) (fun z => z.1 ≤ n) (fun z => [⟨17, .int .i64 z.1, 0, .tt⟩, ⟨16, .int .i64 t.logical, 0, .tt⟩, ⟨5, slv z.2.1 (t.inK b z.1).length z.2.2, 0, .tt⟩, ⟨0, .pointer (some ⟨q, 0, none⟩), 2, .tt⟩, ⟨1, .int .i64 b, 0, .tt⟩]) [2] (fun z => [ownA 3 1 z.2.1 (t.inK b z.1).length z.2.2 (cellsI (t.inK b z.1))]) (fun z => n - z.1) ((0, none, 0)) (Nat.zero_le _) rfl ?_ (fun _ => rfl) fun z hI => ?_
 ·rfl
 obtain ⟨k, a1, c1⟩ := z
 dsimp only at hI ⊢
 refine J.r hX tk 400 (fun _ => rfl) fun b7 => ?_
 refine J.cond rfl (fun h2 => ?_) (fun h2 => ?_)
 ·simp only [decide_eq_true_eq] at h2
  have hkl := t.inK_len b k
  refine J.r hX tk 400 (fun _ => rfl) fun b8 => ?_
  refine J.val hX (.tuple #[atV ((Tb.look t.at_ k).getD AtV.zero), .bool (Tb.look t.at_ k).isSome]) 0 rfl rfl (fun hg a w he hs => ?_) rfl trivial ?_
  ·refine (lookup_run (key := (k : Int)) keyI umapAt (z := atV AtV.zero) (fun w => by kernel_rfl) rfl rfl rfl rfl he rfl rfl (hs.get (i := 3) rfl)).trans ?_
   simp only [alook_at, look_getD, opt_some]
  have hin : ((Tb.look t.at_ k).isSome && (((Tb.look t.at_ k).getD AtV.zero).block == b)) = t.inB b k := by
   unfold Tb.inB
   cases Tb.look t.at_ k <;> rfl
  refine J.r hX tk 400 (fun _ => rfl) fun b9 => ?_
  refine J.cond rfl (fun h3 => ?_) (fun h3 => ?_)
  ·have hs : t.inK b (k + 1) = t.inK b k ++ [(k : Int)] := by rw [Tb.inK_succ, if_pos (hin.symm.trans h3)]
   refine J.r hX tk 400 (fun _ => rfl) fun b11 => ?_
   refine J.append hX tk 2 6 0 rfl rfl rfl rfl rfl rfl rfl rfl rfl rfl rfl rfl rfl rfl rfl rfl ?_ ?_ (fun _ => rfl) fun a3 c3 => ⟨_, (congrArg (fun z => lset _ 2 (ownA _ _ _ _ _ z)) (cellsI_snoc _ (k : Int)).symm).trans rfl, trivial, ?_⟩
   ·simp only [maxLen]; omega
   ·omega
   rw [← hs, show (t.inK b k).length + 1 = (t.inK b (k + 1)).length from by rw [hs]; simp]
   refine J.r hX tk 400 (fun _ => rfl) fun b12 => ?_
   refine J.nS ((k + 1, a3, c3)) (by dsimp only; omega) (by dsimp only; omega) [0, 1, 2, 3, 4] rfl rfl
  ·have hs : t.inK b (k + 1) = t.inK b k := by rw [Tb.inK_succ, if_neg (by rw [← hin, h3]; simp)]
   rw [← hs]
   refine J.r hX tk 400 (fun _ => rfl) fun b13 => ?_
   refine J.nS ((k + 1, a1, c1)) (by dsimp only; omega) (by dsimp only; omega) [0, 1, 2, 3, 4] rfl rfl
 ·simp only [decide_eq_false_iff_not] at h2
  obtain rfl : k = n := by omega
  refine J.r hX tk 400 (fun _ => rfl) fun b14 => ?_
  refine J.close (f := fun x : Nat × Nat => TbP q t x) x [1, 3, 4] rfl rfl rfl ?_
  refine J.r hX tk 400 (fun _ => rfl) fun b15 => ?_
  refine J.rt hX tk [1, 2] rfl rfl rfl ?_
  rw [hins]
  exact ⟨a1, c1, rfl, rfl⟩
end Go.Proofs.YtoideahgjgaddaaGreat
