/- Helpers of the proofs about ostrakonlaw11, proved here: PckB, BgJ, EnF. No condition. -/
import Derived.Test.YtoideahgjgaddaaGreatQ12
import Derived.Test.YtoideahgjgaddaaGreatQ14
import Derived.Test.YtoideahgjgaddaaGreatQ15
import Derived.Test.YtoideahgjgaddaaGreatQ20
import Derived.Test.YtoideahgjgaddaaGreatQ24
set_option maxRecDepth 20000
set_option linter.unusedVariables false
set_option linter.unusedSimpArgs false
set_option linter.unusedSectionVars false
set_option linter.unnecessarySimpa false
namespace Go.Proofs.YtoideahgjgaddaaGreat
open Go Go.RowKit
theorem p_free (q : Nat) (t : Tl) (hb : t.b ≤ 1000) (hl : t.l.length = t.b) (r : Nat) (T : Tb) (o : Int) : Fn Tryz.prog 172 [.pointer (some ⟨q, 0, none⟩), .pointer (some ⟨r, 0, none⟩), .int .i64 o] [TlA q t, TbA r T]
  (fun v As => ∃ a c, v = slv a (pkSome (pkFree t T) o t.b).length c ∧ As = [TlA q t, TbA r T, ownA 3 1 a (pkSome (pkFree t T) o t.b).length c (cellsI (pkSome (pkFree t T) o t.b))]) := by
 refine Fn.enter [2, 3, 0] Tryz.func172 rfl rfl rfl fun X F hX => ?_
 refine J.r hX tk 400 (fun _ => rfl) fun bb => ?_
 refine J.turn1 [3, 4, 2] rfl (As := [PkE (bb 0) q (bb (0 + 1)) r T]) (fun h s => PkE_un.2 s) rfl ?_
 refine J.r hX tk 400 (fun _ => rfl) fun b1 => ?_
 refine J.ca hX (by kernel_rfl) (p_some q t hb o 215 [.pointer (some ⟨bb 0, 0, none⟩), .pointer (some ⟨bb (0 + 1), 0, none⟩)] (pkFree t T) (PkE (bb 0) q (bb (0 + 1)) r T) (by kernel_rfl) (fun x => p_free1 q t hb hl (bb 0) (bb (0 + 1)) r T x)) [1, 3] 0 rfl rfl rfl rfl rfl rfl (fun _ => rfl) ?_
 rintro v As ⟨a, c, rfl, rfl⟩
 refine ⟨_, rfl, trivial, ?_⟩
 refine J.turn1 [3] rfl (fun h s => PkE_un.1 s) rfl ?_
 refine J.r hX tk 400 (fun _ => rfl) fun b2 => ?_
 refine J.rt hX tk [1, 7, 5] rfl rfl rfl ?_
 exact ⟨a, c, rfl, rfl⟩
theorem p_Free (q : Nat) (t : Tl) (hb : t.b ≤ 1000) (hl : t.l.length = t.b) (r : Nat) (T : Tb) (o : Int) : Fn Tryz.prog 129 [.pointer (some ⟨q, 0, none⟩), .pointer (some ⟨r, 0, none⟩), .int .i64 o] [TlA q t, TbA r T]
  (fun v As => v = .int .i64 (pkSome (pkFree t T) o t.b).length ∧ As = [TlA q t, TbA r T]) := by
 refine Fn.enter [2, 3, 0] Tryz.func129 rfl rfl rfl fun X F hX => ?_
 refine J.r hX tk 400 (fun _ => rfl) fun b3 => ?_
 refine J.ca hX (by kernel_rfl) (p_free q t hb hl r T o) [1, 2] 0 rfl rfl rfl rfl rfl rfl (fun _ => rfl) ?_
 rintro v As ⟨a, c, rfl, rfl⟩
 refine ⟨_, rfl, trivial, ?_⟩
 refine J.r hX tk 400 (fun _ => rfl) fun b5 => ?_
 refine J.rt hX tk [1, 2] rfl rfl rfl ?_
 exact ⟨rfl, rfl⟩
theorem p_Open1 (q : Nat) (t : Tl) (hb : t.b ≤ 1000) (hl : t.l.length = t.b) (bt : Nat) (x y : Int) : Fn Tryz.prog 173 [.int .i64 x, .int .i64 y, .pointer (some ⟨bt, 0, none⟩)] [.pt bt 199 [.pointer (some ⟨q, 0, none⟩)], TlA q t]
  (fun v As => v = .int .i64 (cmpI (t.wear x) (t.wear y)) ∧ As = [.pt bt 199 [.pointer (some ⟨q, 0, none⟩)], TlA q t]) := by
 refine Fn.enter [0, 0, 2] Tryz.func173 rfl rfl rfl fun X F hX => ?_
 refine J.r hX tk 400 (fun _ => rfl) fun b6 => ?_
 refine J.plan (.of [1,4,13,16,10,23,27,28]) [5,6,7] [1,2] (by rw [hX.hP]; kernel_rfl) (by kernel_rfl) ?_
 refine J.r hX tk 400 (fun _ => rfl) fun b7 => ?_
 refine J.ca hX (by kernel_rfl) (tl_Wear q t hb hl x) [2] 0 rfl rfl rfl rfl rfl rfl (fun _ => rfl) ?_
 rintro v As ⟨rfl, rfl⟩
 refine ⟨_, rfl, (by first | exact trivial | (repeat' (first | exact trivial | refine ⟨rfl, ?_⟩))), ?_⟩
 refine J.r hX tk 400 (fun _ => rfl) fun b9 => ?_
 refine J.ca hX (by kernel_rfl) (tl_Wear q t hb hl y) [2] 0 rfl rfl rfl rfl rfl rfl (fun _ => rfl) ?_
 rintro v As ⟨rfl, rfl⟩
 refine ⟨_, rfl, (by first | exact trivial | (repeat' (first | exact trivial | refine ⟨rfl, ?_⟩))), ?_⟩
 refine J.r hX tk 400 (fun _ => rfl) fun b11 => ?_
 refine J.ca hX (by kernel_rfl) (c_Compare (t.wear x) (t.wear y)) [] 0 rfl rfl rfl rfl rfl rfl (fun _ => rfl) ?_
 rintro v As ⟨rfl, rfl⟩
 refine ⟨_, rfl, (by first | exact trivial | (repeat' (first | exact trivial | refine ⟨rfl, ?_⟩))), ?_⟩
 refine J.r hX tk 400 (fun _ => rfl) fun b13 => ?_
 refine J.rt hX tk [1, 2] rfl rfl rfl ?_
 exact ⟨rfl, rfl⟩
theorem p_Open (q : Nat) (t : Tl) (hb : t.b ≤ 1000) (hl : t.l.length = t.b) (r : Nat) (T : Tb) (o : Int) : Fn Tryz.prog 127 [.pointer (some ⟨q, 0, none⟩), .pointer (some ⟨r, 0, none⟩), .int .i64 o] [TlA q t, TbA r T]
  (fun v As => v = .int .i64 (pkLeast (fun x y => cmpI (t.wear x) (t.wear y)) (pkSome (pkFree t T) o t.b)) ∧ As = [TlA q t, TbA r T]) := by
 have hlen := pkSome_len (pkFree t T) o t.b
 refine Fn.enter [2, 3, 0] Tryz.func127 rfl rfl rfl fun X F hX => ?_
 refine J.r hX tk 400 (fun _ => rfl) fun bb => ?_
 refine J.ca hX (by kernel_rfl) (p_free q t hb hl r T o) [1, 2] 0 rfl rfl rfl rfl rfl rfl (fun _ => rfl) ?_
 rintro v As ⟨a, c, rfl, rfl⟩
 refine ⟨_, rfl, trivial, ?_⟩
 refine J.r hX tk 400 (fun _ => rfl) fun b15 => ?_
 refine J.turn1 [3, 1] rfl (As := [.hp (HP.of [.pt (bb 0) 199 [.pointer (some ⟨q, 0, none⟩)], TlA q t])]) (fun h s => Sep.hpOf.2 s) rfl ?_
 refine J.r hX tk 400 (fun _ => rfl) fun b16 => ?_
 refine J.ca hX (by kernel_rfl) (p_least 173 [.pointer (some ⟨bb 0, 0, none⟩)] (fun x y => cmpI (t.wear x) (t.wear y)) _ (by kernel_rfl) (fun x y => Fn.pack (p_Open1 q t hb hl (bb 0) x y)) a c (pkSome (pkFree t T) o t.b) (by omega)) [4, 3] 0 rfl rfl rfl rfl rfl rfl (fun _ => rfl) ?_
 rintro v As ⟨rfl, rfl⟩
 refine ⟨_, rfl, trivial, ?_⟩
 refine J.turn1 [3] rfl (As := [.pt (bb 0) 199 [.pointer (some ⟨q, 0, none⟩)], TlA q t]) (fun h s => Sep.hpOf.1 s) rfl ?_
 refine J.r hX tk 400 (fun _ => rfl) fun b17 => ?_
 refine J.rt hX tk [5, 2] rfl rfl rfl ?_
 exact ⟨rfl, rfl⟩
theorem c_Or2 (b : Nat) (x y : Int) : Fn Tryz.prog 179 [.slice (some ⟨b, 0, none⟩) 2 2] [.pt b 3 [.int .i64 x, .int .i64 y]] (fun v As => v = .int .i64 (orI [x, y]) ∧ As = [.pt b 3 [.int .i64 x, .int .i64 y]]) := by
 refine Fn.enter [2] Tryz.func179 rfl rfl rfl fun X F hX => ?_
 refine J.r hX tk 400 (fun _ => rfl) fun b18 => ?_
 refine J.lo (α := Nat) (fun k => k ≤ 2 ∧ orI ([x, y].drop k) = orI [x, y]) (fun k => [⟨8, .int .i64 k, 0, .tt⟩, ⟨7, .int .i64 2, 0, .tt⟩, ⟨6, .slice (some ⟨b, 0, none⟩) 2 2, 2, .tt⟩, ⟨3, .int .i64 0, 0, .tt⟩]) [] (fun k => []) (fun k => 2 - k) (0) (⟨by omega, rfl⟩) rfl ?_ (fun _ => rfl) fun k hI => ?_
 ·rfl
 refine J.r hX tk 400 (fun _ => rfl) fun b20 => ?_
 refine J.cond rfl (fun h1 => ?_) (fun h1 => ?_)
 ·simp only [decide_eq_true_eq] at h1
  obtain ⟨v, hv⟩ : ∃ v, ([x, y] : List Int)[k]? = some v := ⟨_, List.getElem?_eq_getElem (by simp; omega)⟩
  have hd : ([x, y] : List Int).drop k = v :: ([x, y] : List Int).drop (k + 1) := by
   obtain ⟨h2, h3⟩ := List.getElem?_eq_some_iff.1 hv
   rw [List.drop_eq_getElem_cons h2, h3]
  refine J.r hX tk 400 (fun _ => rfl) fun b21 => ?_
  refine J.val hX (.int .i64 v) 0 rfl rfl (fun hg a w he hs => ?_) rfl trivial ?_
  ·exact load1_run tk rfl rfl he rfl rfl rfl (hs.get (i := 1) rfl) (by
    rw [show 0 + (k : Int).toNat * 1 = k from by omega, show ([.int .i64 x, .int .i64 y] : List Value) = ([x, y] : List Int).map (.int .i64) from rfl, List.getElem?_map, hv]; rfl)
  refine J.r hX tk 400 (fun _ => rfl) fun b22 => ?_
  refine J.cond rfl (fun h2 => ?_) (fun h2 => ?_)
  ·simp only [bne_iff_ne, ne_eq] at h2
   refine J.r hX tk 400 (fun _ => rfl) fun b23 => ?_
   refine J.rt hX tk [1] rfl rfl rfl ?_
   refine ⟨?_, rfl⟩
   rw [← hI.2, hd]
   simp [orI, h2]
  ·simp only [bne_eq_false_iff_eq] at h2
   refine J.r hX tk 400 (fun _ => rfl) fun b24 => ?_
   refine J.nx (k + 1) (⟨by omega, by rw [← hI.2, hd, orI, if_neg (by simp [h2])]⟩) (by omega) (fun _ s => s)
 ·simp only [decide_eq_false_iff_not] at h1
  refine J.r hX tk 400 (fun _ => rfl) fun b25 => ?_
  refine J.rt hX tk [1] rfl rfl rfl ?_
  refine ⟨?_, rfl⟩
  rw [← hI.2, List.drop_of_length_le (by simp; omega)]
  rfl
theorem p_Victim2 (q : Nat) (t : Tl) (hb : t.b ≤ 1000) (hl : t.l.length = t.b) (bt bl r : Nat) (T : Tb) (x y : Int) : Fn Tryz.prog 178 [.int .i64 x, .int .i64 y, .pointer (some ⟨bl, 0, none⟩), .pointer (some ⟨bt, 0, none⟩)] [TlA q t, PkE bt q bl r T]
  (fun v As => v = .int .i64 (orI [cmpI (T.count x) (T.count y), cmpI (t.wear x) (t.wear y)]) ∧ As = [TlA q t, PkE bt q bl r T]) := by
 refine Fn.enter [0, 0, 4, 3] Tryz.func178 rfl rfl rfl fun X F hX => ?_
 refine J.turn1 [2] rfl (fun h s => PkE_un.1 s) rfl ?_
 refine J.r hX tk 400 (fun _ => rfl) fun b26 => ?_
 refine J.plan (.of [1,4,13,16,29,32,41,44,10,22,26,38,51,55,59,63,64]) [12,13,14,15,16] [1,2,3,4] (by rw [hX.hP]; kernel_rfl) (by kernel_rfl) ?_
 refine J.r hX tk 400 (fun _ => rfl) fun b27 => ?_
 refine J.ca hX (by kernel_rfl) (tb_Count r T x) [4] 0 rfl rfl rfl rfl rfl rfl (fun _ => rfl) ?_
 rintro v As ⟨rfl, rfl⟩
 refine ⟨_, rfl, (by first | exact trivial | (repeat' (first | exact trivial | refine ⟨rfl, ?_⟩))), ?_⟩
 refine J.r hX tk 400 (fun _ => rfl) fun b29 => ?_
 refine J.ca hX (by kernel_rfl) (tb_Count r T y) [4] 0 rfl rfl rfl rfl rfl rfl (fun _ => rfl) ?_
 rintro v As ⟨rfl, rfl⟩
 refine ⟨_, rfl, (by first | exact trivial | (repeat' (first | exact trivial | refine ⟨rfl, ?_⟩))), ?_⟩
 refine J.r hX tk 400 (fun _ => rfl) fun b31 => ?_
 refine J.ca hX (by kernel_rfl) (c_Compare (T.count x) (T.count y)) [] 0 rfl rfl rfl rfl rfl rfl (fun _ => rfl) ?_
 rintro v As ⟨rfl, rfl⟩
 refine ⟨_, rfl, (by first | exact trivial | (repeat' (first | exact trivial | refine ⟨rfl, ?_⟩))), ?_⟩
 refine J.r hX tk 400 (fun _ => rfl) fun b33 => ?_
 refine J.ca hX (by kernel_rfl) (tl_Wear q t hb hl x) [1] 0 rfl rfl rfl rfl rfl rfl (fun _ => rfl) ?_
 rintro v As ⟨rfl, rfl⟩
 refine ⟨_, rfl, (by first | exact trivial | (repeat' (first | exact trivial | refine ⟨rfl, ?_⟩))), ?_⟩
 refine J.r hX tk 400 (fun _ => rfl) fun b35 => ?_
 refine J.ca hX (by kernel_rfl) (tl_Wear q t hb hl y) [1] 0 rfl rfl rfl rfl rfl rfl (fun _ => rfl) ?_
 rintro v As ⟨rfl, rfl⟩
 refine ⟨_, rfl, (by first | exact trivial | (repeat' (first | exact trivial | refine ⟨rfl, ?_⟩))), ?_⟩
 refine J.r hX tk 400 (fun _ => rfl) fun b37 => ?_
 refine J.ca hX (by kernel_rfl) (c_Compare (t.wear x) (t.wear y)) [] 0 rfl rfl rfl rfl rfl rfl (fun _ => rfl) ?_
 rintro v As ⟨rfl, rfl⟩
 refine ⟨_, rfl, (by first | exact trivial | (repeat' (first | exact trivial | refine ⟨rfl, ?_⟩))), ?_⟩
 refine J.r hX tk 400 (fun _ => rfl) fun bs => ?_
 refine J.ca hX (by kernel_rfl) (c_Or2 (bs 0) (cmpI (T.count x) (T.count y)) (cmpI (t.wear x) (t.wear y))) [5] 0 rfl rfl rfl rfl rfl rfl (fun _ => rfl) ?_
 rintro v As ⟨rfl, rfl⟩
 refine ⟨_, rfl, (by first | exact trivial | (repeat' (first | exact trivial | refine ⟨rfl, ?_⟩))), ?_⟩
 refine J.r hX tk 400 (fun _ => rfl) fun b40 => ?_
 refine J.turn1 [2, 3, 4] rfl (fun h s => PkE_un.2 s) rfl ?_
 refine J.r hX tk 400 (fun _ => rfl) fun b41 => ?_
 refine J.rt hX tk [1, 2] rfl rfl rfl ?_
 exact ⟨rfl, rfl⟩
theorem p_Victim (q : Nat) (t : Tl) (hb : t.b ≤ 1000) (hl : t.l.length = t.b) (r : Nat) (T : Tb) (o : Int) : Fn Tryz.prog 128 [.pointer (some ⟨q, 0, none⟩), .pointer (some ⟨r, 0, none⟩), .int .i64 o] [TlA q t, TbA r T]
  (fun v As => v = .int .i64 (pkLeast (fun x y => orI [cmpI (T.count x) (T.count y), cmpI (t.wear x) (t.wear y)]) (pkSome (pkUsed t T) o t.b)) ∧ As = [TlA q t, TbA r T]) := by
 have hlen := pkSome_len (pkUsed t T) o t.b
 refine Fn.enter [2, 3, 0] Tryz.func128 rfl rfl rfl fun X F hX => ?_
 refine J.r hX tk 400 (fun _ => rfl) fun bb => ?_
 refine J.turn1 [3, 4, 2] rfl (As := [PkE (bb 0) q (bb (0 + 1)) r T]) (fun h s => PkE_un.2 s) rfl ?_
 refine J.r hX tk 400 (fun _ => rfl) fun b42 => ?_
 refine J.ca hX (by kernel_rfl) (p_some q t hb o 176 [.pointer (some ⟨bb (0 + 1), 0, none⟩), .pointer (some ⟨bb 0, 0, none⟩)] (pkUsed t T) (PkE (bb 0) q (bb (0 + 1)) r T) (by kernel_rfl) (fun x => p_used1 q t hb hl (bb 0) (bb (0 + 1)) r T x)) [1, 3] 0 rfl rfl rfl rfl rfl rfl (fun _ => rfl) ?_
 rintro v As ⟨a, c, rfl, rfl⟩
 refine ⟨_, rfl, trivial, ?_⟩
 refine J.r hX tk 400 (fun _ => rfl) fun b43 => ?_
 refine J.turn1 [1, 3] rfl (As := [.hp (HP.of [TlA q t, PkE (bb 0) q (bb (0 + 1)) r T])]) (fun h s => Sep.hpOf.2 s) rfl ?_
 refine J.r hX tk 400 (fun _ => rfl) fun b44 => ?_
 refine J.ca hX (by kernel_rfl) (p_least 178 [.pointer (some ⟨bb (0 + 1), 0, none⟩), .pointer (some ⟨bb 0, 0, none⟩)] (fun x y => orI [cmpI (T.count x) (T.count y), cmpI (t.wear x) (t.wear y)]) _ (by kernel_rfl) (fun x y => Fn.pack (p_Victim2 q t hb hl (bb 0) (bb (0 + 1)) r T x y)) a c (pkSome (pkUsed t T) o t.b) (by omega)) [5, 1] 0 rfl rfl rfl rfl rfl rfl (fun _ => rfl) ?_
 rintro v As ⟨rfl, rfl⟩
 refine ⟨_, rfl, trivial, ?_⟩
 refine J.turn1 [1] rfl (As := [TlA q t, PkE (bb 0) q (bb (0 + 1)) r T]) (fun h s => Sep.hpOf.1 s) rfl ?_
 refine J.turn1 [6] rfl (fun h s => PkE_un.1 s) rfl ?_
 refine J.r hX tk 400 (fun _ => rfl) fun b45 => ?_
 refine J.rt hX tk [1, 8] rfl rfl rfl ?_
 exact ⟨rfl, rfl⟩
theorem p_Spent (q : Nat) (t : Tl) (hb : t.b ≤ 1000) (hl : t.l.length = t.b) (r : Nat) (T : Tb) (o : Int) : Fn Tryz.prog 130 [.pointer (some ⟨q, 0, none⟩), .pointer (some ⟨r, 0, none⟩), .int .i64 o] [TlA q t, TbA r T]
  (fun v As => ∃ a c, v = slv a (pkSome (pkSpent t T) o t.b).length c ∧ As = [TlA q t, TbA r T, ownA 3 1 a (pkSome (pkSpent t T) o t.b).length c (cellsI (pkSome (pkSpent t T) o t.b))]) := by
 refine Fn.enter [2, 3, 0] Tryz.func130 rfl rfl rfl fun X F hX => ?_
 refine J.r hX tk 400 (fun _ => rfl) fun bb => ?_
 refine J.turn1 [3, 4, 2] rfl (As := [PkE (bb 0) q (bb (0 + 1)) r T]) (fun h s => PkE_un.2 s) rfl ?_
 refine J.r hX tk 400 (fun _ => rfl) fun b46 => ?_
 refine J.ca hX (by kernel_rfl) (p_some q t hb o 180 [.pointer (some ⟨bb 0, 0, none⟩), .pointer (some ⟨bb (0 + 1), 0, none⟩)] (pkSpent t T) (PkE (bb 0) q (bb (0 + 1)) r T) (by kernel_rfl) (fun x => p_spent1 q t hb hl (bb 0) (bb (0 + 1)) r T x)) [1, 3] 0 rfl rfl rfl rfl rfl rfl (fun _ => rfl) ?_
 rintro v As ⟨a, c, rfl, rfl⟩
 refine ⟨_, rfl, trivial, ?_⟩
 refine J.turn1 [3] rfl (fun h s => PkE_un.1 s) rfl ?_
 refine J.r hX tk 400 (fun _ => rfl) fun b47 => ?_
 refine J.rt hX tk [1, 7, 5] rfl rfl rfl ?_
 exact ⟨a, c, rfl, rfl⟩
def pkLost (t : Tl) (T : Tb) (b i : Int) : Bool := IntKind.i64.wrap ((BitVec.ofInt IntKind.i64.bits ((Tb.look T.at_ i).getD AtV.zero).mask &&& BitVec.ofInt IntKind.i64.bits (Tl.andN (L.all t.d) (t.mask b))).toNat : Int) != 0
theorem p_Hurt2 (q : Nat) (t : Tl) (hb : t.b ≤ 1000) (hl : t.l.length = t.b) (bt bl bb r : Nat) (T : Tb) (b i : Int) : Fn Tryz.prog 182 [.int .i64 i, .pointer (some ⟨bl, 0, none⟩), .pointer (some ⟨bt, 0, none⟩), .pointer (some ⟨bb, 0, none⟩)] [TlA q t, .pt bt 199 [.pointer (some ⟨q, 0, none⟩)], .pt bl 30 [.pointer (some ⟨r, 0, none⟩)], TbA r T, .pt bb 3 [.int .i64 b]]
  (fun v As => v = .bool (pkLost t T b i) ∧ As = [TlA q t, .pt bt 199 [.pointer (some ⟨q, 0, none⟩)], .pt bl 30 [.pointer (some ⟨r, 0, none⟩)], TbA r T, .pt bb 3 [.int .i64 b]]) := by
 refine Fn.enter [0, 4, 3, 6] Tryz.func182 rfl rfl rfl fun X F hX => ?_
 refine J.r hX tk 400 (fun _ => rfl) fun b48 => ?_
 refine J.ca hX (by kernel_rfl) (tb_Get r T i) [4] 0 rfl rfl rfl rfl rfl rfl (fun _ => rfl) ?_
 rintro v As ⟨rfl, rfl⟩
 refine ⟨_, rfl, trivial, ?_⟩
 refine J.r hX tk 400 (fun _ => rfl) fun b50 => ?_
 refine J.plan (.of [1,17,21,6,8,14,27,28,32]) [6,7,8] [1,2,3,4,5] (by rw [hX.hP]; kernel_rfl) (by kernel_rfl) ?_
 refine J.r hX tk 400 (fun _ => rfl) fun b51 => ?_
 refine J.ca hX (by kernel_rfl) (tl_Geo q t) [1] 0 rfl rfl rfl rfl rfl rfl (fun _ => rfl) ?_
 rintro v As ⟨rfl, rfl⟩
 refine ⟨_, rfl, (by first | exact trivial | (repeat' (first | exact trivial | refine ⟨rfl, ?_⟩))), ?_⟩
 refine J.r hX tk 400 (fun _ => rfl) fun b53 => ?_
 refine J.ca hX (by kernel_rfl) (l_All t.d) [] 0 rfl rfl rfl rfl rfl rfl (fun _ => rfl) ?_
 rintro v As ⟨rfl, rfl⟩
 refine ⟨_, rfl, (by first | exact trivial | (repeat' (first | exact trivial | refine ⟨rfl, ?_⟩))), ?_⟩
 refine J.r hX tk 400 (fun _ => rfl) fun b55 => ?_
 refine J.ca hX (by kernel_rfl) (tl_Mask q t hb hl b) [1] 0 rfl rfl rfl rfl rfl rfl (fun _ => rfl) ?_
 rintro v As ⟨rfl, rfl⟩
 refine ⟨_, rfl, (by first | exact trivial | (repeat' (first | exact trivial | refine ⟨rfl, ?_⟩))), ?_⟩
 refine J.r hX tk 400 (fun _ => rfl) fun b57 => ?_
 refine J.rt hX tk [1, 2, 3, 4, 5] rfl rfl rfl ?_
 exact ⟨rfl, rfl⟩
def pkHurt (t : Tl) (T : Tb) (b : Int) : Bool := (T.ins b).any (pkLost t T b)
theorem p_Hurt1 (q : Nat) (t : Tl) (hb : t.b ≤ 1000) (hl : t.l.length = t.b) (bt bl r : Nat) (T : Tb) (n : Nat) (hlog : T.logical = (n : Int)) (hn : n ≤ 65536) (b : Int) : Fn Tryz.prog 181 [.int .i64 b, .pointer (some ⟨bl, 0, none⟩), .pointer (some ⟨bt, 0, none⟩)] [TlA q t, PkE bt q bl r T]
  (fun v As => v = .bool (pkHurt t T b) ∧ As = [TlA q t, PkE bt q bl r T]) := by
 have hlen : (T.ins b).length ≤ 65536 := by
  unfold Tb.ins
  split
  ·simp
  ·refine Nat.le_trans (T.inK_len b _) ?_; rw [hlog]; omega
 refine Fn.enter [0, 4, 3] Tryz.func181 rfl rfl rfl fun X F hX => ?_
 refine J.turn1 [2] rfl (fun h s => PkE_un.1 s) rfl ?_
 refine J.r hX tk 400 (fun _ => rfl) fun bb => ?_
 refine J.ca hX (by kernel_rfl) (tb_In r T n hlog hn b) [4] 0 rfl rfl rfl rfl rfl rfl (fun _ => rfl) ?_
 rintro v As ⟨a, c, rfl, rfl⟩
 refine ⟨_, rfl, trivial, ?_⟩
 refine J.r hX tk 400 (fun _ => rfl) fun b59 => ?_
 refine J.turn1 [1, 2, 3, 4, 5] rfl (As := [.hp (HP.of [TlA q t, .pt bt 199 [.pointer (some ⟨q, 0, none⟩)], .pt bl 30 [.pointer (some ⟨r, 0, none⟩)], TbA r T, .pt (bb 0) 3 [.int .i64 b]])]) (fun h s => Sep.hpOf.2 s) rfl ?_
 refine J.r hX tk 400 (fun _ => rfl) fun b60 => ?_
 refine J.ca hX (by kernel_rfl) (x_ContainsI 182 [.pointer (some ⟨bl, 0, none⟩), .pointer (some ⟨bt, 0, none⟩), .pointer (some ⟨bb 0, 0, none⟩)] (pkLost t T b) _ (by kernel_rfl) (T.ins b) (fun i _ => Fn.pack (p_Hurt2 q t hb hl bt bl (bb 0) r T b i)) a (T.ins b).length c rfl (by omega)) [6, 1] 0 rfl rfl rfl rfl rfl rfl (fun _ => rfl) ?_
 rintro v As ⟨rfl, rfl⟩
 refine ⟨_, rfl, trivial, ?_⟩
 refine J.turn1 [1] rfl (As := [TlA q t, .pt bt 199 [.pointer (some ⟨q, 0, none⟩)], .pt bl 30 [.pointer (some ⟨r, 0, none⟩)], TbA r T, .pt (bb 0) 3 [.int .i64 b]]) (fun h s => Sep.hpOf.1 s) rfl ?_
 refine J.turn1 [7, 8, 9] rfl (fun h s => PkE_un.2 s) rfl ?_
 refine J.r hX tk 400 (fun _ => rfl) fun b61 => ?_
 refine J.rt hX tk [1, 7] rfl rfl rfl ?_
 exact ⟨rfl, rfl⟩
theorem p_Hurt (q : Nat) (t : Tl) (hb : t.b ≤ 1000) (hl : t.l.length = t.b) (r : Nat) (T : Tb) (n : Nat) (hlog : T.logical = (n : Int)) (hn : n ≤ 65536) : Fn Tryz.prog 131 [.pointer (some ⟨q, 0, none⟩), .pointer (some ⟨r, 0, none⟩)] [TlA q t, TbA r T]
  (fun v As => ∃ a c, v = slv a (pkSome (pkHurt t T) (-1) t.b).length c ∧ As = [TlA q t, TbA r T, ownA 3 1 a (pkSome (pkHurt t T) (-1) t.b).length c (cellsI (pkSome (pkHurt t T) (-1) t.b))]) := by
 refine Fn.enter [2, 3] Tryz.func131 rfl rfl rfl fun X F hX => ?_
 refine J.r hX tk 400 (fun _ => rfl) fun bb => ?_
 refine J.turn1 [3, 4, 2] rfl (As := [PkE (bb 0) q (bb (0 + 1)) r T]) (fun h s => PkE_un.2 s) rfl ?_
 refine J.r hX tk 400 (fun _ => rfl) fun b62 => ?_
 refine J.ca hX (by kernel_rfl) (p_some q t hb (-1) 181 [.pointer (some ⟨bb (0 + 1), 0, none⟩), .pointer (some ⟨bb 0, 0, none⟩)] (pkHurt t T) (PkE (bb 0) q (bb (0 + 1)) r T) (by kernel_rfl) (fun x => p_Hurt1 q t hb hl (bb 0) (bb (0 + 1)) r T n hlog hn x)) [1, 3] 0 rfl rfl rfl rfl rfl rfl (fun _ => rfl) ?_
 rintro v As ⟨a, c, rfl, rfl⟩
 refine ⟨_, rfl, trivial, ?_⟩
 refine J.turn1 [3] rfl (fun h s => PkE_un.1 s) rfl ?_
 refine J.r hX tk 400 (fun _ => rfl) fun b63 => ?_
 refine J.rt hX tk [1, 7, 5] rfl rfl rfl ?_
 exact ⟨a, c, rfl, rfl⟩
namespace B13
def e1 : En := { En.zero with lpn := 4, seq := 7, role := 1 }
def e2 : En := { En.zero with lpn := 4, seq := 6, role := 1 }
def e3 : En := { En.zero with lpn := 10, seq := 9, role := 1 }
def T0 : Tb := ⟨10, [], [], 1⟩
def T1 : Tb := ⟨10, [(4, ⟨2, 1, 0, 7, 7, 1⟩)], [(2, 1)], 8⟩
def t0 : Tl := Tl.new 3 8 2
def t1 : Tl := ⟨3, 8, 2, ⟨3, 0, false, false⟩ :: List.replicate 7 Sb.zero, 0⟩
def t2 : Tl := ⟨3, 8, 2, [⟨3, 0, false, false⟩, Sb.zero, ⟨0, 2, false, false⟩, Sb.zero, Sb.zero, Sb.zero, Sb.zero, Sb.zero], 0⟩
theorem h0 : Tb.new 10 = T0 := by kernel_rfl
theorem h1 : Tb.put T0 e1 2 1 0 7 = T1 := by kernel_rfl
theorem h2 : Tb.put T1 e2 0 0 0 7 = T1 := by kernel_rfl
theorem h3 : Tb.put T1 e3 0 0 0 7 = T1 := by kernel_rfl
theorem p1 : Tb.putB T0 e1 = true := by kernel_rfl
theorem p2 : Tb.putB T1 e2 = false := by kernel_rfl
theorem p3 : Tb.putB T1 e3 = false := by kernel_rfl
theorem w1 : t0.wore 0 3 = t1 := by kernel_rfl
theorem w2 : t1.bad 1 2 = t2 := by kernel_rfl
theorem c0 (k : Int) : 0 ≤ T0.count k ∧ T0.count k ≤ 1000000 := by
 have : T0.count k = 0 := rfl
 rw [this]; omega
theorem c1 (k : Int) : 0 ≤ T1.count k ∧ T1.count k ≤ 1000000 := by
 have : T1.count k = (if k = 2 then some (1 : Int) else none).getD 0 := rfl
 rw [this]
 split <;> simp
theorem o1 : pkLeast (fun x y => cmpI (t2.wear x) (t2.wear y)) (pkSome (pkFree t2 T1) (-1) t2.b) = 1 := by kernel_rfl
theorem o2 : pkLeast (fun x y => orI [cmpI (T1.count x) (T1.count y), cmpI (t2.wear x) (t2.wear y)]) (pkSome (pkUsed t2 T1) (-1) t2.b) = 2 := by kernel_rfl
theorem o3 : (pkSome (pkFree t2 T1) (-1) t2.b).length = 7 := by kernel_rfl
theorem o4 : pkSome (pkSpent t2 T1) (-1) t2.b = [] := by kernel_rfl
theorem o5 : pkSome (pkHurt t2 T1) (-1) t2.b = [2] := by kernel_rfl
theorem o6 : T1.ins 2 = [4] := by kernel_rfl
theorem o7 : t2.mask 2 = 5 := by kernel_rfl
theorem o8 : t2.usable 2 = true := by kernel_rfl
theorem o9 : t2.alive = 7 := by kernel_rfl
theorem o10 : t2.wear 0 = 3 := by kernel_rfl
theorem o11 : t2.blank 3 = true := by kernel_rfl
theorem o12 : T1.count 2 = 1 := by kernel_rfl
end B13
theorem l13_begun : Fn Tryz.prog 79 [] [] (fun v As => v = .bool true ∧ As = []) := by
 refine Fn.enter [] Tryz.func79 rfl rfl rfl fun X F hX => ?_
 refine J.r hX tk 400 (fun _ => rfl) fun b1 => ?_
 refine J.ca hX (by kernel_rfl) (tb_New 10) [] 0 rfl rfl rfl rfl rfl rfl (fun _ => rfl) ?_
 rintro v As ⟨r, rfl, rfl⟩
 refine ⟨_, rfl, trivial, ?_⟩
 rw [B13.h0]
 refine J.r hX tk 400 (fun _ => rfl) fun b3 => ?_
 refine J.ca hX (by kernel_rfl) (tl_New 3 8 2 rfl) [] 0 rfl rfl rfl rfl rfl rfl (fun _ => rfl) ?_
 rintro v As ⟨q, rfl, rfl⟩
 refine ⟨_, rfl, trivial, ?_⟩
 rw [show Tl.new 3 8 2 = B13.t0 from rfl]
 refine J.r hX tk 400 (fun _ => rfl) fun b5 => ?_
 refine J.ca hX (by kernel_rfl) (tl_NewZ) [] 0 rfl rfl rfl rfl rfl rfl (fun _ => rfl) ?_
 rintro v As ⟨rfl, rfl⟩
 refine ⟨_, rfl, trivial, ?_⟩
 refine J.r hX tk 400 (fun _ => rfl) fun b7 => ?_
 refine J.cond rfl (fun h => absurd h (by decide)) (fun _ => ?_)
 refine J.r hX tk 400 (fun _ => rfl) fun b8 => ?_
 refine J.ca hX (by kernel_rfl) (tb_Put r B13.T0 B13.e1 2 1 0 7 (by decide) B13.c0) [1] 0 rfl rfl rfl rfl rfl rfl (fun _ => rfl) ?_
 rintro v As ⟨rfl, rfl⟩
 refine ⟨_, rfl, trivial, ?_⟩
 rw [B13.h1, B13.p1]
 refine J.r hX tk 400 (fun _ => rfl) fun b10 => ?_
 refine J.ca hX (by kernel_rfl) (tb_Put r B13.T1 B13.e2 0 0 0 7 (by decide) B13.c1) [1] 0 rfl rfl rfl rfl rfl rfl (fun _ => rfl) ?_
 rintro v As ⟨rfl, rfl⟩
 refine ⟨_, rfl, trivial, ?_⟩
 rw [B13.h2, B13.p2]
 refine J.r hX tk 400 (fun _ => rfl) fun b12 => ?_
 refine J.ca hX (by kernel_rfl) (tb_Put r B13.T1 B13.e3 0 0 0 7 (by decide) B13.c1) [1] 0 rfl rfl rfl rfl rfl rfl (fun _ => rfl) ?_
 rintro v As ⟨rfl, rfl⟩
 refine ⟨_, rfl, trivial, ?_⟩
 rw [B13.h3, B13.p3]
 refine J.r hX tk 400 (fun _ => rfl) fun b14 => ?_
 refine J.ca hX (by kernel_rfl) (tb_Get r B13.T1 4) [1] 0 rfl rfl rfl rfl rfl rfl (fun _ => rfl) ?_
 rintro v As ⟨rfl, rfl⟩
 refine ⟨_, rfl, trivial, ?_⟩
 rw [show Tb.look B13.T1.at_ 4 = some ⟨2, 1, 0, 7, 7, 1⟩ from rfl, Option.getD_some, Option.isSome_some]
 refine J.r hX tk 400 (fun _ => rfl) fun b16 => ?_
 refine J.ca hX (by kernel_rfl) (tl_Wore q B13.t0 (by decide) rfl 0 3) [2] 0 rfl rfl rfl rfl rfl rfl (fun _ => rfl) ?_
 rintro v As ⟨rfl, rfl⟩
 refine ⟨_, rfl, trivial, ?_⟩
 rw [B13.w1]
 refine J.r hX tk 400 (fun _ => rfl) fun b18 => ?_
 refine J.ca hX (by kernel_rfl) (tl_Bad q B13.t1 (by decide) rfl 1 2) [2] 0 rfl rfl rfl rfl rfl rfl (fun _ => rfl) ?_
 rintro v As ⟨rfl, rfl⟩
 refine ⟨_, rfl, trivial, ?_⟩
 rw [B13.w2]
 refine J.r hX tk 400 (fun _ => rfl) fun b20 => ?_
 refine J.ca hX (by kernel_rfl) (l7_Begun) [] 0 rfl rfl rfl rfl rfl rfl (fun _ => rfl) ?_
 rintro v As ⟨rfl, rfl⟩
 refine ⟨_, rfl, trivial, ?_⟩
 refine J.r hX tk 400 (fun _ => rfl) fun b22 => ?_
 refine J.ca hX (by kernel_rfl) (l9_Begun) [] 0 rfl rfl rfl rfl rfl rfl (fun _ => rfl) ?_
 rintro v As ⟨rfl, rfl⟩
 refine ⟨_, rfl, trivial, ?_⟩
 refine J.r hX tk 400 (fun _ => rfl) fun b24 => ?_
 refine J.ca hX (by kernel_rfl) (tb_Len r B13.T1) [1] 0 rfl rfl rfl rfl rfl rfl (fun _ => rfl) ?_
 rintro v As ⟨rfl, rfl⟩
 refine ⟨_, rfl, trivial, ?_⟩
 refine J.r hX tk 400 (fun _ => rfl) fun b26 => ?_
 refine J.ca hX (by kernel_rfl) (tb_Count r B13.T1 2) [1] 0 rfl rfl rfl rfl rfl rfl (fun _ => rfl) ?_
 rintro v As ⟨rfl, rfl⟩
 refine ⟨_, rfl, trivial, ?_⟩
 rw [B13.o12]
 refine J.r hX tk 400 (fun _ => rfl) fun b28 => ?_
 refine J.ca hX (by kernel_rfl) (tb_In r B13.T1 10 rfl (by decide) 2) [1] 0 rfl rfl rfl rfl rfl rfl (fun _ => rfl) ?_
 rintro v As ⟨a1, c1, rfl, rfl⟩
 refine ⟨_, rfl, trivial, ?_⟩
 rw [B13.o6]
 refine J.r hX tk 400 (fun _ => rfl) fun b30 => ?_
 refine J.ca hX (by kernel_rfl) (tb_Next r B13.T1) [1] 0 rfl rfl rfl rfl rfl rfl (fun _ => rfl) ?_
 rintro v As ⟨rfl, rfl⟩
 refine ⟨_, rfl, trivial, ?_⟩
 refine J.r hX tk 400 (fun _ => rfl) fun b32 => ?_
 refine J.ca hX (by kernel_rfl) (tl_Wear q B13.t2 (by decide) rfl 0) [2] 0 rfl rfl rfl rfl rfl rfl (fun _ => rfl) ?_
 rintro v As ⟨rfl, rfl⟩
 refine ⟨_, rfl, trivial, ?_⟩
 rw [B13.o10]
 refine J.r hX tk 400 (fun _ => rfl) fun b34 => ?_
 refine J.ca hX (by kernel_rfl) (tl_Mask q B13.t2 (by decide) rfl 2) [2] 0 rfl rfl rfl rfl rfl rfl (fun _ => rfl) ?_
 rintro v As ⟨rfl, rfl⟩
 refine ⟨_, rfl, trivial, ?_⟩
 rw [B13.o7]
 refine J.r hX tk 400 (fun _ => rfl) fun b36 => ?_
 refine J.ca hX (by kernel_rfl) (tl_Usable q B13.t2 (by decide) rfl 2) [2] 0 rfl rfl rfl rfl rfl rfl (fun _ => rfl) ?_
 rintro v As ⟨rfl, rfl⟩
 refine ⟨_, rfl, trivial, ?_⟩
 rw [B13.o8]
 refine J.r hX tk 400 (fun _ => rfl) fun b38 => ?_
 refine J.ca hX (by kernel_rfl) (tl_Alive q B13.t2) [2] 0 rfl rfl rfl rfl rfl rfl (fun _ => rfl) ?_
 rintro v As ⟨rfl, rfl⟩
 refine ⟨_, rfl, trivial, ?_⟩
 rw [B13.o9]
 refine J.r hX tk 400 (fun _ => rfl) fun b40 => ?_
 refine J.ca hX (by kernel_rfl) (p_Open q B13.t2 (by decide) rfl r B13.T1 (-1)) [2, 1] 0 rfl rfl rfl rfl rfl rfl (fun _ => rfl) ?_
 rintro v As ⟨rfl, rfl⟩
 refine ⟨_, rfl, trivial, ?_⟩
 rw [B13.o1]
 refine J.r hX tk 400 (fun _ => rfl) fun b42 => ?_
 refine J.ca hX (by kernel_rfl) (p_Victim q B13.t2 (by decide) rfl r B13.T1 (-1)) [2, 1] 0 rfl rfl rfl rfl rfl rfl (fun _ => rfl) ?_
 rintro v As ⟨rfl, rfl⟩
 refine ⟨_, rfl, trivial, ?_⟩
 rw [B13.o2]
 refine J.r hX tk 400 (fun _ => rfl) fun b44 => ?_
 refine J.ca hX (by kernel_rfl) (p_Free q B13.t2 (by decide) rfl r B13.T1 (-1)) [2, 1] 0 rfl rfl rfl rfl rfl rfl (fun _ => rfl) ?_
 rintro v As ⟨rfl, rfl⟩
 refine ⟨_, rfl, trivial, ?_⟩
 rw [B13.o3]
 refine J.r hX tk 400 (fun _ => rfl) fun b46 => ?_
 refine J.ca hX (by kernel_rfl) (p_Spent q B13.t2 (by decide) rfl r B13.T1 (-1)) [2, 1] 0 rfl rfl rfl rfl rfl rfl (fun _ => rfl) ?_
 rintro v As ⟨a2, c2, rfl, rfl⟩
 refine ⟨_, rfl, trivial, ?_⟩
 rw [B13.o4]
 refine J.r hX tk 400 (fun _ => rfl) fun b48 => ?_
 refine J.ca hX (by kernel_rfl) (p_Hurt q B13.t2 (by decide) rfl r B13.T1 10 rfl (by decide)) [2, 1] 0 rfl rfl rfl rfl rfl rfl (fun _ => rfl) ?_
 rintro v As ⟨a3, c3, rfl, rfl⟩
 refine ⟨_, rfl, trivial, ?_⟩
 rw [B13.o5]
 refine J.r hX tk 400 (fun _ => rfl) fun b50 => ?_
 refine J.ca hX (by kernel_rfl) (tl_Blank q B13.t2 (by decide) rfl 3) [2] 0 rfl rfl rfl rfl rfl rfl (fun _ => rfl) ?_
 rintro v As ⟨rfl, rfl⟩
 refine ⟨_, rfl, trivial, ?_⟩
 rw [B13.o11]
 refine J.r hX tk 400 (fun _ => rfl) fun b52 => ?_
 refine J.rt hX tk [] rfl rfl rfl ?_
 exact ⟨rfl, rfl⟩
theorem l13_Begun : Fn Tryz.prog 38 [] [] (fun v As => v = .bool true ∧ As = []) := by
 refine Fn.enter [] Tryz.func38 rfl rfl rfl fun X F hX => ?_
 refine J.r hX tk 400 (fun _ => rfl) fun b53 => ?_
 refine J.ca hX (by kernel_rfl) (l13_begun) [] 0 rfl rfl rfl rfl rfl rfl (fun _ => rfl) ?_
 rintro v As ⟨rfl, rfl⟩
 refine ⟨_, rfl, trivial, ?_⟩
 refine J.r hX tk 400 (fun _ => rfl) fun b55 => ?_
 refine J.rt hX tk [] rfl rfl rfl ?_
 exact ⟨rfl, rfl⟩
theorem cellsE_set : ∀ (l : List En) (r : List Value) (k : Nat) (x : En), k < l.length → (cellsE l ++ r).take (k * 19) ++ enL x ++ (cellsE l ++ r).drop (k * 19 + 19) = cellsE (l.set k x) ++ r
 | [], _, _, _, h => by simp at h
 | y :: l, r, 0, x, h => by simp [cellsE, enL]
 | y :: l, r, k + 1, x, h => by
  have := cellsE_set l r k x (by simpa using h)
  have hy : (enL y).length = 19 := rfl
  have e1 : cellsE (y :: l) ++ r = enL y ++ (cellsE l ++ r) := by simp [cellsE]
  have e2 : cellsE ((y :: l).set (k + 1) x) ++ r = enL y ++ (cellsE (l.set k x) ++ r) := by simp [cellsE]
  rw [e1, e2, ← this, show (k + 1) * 19 = (enL y).length + k * 19 from by omega, List.take_length_add_append, show (enL y).length + k * 19 + 19 = (enL y).length + (k * 19 + 19) from by omega, ← List.drop_drop, List.drop_left' rfl]
  simp only [List.append_assoc]
theorem cellsE_len : ∀ l : List En, (cellsE l).length = l.length * 19
 | [] => rfl
 | x :: l => by
  have := cellsE_len l
  have e1 : cellsE (x :: l) = enL x ++ cellsE l := by simp [cellsE]
  have hy : (enL x).length = 19 := rfl
  rw [e1, List.length_append, this, hy, List.length_cons]; omega
def idxE (p : En → Bool) (l : List En) : Int := match l.findIdx? p with
 | some k => k
 | none => -1
theorem idxE_step {p : En → Bool} {l : List En} {k : Nat} {x : En} (h : l[k]? = some x) (h0 : ∀ i < k, p (l.getD i En.zero) = false) (hp : p x = true) : l.findIdx? p = some k := by
 rw [List.findIdx?_eq_some_iff_getElem]
 obtain ⟨h1, h2⟩ := List.getElem?_eq_some_iff.1 h
 refine ⟨h1, by rw [h2]; exact hp, fun j hj => ?_⟩
 have := h0 j hj
 rw [List.getD_eq_getElem?_getD, List.getElem?_eq_getElem (by omega), Option.getD_some] at this
 simp [this]
theorem idxE_none {p : En → Bool} {l : List En} (h0 : ∀ i < l.length, p (l.getD i En.zero) = false) : l.findIdx? p = none := by
 rw [List.findIdx?_eq_none_iff]
 intro x hx
 obtain ⟨i, hi, rfl⟩ := List.mem_iff_getElem.1 hx
 have := h0 i hi
 rwa [List.getD_eq_getElem?_getD, List.getElem?_eq_getElem hi, Option.getD_some] at this
theorem idxE_any (p : En → Bool) (l : List En) : decide (idxE p l ≥ 0) = l.any p := by
 unfold idxE
 cases h : l.findIdx? p with
 | none =>
  rw [List.findIdx?_eq_none_iff] at h
  have : l.any p = false := by rw [List.any_eq_false]; exact fun x hx => by simp [h x hx]
  rw [this]; rfl
 | some k =>
  rw [List.findIdx?_eq_some_iff_getElem] at h
  obtain ⟨h1, h2, _⟩ := h
  have : l.any p = true := List.any_eq_true.2 ⟨l[k], List.getElem_mem _, h2⟩
  rw [this]; simp
theorem x_IndexE (c : Nat) (cs : List Value) (p : En → Bool) (A : Atom) (hcal : callable Tryz.prog c = true) (l : List En) (hf : ∀ x ∈ l, Fn Tryz.prog c (enV x :: cs) [A] (fun v As => v = .bool (p x) ∧ As = [A]))
  (a : Option Nat) (n cap : Nat) (hl : l.length = n) (hn : n ≤ 4611686018427387904) : Fn Tryz.prog 75 [slv a n cap, fnC c cs] [ownA 45 19 a n cap (cellsE l), A]
  (fun v As => v = .int .i64 (idxE p l) ∧ As = [ownA 45 19 a n cap (cellsE l), A]) := by
 refine Fn.enter [0, 0] Tryz.func75 rfl rfl rfl fun X F hX => ?_
 refine J.r hX tk 400 (fun _ => rfl) fun b1 => ?_
 refine J.lo (α := Nat) (fun k => k ≤ n ∧ ∀ i < k, p (l.getD i En.zero) = false) (fun k => [⟨8, .int .i64 k, 0, .tt⟩, ⟨7, .int .i64 n, 0, .tt⟩, ⟨0, slv a n cap, 0, .tt⟩, ⟨1, fnC c cs, 0, .tt⟩]) [] (fun k => []) (fun k => n - k) (0) (⟨by omega, by omega⟩) rfl ?_ (fun _ => rfl) fun k hI => ?_
 ·rfl
 refine J.r hX tk 400 (fun _ => rfl) fun b3 => ?_
 refine J.cond rfl (fun h1 => ?_) (fun h1 => ?_)
 ·simp only [decide_eq_true_eq, Int.ofNat_lt] at h1
  cases a with
  | none =>
   refine J.know (fun h' s => (s.get (i := 1) rfl).2.1) fun hn0 => ?_
   omega
  | some g =>
   have hk : l[k]? = some (l.getD k En.zero) := by rw [List.getD_eq_getElem?_getD, List.getElem?_eq_getElem (by omega), Option.getD_some]
   refine J.r hX tk 400 (fun _ => rfl) fun b4 => ?_
   refine J.val hX (enV (l.getD k En.zero)) 0 rfl rfl (fun hg a w he hs => ?_) rfl trivial ?_
   ·exact ownN_run tk rfl rfl he rfl rfl rfl (hs.get (i := 1) rfl) (by rw [show 0 + (k : Int).toNat * 19 = k * 19 from by omega]; have := cellsE_at l [] k _ hk; rwa [List.append_nil] at this) rfl
   refine J.r hX tk 400 (fun _ => rfl) fun b5 => ?_
   refine J.call hX hcal (hf (l.getD k En.zero) (List.mem_of_getElem? hk)) [2] 0 rfl rfl rfl rfl (by (repeat' (first | exact Conj.nil | refine Conj.cons ?_ ?_ | omega | exact hq0 | (simpa using hq0) | (exact fun h => h) | exact rfl | (intro hq; have hq0 := hq; try simp only [Bool.and_eq_true, Bool.or_eq_true, decide_eq_true_eq, Bool.not_eq_true', decide_eq_false_iff_not] at hq) | (simp; done) | (simp; omega) | decide))) rfl rfl (fun _ => rfl) ?_
   rintro v As ⟨rfl, rfl⟩
   refine ⟨_, rfl, trivial, ?_⟩
   refine J.r hX tk 400 (fun _ => rfl) fun b6 => ?_
   refine J.cond rfl (fun h2 => ?_) (fun h2 => ?_)
   ·refine J.r hX tk 400 (fun _ => rfl) fun b7 => ?_
    refine J.rt hX tk [1, 2] rfl rfl rfl ?_
    exact ⟨by rw [idxE, idxE_step hk hI.2 h2], rfl⟩
   ·refine J.r hX tk 400 (fun _ => rfl) fun b8 => ?_
    refine J.nx (k + 1) (⟨by omega, fun i hi => by
     rcases Nat.lt_succ_iff_lt_or_eq.1 hi with h3 | h3
     ·exact hI.2 i h3
     ·rw [h3]; exact h2⟩) (by omega) (fun _ s => s)
 ·simp only [decide_eq_false_iff_not, Int.ofNat_lt] at h1
  refine J.r hX tk 400 (fun _ => rfl) fun b9 => ?_
  refine J.rt hX tk [1, 2] rfl rfl rfl ?_
  exact ⟨by rw [idxE, idxE_none (fun i hi => hI.2 i (by omega))], rfl⟩
theorem cellsE_one (l : List En) : ∀ u ∈ cellsE l, u.oneCell' = true := by
 intro u hu
 simp only [cellsE, List.mem_flatMap] at hu
 obtain ⟨s, _, hu⟩ := hu
 simp only [enL, List.mem_cons, List.not_mem_nil, or_false] at hu
 rcases hu with rfl | rfl | rfl | rfl | rfl | rfl | rfl | rfl | rfl | rfl | rfl | rfl | rfl | rfl | rfl | rfl | rfl | rfl | rfl <;> rfl
def DelE (p : En → Bool) (l m : List En) (i j : Nat) : Prop := m.length = l.length ∧ i < j ∧ j ≤ l.length ∧ m.drop j = l.drop j ∧ m.take i ++ (l.drop j).filter (fun x => !p x) = l.filter (fun x => !p x)
theorem DelE.start {p : En → Bool} {l : List En} {k : Nat} (h : l.findIdx? p = some k) : DelE p l l k (k + 1) := by
 rw [List.findIdx?_eq_some_iff_getElem] at h
 obtain ⟨h1, h2, h3⟩ := h
 refine ⟨rfl, by omega, by omega, rfl, ?_⟩
 have e : l = l.take k ++ l[k] :: l.drop (k + 1) := by rw [← List.drop_eq_getElem_cons h1, List.take_append_drop]
 have e2 : (l.take k).filter (fun x => !p x) = l.take k := by
  rw [List.filter_eq_self]
  intro x hx
  obtain ⟨i, hi, rfl⟩ := List.mem_iff_getElem.1 hx
  rw [List.getElem_take]
  have := h3 i (by simp at hi; omega)
  simpa using this
 conv => rhs; rw [e]
 rw [List.filter_append, e2, List.filter_cons_of_neg (by simp [h2])]
theorem DelE.skip {p : En → Bool} {l m : List En} {i j : Nat} (h : DelE p l m i j) (hj : j < l.length) (hp : p (m.getD j En.zero) = true) : DelE p l m i (j + 1) := by
 obtain ⟨h1, h2, h3, h4, h5⟩ := h
 have e1 : m[j]? = l[j]? := by have := congrArg (fun z => z[0]?) h4; simpa using this
 have hx : l[j] = m.getD j En.zero := by rw [List.getD_eq_getElem?_getD, e1, List.getElem?_eq_getElem hj, Option.getD_some]
 refine ⟨h1, by omega, by omega, ?_, ?_⟩
 ·have := congrArg (List.drop 1) h4
  simpa [List.drop_drop] using this
 ·rw [← h5, List.drop_eq_getElem_cons hj, List.filter_cons_of_neg (by rw [hx, hp]; simp)]
theorem DelE.keep {p : En → Bool} {l m : List En} {i j : Nat} (h : DelE p l m i j) (hj : j < l.length) (hp : p (m.getD j En.zero) = false) : DelE p l (m.set i (m.getD j En.zero)) (i + 1) (j + 1) := by
 obtain ⟨h1, h2, h3, h4, h5⟩ := h
 have e1 : m[j]? = l[j]? := by have := congrArg (fun z => z[0]?) h4; simpa using this
 have hx : l[j] = m.getD j En.zero := by rw [List.getD_eq_getElem?_getD, e1, List.getElem?_eq_getElem hj, Option.getD_some]
 refine ⟨by simp [h1], by omega, by omega, ?_, ?_⟩
 ·rw [List.drop_set_of_lt (by omega)]
  have := congrArg (List.drop 1) h4
  simpa [List.drop_drop] using this
 ·rw [← h5, List.drop_eq_getElem_cons hj, List.filter_cons_of_pos (by rw [hx, hp]; simp), hx, List.take_set, List.take_add_one, List.getElem?_eq_getElem (by omega)]
  rw [List.set_append_right _ _ (by simp; omega)]
  simp [List.length_take, Nat.min_eq_left (show i ≤ m.length by omega)]
theorem x_DeleteE (c : Nat) (cs : List Value) (p : En → Bool) (A : Atom) (hcal : callable Tryz.prog c = true) (hf : ∀ x, Fn Tryz.prog c (enV x :: cs) [A] (fun v As => v = .bool (p x) ∧ As = [A]))
  (a : Option Nat) (n cap : Nat) (l : List En) (hl : l.length = n) (hn : n ≤ 4611686018427387904) : Fn Tryz.prog 71 [slv a n cap, fnC c cs] [ownA 45 19 a n cap (cellsE l), A]
  (fun v As => ∃ l', l' = l.filter (fun x => !p x) ∧ v = slv a l'.length cap ∧ As = [ownA 45 19 a l'.length cap (cellsE l'), A]) := by
 refine Fn.enter [0, 0] Tryz.func71 rfl rfl rfl fun X F hX => ?_
 refine J.r hX tk 400 (fun _ => rfl) fun b18 => ?_
 refine J.ca hX (by kernel_rfl) (x_IndexE c cs p A hcal l (fun x _ => hf x) a n cap hl hn) [1, 2] 0 rfl rfl rfl rfl rfl rfl (fun _ => rfl) ?_
 rintro v As ⟨rfl, rfl⟩
 refine ⟨_, rfl, trivial, ?_⟩
 rw [idxE]
 cases hx : l.findIdx? p with
 | none =>
  dsimp only
  refine J.r hX tk 400 (fun _ => rfl) fun b20 => ?_
  refine J.cond rfl (fun _ => ?_) (fun h => by simp at h)
  refine J.r hX tk 400 (fun _ => rfl) fun b21 => ?_
  refine J.rt hX tk [1, 2] rfl rfl rfl ?_
  have : l.filter (fun x => !p x) = l := by
   rw [List.filter_eq_self]
   intro x hm
   rw [List.findIdx?_eq_none_iff] at hx
   simp [hx x hm]
  exact ⟨l, this.symm, by rw [hl], by rw [hl]; rfl⟩
 | some k =>
  dsimp only
  refine J.r hX tk 400 (fun _ => rfl) fun b22 => ?_
  refine J.cond rfl (fun h0 => ?_) (fun h0 => ?_)
  ·simp only [beq_iff_eq] at h0; omega
  have hk : k < n := by rw [List.findIdx?_eq_some_iff_getElem] at hx; obtain ⟨h1, _⟩ := hx; omega
  cases a with
  | none =>
   refine J.know (fun h' s => (s.get (i := 1) rfl).2.1) fun hn0 => ?_
   omega
  | some g =>
   refine J.openOwn 1 rfl rfl (fun _ => rfl) fun r q1 q2 q3 q4 => ?_
   refine J.r hX tk 400 (fun _ => rfl) fun b23 => ?_
   rw [show (k : Int) + 1 = ((k + 1 : Nat) : Int) from by omega]
   refine J.r hX tk 400 (fun _ => rfl) fun b24 => ?_
   refine J.lo (α := (Nat × Nat × List En)) (fun x => DelE p l x.2.2 x.1 x.2.1) (fun x => [⟨6, .int .i64 x.2.1, 0, .tt⟩, ⟨5, .int .i64 x.1, 0, .tt⟩, ⟨0, slv (some g) n cap, 0, .tt⟩, ⟨1, fnC c cs, 0, .tt⟩]) [1] (fun x => [.pt g 45 (cellsE x.2.2 ++ r)]) (fun x => n - x.2.1) ((k, k + 1, l)) (DelE.start hx) rfl ?_ (fun _ => rfl) fun x hI => ?_
   ·rfl
   obtain ⟨i, j, m⟩ := x
   dsimp only at hI ⊢
   have hml : m.length = n := hI.1.trans hl
   have hij : i < j := hI.2.1
   have hjn : j ≤ n := by have := hI.2.2.1; omega
   refine J.r hX tk 400 (fun _ => rfl) fun b25 => ?_
   refine J.cond rfl (fun h1 => ?_) (fun h1 => ?_)
   ·simp only [decide_eq_true_eq, Int.ofNat_lt] at h1
    have hget : m[j]? = some (m.getD j En.zero) := by rw [List.getD_eq_getElem?_getD, List.getElem?_eq_getElem (by omega), Option.getD_some]
    refine J.r hX tk 400 (fun _ => rfl) fun b26 => ?_
    refine J.val hX (enV (m.getD j En.zero)) 0 rfl rfl (fun hg a w he hs => ?_) rfl trivial ?_
    ·exact loadN_run tk rfl rfl he rfl rfl rfl (hs.get (i := 1) rfl) (by rw [show 0 + (j : Int).toNat * 19 = j * 19 from by omega]; exact cellsE_at m r _ _ hget) rfl
    refine J.r hX tk 400 (fun _ => rfl) fun b27 => ?_
    refine J.call hX hcal (hf (m.getD j En.zero)) [2] 0 rfl rfl rfl rfl (by (repeat' (first | exact Conj.nil | refine Conj.cons ?_ ?_ | omega | exact hq0 | (simpa using hq0) | (exact fun h => h) | exact rfl | (intro hq; have hq0 := hq; try simp only [Bool.and_eq_true, Bool.or_eq_true, decide_eq_true_eq, Bool.not_eq_true', decide_eq_false_iff_not] at hq) | (simp; done) | (simp; omega) | decide))) rfl rfl (fun _ => rfl) ?_
    rintro v As ⟨rfl, rfl⟩
    refine ⟨_, rfl, trivial, ?_⟩
    refine J.r hX tk 400 (fun _ => rfl) fun b28 => ?_
    refine J.cond rfl (fun h2 => ?_) (fun h2 => ?_)
    ·simp only [Bool.not_eq_true'] at h2
     refine J.r hX tk 400 (fun _ => rfl) fun b29 => ?_
     refine J.storeN hX tk 1 rfl rfl rfl rfl rfl rfl rfl rfl rfl rfl rfl rfl rfl ?_ (cellsE (m.set i (m.getD j En.zero)) ++ r) ?_ rfl (fun _ => rfl) ⟨trivial, ?_⟩
     ·rw [List.length_append, cellsE_len]; show 0 + (i : Int).toNat * 19 + 19 ≤ _; omega
     ·rw [show 0 + (i : Int).toNat * 19 = i * 19 from by omega]; exact cellsE_set m r i _ (by omega)
     refine J.r hX tk 400 (fun _ => rfl) fun b30 => ?_
     refine J.nS ((i + 1, j + 1, m.set i (m.getD j En.zero))) (hI.keep (by omega) h2) (by dsimp only; omega) [0, 1, 2] rfl rfl
    ·simp only [Bool.not_eq_false'] at h2
     refine J.r hX tk 400 (fun _ => rfl) fun b31 => ?_
     refine J.nS ((i, j + 1, m)) (hI.skip (by omega) h2) (by dsimp only; omega) [0, 1, 2] rfl rfl
   ·simp only [decide_eq_false_iff_not, Int.ofNat_lt] at h1
    obtain rfl : j = n := by omega
    have hfil : m.take i = l.filter (fun x => !p x) := by
     have h5 := hI.2.2.2.2
     rw [List.drop_of_length_le (by omega)] at h5
     simpa using h5
    refine J.r hX tk 400 (fun _ => rfl) fun b32 => ?_
    refine J.clear hX tk 1 rfl rfl rfl rfl rfl rfl rfl rfl rfl rfl rfl ?_ (fun _ => rfl) (fun _ => rfl) fun cs' z1 z2 => ⟨trivial, ?_⟩
    ·rw [List.length_append, cellsE_len]; rw [cellsE_len] at q4
     show 0 + (i : Int).toNat * 19 + (j - (i : Int).toNat) * 19 ≤ _
     have : (i : Int).toNat = i := by omega
     rw [this]; omega
    have hilen : (l.filter (fun x => !p x)).length = i := by rw [← hfil, List.length_take]; omega
    refine J.closeOwn (e := 45) (size := 19) (n := i) (cap := cap) (xs := cellsE (l.filter (fun x => !p x))) 1 rfl rfl (by rw [cellsE_len, hilen]) (by omega) q3 (by rw [z1, List.length_append, cellsE_len, hml]; rw [cellsE_len, hl] at q4; exact q4) ?_ rfl ?_
    ·have z3 : (0 + (i : Int).toNat * 19) = i * 19 := by omega
     rw [z3] at z2
     rw [z2, ← hfil]
     have e : cellsE m = cellsE (m.take i) ++ cellsE (m.drop i) := by
      conv => lhs; rw [← List.take_append_drop i m]
      simp only [cellsE, List.flatMap_append]
     rw [e, List.append_assoc, List.take_left' (by rw [cellsE_len, List.length_take, Nat.min_eq_left (by omega)])]
    refine J.r hX tk 400 (fun _ => rfl) fun b33 => ?_
    refine J.rt hX tk [1, 2] rfl rfl rfl ?_
    exact ⟨_, rfl, by rw [hilen]; rfl, by rw [hilen]; rfl⟩
end Go.Proofs.YtoideahgjgaddaaGreat
