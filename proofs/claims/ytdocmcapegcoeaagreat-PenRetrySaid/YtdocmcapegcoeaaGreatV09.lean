/- Helpers, proved here. No condition. -/
import Derived.Test.YtdocmcapegcoeaaGreatV06
import Derived.Test.YtdocmcapegcoeaaGreatV08
import Derived.Laws.AppendOwn
set_option maxRecDepth 20000
set_option linter.all false
namespace Go.Proofs.YtdocmcapegcoeaaGreat
open Go Go.RowKit
def lenT (x : Nat) : Nat := ([0, 1, 2, 2, 3, 3, 3, 3, 4, 4, 4, 4, 4] : List Nat).getD x 0
theorem str9 : Tryz.prog.underlying 9 = some .string := by kernel_rfl
theorem indexStr_run {P : Program} {E : Env} {w : World} {n0 : Nat} {a : Act} {o : Oper} {ty : TypeId} {s : ByteArray} {y : Operand} {k tg : Nat} {g : G} {ik : IntKind} {i : Int} {b : UInt8} (hop : o.op = .index ty (.const (.string s)) y) (hy : ev E y = some ⟨k, .int ik i, tg, g⟩) (he : EnvOK n0 E a) (hg : g.on = true) (hd : P.underlying ty = some .string)
  (h0 : 0 ≤ i) (hb : s.data.toList[i.toNat]? = some b) : (execOp a.eval o).run P w = .ok (.value (.int .u8 b.toNat)) w := by
 have ey := ev_spec he hy
 simp only [Slot.val, hg] at ey
 have h1 := run_index_string (P := P) (w := w) ty s ik i hd
 have hlt : i.toNat < s.size := (List.getElem?_eq_some_iff.1 hb).1
 have hv : s[i.toNat]'hlt = b := by
  have := (List.getElem?_eq_some_iff.1 hb).2
  rw [← this]; rfl
 rw [dif_pos ⟨h0, by omega⟩, hv] at h1
 simp only [execOp, hop, ey, Sem.run_bind]
 have e1 : a.eval (.const (.string s)) = .string s := rfl
 rw [e1, h1]
 rfl
theorem lenT_le {x : Nat} (hx : x ≤ 12) : lenT x ≤ 4 := by
 obtain rfl | rfl | rfl | rfl | rfl | rfl | rfl | rfl | rfl | rfl | rfl | rfl | rfl : x = 0 ∨ x = 1 ∨ x = 2 ∨ x = 3 ∨ x = 4 ∨ x = 5 ∨ x = 6 ∨ x = 7 ∨ x = 8 ∨ x = 9 ∨ x = 10 ∨ x = 11 ∨ x = 12 := by omega
 all_goals decide
theorem b_Len64 (x : Nat) (hx : x ≤ 12) : Fn Tryz.prog 236 [.int .u64 x] [] (fun v As => (∃ k : Nat, k ≤ 8 ∧ v = .int .i64 k) ∧ As = []) := by
 have h4 := lenT_le hx
 refine Fn.enter [0] Tryz.func236 rfl rfl rfl fun X F hX => ?_
 refine J.q hX fun b1 => ?_
 refine J.cond rfl (fun h1 => ?_) (fun h1 => ?_)
 ·simp only [decide_eq_true_eq] at h1; omega
 refine J.q hX fun b2 => ?_
 refine J.cond rfl (fun h2 => ?_) (fun h2 => ?_)
 ·simp only [decide_eq_true_eq] at h2; omega
 refine J.q hX fun b3 => ?_
 refine J.cond rfl (fun h3 => ?_) (fun h3 => ?_)
 ·simp only [decide_eq_true_eq] at h3; omega
 refine J.q hX fun b4 => ?_
 refine J.val hX (.int .u8 (UInt8.ofNat (lenT x)).toNat) 0 rfl rfl (fun hg a w he hs => ?_) rfl trivial ?_
 ·refine indexStr_run rfl rfl he rfl str9 (by omega) ?_
  obtain rfl | rfl | rfl | rfl | rfl | rfl | rfl | rfl | rfl | rfl | rfl | rfl | rfl : x = 0 ∨ x = 1 ∨ x = 2 ∨ x = 3 ∨ x = 4 ∨ x = 5 ∨ x = 6 ∨ x = 7 ∨ x = 8 ∨ x = 9 ∨ x = 10 ∨ x = 11 ∨ x = 12 := by omega
  all_goals rfl
 have h5 : (UInt8.ofNat (lenT x)).toNat = lenT x := by rw [UInt8.toNat_ofNat']; omega
 rw [h5]
 refine J.q hX fun b5 => ?_
 refine J.ru hX [] ?_
 exact ⟨⟨lenT x, by omega, by simp⟩, rfl⟩
theorem b_Len (x : Nat) (hx : x ≤ 12) : Fn Tryz.prog 210 [.int .u64 x] [] (fun v As => (∃ k : Nat, k ≤ 8 ∧ v = .int .i64 k) ∧ As = []) := by
 refine Fn.enter [0] Tryz.func210 rfl rfl rfl fun X F hX => ?_
 refine J.q hX fun b6 => ?_
 refine J.cF ?_
 refine J.q hX fun b7 => ?_
 refine J.cb hX (b_Len64 x hx) [] ?_
 rintro v As ⟨⟨k, hk, rfl⟩, rfl⟩
 refine ⟨_, rfl, trivial, ?_⟩
 refine J.q hX fun b9 => ?_
 refine J.ru hX [] ?_
 exact ⟨⟨k, hk, rfl⟩, rfl⟩
theorem p_Sort (c : Nat) (f : A3 → A3 → Int) (hcal : callable Tryz.prog c = true) (hf : ∀ x y, Fn Tryz.prog c [aggA x, aggA y] [] (fun v As => v = .int .i64 (f x y) ∧ As = []))
  (g n cap : Nat) (l : List A3) (hl : l.length = n) (hn : n ≤ 12) (r : List Value) (k : Nat) : Fn Tryz.prog 243 [.slice (some ⟨g, 0, none⟩) n cap, .int .i64 0, .int .i64 n, .int .i64 k, fnV c] [.pt g 53 (cellsA l ++ r)]
  (fun v As => v = .tuple #[] ∧ As = [.pt g 53 (cellsA (isort f l) ++ r)]) := by
 refine Fn.enter [2, 0, 0, 0, 0] Tryz.func243 rfl rfl rfl fun X F hX => ?_
 refine J.q hX fun b10 => ?_
 refine J.lo (α := Nat) (fun y => True) (fun y => [⟨0, .slice (some ⟨g, 0, none⟩) n cap, 2, .tt⟩, ⟨1, .int .i64 0, 0, .tt⟩, ⟨2, .int .i64 n, 0, .tt⟩, ⟨3, .int .i64 k, 0, .tt⟩, ⟨4, fnV c, 0, .tt⟩]) [1] (fun y => [.pt g 53 (cellsA l ++ r)]) (fun y => 0) (0) (trivial) rfl ?_ (fun _ => rfl) fun y hI => ?_
 ·rfl
 refine J.q hX fun b12 => ?_
 refine J.cond rfl (fun h1 => ?_) (fun h1 => ?_)
 ·refine J.q hX fun b13 => ?_
  rw [show (n : Int) - 0 = n from by omega] at *
  refine J.q hX fun b14 => ?_
  refine J.cb hX (i_Sort c f hcal hf g n cap l hl (by omega) r) [1] ?_
  refine cpq ⟨_, rfl, trivial, ?_⟩
  refine J.q hX fun b15 => ?_
  exact J.ru hX [1] ⟨rfl, rfl⟩
 ·simp only [decide_eq_false_iff_not] at h1; omega
theorem p_Sort0 (c : Nat) (d : Value) (k : Nat) : Fn Tryz.prog 243 [d, .int .i64 0, .int .i64 0, .int .i64 k, fnV c] [] (fun v As => v = .tuple #[] ∧ As = []) := by
 have h0 : Fn Tryz.prog 258 [d, .int .i64 0, .int .i64 0, fnV c] [] (fun v As => v = .tuple #[] ∧ As = []) := by
  refine Fn.enter [0, 0, 0, 0] Tryz.func258 rfl rfl rfl fun X F hX => ?_
  refine J.q hX fun b16 => ?_
  refine J.lo (α := Nat) (fun y => True) (fun y => [⟨8, .int .i64 (0 + 1), 0, .tt⟩, ⟨0, d, 0, .tt⟩, ⟨1, .int .i64 0, 0, .tt⟩, ⟨2, .int .i64 0, 0, .tt⟩, ⟨3, fnV c, 0, .tt⟩]) [] (fun y => []) (fun y => 0) (0) (trivial) rfl ?_ (fun _ => rfl) fun y hI => ?_
  ·rfl
  refine J.q hX fun b18 => ?_
  refine J.cond rfl (fun h1 => ?_) (fun h1 => ?_)
  ·simp at h1
  ·refine J.q hX fun b19 => ?_
   refine J.fi hX tk [] rfl rfl rfl ?_
   exact ⟨rfl, rfl⟩
 refine Fn.enter [0, 0, 0, 0, 0] Tryz.func243 rfl rfl rfl fun X F hX => ?_
 refine J.q hX fun b20 => ?_
 refine J.lo (α := Nat) (fun y => True) (fun y => [⟨0, d, 0, .tt⟩, ⟨1, .int .i64 0, 0, .tt⟩, ⟨2, .int .i64 0, 0, .tt⟩, ⟨3, .int .i64 k, 0, .tt⟩, ⟨4, fnV c, 0, .tt⟩]) [] (fun y => []) (fun y => 0) (0) (trivial) rfl ?_ (fun _ => rfl) fun y hI => ?_
 ·rfl
 refine J.q hX fun b22 => ?_
 refine J.cond rfl (fun h1 => ?_) (fun h1 => ?_)
 ·refine J.q hX fun b23 => ?_
  refine J.cb hX (h0) [] ?_
  refine cpq ⟨_, rfl, trivial, ?_⟩
  refine J.q hX fun b25 => ?_
  exact J.ru hX [] ⟨rfl, rfl⟩
 ·simp at h1
theorem s_SortFunc (c : Nat) (f : A3 → A3 → Int) (hcal : callable Tryz.prog c = true) (hf : ∀ x y, Fn Tryz.prog c [aggA x, aggA y] [] (fun v As => v = .int .i64 (f x y) ∧ As = []))
  (a : Option Nat) (n cap : Nat) (l : List A3) (hl : l.length = n) (hn : n ≤ 12) : Fn Tryz.prog 222 [slv a n cap, fnV c] [ownA 53 3 a n cap (cellsA l)]
  (fun v As => v = .tuple #[] ∧ As = [ownA 53 3 a n cap (cellsA (isort f l))]) := by
 refine Fn.enter [0, 0] Tryz.func222 rfl rfl rfl fun X F hX => ?_
 refine J.q hX fun b26 => ?_
 refine J.cb hX (b_Len n hn) [] ?_
 rintro v As ⟨⟨k, hk, rfl⟩, rfl⟩
 refine ⟨_, rfl, trivial, ?_⟩
 refine J.q hX fun b28 => ?_
 cases a with
 | none =>
  refine J.know (fun h' s => (s.get (i := 1) rfl).2.1) fun hn0 => ?_
  subst hn0
  have : l = [] := List.eq_nil_of_length_eq_zero hl
  subst this
  refine J.q hX fun b29 => ?_
  refine J.cb hX (p_Sort0 c (slv none 0 cap) k) [] ?_
  refine cpq ⟨_, rfl, trivial, ?_⟩
  refine J.q hX fun b30 => ?_
  refine J.fi hX tk [1] rfl rfl rfl ?_
  exact ⟨rfl, rfl⟩
 | some g =>
  refine J.openOwn 1 rfl rfl (fun _ => rfl) fun r q1 q2 q3 q4 => ?_
  refine J.q hX fun b31 => ?_
  refine J.cb hX (p_Sort c f hcal hf g n cap l hl hn r k) [1] ?_
  refine cpq ⟨_, rfl, trivial, ?_⟩
  refine J.closeOwn (e := 53) (size := 3) (n := n) (cap := cap) (xs := cellsA (isort f l)) 1 rfl rfl (by rw [cellsA_len, (isort_perm f l).length_eq, hl]) q2 q3 (by rw [List.length_append, cellsA_len, (isort_perm f l).length_eq]; rw [cellsA_len] at q4; exact q4) (by rw [List.take_left' (by rw [cellsA_len, (isort_perm f l).length_eq, hl])]) rfl ?_
  refine J.q hX fun b32 => ?_
  refine J.fi hX tk [1] rfl rfl rfl ?_
  exact ⟨rfl, rfl⟩
theorem nodup_le : ∀ (n : Nat) (is : List Nat), is.Nodup → (∀ i ∈ is, i < n) → is.length ≤ n
 | 0, is, _, h => by
  cases is with
  | nil => simp
  | cons x r => have := h x (by simp); omega
 | n + 1, is, hn, h => by
  have h1 := nodup_le n (is.erase n) (hn.erase n) (fun i hi => by
   rw [hn.mem_erase_iff] at hi
   have := h i hi.2; omega)
  rw [List.length_erase] at h1
  split at h1 <;> omega
def pickA (l : List A3) (is : List Nat) : List A3 := is.map fun i => l.getD i d3
theorem pickA_perm {l : List A3} {is : List Nat} (h : is.Perm (List.range l.length)) : (pickA l is).Perm l := by
 have h1 := h.map fun i => l.getD i d3
 have h2 : (List.range l.length).map (fun i => l.getD i d3) = l := by
  apply List.ext_getElem?
  intro k
  rw [List.getElem?_map]
  by_cases hk : k < l.length
  ·rw [List.getElem?_range hk]; simp [hk]
  ·rw [List.getElem?_eq_none (by simpa using hk), List.getElem?_eq_none (by simpa using hk)]; rfl
 rwa [h2] at h1
theorem pickA_snoc {l : List A3} {is : List Nat} {j : Nat} {y : A3 × Value} (hy : (trues l)[j]? = some y) : cellsA (pickA l is) ++ [.int .i64 y.1.1, .int .i64 y.1.2.1, .int .i64 y.1.2.2] = cellsA (pickA l (is ++ [j])) := by
 rw [trues, List.getElem?_map] at hy
 cases h : l[j]? with
 | none => rw [h] at hy; cases hy
 | some x =>
  rw [h] at hy
  simp at hy
  subst hy
  simp [cellsA, pickA, h]
theorem s_All (q : Nat) (l : List A3) (hl : l.length ≤ 12) : Fn Tryz.prog 200 [.pointer (some ⟨q, 0, none⟩)] [SpotA q l]
  (fun v As => ∃ a cap l', l'.Perm l ∧ v = slv a l'.length cap ∧ As = [SpotA q l, ownA 53 3 a l'.length cap (cellsA l')]) := by
 refine Fn.enter [2] Tryz.func200 rfl rfl rfl fun X F hX => ?_
 refine J.open_ (α := Nat) 1 rfl rfl (fun _ => rfl) fun mr => ?_
 refine J.q hX fun b1 => ?_
 refine J.cF ?_
 refine J.q hX fun b2 => ?_
 refine J.rangeMap hX 2 umap rfl rfl rfl rfl rfl rfl rfl (fun _ => rfl) (fun _ => rfl) fun r => ⟨trivial, ?_⟩
 refine J.turn1 [] rfl (As := [ownA 53 3 none 0 0 (cellsA (pickA l []))]) (fun h s => Sep.one ⟨rfl, rfl, rfl⟩) rfl ?_
 refine J.q hX fun b3 => ?_
 refine J.lo (α := (List Nat × Option Nat × Nat)) (fun x => True) (fun x => [⟨11, .pointer (some ⟨r, 0, none⟩), 0, .tt⟩, ⟨3, slv x.2.1 x.1.length x.2.2, 0, .tt⟩]) [2, 3] (fun x => [itA mr r a3v (trues l) x.1, ownA 53 3 x.2.1 x.1.length x.2.2 (cellsA (pickA l x.1))]) (fun x => l.length - x.1.length) (([], none, 0)) (trivial) rfl ?_ (fun _ => rfl) fun x hI => ?_
 ·rfl
 obtain ⟨is, a, cap⟩ := x
 dsimp only
 refine J.q hX fun b5 => ?_
 refine J.know (p := is.Nodup ∧ ∀ i ∈ is, i < l.length) (fun h s => ?_) fun hk => ?_
 ·obtain ⟨_, _, _, _, _, _, _, _, h1, h2, _⟩ := s.get (i := 2) rfl
  exact ⟨h1, fun i hi => by have := h2 i hi; simpa [trues] using this⟩
 have hle := nodup_le _ _ hk.1 hk.2
 refine J.rangeNext hX 2 rfl rfl rfl rfl rfl rfl rfl (fun _ => rfl) (fun _ => rfl) (fun hp => ⟨trivial, ?_⟩) (fun j y hj hy => ⟨trivial, ?_⟩)
 ·rw [show (trues l).length = l.length from by simp [trues]] at hp
  refine J.q hX fun b6 => ?_
  refine J.cF ?_
  refine J.q hX fun b7 => ?_
  refine J.cb hX (s_SortFunc 223 ordI (by kernel_rfl) s_order a is.length cap (pickA l is) (by simp [pickA]) (by omega)) [3] ?_
  refine cpq ⟨_, rfl, trivial, ?_⟩
  refine J.turn1 [2] rfl (As := [mapA mr a3v (trues l)]) (fun h s => it_map s) rfl ?_
  refine J.close (f := fun mr : Nat => [.pt q 165 [.map (some mr)], mapA mr a3v (trues l)]) mr [1, 2] rfl rfl rfl ?_
  refine J.q hX fun b9 => ?_
  refine J.ru hX [1, 3] ?_
  have hlen : is.length = (isort ordI (pickA l is)).length := by rw [(isort_perm _ _).length_eq]; simp [pickA]
  refine ⟨a, cap, isort ordI (pickA l is), (isort_perm _ _).trans (pickA_perm hp), ?_, ?_⟩
  ·rw [← hlen]
  ·rw [← hlen]; rfl
 ·have hjl : j < l.length := by have := (List.getElem?_eq_some_iff.1 hy).1; simpa [trues] using this
  refine J.q hX fun b10 => ?_
  refine J.cT ?_
  refine J.q hX fun b11 => ?_
  have hlt : (is ++ [j]).length ≤ l.length := nodup_le _ _ (by
   rw [List.nodup_append]
   exact ⟨hk.1, by simp, fun a ha b hb => by simp at hb; subst hb; rintro rfl; exact hj ha⟩) (fun i hi => by
   rw [List.mem_append] at hi
   rcases hi with hi | hi
   ·exact hk.2 i hi
   ·simp at hi; subst hi; exact hjl)
  rw [List.length_append, List.length_singleton] at hlt
  refine J.rangeEntry hX 2 rfl rfl rfl rfl rfl rfl rfl hy rfl ⟨trivial, ?_⟩
  refine J.q hX fun bb => ?_
  refine J.append hX tk 3 5 0 rfl rfl rfl rfl rfl rfl rfl rfl rfl rfl rfl rfl rfl rfl rfl rfl ?_ ?_ (fun _ => rfl) fun a' cap' => ⟨_, (congrArg (fun z => lset _ 3 (ownA _ _ _ _ _ z)) (pickA_snoc hy)).trans rfl, trivial, ?_⟩
  ·simp only [maxLen]; omega
  ·omega
  refine J.q hX fun b12 => ?_
  rw [show is.length + 1 = (is ++ [j]).length from by simp]
  refine J.q hX fun b13 => ?_
  refine J.nS ((is ++ [j], a', cap')) (trivial) (by dsimp only; rw [List.length_append, List.length_singleton]; omega) [0, 1, 2, 3] rfl rfl
theorem Sep.pack {A : Atom} {Pre : List Atom} {h : Hl} (s : Sep (A :: Pre) h) : Sep [A, .hp (HP.of Pre)] h := by
 obtain ⟨own, hw⟩ := s
 refine ⟨fun b => min (own b) 1, fun i B hB => ?_⟩
 match i, hB with
 | 0, hB =>
  simp at hB; subst hB
  refine Atom.up (fun b o hb => ?_) (hw 0 A rfl)
  rw [res_some] at hb ⊢
  exact ⟨by rw [hb.1]; rfl, hb.2⟩
 | 1, hB =>
  simp at hB; subst hB
  refine ⟨fun b => own b - 1, fun j B hB => ?_⟩
  refine Atom.up (fun b o hb => ?_) (hw (j + 1) B (by simpa using hB))
  rw [res_some] at hb ⊢
  refine ⟨by rw [hb.1]; rfl, ?_⟩
  rw [res_some]
  exact ⟨by rw [hb.1]; omega, hb.2⟩
 | k + 2, hB => simp at hB
theorem Sep.unpack {A : Atom} {Pre : List Atom} {h : Hl} (s : Sep [A, .hp (HP.of Pre)] h) : Sep (A :: Pre) h := by
 obtain ⟨own, hw⟩ := s
 obtain ⟨own2, hw2⟩ : Sep Pre (res h own 1) := hw 1 _ rfl
 refine ⟨fun b => if own b = 1 then own2 b + 1 else 0, fun i B hB => ?_⟩
 cases i with
 | zero =>
  simp at hB; subst hB
  refine Atom.up (fun b o hb => ?_) (hw 0 A rfl)
  rw [res_some] at hb ⊢
  exact ⟨by rw [if_neg (by omega)], hb.2⟩
 | succ j =>
  refine Atom.up (fun b o hb => ?_) (hw2 j B (by simpa using hB))
  rw [res_some] at hb ⊢
  have h1 := res_some.1 hb.2
  exact ⟨by rw [if_pos h1.1, hb.1], h1.2⟩
theorem Fn.pack {P : Program} {f : FuncId} {args : List Value} {Pre : List Atom} {q : Value → Prop} (c : Fn P f args Pre (fun v As => q v ∧ As = Pre)) : Fn P f args [.hp (HP.of Pre)] (fun v As => q v ∧ As = [.hp (HP.of Pre)]) := by
 intro F w s
 refine Calls.mono (c F w (Sep.unpack s)) fun e w' ⟨v, As, h1, h2, h3, h4⟩ => ?_
 obtain ⟨h5, rfl⟩ := h2
 exact ⟨v, _, h1, ⟨h5, rfl⟩, Sep.pack h3, h4⟩
section
variable {X : Cx} {P : Program} {T : Tab} {K : List KI} {E : Env} {L : List Atom} {N : Nat} {F : HP} {Post : Value → List Atom → Prop} {rs : List ResultVar}
theorem J.clear (hX : IsCx X P rs N F Post) (hT : TabOK P T) {ops : Array Oper} {C : Cl} {lt : Bool} {i : Nat} {t : PT} {o : Oper} {g : G} {x : Operand} {k1 t1 b off n c st e ty size s1 b1 by_ : Nat} {g1 : G} {z z1 : List Value} {td : TD} {cs : List Value} {E' : Value → Env} {L2 : List Value → List Atom} (is : Nat)
  (ho : lget ops.toList i = some o) (hg : gd ops.toList E o = some g) (hgo : g.on = true) (hop : o.op = .call ⟨.builtin .clear, #[x], #[st]⟩) (hx : ev E x = some ⟨k1, .slice (some ⟨b, off, none⟩) n c, t1, g1⟩) (v1 : g1.on = true)
  (hst : T.get st = some ⟨.slice e size, s1, z1, b1⟩) (he : T.get e = some ⟨td, size, z, by_⟩) (hz : Nat.beq z.length size = true) (hz1 : z.all (·.oneCell') = true) (hL : lget L is = some (.pt b ty cs)) (hlt : off + n * size ≤ cs.length)
  (hL2 : ∀ cs', lset L is (.pt b ty cs') = some (L2 cs')) (hd : ∀ v, putE N o.dst v 0 .tt E = some (E' v))
  (hJ : ∀ cs', cs'.length = cs.length → cs'.take off = cs.take off → Conj (staysL lt C (L2 cs')) ∧ J X (.reg ops C t :: K) (E' (.tuple #[])) (L2 cs')) : J X (.reg ops C (.alt lt i t .non) :: K) E L := by
 refine J.op hX (S := fun v' L' => ∃ cs', cs'.length = cs.length ∧ cs'.take off = cs.take off ∧ v' = .tuple #[] ∧ L' = L.set is (.pt b ty cs')) 0 ho hg hgo (fun a0 w hen hs => ?_) hd (fun v L' ⟨cs', q1, q2, e1, e2⟩ => by subst e1; subst e2; rw [← lset_eq (hL2 cs')]; exact hJ cs' q1 q2)
 rw [lget_eq] at hL
 have ex := ev_spec hen hx
 simp only [Slot.val, v1] at ex
 obtain ⟨d, f, zv, ok⟩ := tiOf_spec (hT.get hst)
 obtain ⟨fe, rfl, g1', g2'⟩ := ok.slice rfl
 obtain ⟨d', f', zv', ok'⟩ := tiOf_spec (hT.get he)
 have hzl : zv'.cells.toList = z := ok'.hzero.symm
 have hzn : zv'.cells.size = size := by rw [← Array.length_toList, hzl]; exact Nat.eq_of_beq_eq_true hz
 have hblk : Blk w b ty cs.toArray := hs.pt hL
 cases n with
 | zero =>
  refine ⟨_, L.set is (.pt b ty cs), .value (.tuple #[]), w, ⟨cs, rfl, rfl, rfl, rfl⟩, ?_, .inl rfl, ?_, Ext.refl _⟩
  ·simp [execOp, hop, ex, resolve, invoke, builtin, Builtin.clear_, underlying_run ok.hd]
  ·have e : L.set is (.pt b ty cs) = L := by
    apply List.ext_getElem?; intro j
    rw [List.getElem?_set]
    split
    ·rename_i e; subst e; rw [if_pos (List.getElem?_eq_some_iff.1 hL).1, hL]
    ·rfl
   rw [e]; exact hs
 | succ n =>
  have hlen : (Builtin.zeroCells zv'.cells (n + 1)).toList.length = (n + 1) * size := by rw [Array.length_toList, size_zeroCells, hzn]
  have hall : (Builtin.zeroCells zv'.cells (n + 1)).toList.all (·.oneCell') = true := by
   rw [List.all_eq_true]
   intro u hu
   simp only [Builtin.zeroCells, Array.toList_map, List.mem_map] at hu
   obtain ⟨k, hk, rfl⟩ := hu
   have hk' : k < (n + 1) * zv'.cells.size := by simpa using hk
   have hpos : 0 < zv'.cells.size := by
    rcases Nat.eq_zero_or_pos zv'.cells.size with h0 | h0
    ·rw [h0] at hk'; omega
    ·exact h0
   have hm := Nat.mod_lt k hpos
   rw [getElem!_pos zv'.cells (k % zv'.cells.size) hm]
   rw [List.all_eq_true] at hz1
   apply hz1
   rw [← hzl]
   simp
  obtain ⟨w', r1, r2, r3⟩ := storeCells_run (P := P) (o := off) (Builtin.zeroCells zv'.cells (n + 1)).toList 0 w cs _ hblk (by rw [Nat.add_zero]; exact lput_gen cs off _ (by rw [hlen]; exact hlt)) hall
  have hr : (execOp a0.eval o).run P w = .ok (.value (.tuple #[])) w' := by
   simp [execOp, hop, ex, resolve, invoke, builtin, Builtin.clear_, underlying_run ok.hd, zero_run ok'.hf ok'.hz, r1]
  clear r1
  generalize Builtin.zeroCells zv'.cells (n + 1) = Z at hlen r2
  have k1 : (cs.take off ++ Z.toList ++ cs.drop (off + Z.toList.length)).length = cs.length := by
   simp only [List.length_append, List.length_take, List.length_drop, hlen]; omega
  have k2 : (cs.take off ++ Z.toList ++ cs.drop (off + Z.toList.length)).take off = cs.take off := by
   rw [List.append_assoc, List.take_append_of_le_length (by simp; omega), List.take_take, Nat.min_self]
  refine ⟨_, L.set is (.pt b ty (cs.take off ++ Z.toList ++ cs.drop (off + Z.toList.length))), .value (.tuple #[]), w', ⟨_, k1, k2, rfl, rfl⟩, ?_, .inl rfl, ?_, r3⟩
  ·exact hr
  ·rw [r2]; exact hs.setPt _ hL
end
def fnC (c : Nat) (cs : List Value) : Value := .func (.func c) #[] cs.toArray
def idxI (p : A3 → Bool) (l : List A3) : Int := match l.findIdx? p with
 | some k => k
 | none => -1
theorem cellsA_get {l : List A3} {k : Nat} {x : A3} (h : l[k]? = some x) : ((cellsA l).drop (k * 3)).take 3 = [.int .i64 x.1, .int .i64 x.2.1, .int .i64 x.2.2] := by
 have := cellsA_at l [] k x h
 rwa [List.append_nil] at this
theorem idx_step {p : A3 → Bool} {l : List A3} {k : Nat} {x : A3} (h : l[k]? = some x) (h0 : ∀ i < k, p (l.getD i d3) = false) (hp : p x = true) : l.findIdx? p = some k := by
 rw [List.findIdx?_eq_some_iff_getElem]
 obtain ⟨h1, h2⟩ := List.getElem?_eq_some_iff.1 h
 refine ⟨h1, by rw [h2]; exact hp, fun j hj => ?_⟩
 have := h0 j hj
 rw [List.getD_eq_getElem?_getD, List.getElem?_eq_getElem (by omega), Option.getD_some] at this
 simp [this]
theorem idx_none {p : A3 → Bool} {l : List A3} (h0 : ∀ i < l.length, p (l.getD i d3) = false) : l.findIdx? p = none := by
 rw [List.findIdx?_eq_none_iff]
 intro x hx
 obtain ⟨i, hi, rfl⟩ := List.mem_iff_getElem.1 hx
 have := h0 i hi
 rwa [List.getD_eq_getElem?_getD, List.getElem?_eq_getElem hi, Option.getD_some] at this
theorem x_Index (c : Nat) (cs : List Value) (p : A3 → Bool) (A : Atom) (hcal : callable Tryz.prog c = true) (hf : ∀ x, Fn Tryz.prog c (aggA x :: cs) [A] (fun v As => v = .bool (p x) ∧ As = [A]))
  (a : Option Nat) (n cap : Nat) (l : List A3) (hl : l.length = n) (hn : n ≤ 4611686018427387904) : Fn Tryz.prog 221 [slv a n cap, fnC c cs] [ownA 53 3 a n cap (cellsA l), A]
  (fun v As => v = .int .i64 (idxI p l) ∧ As = [ownA 53 3 a n cap (cellsA l), A]) := by
 refine Fn.enter [0, 0] Tryz.func221 rfl rfl rfl fun X F hX => ?_
 refine J.q hX fun b1 => ?_
 refine J.lo (α := Nat) (fun k => k ≤ n ∧ ∀ i < k, p (l.getD i d3) = false) (fun k => [⟨8, .int .i64 k, 0, .tt⟩, ⟨7, .int .i64 n, 0, .tt⟩, ⟨0, slv a n cap, 0, .tt⟩, ⟨1, fnC c cs, 0, .tt⟩]) [] (fun k => []) (fun k => n - k) (0) (⟨by omega, by omega⟩) rfl ?_ (fun _ => rfl) fun k hI => ?_
 ·rfl
 refine J.q hX fun b3 => ?_
 refine J.cond rfl (fun h1 => ?_) (fun h1 => ?_)
 ·simp only [decide_eq_true_eq, Int.ofNat_lt] at h1
  cases a with
  | none =>
   refine J.know (fun h' s => (s.get (i := 1) rfl).2.1) fun hn0 => ?_
   omega
  | some g =>
   have hk : l[k]? = some (l.getD k d3) := by rw [List.getD_eq_getElem?_getD, List.getElem?_eq_getElem (by omega), Option.getD_some]
   refine J.q hX fun b4 => ?_
   refine J.val hX (aggA (l.getD k d3)) 0 rfl rfl (fun hg a w he hs => ?_) rfl trivial ?_
   ·exact ownN_run tk rfl rfl he rfl rfl rfl (hs.get (i := 1) rfl) (by rw [show 0 + (k : Int).toNat * 3 = k * 3 from by omega]; exact cellsA_get hk) rfl
   refine J.q hX fun b5 => ?_
   refine J.call hX hcal (hf (l.getD k d3)) [2] 0 rfl rfl rfl rfl (by (repeat' (first | exact Conj.nil | refine Conj.cons ?_ ?_ | omega | exact hq0 | (simpa using hq0) | (exact fun h => h) | exact rfl | (intro hq; have hq0 := hq; try simp only [Bool.and_eq_true, Bool.or_eq_true, decide_eq_true_eq, Bool.not_eq_true', decide_eq_false_iff_not] at hq) | (simp; done) | (simp; omega) | decide))) rfl rfl (fun _ => rfl) ?_
   refine cpq ⟨_, rfl, trivial, ?_⟩
   refine J.q hX fun b6 => ?_
   refine J.cond rfl (fun h2 => ?_) (fun h2 => ?_)
   ·refine J.q hX fun b7 => ?_
    refine J.ru hX [1, 2] ?_
    exact ⟨by rw [idxI, idx_step hk hI.2 h2], rfl⟩
   ·refine J.q hX fun b8 => ?_
    refine J.nx (k + 1) (⟨by omega, fun i hi => by
     rcases Nat.lt_succ_iff_lt_or_eq.1 hi with h3 | h3
     ·exact hI.2 i h3
     ·rw [h3]; exact h2⟩) (by omega) (fun _ s => s)
 ·simp only [decide_eq_false_iff_not, Int.ofNat_lt] at h1
  refine J.q hX fun b9 => ?_
  refine J.ru hX [1, 2] ?_
  exact ⟨by rw [idxI, idx_none (fun i hi => hI.2 i (by omega))], rfl⟩
def DelI (p : A3 → Bool) (l m : List A3) (i j : Nat) : Prop := m.length = l.length ∧ i < j ∧ j ≤ l.length ∧ m.drop j = l.drop j ∧ m.take i ++ (l.drop j).filter (fun x => !p x) = l.filter (fun x => !p x)
theorem DelI.start {p : A3 → Bool} {l : List A3} {k : Nat} (h : l.findIdx? p = some k) : DelI p l l k (k + 1) := by
 rw [List.findIdx?_eq_some_iff_getElem] at h
 obtain ⟨h1, h2, h3⟩ := h
 refine ⟨rfl, by omega, by omega, rfl, ?_⟩
 have e : l = l.take k ++ l[k] :: l.drop (k + 1) := by rw [← List.drop_eq_getElem_cons h1, List.take_append_drop]
 have e2 : (l.take k).filter (fun x => !p x) = l.take k := by
  rw [List.filter_eq_self]
  intro x hx
  obtain ⟨i, hi, rfl⟩ := List.mem_iff_getElem.1 hx
  rw [List.getElem_take]
  have := h3 i (by simp at hi; omega)
  simpa using this
 conv => rhs; rw [e]
 rw [List.filter_append, e2, List.filter_cons_of_neg (by simp [h2])]
theorem DelI.skip {p : A3 → Bool} {l m : List A3} {i j : Nat} (h : DelI p l m i j) (hj : j < l.length) (hp : p (m.getD j d3) = true) : DelI p l m i (j + 1) := by
 obtain ⟨h1, h2, h3, h4, h5⟩ := h
 have e1 : m[j]? = l[j]? := by have := congrArg (fun z => z[0]?) h4; simpa using this
 have hx : l[j] = m.getD j d3 := by rw [List.getD_eq_getElem?_getD, e1, List.getElem?_eq_getElem hj, Option.getD_some]
 refine ⟨h1, by omega, by omega, ?_, ?_⟩
 ·have := congrArg (List.drop 1) h4
  simpa [List.drop_drop] using this
 ·rw [← h5, List.drop_eq_getElem_cons hj, List.filter_cons_of_neg (by rw [hx, hp]; simp)]
theorem DelI.keep {p : A3 → Bool} {l m : List A3} {i j : Nat} (h : DelI p l m i j) (hj : j < l.length) (hp : p (m.getD j d3) = false) : DelI p l (m.set i (m.getD j d3)) (i + 1) (j + 1) := by
 obtain ⟨h1, h2, h3, h4, h5⟩ := h
 have e1 : m[j]? = l[j]? := by have := congrArg (fun z => z[0]?) h4; simpa using this
 have hx : l[j] = m.getD j d3 := by rw [List.getD_eq_getElem?_getD, e1, List.getElem?_eq_getElem hj, Option.getD_some]
 refine ⟨by simp [h1], by omega, by omega, ?_, ?_⟩
 ·rw [List.drop_set_of_lt (by omega)]
  have := congrArg (List.drop 1) h4
  simpa [List.drop_drop] using this
 ·rw [← h5, List.drop_eq_getElem_cons hj, List.filter_cons_of_pos (by rw [hx, hp]; simp), hx, List.take_set, List.take_add_one, List.getElem?_eq_getElem (by omega)]
  rw [List.set_append_right _ _ (by simp; omega)]
  simp [List.length_take, Nat.min_eq_left (show i ≤ m.length by omega)]
theorem x_Delete (c : Nat) (cs : List Value) (p : A3 → Bool) (A : Atom) (hcal : callable Tryz.prog c = true) (hf : ∀ x, Fn Tryz.prog c (aggA x :: cs) [A] (fun v As => v = .bool (p x) ∧ As = [A]))
  (a : Option Nat) (n cap : Nat) (l : List A3) (hl : l.length = n) (hn : n ≤ 4611686018427387904) : Fn Tryz.prog 199 [slv a n cap, fnC c cs] [ownA 53 3 a n cap (cellsA l), A]
  (fun v As => ∃ l', l' = l.filter (fun x => !p x) ∧ v = slv a l'.length cap ∧ As = [ownA 53 3 a l'.length cap (cellsA l'), A]) := by
 refine Fn.enter [0, 0] Tryz.func199 rfl rfl rfl fun X F hX => ?_
 refine J.q hX fun b10 => ?_
 refine J.cb hX (x_Index c cs p A hcal hf a n cap l hl hn) [1, 2] ?_
 refine cpq ⟨_, rfl, trivial, ?_⟩
 rw [idxI]
 cases hx : l.findIdx? p with
 | none =>
  dsimp only
  refine J.q hX fun b12 => ?_
  refine J.cT ?_
  refine J.q hX fun b13 => ?_
  refine J.ru hX [1, 2] ?_
  have : l.filter (fun x => !p x) = l := by
   rw [List.filter_eq_self]
   intro x hm
   rw [List.findIdx?_eq_none_iff] at hx
   simp [hx x hm]
  exact ⟨l, this.symm, by rw [hl], by rw [hl]; rfl⟩
 | some k =>
  dsimp only
  refine J.q hX fun b14 => ?_
  refine J.cond rfl (fun h0 => ?_) (fun h0 => ?_)
  ·simp only [beq_iff_eq] at h0; omega
  have hk : k < n := by rw [List.findIdx?_eq_some_iff_getElem] at hx; obtain ⟨h1, _⟩ := hx; omega
  cases a with
  | none =>
   refine J.know (fun h' s => (s.get (i := 1) rfl).2.1) fun hn0 => ?_
   omega
  | some g =>
   refine J.openOwn 1 rfl rfl (fun _ => rfl) fun r q1 q2 q3 q4 => ?_
   refine J.q hX fun b15 => ?_
   rw [show (k : Int) + 1 = ((k + 1 : Nat) : Int) from by omega]
   refine J.q hX fun b16 => ?_
   refine J.lo (α := (Nat × Nat × List A3)) (fun x => DelI p l x.2.2 x.1 x.2.1) (fun x => [⟨6, .int .i64 x.2.1, 0, .tt⟩, ⟨5, .int .i64 x.1, 0, .tt⟩, ⟨0, slv (some g) n cap, 0, .tt⟩, ⟨1, fnC c cs, 0, .tt⟩]) [1] (fun x => [.pt g 53 (cellsA x.2.2 ++ r)]) (fun x => n - x.2.1) ((k, k + 1, l)) (DelI.start hx) rfl ?_ (fun _ => rfl) fun x hI => ?_
   ·rfl
   obtain ⟨i, j, m⟩ := x
   dsimp only at hI ⊢
   have hml : m.length = n := hI.1.trans hl
   have hij : i < j := hI.2.1
   have hjn : j ≤ n := by have := hI.2.2.1; omega
   refine J.q hX fun b17 => ?_
   refine J.cond rfl (fun h1 => ?_) (fun h1 => ?_)
   ·simp only [decide_eq_true_eq, Int.ofNat_lt] at h1
    have hget : m[j]? = some (m.getD j d3) := by rw [List.getD_eq_getElem?_getD, List.getElem?_eq_getElem (by omega), Option.getD_some]
    refine J.q hX fun b18 => ?_
    refine J.val hX (aggA (m.getD j d3)) 0 rfl rfl (fun hg a w he hs => ?_) rfl trivial ?_
    ·exact loadN_run tk rfl rfl he rfl rfl rfl (hs.get (i := 1) rfl) (by rw [show 0 + (j : Int).toNat * 3 = j * 3 from by omega]; exact cellsA_at m r _ _ hget) rfl
    refine J.q hX fun b19 => ?_
    refine J.call hX hcal (hf (m.getD j d3)) [2] 0 rfl rfl rfl rfl (by (repeat' (first | exact Conj.nil | refine Conj.cons ?_ ?_ | omega | exact hq0 | (simpa using hq0) | (exact fun h => h) | exact rfl | (intro hq; have hq0 := hq; try simp only [Bool.and_eq_true, Bool.or_eq_true, decide_eq_true_eq, Bool.not_eq_true', decide_eq_false_iff_not] at hq) | (simp; done) | (simp; omega) | decide))) rfl rfl (fun _ => rfl) ?_
    refine cpq ⟨_, rfl, trivial, ?_⟩
    refine J.q hX fun b20 => ?_
    refine J.cond rfl (fun h2 => ?_) (fun h2 => ?_)
    ·simp only [Bool.not_eq_true'] at h2
     refine J.q hX fun b21 => ?_
     refine J.storeN hX tk 1 rfl rfl rfl rfl rfl rfl rfl rfl rfl rfl rfl rfl rfl ?_ (cellsA (m.set i (m.getD j d3)) ++ r) ?_ rfl (fun _ => rfl) ⟨trivial, ?_⟩
     ·rw [List.length_append, cellsA_len]; show 0 + (i : Int).toNat * 3 + 3 ≤ _; omega
     ·rw [show 0 + (i : Int).toNat * 3 = i * 3 from by omega]; exact cellsA_set m r i _ (by omega)
     refine J.q hX fun b22 => ?_
     refine J.nS ((i + 1, j + 1, m.set i (m.getD j d3))) (hI.keep (by omega) h2) (by dsimp only; omega) [0, 1, 2] rfl rfl
    ·simp only [Bool.not_eq_false'] at h2
     refine J.q hX fun b23 => ?_
     refine J.nS ((i, j + 1, m)) (hI.skip (by omega) h2) (by dsimp only; omega) [0, 1, 2] rfl rfl
   ·simp only [decide_eq_false_iff_not, Int.ofNat_lt] at h1
    obtain rfl : j = n := by omega
    have hfil : m.take i = l.filter (fun x => !p x) := by
     have h5 := hI.2.2.2.2
     rw [List.drop_of_length_le (by omega)] at h5
     simpa using h5
    refine J.q hX fun b24 => ?_
    refine J.clear hX tk 1 rfl rfl rfl rfl rfl rfl rfl rfl rfl rfl rfl ?_ (fun _ => rfl) (fun _ => rfl) fun cs' z1 z2 => ⟨trivial, ?_⟩
    ·rw [List.length_append, cellsA_len]; rw [cellsA_len] at q4
     show 0 + (i : Int).toNat * 3 + (j - (i : Int).toNat) * 3 ≤ _
     have : (i : Int).toNat = i := by omega
     rw [this]; omega
    have hilen : (l.filter (fun x => !p x)).length = i := by rw [← hfil, List.length_take]; omega
    refine J.closeOwn (e := 53) (size := 3) (n := i) (cap := cap) (xs := cellsA (l.filter (fun x => !p x))) 1 rfl rfl (by rw [cellsA_len, hilen]) (by omega) q3 (by rw [z1, List.length_append, cellsA_len, hml]; rw [cellsA_len, hl] at q4; exact q4) ?_ rfl ?_
    ·have z3 : (0 + (i : Int).toNat * 3) = i * 3 := by omega
     rw [z3] at z2
     rw [z2, ← hfil]
     have e : cellsA m = cellsA (m.take i) ++ cellsA (m.drop i) := by
      conv => lhs; rw [← List.take_append_drop i m]
      simp only [cellsA, List.flatMap_append]
     rw [e, List.append_assoc, List.take_left' (by rw [cellsA_len, List.length_take, Nat.min_eq_left (by omega)])]
    refine J.q hX fun b25 => ?_
    refine J.ru hX [1, 2] ?_
    exact ⟨_, rfl, by rw [hilen]; rfl, by rw [hilen]; rfl⟩
theorem s_Block1 (b4 b5 : Nat) (die blk : Int) (x : A3) : Fn Tryz.prog 201 (aggA x :: [.pointer (some ⟨b4, 0, none⟩), .pointer (some ⟨b5, 0, none⟩)]) [.pt b4 3 [.int .i64 die], .pt b5 3 [.int .i64 blk]]
  (fun v As => v = .bool ((x.1 != die) || (x.2.1 != blk)) ∧ As = [.pt b4 3 [.int .i64 die], .pt b5 3 [.int .i64 blk]]) := by
 refine Fn.enter [0, 2, 3] Tryz.func201 rfl rfl rfl fun X F hX => ?_
 refine J.q hX fun b1 => ?_
 exact J.ru hX [1, 2] ⟨rfl, rfl⟩
theorem s_Block (q : Nat) (l : List A3) (hl : l.length ≤ 12) (die blk : Int) : Fn Tryz.prog 169 [.pointer (some ⟨q, 0, none⟩), .int .i64 die, .int .i64 blk] [SpotA q l]
  (fun v As => ∃ a cap l', l'.Perm (l.filter fun x => !((x.1 != die) || (x.2.1 != blk))) ∧ v = slv a l'.length cap ∧ As = [SpotA q l, ownA 53 3 a l'.length cap (cellsA l')]) := by
 refine Fn.enter [2, 0, 0] Tryz.func169 rfl rfl rfl fun X F hX => ?_
 refine J.q hX fun bb => ?_
 refine J.cb hX (s_All q l hl) [1] ?_
 rintro v As ⟨a, cap, l', hp, rfl, rfl⟩
 refine ⟨_, rfl, trivial, ?_⟩
 refine J.q hX fun b3 => ?_
 refine J.turn1 [2, 3] rfl (As := [.hp (HP.of [.pt (bb 0) 3 [.int .i64 die], .pt (bb 1) 3 [.int .i64 blk]])]) (fun h s => Sep.hpOf.2 s) rfl ?_
 refine J.q hX fun b4 => ?_
 refine J.ca hX (by kernel_rfl) (x_Delete 201 [.pointer (some ⟨bb 0, 0, none⟩), .pointer (some ⟨bb 1, 0, none⟩)] (fun x => (x.1 != die) || (x.2.1 != blk)) _ (by kernel_rfl) (fun x => Fn.pack (s_Block1 (bb 0) (bb 1) die blk x)) a l'.length cap l' rfl (by rw [hp.length_eq]; omega)) [4, 2] 0 rfl rfl rfl rfl rfl rfl (fun _ => rfl) ?_
 rintro v As ⟨l2, rfl, rfl, rfl⟩
 refine ⟨_, rfl, trivial, ?_⟩
 refine J.q hX fun b5 => ?_
 refine J.ru hX [1, 4] ?_
 exact ⟨a, cap, _, hp.filter _, rfl, rfl⟩
def ext (l : List NCell) (m : Nat) : List NCell := l ++ List.replicate m Nand.zcell
theorem ext_succ (l : List NCell) (m : Nat) : ext l m ++ [Nand.zcell] = ext l (m + 1) := by simp [ext, List.replicate_succ']
theorem ext_len (l : List NCell) (m : Nat) : (ext l m).length = l.length + m := by simp [ext]
def lostTo (l : List NCell) (k : Nat) : List NCell := (l.take k).map (fun c => { c with lost := true }) ++ l.drop k
theorem lostTo_len (l : List NCell) (k : Nat) : (lostTo l k).length = l.length := by simp [lostTo]; omega
theorem lostTo_succ {l : List NCell} {k : Nat} (h : k < l.length) : (lostTo l k).modify k (fun c => { c with lost := true }) = lostTo l (k + 1) := by
 apply List.ext_getElem?; intro j
 rw [List.getElem?_modify]
 simp only [lostTo, List.getElem?_append, List.length_map, List.length_take, List.getElem?_map, List.getElem?_take, List.getElem?_drop]
 by_cases e : k = j
 ·subst e
  rw [if_neg (by omega), if_pos (by omega), if_pos (by omega), show k + (k - min k l.length) = k from by omega]
  rw [List.getElem?_eq_getElem h]
  simp
 ·have e2 : (fun a : NCell => if k = j then { a with lost := true } else a) = id := by funext a; rw [if_neg e]; rfl
  simp only [Option.map_eq_map, e2, Option.map_id_fun, id]
  by_cases h1 : j < k
  ·rw [if_pos (show j < min k l.length by omega), if_pos h1, if_pos (show j < min (k + 1) l.length by omega), if_pos (show j < k + 1 by omega)]
  ·rw [if_neg (show ¬j < min k l.length by omega), if_neg (show ¬j < min (k + 1) l.length by omega), show k + (j - min k l.length) = j from by omega, show k + 1 + (j - min (k + 1) l.length) = j from by omega]
theorem foldl_erase : ∀ (l' pl : List A3), pl.Nodup → l'.foldl List.erase pl = pl.filter (fun x => decide (x ∉ l'))
 | [], pl, _ => (List.filter_eq_self.2 (by simp)).symm
 | a :: l', pl, h => by
  rw [List.foldl_cons, foldl_erase l' _ (h.erase a), h.erase_eq_filter, List.filter_filter]
  apply List.filter_congr
  intro x _
  by_cases e : x = a
  ·subst e; simp
  ·simp [e]
theorem erase_all {l' pl : List A3} {x y : Int} (h : pl.Nodup) (hp : l'.Perm (pl.filter fun a => !((a.1 != x) || (a.2.1 != y)))) : l'.foldl List.erase pl = pl.filter fun a => !(decide (a.1 = x) && decide (a.2.1 = y)) := by
 rw [foldl_erase l' pl h]
 apply List.filter_congr
 intro a ha
 have : a ∈ l' ↔ (a.1 = x ∧ a.2.1 = y) := by
  rw [hp.mem_iff, List.mem_filter]
  simp [ha]
 by_cases h1 : a.1 = x ∧ a.2.1 = y
 ·rw [decide_eq_false (by rw [this]; simpa using h1)]; simp [h1]
 ·rw [decide_eq_true (by rw [this]; exact h1)]
  simp only [not_and] at h1
  by_cases h2 : a.1 = x
  ·simp [h2, h1 h2]
  ·simp [h2]
theorem eraseN_cut {N : Nand} {x y : Int} (h : N.refuses x y 0 = 0) (h6 : N.cutB = true) : N.eraseN x y = N.cutN.setBlk x.toNat y.toNat { N.blk x.toNat y.toNat with cells := ((N.blk x.toNat y.toNat).cells ++ List.replicate (N.pages - (N.blk x.toNat y.toNat).cells.length) Nand.zcell).map fun c => { c with lost := true } } := by
 unfold Nand.eraseN; rw [if_neg (by simp [h]), if_pos h6]
theorem eraseN_fail {N : Nand} {x y : Int} (h : N.refuses x y 0 = 0) (h6 : N.cutB = false) (h7 : (N.blk x.toNat y.toNat).fails = true) : N.eraseN x y = N.cutN.setBlk x.toNat y.toNat { N.blk x.toNat y.toNat with met := true } := by
 unfold Nand.eraseN; rw [if_neg (by simp [h]), if_neg (by simp [h6]), if_pos h7]
theorem eraseN_ok {N : Nand} {x y : Int} (h : N.refuses x y 0 = 0) (h6 : N.cutB = false) (h7 : (N.blk x.toNat y.toNat).fails = false) : N.eraseN x y = { N.cutN.setBlk x.toNat y.toNat { N.blk x.toNat y.toNat with cells := [], worn := (N.blk x.toNat y.toNat).worn + 1 } with plan := N.plan.filter fun a => !(decide (a.1 = x) && decide (a.2.1 = y)) } := by
 unfold Nand.eraseN; rw [if_neg (by simp [h]), if_neg (by simp [h6]), if_neg (by simp [h7])]
theorem n_Erase (p : Nat) (N : Nand) (hN : N.Ok) (hR : N.Room) (hpn : N.plan.Nodup) (hpl : N.plan.length ≤ 12) (x y : Int) : Fn Tryz.prog 128 [.pointer (some ⟨p, 0, none⟩), .int .i64 x, .int .i64 y] [NandA p N] (fun v As => v = .int .i64 (N.eraseE x y) ∧ As = [NandA p (N.eraseN x y)]) := by
 have hbd := hN.bd
 have hnum := hN.num
 have hr0 := hR.ops
 refine Fn.enter [2, 0, 0] Tryz.func128 rfl rfl rfl fun X F hX => ?_
 refine J.q hX fun b1 => ?_
 refine J.cb hX (n_key x y) [] ?_
 refine cpq ⟨_, rfl, trivial, ?_⟩
 refine J.q hX fun b3 => ?_
 refine J.cb hX (n_refuses p N hN x y 0) [1] ?_
 refine cpq ⟨_, rfl, trivial, ?_⟩
 refine J.q hX fun b5 => ?_
 refine J.cond rfl (fun h => ?_) (fun h => ?_)
 ·simp only [bne_iff_ne, ne_eq] at h
  refine J.q hX fun b6 => ?_
  refine J.ru hX [1] ?_
  exact ⟨by simp only [Nand.eraseE, ne_eq, h, not_false_eq_true, if_pos], by simp only [Nand.eraseN, ne_eq, h, not_false_eq_true, if_pos]; rfl⟩
 simp only [bne_eq_false_iff_eq] at h
 obtain ⟨hoff, hdd, hr⟩ := Nand.refuses_zero h
 obtain ⟨i, rfl⟩ := Int.eq_ofNat_of_zero_le hr.1
 obtain ⟨j, rfl⟩ := Int.eq_ofNat_of_zero_le hr.2.2.1
 have hi : i < N.dies := by omega
 have hj : j < N.blocks := by omega
 have hlen := (hN.cells i j hi hj).1
 refine J.open_ (α := NLoc) 1 rfl rfl (fun _ => rfl) fun Y => ?_
 refine J.openAt 5 (i * N.blocks + j) rfl rfl (blksL_get _ _ _ _ _ (lt_ij hi hj)) rfl ?_
 rw [(div_ij hj).1, (div_ij hj).2]
 refine J.open_ (α := (Option Nat × Nat)) 6 rfl rfl (fun _ => rfl) fun c => ?_
 refine J.q hX fun b7 => ?_
 refine J.plan (.of [0,4,8,13,16,20,26,29,32]) [8] [1,2,3,4,5,6,7] (by rw [hX.hP]; kernel_rfl) (by kernel_rfl) ?_
 refine J.q hX fun b8 => ?_
 refine J.cb hX (n_key i j) [] ?_
 refine cpq ⟨_, rfl, ⟨rfl, rfl, rfl, rfl, rfl, rfl, rfl, trivial⟩, ?_⟩
 refine J.q hX fun b10 => ?_
 refine J.valT hX (.pointer (some ⟨Y.bp (i * N.blocks + j), 0, none⟩)) 7 rfl rfl (fun _ a w he hC => ?_) rfl ?_
 ·refine (lookup_run (key := ((i : Int), (j : Int), 0)) key39 umapB (z := .pointer none) (fun w => by kernel_rfl) rfl rfl rfl rfl he rfl rfl (hC rfl _ (cget_mem (i := 2) rfl))).trans ?_
  simp only [alook_in hi hj]; rfl
 refine J.q hX fun b11 => ?_
 refine J.cb hX (n_cut p N Y hN hR) [1] ?_
 refine cpq ⟨_, rfl, trivial, ?_⟩
 refine J.q hX fun b13 => ?_
 refine J.cond rfl (fun h6 => ?_) (fun h6 => ?_)
 ·refine J.q hX fun b14 => ?_
  rw [show (N.blk i j).cells = ext (N.blk i j).cells 0 from by simp [ext]]
  refine J.q hX fun b15 => ?_
  refine J.lo (α := (Option Nat × Nat × Nat)) (fun z => (ext (N.blk i j).cells z.2.2).length ≤ N.pages) (fun z => [⟨8, .pointer (some ⟨Y.bp (i * N.blocks + j), 0, none⟩), 7, .tt⟩, ⟨0, .pointer (some ⟨p, 0, none⟩), 2, .tt⟩]) [6, 7] (fun z => [.pt (Y.bp (i * N.blocks + j)) 115 [slv z.1 (ext (N.blk i j).cells z.2.2).length z.2.1, .int .i64 (N.blk i j).worn, .bool (N.blk i j).fails, .bool (N.blk i j).met], ownA 120 34 z.1 (ext (N.blk i j).cells z.2.2).length z.2.1 (cellsV (ext (N.blk i j).cells z.2.2))]) (fun z => N.pages - (ext (N.blk i j).cells z.2.2).length) ((c.1, c.2, 0)) (by rw [ext_len]; omega) rfl ?_ (fun _ => rfl) fun z hI => ?_
  ·rfl
  obtain ⟨a, cap, m⟩ := z
  dsimp only at hI ⊢
  refine J.q hX fun b16 => ?_
  refine J.plan (.of [0,4,8,13,16,20,24,28,32,37,40]) [] [1,2,3,4,5,6,7] (by rw [hX.hP]; kernel_rfl) (by kernel_rfl) ?_
  refine J.q hX fun b17 => ?_
  refine J.cond rfl (fun h8 => ?_) (fun h8 => ?_)
  ·simp only [decide_eq_true_eq, Int.ofNat_lt] at h8
   rw [show N.cutN.pages = N.pages from rfl] at h8
   refine J.q hX fun b19 => ?_
   refine J.append hX tk 7 8 0 rfl rfl rfl rfl rfl rfl rfl rfl rfl rfl rfl rfl rfl rfl rfl rfl ?_ ?_ (fun _ => rfl) fun a' cap' => ⟨_, snocC Nand.zcell rfl rfl, trivial, ?_⟩
   ·simp only [maxLen]; omega
   ·omega
   refine J.q hX fun b20 => ?_
   rw [snocLen _ Nand.zcell, ext_succ]
   refine J.q hX fun b21 => ?_
   refine J.nS ((a', cap', m + 1)) (by dsimp only; rw [ext_len] at h8 ⊢; omega) (by dsimp only; rw [ext_len] at h8 ⊢; rw [ext_len]; omega) [0, 1, 2, 3, 4, 5, 6, 7] rfl rfl
  ·simp only [decide_eq_false_iff_not, Int.ofNat_lt] at h8
   rw [show N.cutN.pages = N.pages from rfl] at h8
   have hm : (ext (N.blk i j).cells m).length = N.pages := by omega
   have hm2 : m = N.pages - (N.blk i j).cells.length := by rw [ext_len] at hm; omega
   have hext : ext (N.blk i j).cells m = (N.blk i j).cells ++ List.replicate (N.pages - (N.blk i j).cells.length) Nand.zcell := by rw [hm2]; rfl
   generalize ext (N.blk i j).cells m = B at hm hext
   refine J.know (fun h' s => own_some (c := (a, cap)) (by omega) (s.get (i := 7) rfl)) fun hg => ?_
   obtain ⟨g, hg⟩ := hg
   simp only at hg
   subst hg
   refine J.openOwn 7 rfl rfl (fun _ => rfl) fun r q1 q2 q3 q4 => ?_
   refine J.q hX fun b22 => ?_
   refine J.lo (α := Nat) (fun k => k ≤ B.length) (fun k => [⟨56, .int .i64 k, 0, .tt⟩, ⟨55, .int .i64 B.length, 0, .tt⟩, ⟨8, .pointer (some ⟨Y.bp (i * N.blocks + j), 0, none⟩), 7, .tt⟩]) [7] (fun k => [.pt g 120 (cellsV (lostTo B k) ++ r)]) (fun k => B.length - k) (0) (Nat.zero_le _) rfl ?_ (fun _ => rfl) fun k hI => ?_
   ·rfl
   refine J.q hX fun b24 => ?_
   refine J.cond rfl (fun h9 => ?_) (fun h9 => ?_)
   ·simp only [decide_eq_true_eq, Int.ofNat_lt] at h9
    refine J.q hX fun b25 => ?_
    have hbl : (lostTo B k).length = B.length := lostTo_len B k
    obtain ⟨cl, hcl⟩ : ∃ cl, (lostTo B k)[k]? = some cl := ⟨_, List.getElem?_eq_getElem (by omega)⟩
    refine J.store1 hX tk 7 rfl rfl rfl rfl rfl rfl rfl rfl rfl rfl rfl rfl rfl ?_ (cellsV (lostTo B (k + 1)) ++ r) ?_ rfl (fun _ => rfl) ⟨trivial, ?_⟩
    ·rw [List.length_append, cellsV_len]
     show 0 + (k : Int).toNat * 34 + 32 < _
     simp only [Int.toNat_natCast]; omega
    ·rw [show 0 + (k : Int).toNat * 34 + 32 = k * 34 + 32 from by simp, List.set_append_left _ _ (by rw [cellsV_len]; omega)]
     rw [cellsV_set _ k 32 _ (fun c => { c with lost := true }) cl hcl (by omega) rfl, lostTo_succ h9]
    refine J.q hX fun b26 => ?_
    refine J.nx (k + 1) (by omega) (by omega) (fun _ s => s)
   ·simp only [decide_eq_false_iff_not, Int.ofNat_lt] at h9
    obtain rfl : k = B.length := by omega
    have hall : lostTo B B.length = B.map fun c => { c with lost := true } := by simp [lostTo]
    rw [hall]
    have hmb : (B.map fun c => { c with lost := true }).length = B.length := by simp
    generalize hB' : (B.map fun c => { c with lost := true }) = B' at hmb
    refine J.closeOwn (e := 120) (size := 34) (n := B.length) (cap := cap) (xs := cellsV B') 7 rfl rfl (by rw [cellsV_len, hmb]) q2 q3 (by rw [List.length_append, cellsV_len, hmb]; rw [cellsV_len] at q4; exact q4) (by rw [List.take_left' (by rw [cellsV_len, hmb])]) rfl ?_
    rw [← hmb]
    refine J.q hX fun b27 => ?_
    refine J.closeN p N (N.cutN.setBlk i j { N.blk i j with cells := B' }) Y i j hj ({ N.blk i j with cells := B' }) (some g, cap) [1, 2, 3, 4, 5, 6, 7] rfl rfl rfl rfl (rfl) rfl ?_
    refine J.q hX fun b28 => ?_
    refine J.ru hX [1] ?_
    exact ⟨by simp [Nand.eraseE, h, h6], by rw [eraseN_cut h h6, ← hB', hext]; rfl⟩
 refine J.q hX fun b29 => ?_
 refine J.cond rfl (fun h7 => ?_) (fun h7 => ?_)
 ·refine J.q hX fun b30 => ?_
  refine J.closeN p N (N.cutN.setBlk i j { N.blk i j with met := true }) Y i j hj ({ N.blk i j with met := true }) _ [1, 2, 3, 4, 5, 6, 7] rfl rfl rfl rfl (rfl) rfl ?_
  refine J.q hX fun b31 => ?_
  refine J.ru hX [1] ?_
  exact ⟨by simp [Nand.eraseE, h, h6, h7], by rw [eraseN_fail h h6 h7]; rfl⟩
 have hw := (hnum.2.2 i j)
 refine J.q hX fun b32 => ?_
 refine J.turn1 [7] rfl (As := [ownA 120 34 none 0 0 (cellsV [])]) (fun h s => Sep.one ⟨rfl, rfl, rfl⟩) rfl ?_
 refine J.q hX fun b33 => ?_
 refine J.cb hX (s_Block Y.q N.plan hpl i j) [3] ?_
 rintro v As ⟨a, cap, l', hp, rfl, rfl⟩
 have hl12 : l'.length ≤ 12 := by rw [hp.length_eq]; exact Nat.le_trans (List.length_filter_le _ _) hpl
 refine ⟨_, rfl, trivial, ?_⟩
 refine J.q hX fun b34 => ?_
 refine J.lo (α := Nat) (fun k => k ≤ l'.length) (fun k => [⟨92, .int .i64 k, 0, .tt⟩, ⟨91, .int .i64 l'.length, 0, .tt⟩, ⟨90, slv a l'.length cap, 0, .tt⟩, ⟨0, .pointer (some ⟨p, 0, none⟩), 2, .tt⟩]) [3] (fun k => [SpotA Y.q ((l'.take k).foldl List.erase N.plan)]) (fun k => l'.length - k) (0) (Nat.zero_le _) rfl ?_ (fun _ => rfl) fun k hI => ?_
 ·rfl
 refine J.q hX fun b36 => ?_
 refine J.cond rfl (fun h9 => ?_) (fun h9 => ?_)
 ·simp only [decide_eq_true_eq, Int.ofNat_lt] at h9
  cases a with
  | none =>
   refine J.know (fun h' s => (s.get (i := 8) rfl).2.1) fun hn0 => ?_
   omega
  | some g =>
   have hk : l'[k]? = some (l'.getD k d3) := by rw [List.getD_eq_getElem?_getD, List.getElem?_eq_getElem h9, Option.getD_some]
   refine J.q hX fun b37 => ?_
   refine J.val hX (aggA (l'.getD k d3)) 0 rfl rfl (fun hg a w he hs => ?_) rfl trivial ?_
   ·exact ownN_run tk rfl rfl he rfl rfl rfl (hs.get (i := 8) rfl) (by rw [show 0 + (k : Int).toNat * 3 = k * 3 from by omega]; exact cellsA_get hk) rfl
   refine J.q hX fun b38 => ?_
   refine J.plan (.of [0,4,8,13,17,22]) [] [1,2,4,5,6,7,8,9] (by rw [hX.hP]; kernel_rfl) (by kernel_rfl) ?_
   refine J.q hX fun b40 => ?_
   refine J.cb hX (s_Drop Y.q ((l'.take k).foldl List.erase N.plan) (l'.getD k d3).1 (l'.getD k d3).2.1 (l'.getD k d3).2.2) [3] ?_
   refine cpq ⟨_, rfl, ⟨rfl, rfl, rfl, rfl, rfl, rfl, rfl, rfl, trivial⟩, ?_⟩
   refine J.q hX fun b42 => ?_
   have hst : ((l'.take k).foldl List.erase N.plan).erase (l'.getD k d3) = (l'.take (k + 1)).foldl List.erase N.plan := by
    rw [List.take_add_one, hk]; simp
   rw [show (((l'.getD k d3).1, (l'.getD k d3).2.1, (l'.getD k d3).2.2) : A3) = l'.getD k d3 from rfl, hst]
   refine J.q hX fun b43 => ?_
   refine J.nS (k + 1) (by omega) (by omega) [0, 1, 2, 3, 4, 5, 6, 7, 8] rfl rfl
 ·simp only [decide_eq_false_iff_not, Int.ofNat_lt] at h9
  obtain rfl : k = l'.length := by omega
  rw [List.take_length, erase_all hpn hp]
  refine J.q hX fun b44 => ?_
  refine J.closeN p N ({ N.cutN.setBlk i j { N.blk i j with cells := [], worn := (N.blk i j).worn + 1 } with plan := N.plan.filter fun a => !(decide (a.1 = (i : Int)) && decide (a.2.1 = (j : Int))) }) Y i j hj ({ N.blk i j with cells := [], worn := (N.blk i j).worn + 1 }) (none, 0) [1, 2, 3, 4, 5, 6, 7] rfl rfl rfl rfl (rfl) rfl ?_
  refine J.q hX fun b45 => ?_
  refine J.ru hX [1] ?_
  exact ⟨by simp [Nand.eraseE, h, h6, h7], by rw [eraseN_ok h h6 h7]; rfl⟩
end Go.Proofs.YtdocmcapegcoeaaGreat
