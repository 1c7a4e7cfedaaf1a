/- Helpers of the proofs about ostrakonlaw11, proved here: Rz, PlX, PlTb, InF, Sv, SvB. No condition. -/
import Derived.Test.YtoideahgjgaddaaGreatQ09
import Derived.Test.YtoideahgjgaddaaGreatQ12
import Derived.Test.YtoideahgjgaddaaGreatQ13
import Derived.Test.YtoideahgjgaddaaGreatQ14
set_option maxRecDepth 20000
set_option linter.unusedVariables false
set_option linter.unusedSimpArgs false
set_option linter.unusedSectionVars false
set_option linter.unnecessarySimpa false
namespace Go.Proofs.YtoideahgjgaddaaGreat
open Go Go.RowKit
def fnL (x : Fnd) : List Value := [.int .i64 x.en.lpn, .int .i64 x.en.seq, .int .i64 x.en.role, byC x.en.data 0, byC x.en.data 1, byC x.en.data 2, byC x.en.data 3, byC x.en.data 4, byC x.en.data 5, byC x.en.data 6, byC x.en.data 7, byC x.en.data 8, byC x.en.data 9, byC x.en.data 10, byC x.en.data 11, byC x.en.data 12, byC x.en.data 13, byC x.en.data 14, byC x.en.data 15,
 .int .i64 x.block, .int .i64 x.row, .int .i64 x.slot, .int .i64 x.mask, .bool x.whole, .bool x.mended]
def cellsF (l : List Fnd) : List Value := l.flatMap fnL
theorem fnL_len (x : Fnd) : (fnL x).length = 25 := rfl
theorem cellsF_len (l : List Fnd) : (cellsF l).length = l.length * 25 := by
 induction l with
 | nil => rfl
 | cons x l ih => simp only [cellsF, List.flatMap_cons, List.length_append, List.length_cons] at ih ⊢; rw [ih, fnL_len]; omega
theorem cellsF_snoc (l : List Fnd) (x : Fnd) : cellsF (l ++ [x]) = cellsF l ++ fnL x := by simp [cellsF]
theorem cellsF_get : ∀ {l : List Fnd} {k : Nat} {x : Fnd}, l[k]? = some x → ((cellsF l).drop (k * 25)).take 25 = fnL x
 | [], _, _, h => by simp at h
 | y :: l, 0, x, h => by
  simp at h; subst h
  rw [Nat.zero_mul, List.drop_zero]
  exact List.take_left' (fnL_len y)
 | y :: l, k + 1, x, h => by
  have := cellsF_get (l := l) (k := k) (x := x) (by simpa using h)
  rw [show (k + 1) * 25 = 25 + k * 25 from by omega, ← List.drop_drop]
  simp only [cellsF, List.flatMap_cons]
  rw [List.drop_left' (fnL_len y)]
  exact this
theorem ded_len (x : Int) : ∀ l : List Int, (dedFrom x l).length ≤ l.length
 | [] => Nat.le_refl _
 | y :: l => by
  unfold dedFrom
  split
  ·have h := ded_len y l; exact Nat.le_trans h (by simp)
  ·have h := ded_len y l; simpa using h
theorem compact_len : ∀ l : List Int, (compactI l).length ≤ l.length
 | [] => Nat.le_refl _
 | x :: l => by have h := ded_len x l; simpa [compactI] using h
theorem masks_len (N : Nand) (b r : Int) : (M.masks N b r).length ≤ N.dies := by
 unfold M.masks
 refine Nat.le_trans (compact_len _) ?_
 rw [isortL_len]
 refine Nat.le_trans (List.length_filterMap_le _ _) ?_
 simp [M.rowN]
def outI (N : Nand) (b r : Int) (i : Nat) : List Fnd := ((M.masks N b r).take i).flatMap (R.allM N b r)
def outJ (N : Nand) (b r mk : Int) (i j : Nat) : List Fnd := outI N b r i ++ (List.range j).filterMap (R.fnd (R.look N b r mk) b r mk)
theorem allM_len (N : Nand) (b r m : Int) : (R.allM N b r m).length ≤ 7 := by
 unfold R.allM
 refine Nat.le_trans (List.length_filterMap_le _ _) ?_
 rw [List.length_range, (look_len N b r m).1]
 have := gslots_bd m; omega
theorem outI_len (N : Nand) (b r : Int) (i : Nat) (h : N.dies ≤ 6) : (outI N b r i).length ≤ 42 := by
 have h1 : ∀ l : List Int, (l.flatMap (R.allM N b r)).length ≤ 7 * l.length := by
  intro l
  induction l with
  | nil => simp
  | cons x l ih => rw [List.flatMap_cons, List.length_append, List.length_cons]; have := allM_len N b r x; omega
 have h2 := h1 ((M.masks N b r).take i)
 have h3 := masks_len N b r
 have h4 : ((M.masks N b r).take i).length ≤ 6 := by rw [List.length_take]; omega
 unfold outI; omega
theorem outJ_len (N : Nand) (b r mk : Int) (i j : Nat) (h : N.dies ≤ 6) (hj : j ≤ 7) : (outJ N b r mk i j).length ≤ 49 := by
 have h1 := outI_len N b r i h
 have h2 := List.length_filterMap_le (R.fnd (R.look N b r mk) b r mk) (List.range j)
 rw [List.length_range] at h2
 unfold outJ; rw [List.length_append]; omega
theorem outJ_zero (N : Nand) (b r mk : Int) (i : Nat) : outJ N b r mk i 0 = outI N b r i := by simp [outJ]
theorem outJ_succ (N : Nand) (b r mk : Int) (i j : Nat) : outJ N b r mk i (j + 1) = outJ N b r mk i j ++ (R.fnd (R.look N b r mk) b r mk j).toList := by
 unfold outJ
 rw [List.range_succ, List.filterMap_append, List.append_assoc]
 congr 2
theorem outJ_all (N : Nand) (b r mk : Int) (i : Nat) (h : (M.masks N b r)[i]? = some mk) : outJ N b r mk i (G.slots mk).toNat = outI N b r (i + 1) := by
 unfold outJ outI
 rw [List.take_add_one, h, Option.toList_some, List.flatMap_append]
 congr 1
 rw [List.flatMap_cons, List.flatMap_nil, List.append_nil, R.allM, (look_len N b r mk).1]
theorem r_All (p : Nat) (N : Nand) (hN : N.Ok) (hR : N.Room) (b r : Int) : Fn Tryz.prog 43 [.pointer (some ⟨p, 0, none⟩), .int .i64 b, .int .i64 r] [NandA p N]
  (fun v As => ∃ a c, v = slv a (R.all N b r).length c ∧ As = [NandA p N, ownA 103 25 a (R.all N b r).length c (cellsF (R.all N b r))]) := by
 have hbd := hN.bd
 have hml := masks_len N b r
 refine Fn.enter [2, 0, 0] Tryz.func43 rfl rfl rfl fun X F hX => ?_
 refine J.r hX tk 400 (fun _ => rfl) fun b1 => ?_
 refine J.ca hX (by kernel_rfl) (m_Masks p N hN hR b r) [1] 0 rfl rfl rfl rfl rfl rfl (fun _ => rfl) ?_
 rintro v As ⟨am, cm, rfl, rfl⟩
 refine ⟨_, rfl, trivial, ?_⟩
 refine J.turn1 [] rfl (As := [ownA 103 25 none 0 0 (cellsF (outI N b r 0))]) (fun h s => Sep.one ⟨rfl, rfl, rfl⟩) rfl ?_
 refine J.r hX tk 400 (fun _ => rfl) fun b3 => ?_
 refine J.lo (α := (Nat × Option Nat × Nat)) (fun z => z.1 ≤ (M.masks N b r).length) (fun z => [⟨20, .int .i64 z.1, 0, .tt⟩, ⟨19, .int .i64 (M.masks N b r).length, 0, .tt⟩, ⟨18, slv am (M.masks N b r).length cm, 0, .tt⟩, ⟨7, slv z.2.1 (outI N b r z.1).length z.2.2, 0, .tt⟩, ⟨0, .pointer (some ⟨p, 0, none⟩), 2, .tt⟩, ⟨1, .int .i64 b, 0, .tt⟩, ⟨2, .int .i64 r, 0, .tt⟩]) [3] (fun z => [ownA 103 25 z.2.1 (outI N b r z.1).length z.2.2 (cellsF (outI N b r z.1))]) (fun z => (M.masks N b r).length - z.1) ((0, none, 0)) (Nat.zero_le _) rfl ?_ (fun _ => rfl) fun z hI => ?_
 ·rfl
 obtain ⟨i, ao, co⟩ := z
 dsimp only at hI ⊢
 refine J.r hX tk 400 (fun _ => rfl) fun b5 => ?_
 refine J.cond rfl (fun h1 => ?_) (fun h1 => ?_)
 ·simp only [decide_eq_true_eq, Int.ofNat_lt] at h1
  refine J.know (fun h' s => own_some (c := (am, cm)) (by omega) (s.get (i := 2) rfl)) fun hg => ?_
  obtain ⟨gm, rfl⟩ := hg
  obtain ⟨mk, hmk⟩ : ∃ mk, (M.masks N b r)[i]? = some mk := ⟨_, List.getElem?_eq_getElem h1⟩
  refine J.r hX tk 400 (fun _ => rfl) fun b6 => ?_
  refine J.val hX (.int .i64 mk) 0 rfl rfl (fun hg a w he hw => ?_) rfl trivial ?_
  ·exact own1_run tk rfl rfl he rfl rfl rfl (hw.get (i := 2) rfl) (by rw [show 0 + (i : Int).toNat * 1 = i from by omega]; exact cellsI_get hmk)
  have hsb := gslots_bd mk
  have hlen := look_len N b r mk
  have hdat := look_data hN b r mk
  refine J.r hX tk 400 (fun _ => rfl) fun b7 => ?_
  refine J.ca hX (by kernel_rfl) (r_look p N hN hR b r mk) [1] 0 rfl rfl rfl rfl rfl rfl (fun _ => rfl) ?_
  rintro v As ⟨a1, c1, a2, c2, rfl, rfl⟩
  refine ⟨_, rfl, trivial, ?_⟩
  have hfnd : ∀ j, R.fnd (R.look N b r mk) b r mk j = if R.okAt (R.look N b r mk) j && (R.enAt (R.look N b r mk) j).role != 3 then some ⟨R.enAt (R.look N b r mk) j, b, r, j, mk, (R.look N b r mk).whole, !((R.look N b r mk).good.getD j false)⟩ else none := fun j => rfl
  have hout := outJ_succ N b r mk i
  have hz := outJ_zero N b r mk i
  have hall := outJ_all N b r mk i hmk
  have hol : ∀ j, j ≤ 7 → (outJ N b r mk i j).length ≤ 49 := fun j hj => outJ_len N b r mk i j (by omega) hj
  have hnb : (G.slots mk).toNat ≤ 7 := by omega
  rw [← hz]
  generalize hf : R.look N b r mk = f at hlen hdat hfnd hout
  generalize hn : (G.slots mk).toNat = n at hlen hall hnb
  refine J.r hX tk 400 (fun _ => rfl) fun bbf => ?_
  refine J.lo (α := (Nat × Option Nat × Nat)) (fun z => z.1 ≤ n) (fun z => [⟨32, .int .i64 z.1, 0, .tt⟩, ⟨31, .int .i64 n, 0, .tt⟩, ⟨30, slv a1 n c1, 0, .tt⟩, ⟨10, .pointer (some ⟨bbf 0, 0, none⟩), 7, .tt⟩, ⟨9, .int .i64 mk, 0, .tt⟩, ⟨20, .int .i64 i, 0, .tt⟩, ⟨19, .int .i64 (M.masks N b r).length, 0, .tt⟩, ⟨18, slv (some gm) (M.masks N b r).length cm, 0, .tt⟩, ⟨7, slv z.2.1 (outJ N b r mk i z.1).length z.2.2, 0, .tt⟩, ⟨0, .pointer (some ⟨p, 0, none⟩), 2, .tt⟩, ⟨1, .int .i64 b, 0, .tt⟩, ⟨2, .int .i64 r, 0, .tt⟩]) [3] (fun z => [ownA 103 25 z.2.1 (outJ N b r mk i z.1).length z.2.2 (cellsF (outJ N b r mk i z.1))]) (fun z => n - z.1) ((0, ao, co)) (Nat.zero_le _) rfl ?_ (fun _ => rfl) fun z hI => ?_
  ·rfl
  obtain ⟨j, ao, co⟩ := z
  dsimp only at hI ⊢
  refine J.r hX tk 400 (fun _ => rfl) fun b10 => ?_
  refine J.cond rfl (fun h2 => ?_) (fun h2 => ?_)
  ·simp only [decide_eq_true_eq, Int.ofNat_lt] at h2
   refine J.know (fun h' s => own_some (c := (a1, c1)) (by omega) (s.get (i := 4) rfl)) fun hg => ?_
   obtain ⟨g1, rfl⟩ := hg
   refine J.know (fun h' s => own_some (c := (a2, c2)) (by omega) (s.get (i := 5) rfl)) fun hg => ?_
   obtain ⟨g2, rfl⟩ := hg
   obtain ⟨s, hs⟩ : ∃ s, f.slots[j]? = some s := ⟨_, List.getElem?_eq_getElem (by omega)⟩
   obtain ⟨gk, hgd⟩ : ∃ g, f.good[j]? = some g := ⟨_, List.getElem?_eq_getElem (by omega)⟩
   have hgk : f.good.getD j false = gk := by rw [List.getD_eq_getElem?_getD, hgd, Option.getD_some]
   have hsk : f.slots.getD j Sh.zero = s := by rw [List.getD_eq_getElem?_getD, hs, Option.getD_some]
   refine J.r hX tk 400 (fun _ => rfl) fun b11 => ?_
   refine J.val hX (shV s) 0 rfl rfl (fun hg a w he hw => ?_) rfl trivial ?_
   ·exact ownN_run tk rfl rfl he rfl rfl rfl (hw.get (i := 4) rfl) (by rw [show 0 + (j : Int).toNat * 23 = j * 23 from by omega]; exact cellsS_get hs) rfl
   obtain ⟨bb, hbb⟩ : ∃ x, bbf 0 = x := ⟨_, rfl⟩
   rw [hbb]
   refine J.r hX tk 400 (fun _ => rfl) fun b12 => ?_
   refine J.plan (.take false 0 (.take true 2 (.take false 3 (.take true 4 (.take true 5 (.take false 6 (.alt false 1 ((.of [30,34,36])) (.alt false 7 ((.of [6,34,36])) .non)))))))) [9] [5, 6, 7] (by rw [hX.hP]; kernel_rfl) (by kernel_rfl) ?_
   refine J.join (α := Nat) (fun x => [⟨14, .bool gk, 0, .tt⟩, ⟨13, .pointer (some ⟨x, 0, none⟩), 8, .tt⟩, ⟨11, .int .i64 j, 0, .tt⟩, ⟨32, .int .i64 j, 0, .tt⟩, ⟨31, .int .i64 n, 0, .tt⟩, ⟨30, slv (some g1) n c1, 0, .tt⟩, ⟨10, .pointer (some ⟨bb, 0, none⟩), 7, .tt⟩, ⟨9, .int .i64 mk, 0, .tt⟩, ⟨20, .int .i64 i, 0, .tt⟩, ⟨19, .int .i64 (M.masks N b r).length, 0, .tt⟩, ⟨18, slv (some gm) (M.masks N b r).length cm, 0, .tt⟩, ⟨7, slv ao (outJ N b r mk i j).length co, 0, .tt⟩, ⟨0, .pointer (some ⟨p, 0, none⟩), 2, .tt⟩, ⟨1, .int .i64 b, 0, .tt⟩, ⟨2, .int .i64 r, 0, .tt⟩]) (fun x => [.hp F, NandA p N, ownA 3 1 (some gm) (M.masks N b r).length cm (cellsI (M.masks N b r)), ownA 103 25 ao (outJ N b r mk i j).length co (cellsF (outJ N b r mk i j)), ownA 137 23 (some g1) n c1 (cellsS f.slots), ownA 4 1 (some g2) n c2 (cellsB f.good), .pt bb 163 (fdL (some g1) c1 (some g2) c2 n f.parity f.whole), .pt x 45 (enL s.en)]) (fun hj => ?_) (fun x => ?_)
   ·skip
    refine J.r hX tk 5 (fun _ => rfl) fun b13 => ?_
    refine J.valT hX (.bool gk) 0 rfl rfl (fun _ a w he hC => own1_run tk rfl rfl he rfl rfl rfl (hC rfl _ (cget_mem (i := 5) rfl)) (by rw [show 0 + (j : Int).toNat * 1 = j from by omega]; exact cellsB_get hgd)) rfl ?_
    refine J.alts ?_ ?_
    ·skip
     refine J.r hX tk 400 (fun _ => rfl) fun b14 => ?_
     refine J.ca hX (by kernel_rfl) (r_entry s) [] 0 rfl rfl rfl rfl rfl rfl (fun _ => rfl) ?_
     rintro v As ⟨rfl, rfl⟩
     refine ⟨_, rfl, ⟨rfl, rfl, rfl, trivial⟩, ?_⟩
     refine J.r hX tk 1 (fun _ => rfl) fun b7 => ?_
     refine J.r hX tk 3 (fun _ => rfl) fun b15 => ?_
     exact J.goto [0, 1, 2, 3, 4, 5, 6, 8] (hj (b7 0)) ⟨rfl, rfl, rfl, rfl, rfl, rfl, rfl, rfl, rfl, rfl, rfl, rfl, rfl, rfl, rfl, trivial⟩ rfl rfl
    ·skip
     refine J.r hX tk 1 (fun _ => rfl) fun b7 => ?_
     refine J.r hX tk 400 (fun _ => rfl) fun b16 => ?_
     refine J.ca hX (by kernel_rfl) (r_entry s) [] 0 rfl rfl rfl rfl rfl rfl (fun _ => rfl) ?_
     rintro v As ⟨rfl, rfl⟩
     refine ⟨_, rfl, ⟨rfl, rfl, rfl, trivial⟩, ?_⟩
     refine J.r hX tk 3 (fun _ => rfl) fun b17 => ?_
     exact J.goto [0, 1, 2, 3, 4, 5, 6, 8] (hj (b7 0)) ⟨rfl, rfl, rfl, rfl, rfl, rfl, rfl, rfl, rfl, rfl, rfl, rfl, rfl, rfl, rfl, trivial⟩ rfl rfl
   refine J.r hX tk 400 (fun _ => rfl) fun b18 => ?_
   refine J.join (α := Unit) (fun _ => [⟨14, .bool (R.okAt f j), 0, .tt⟩, ⟨13, .pointer (some ⟨x, 0, none⟩), 8, .tt⟩, ⟨11, .int .i64 j, 0, .tt⟩, ⟨32, .int .i64 j, 0, .tt⟩, ⟨31, .int .i64 n, 0, .tt⟩, ⟨30, slv (some g1) n c1, 0, .tt⟩, ⟨10, .pointer (some ⟨bb, 0, none⟩), 7, .tt⟩, ⟨9, .int .i64 mk, 0, .tt⟩, ⟨20, .int .i64 i, 0, .tt⟩, ⟨19, .int .i64 (M.masks N b r).length, 0, .tt⟩, ⟨18, slv (some gm) (M.masks N b r).length cm, 0, .tt⟩, ⟨7, slv ao (outJ N b r mk i j).length co, 0, .tt⟩, ⟨0, .pointer (some ⟨p, 0, none⟩), 2, .tt⟩, ⟨1, .int .i64 b, 0, .tt⟩, ⟨2, .int .i64 r, 0, .tt⟩]) (fun _ => [.hp F, NandA p N, ownA 3 1 (some gm) (M.masks N b r).length cm (cellsI (M.masks N b r)), ownA 103 25 ao (outJ N b r mk i j).length co (cellsF (outJ N b r mk i j)), ownA 137 23 (some g1) n c1 (cellsS f.slots), ownA 4 1 (some g2) n c2 (cellsB f.good), .pt bb 163 (fdL (some g1) c1 (some g2) c2 n f.parity f.whole), .pt x 45 (enL (R.enAt f j))]) (fun hj => ?_) (fun _ => ?_)
   ·refine J.r hX tk 400 (fun _ => rfl) fun b19 => ?_
    refine J.cond rfl (fun h3 => ?_) (fun h3 => ?_)
    ·simp only [Bool.not_eq_true'] at h3
     subst h3
     refine J.r hX tk 400 (fun _ => rfl) fun b20 => ?_
     refine J.ca hX (by kernel_rfl) (r_mended f n (by omega) hlen.1 hlen.2 hdat.1 hdat.2 (some g1) (some g2) c1 c2 j) [4, 5] 0 rfl rfl rfl rfl rfl rfl (fun _ => rfl) ?_
     rintro v As ⟨rfl, rfl⟩
     refine ⟨_, rfl, trivial, ?_⟩
     rw [show R.okAt f j = R.mendB f j from by rw [R.okAt, hgk]; rfl, show R.enAt f j = R.mend f j from by rw [R.enAt, hgk]; rfl] at hj
     refine J.r hX tk 6 (fun _ => rfl) fun b22 => ?_
     exact J.goto [0, 1, 2, 3, 4, 5, 6, 7] (hj ()) ⟨rfl, rfl, rfl, rfl, rfl, rfl, rfl, rfl, rfl, rfl, rfl, rfl, rfl, rfl, rfl, trivial⟩ rfl rfl
    ·simp only [Bool.not_eq_false'] at h3
     subst h3
     rw [show R.okAt f j = true from by rw [R.okAt, hgk]; rfl, show R.enAt f j = s.en from by rw [R.enAt, hgk, if_pos rfl, hsk]] at hj
     refine J.r hX tk 1 (fun _ => rfl) fun b23 => ?_
     exact J.goto [0, 1, 2, 3, 4, 5, 6, 7] (hj ()) ⟨rfl, rfl, rfl, rfl, rfl, rfl, rfl, rfl, rfl, rfl, rfl, rfl, rfl, rfl, rfl, trivial⟩ rfl rfl
   have hf1 := hfnd j
   have ho1 := hout j
   have hol1 := hol j (by omega)
   generalize R.okAt f j = ok at hf1
   generalize R.enAt f j = e at hf1
   refine J.r hX tk 400 (fun _ => rfl) fun b24 => ?_
   refine J.cond rfl (fun h4 => ?_) (fun h4 => ?_)
   ·rw [if_pos h4, hgk] at hf1
    rw [hf1, Option.toList_some] at ho1
    have hsl : (outJ N b r mk i j).length + 1 = (outJ N b r mk i (j + 1)).length := by rw [ho1, List.length_append]; rfl
    refine J.r hX tk 400 (fun _ => rfl) fun b25 => ?_
    refine J.plan (.of [0,5,8,12,16,20,24,28,33,36,41,44,48,53,56,60,66,70,72]) [18] [5,6,7] (by rw [hX.hP]; kernel_rfl) (by kernel_rfl) ?_
    refine J.r hX tk 14 (fun _ => rfl) fun b26 => ?_
    refine J.valT hX (.bool gk) 0 rfl rfl (fun _ a w he hC => own1_run tk rfl rfl he rfl rfl rfl (hC rfl _ (cget_mem (i := 5) rfl)) (by rw [show 0 + (j : Int).toNat * 1 = j from by omega]; exact cellsB_get hgd)) rfl ?_
    refine J.r hX tk 400 (fun _ => rfl) fun b27 => ?_
    refine J.append hX tk 3 8 0 rfl rfl rfl rfl rfl rfl rfl rfl rfl rfl rfl rfl rfl rfl rfl rfl ?_ ?_ (fun _ => rfl) fun a4 c4 => ⟨_, (congrArg (fun z => lset _ 3 (ownA _ _ _ _ _ z)) ((cellsF_snoc _ _).symm.trans (congrArg cellsF ho1.symm))).trans rfl, ⟨rfl, rfl, rfl, trivial⟩, ?_⟩
    ·simp only [maxLen]; omega
    ·omega
    rw [hsl]
    refine J.r hX tk 400 (fun _ => rfl) fun b28 => ?_
    rw [← hbb]
    refine J.r hX tk 400 (fun _ => rfl) fun b29 => ?_
    refine J.nS ((j + 1, a4, c4)) (by dsimp only; omega) (by dsimp only; omega) [0, 1, 2, 3, 4, 5, 6] rfl rfl
   ·rw [if_neg (by rw [h4]; exact Bool.false_ne_true)] at hf1
    rw [hf1, Option.toList_none, List.append_nil] at ho1
    rw [← ho1]
    refine J.r hX tk 400 (fun _ => rfl) fun b30 => ?_
    rw [← hbb]
    refine J.r hX tk 400 (fun _ => rfl) fun b31 => ?_
    refine J.nS ((j + 1, ao, co)) (by dsimp only; omega) (by dsimp only; omega) [0, 1, 2, 3, 4, 5, 6] rfl rfl
  ·simp only [decide_eq_false_iff_not, Int.ofNat_lt] at h2
   obtain rfl : j = n := by omega
   rw [hall]
   refine J.r hX tk 400 (fun _ => rfl) fun b32 => ?_
   refine J.nS ((i + 1, ao, co)) (by dsimp only; omega) (by dsimp only; omega) [0, 1, 2, 3] rfl rfl
 ·simp only [decide_eq_false_iff_not, Int.ofNat_lt] at h1
  obtain rfl : i = (M.masks N b r).length := by omega
  have : outI N b r (M.masks N b r).length = R.all N b r := by unfold outI R.all; rw [List.take_length]
  rw [this]
  refine J.r hX tk 400 (fun _ => rfl) fun b34 => ?_
  refine J.rt hX tk [1, 3] rfl rfl rfl ?_
  exact ⟨ao, co, rfl, rfl⟩
end Go.Proofs.YtoideahgjgaddaaGreat
namespace Go.Proofs.YtoideahgjgaddaaGreat
open Go
def EnBd (e : En) : Prop := (0 ≤ e.lpn ∧ e.lpn ≤ 65535) ∧ (0 ≤ e.seq ∧ e.seq ≤ 1099511627775)
theorem may_en {s : Sh} (h : S.may s = true) : EnBd s.en := by
 simp only [S.may, S.numbers, S.inB, Bool.and_eq_true, decide_eq_true_eq] at h
 exact ⟨h.1.2.1.2, h.1.2.1.1⟩
theorem get_may {p : List UInt8} {s : Sh} (h : S.get p = some s) : S.may s = true := by
 unfold S.get at h
 split at h
 ·rename_i hh
  injection h with h
  subst h
  exact hh.1
 ·cases h
theorem look_may {N : Nand} {x y z : Int} (h : (M.look N x y z).2 = 1) : S.may (M.look N x y z).1 = true := by
 unfold M.look at h ⊢
 dsimp only at h ⊢
 split
 ·rename_i h0
  rw [if_pos h0] at h
  split
  ·rename_i h1
   rw [if_pos h1] at h
   simp at h
  ·rename_i h1
   simp only [not_or] at h1
   have hg : S.getE (N.readV x y z) = 0 := by simpa using h1.1
   unfold S.getE at hg
   cases hs : S.get (N.readV x y z) with
   | none => rw [hs] at hg; simp at hg
   | some s => simp only [S.getV, hs, Option.getD_some]; exact get_may hs
 ·rename_i h0
  rw [if_neg h0] at h
  split at h
  ·simp at h
  ·split at h <;> simp at h
theorem ok_en {b r m : Int} {e : En} (h : W.ok b r m e = true) : EnBd e := may_en (s := W.sh b r m e) h
theorem fnd_bd {N : Nand} {b r : Int} {f : Fnd} (h : f ∈ R.all N b r) : f.block = b ∧ f.row = r ∧ EnBd f.en := by
 unfold R.all at h
 rw [List.mem_flatMap] at h
 obtain ⟨m, _, h⟩ := h
 unfold R.allM at h
 rw [List.mem_filterMap] at h
 obtain ⟨k, hk, h⟩ := h
 rw [List.mem_range] at hk
 unfold R.fnd at h
 split at h
 ·rename_i hc
  injection h with h
  subst h
  refine ⟨rfl, rfl, ?_⟩
  simp only [Bool.and_eq_true] at hc
  obtain ⟨h1, _⟩ := hc
  dsimp only
  unfold R.enAt
  unfold R.okAt at h1
  split
  ·rename_i hg
   have hlen : k < (R.ones N b r m (G.slots m).toNat).length := by simpa [R.look] using hk
   have e1 : (R.look N b r m).good.getD k false = ((R.ones N b r m (G.slots m).toNat)[k]).2 := by simp [R.look, hlen]
   have e2 : (R.look N b r m).slots.getD k Sh.zero = ((R.ones N b r m (G.slots m).toNat)[k]).1 := by simp [R.look, hlen]
   rw [e1] at hg
   rw [e2]
   simp only [R.ones, List.getElem_map, R.one, Bool.and_eq_true, beq_iff_eq] at hg ⊢
   exact may_en (look_may hg.1)
  ·rename_i hg
   rw [Bool.not_eq_true] at hg
   rw [hg, Bool.false_or] at h1
   unfold R.mendB at h1
   simp only [Bool.and_eq_true] at h1
   have hb := h1.2
   unfold R.mend
   rw [if_pos (by rw [Bool.and_eq_true]; exact h1.1), W.back, if_pos hb]
   unfold W.backB at hb
   simp only [Bool.and_eq_true] at hb
   exact ok_en hb.2
 ·cases h
theorem all_len (N : Nand) (hN : N.Ok) : (V.all N).length ≤ 6000 := by
 have hbd := hN.bd
 have h0 : ∀ b r, (R.all N b r).length ≤ 42 := fun b r => by
  have := outI_len N b r (M.masks N b r).length (by omega)
  unfold outI at this
  rwa [List.take_length] at this
 have h1 : ∀ (l : List Nat) (b : Int), (l.flatMap fun r => R.all N b (r : Nat)).length ≤ 42 * l.length := by
  intro l b
  induction l with
  | nil => simp
  | cons x l ih => rw [List.flatMap_cons, List.length_append, List.length_cons]; have := h0 b x; omega
 have h2 : ∀ l : List Nat, (l.flatMap fun b => (List.range N.pages).flatMap fun r => R.all N (b : Nat) (r : Nat)).length ≤ 336 * l.length := by
  intro l
  induction l with
  | nil => simp
  | cons x l ih =>
   rw [List.flatMap_cons, List.length_append, List.length_cons]
   have := h1 (List.range N.pages) x
   rw [List.length_range] at this
   omega
 have := h2 (List.range N.blocks)
 rw [List.length_range] at this
 unfold V.all
 omega
theorem all_bd {N : Nand} {f : Fnd} (h : f ∈ V.all N) : (∃ r : Nat, f.row = (r : Int) ∧ r < N.pages) ∧ EnBd f.en := by
 unfold V.all at h
 rw [List.mem_flatMap] at h
 obtain ⟨b, _, h⟩ := h
 rw [List.mem_flatMap] at h
 obtain ⟨r, hr, h⟩ := h
 have := fnd_bd h
 exact ⟨⟨r, this.2.1, List.mem_range.1 hr⟩, this.2.2⟩
end Go.Proofs.YtoideahgjgaddaaGreat
namespace Go.Proofs.YtoideahgjgaddaaGreat
namespace Tb
def cntB (l : List (Int × AtV)) (b : Int) : Nat := l.countP fun x => x.2.block == b
structure Ok (t : Tb) : Prop where
 keys : (t.at_.map (·.1)).Nodup
 rng : ∀ x ∈ t.at_, 0 ≤ x.1 ∧ x.1 < t.logical
 cnt : ∀ b, t.count b = (cntB t.at_ b : Int)
 log : 0 ≤ t.logical ∧ t.logical ≤ 65536
theorem look_none {α : Type} {k : Int} : ∀ {l : List (Int × α)}, look l k = none ↔ k ∉ l.map (·.1)
 | [] => by simp [look]
 | x :: l => by
  simp only [look, List.map_cons, List.mem_cons, not_or]
  split
  ·rename_i h; simp [h]
  ·rename_i h; rw [look_none]; simp [h]
theorem put1_new {α : Type} {k : Int} {v : α} : ∀ {l : List (Int × α)}, look l k = none → put1 l k v = l ++ [(k, v)]
 | [], _ => rfl
 | x :: l, h => by
  simp only [look] at h
  split at h
  ·cases h
  ·rename_i e; simp only [put1, if_neg e, put1_new h, List.cons_append]
theorem put1_keys {α : Type} {k : Int} {v : α} : ∀ {l : List (Int × α)}, (look l k).isSome = true → (put1 l k v).map (·.1) = l.map (·.1)
 | [], h => by simp [look] at h
 | x :: l, h => by
  simp only [look] at h
  simp only [put1]
  split
  ·rename_i e; simp [e]
  ·rename_i e; rw [if_neg e] at h; simp only [List.map_cons, put1_keys h]
theorem cntB_put {k : Int} {v : AtV} (b : Int) : ∀ {l : List (Int × AtV)}, (l.map (·.1)).Nodup → (cntB (put1 l k v) b : Int) = (cntB l b : Int) - (match look l k with | some a => if a.block = b then 1 else 0 | none => 0) + (if v.block = b then 1 else 0)
 | [], _ => by simp [put1, look, cntB]; split <;> simp_all
 | x :: l, h => by
  simp only [put1, look]
  by_cases e : k = x.1
  ·rw [if_pos e, if_pos e]
   simp only [cntB, List.countP_cons, beq_iff_eq]
   split <;> split <;> omega
  ·rw [if_neg e, if_neg e]
   have := cntB_put (k := k) (v := v) b (l := l) (by simp only [List.map_cons, List.nodup_cons] at h; exact h.2)
   simp only [cntB, List.countP_cons] at this ⊢
   rw [Int.natCast_add, Int.natCast_add, this]
   omega
theorem count_put1 (c : List (Int × Int)) (k v b : Int) : (look (put1 c k v) b).getD 0 = if b = k then v else (look c b).getD 0 := by
 rw [look_put1]; split <;> rfl
theorem ok_spec {t : Tb} {e : En} (h : t.ok e = true) : 0 ≤ e.lpn ∧ e.lpn < t.logical := by
 simp only [ok, Bool.not_eq_true', Bool.or_eq_false_iff, decide_eq_false_iff_not] at h
 omega
theorem Ok.new (n : Int) : (Tb.new n).Ok := ⟨by simp [Tb.new], by simp [Tb.new], fun b => rfl, by simp only [Tb.new]; omega⟩
theorem Ok.put {t : Tb} (h : t.Ok) (e : En) (b r s m : Int) : (t.put e b r s m).Ok := by
 unfold Tb.put
 split
 ·rename_i hp
  simp only [putB, Bool.and_eq_true] at hp
  have ho := ok_spec hp.1
  have hk : (put1 t.at_ e.lpn ⟨b, r, s, m, e.seq, e.role⟩).map (·.1) = t.at_.map (·.1) ∨ look t.at_ e.lpn = none ∧ (put1 t.at_ e.lpn ⟨b, r, s, m, e.seq, e.role⟩).map (·.1) = t.at_.map (·.1) ++ [e.lpn] := by
   cases hl : look t.at_ e.lpn with
   | none => right; exact ⟨rfl, by rw [put1_new hl]; simp⟩
   | some a => left; exact put1_keys (by rw [hl]; rfl)
  refine ⟨?_, ?_, ?_, h.log⟩
  ·rcases hk with hk | ⟨hn, hk⟩
   ·show ((put1 _ _ _).map _).Nodup
    rw [hk]; exact h.keys
   ·show ((put1 _ _ _).map _).Nodup
    rw [hk, List.nodup_append]
    exact ⟨h.keys, by simp, fun a ha c hc => by simp at hc; subst hc; exact fun e => look_none.1 hn (e ▸ ha)⟩
  ·intro x hx
   have hx : x.1 ∈ (put1 t.at_ e.lpn ⟨b, r, s, m, e.seq, e.role⟩).map (·.1) := List.mem_map_of_mem hx
   have hr : ∀ k ∈ t.at_.map (·.1), 0 ≤ k ∧ k < t.logical := fun k hk => by
    obtain ⟨y, hy, rfl⟩ := List.mem_map.1 hk; exact h.rng y hy
   rcases hk with hk | ⟨_, hk⟩
   ·rw [hk] at hx; exact hr _ hx
   ·rw [hk, List.mem_append] at hx
    rcases hx with hx | hx
    ·exact hr _ hx
    ·simp at hx; rw [hx]; exact ho
  ·intro c
   show (look (cnt2 t e b) c).getD 0 = (cntB (put1 t.at_ e.lpn ⟨b, r, s, m, e.seq, e.role⟩) c : Int)
   rw [cntB_put c h.keys]
   have h1 : ∀ d, (look (cnt1 t e) d).getD 0 = (cntB t.at_ d : Int) - (match look t.at_ e.lpn with | some a => if a.block = d then 1 else 0 | none => 0) := by
    intro d
    have hd : (look t.cnt d).getD 0 = (cntB t.at_ d : Int) := h.cnt d
    unfold cnt1
    cases hl : look t.at_ e.lpn with
    | none => dsimp only; rw [hd]; omega
    | some a =>
     dsimp only
     rw [count_put1]
     split
     ·rename_i e1; subst e1; rw [if_pos rfl, h.cnt]
     ·rename_i e1; rw [if_neg (fun e => e1 e.symm), hd]; omega
   unfold cnt2
   rw [count_put1, h1 b, h1 c]
   dsimp only
   by_cases e1 : c = b
   ·subst e1; rw [if_pos rfl, if_pos rfl]
   ·rw [if_neg e1, if_neg (fun e => e1 e.symm)]; omega
 ·exact h
theorem countP_one {p q : Nat → Bool} {i0 : Nat} (h1 : ∀ i, i ≠ i0 → p i = q i) (h2 : q i0 = false) : ∀ n, (List.range n).countP p = (List.range n).countP q + (if i0 < n ∧ p i0 = true then 1 else 0)
 | 0 => by simp
 | n + 1 => by
  rw [List.range_succ, List.countP_append, List.countP_append, countP_one h1 h2 n]
  simp only [List.countP_singleton]
  by_cases e : n = i0
  ·subst e
   rw [h2]
   cases p n <;> simp
  ·rw [h1 n e]
   by_cases e2 : i0 < n
   ·simp [e2, show i0 < n + 1 by omega]; omega
   ·simp [e2, show ¬ i0 < n + 1 by omega]
theorem at_cnt {α : Type} (n : Nat) : ∀ l : List (Int × α), (l.map (·.1)).Nodup → (∀ x ∈ l, 0 ≤ x.1 ∧ x.1 < (n : Int)) → l.length = (List.range n).countP fun i : Nat => (look l (i : Int)).isSome
 | [], _, _ => by simp [look]
 | x :: l, h1, h2 => by
  simp only [List.map_cons, List.nodup_cons] at h1
  have ih := at_cnt n l h1.2 (fun y hy => h2 y (List.mem_cons_of_mem _ hy))
  have hx := h2 x (List.mem_cons_self ..)
  have hn : look l x.1 = none := look_none.2 h1.1
  rw [countP_one (q := fun i : Nat => (look l (i : Int)).isSome) (i0 := x.1.toNat)]
  ·rw [← ih]
   have : ((x.1.toNat : Nat) : Int) = x.1 := by omega
   simp only [this, look, if_true, Option.isSome_some, and_true, List.length_cons]
   rw [if_pos (by omega)]
  ·intro i hi
   simp only [look]
   rw [if_neg (by omega)]
  ·have : ((x.1.toNat : Nat) : Int) = x.1 := by omega
   simp only [this, hn]; rfl
theorem len_le {α : Type} (n : Nat) (l : List (Int × α)) (h1 : (l.map (·.1)).Nodup) (h2 : ∀ x ∈ l, 0 ≤ x.1 ∧ x.1 < (n : Int)) : l.length ≤ n := by
 rw [at_cnt n l h1 h2]
 have := List.countP_le_length (p := fun i : Nat => (look l (i : Int)).isSome) (l := List.range n)
 rwa [List.length_range] at this
theorem Ok.len {t : Tb} (h : t.Ok) : t.at_.length ≤ 65536 := by
 have := len_le t.logical.toNat t.at_ h.keys (fun x hx => by have := h.rng x hx; omega)
 have := h.log
 omega
theorem Ok.bd {t : Tb} (h : t.Ok) (k : Int) : 0 ≤ t.count k ∧ t.count k ≤ 1000000 := by
 rw [h.cnt]
 have : cntB t.at_ k ≤ t.at_.length := List.countP_le_length
 have := h.len
 omega
theorem range_cnt (b : Int) (n : Nat) : ∀ l : List (Int × AtV), (l.map (·.1)).Nodup → (∀ x ∈ l, 0 ≤ x.1 ∧ x.1 < (n : Int)) → (List.range n).countP (fun i : Nat => match look l (i : Int) with | some a => a.block == b | none => false) = cntB l b
 | [], _, _ => by simp [look, cntB]
 | x :: l, h1, h2 => by
  simp only [List.map_cons, List.nodup_cons] at h1
  have ih := range_cnt b n l h1.2 (fun y hy => h2 y (List.mem_cons_of_mem _ hy))
  have hx := h2 x (List.mem_cons_self ..)
  have hn : look l x.1 = none := look_none.2 h1.1
  rw [countP_one (q := fun i : Nat => match look l (i : Int) with | some a => a.block == b | none => false) (i0 := x.1.toNat)]
  ·rw [ih, cntB, cntB, List.countP_cons]
   have : ((x.1.toNat : Nat) : Int) = x.1 := by omega
   simp only [this, look, if_true]
   have hlt : x.1.toNat < n := by omega
   simp only [hlt, true_and]
  ·intro i hi
   simp only [look]
   rw [if_neg (by omega)]
  ·have : ((x.1.toNat : Nat) : Int) = x.1 := by omega
   simp only [this, hn]
theorem Ok.inK_len {t : Tb} (h : t.Ok) (b : Int) : ((inK t b t.logical.toNat).length : Int) = t.count b := by
 rw [h.cnt, inK, List.length_map, ← List.countP_eq_length_filter, ← range_cnt b t.logical.toNat t.at_ h.keys (fun x hx => by have := h.rng x hx; omega)]
 rfl
theorem Ok.ins {t : Tb} (h : t.Ok) (b : Int) : t.ins b = inK t b t.logical.toNat := by
 unfold Tb.ins
 split
 ·rename_i h0
  have := h.inK_len b
  rw [h0] at this
  have : (inK t b t.logical.toNat).length = 0 := by omega
  exact (List.eq_nil_of_length_eq_zero this).symm
 ·rfl
theorem put_logical (t : Tb) (e : En) (b r s m : Int) : (t.put e b r s m).logical = t.logical := by unfold Tb.put; split <;> rfl
theorem Ok.at_len {t : Tb} (h : t.Ok) : t.at_.length = (List.range t.logical.toNat).countP fun i : Nat => (look t.at_ (i : Int)).isSome := at_cnt _ _ h.keys (fun x hx => by have := h.rng x hx; omega)
end Tb
end Go.Proofs.YtoideahgjgaddaaGreat
namespace Go.Proofs.YtoideahgjgaddaaGreat
open Go Go.RowKit
def idxN (p : Int → Bool) (l : List Int) : Int := match l.findIdx? p with
 | some k => k
 | none => -1
theorem idxN_step {p : Int → Bool} {l : List Int} {k : Nat} {x : Int} (h : l[k]? = some x) (h0 : ∀ i < k, p (l.getD i 0) = false) (hp : p x = true) : l.findIdx? p = some k := by
 rw [List.findIdx?_eq_some_iff_getElem]
 obtain ⟨h1, h2⟩ := List.getElem?_eq_some_iff.1 h
 refine ⟨h1, by rw [h2]; exact hp, fun j hj => ?_⟩
 have := h0 j hj
 rw [List.getD_eq_getElem?_getD, List.getElem?_eq_getElem (by omega), Option.getD_some] at this
 simp [this]
theorem idxN_none {p : Int → Bool} {l : List Int} (h0 : ∀ i < l.length, p (l.getD i 0) = false) : l.findIdx? p = none := by
 rw [List.findIdx?_eq_none_iff]
 intro x hx
 obtain ⟨i, hi, rfl⟩ := List.mem_iff_getElem.1 hx
 have := h0 i hi
 rwa [List.getD_eq_getElem?_getD, List.getElem?_eq_getElem hi, Option.getD_some] at this
theorem idxN_any (p : Int → Bool) (l : List Int) : decide (idxN p l ≥ 0) = l.any p := by
 unfold idxN
 cases h : l.findIdx? p with
 | none =>
  rw [List.findIdx?_eq_none_iff] at h
  have : l.any p = false := by rw [List.any_eq_false]; exact fun x hx => by simp [h x hx]
  rw [this]; rfl
 | some k =>
  rw [List.findIdx?_eq_some_iff_getElem] at h
  obtain ⟨h1, h2, _⟩ := h
  have : l.any p = true := List.any_eq_true.2 ⟨l[k], List.getElem_mem _, h2⟩
  rw [this]; simp
theorem x_IndexI (c : Nat) (cs : List Value) (p : Int → Bool) (A : Atom) (hcal : callable Tryz.prog c = true) (l : List Int) (hf : ∀ x ∈ l, Fn Tryz.prog c (.int .i64 x :: cs) [A] (fun v As => v = .bool (p x) ∧ As = [A]))
  (a : Option Nat) (n cap : Nat) (hl : l.length = n) (hn : n ≤ 4611686018427387904) : Fn Tryz.prog 136 [slv a n cap, fnC c cs] [ownA 3 1 a n cap (cellsI l), A]
  (fun v As => v = .int .i64 (idxN p l) ∧ As = [ownA 3 1 a n cap (cellsI l), A]) := by
 refine Fn.enter [0, 0] Tryz.func136 rfl rfl rfl fun X F hX => ?_
 refine J.r hX tk 400 (fun _ => rfl) fun b1 => ?_
 refine J.lo (α := Nat) (fun k => k ≤ n ∧ ∀ i < k, p (l.getD i 0) = false) (fun k => [⟨8, .int .i64 k, 0, .tt⟩, ⟨7, .int .i64 n, 0, .tt⟩, ⟨0, slv a n cap, 0, .tt⟩, ⟨1, fnC c cs, 0, .tt⟩]) [] (fun k => []) (fun k => n - k) (0) (⟨by omega, by omega⟩) rfl ?_ (fun _ => rfl) fun k hI => ?_
 ·rfl
 refine J.r hX tk 400 (fun _ => rfl) fun b3 => ?_
 refine J.cond rfl (fun h1 => ?_) (fun h1 => ?_)
 ·simp only [decide_eq_true_eq, Int.ofNat_lt] at h1
  cases a with
  | none =>
   refine J.know (fun h' s => (s.get (i := 1) rfl).2.1) fun hn0 => ?_
   omega
  | some g =>
   have hk : l[k]? = some (l.getD k 0) := by rw [List.getD_eq_getElem?_getD, List.getElem?_eq_getElem (by omega), Option.getD_some]
   refine J.r hX tk 400 (fun _ => rfl) fun b4 => ?_
   refine J.val hX (.int .i64 (l.getD k 0)) 0 rfl rfl (fun hg a w he hs => ?_) rfl trivial ?_
   ·exact own1_run tk rfl rfl he rfl rfl rfl (hs.get (i := 1) rfl) (by rw [show 0 + (k : Int).toNat * 1 = k from by omega, cellsI, List.getElem?_map, hk]; rfl)
   refine J.r hX tk 400 (fun _ => rfl) fun b5 => ?_
   refine J.call hX hcal (hf (l.getD k 0) (List.mem_of_getElem? hk)) [2] 0 rfl rfl rfl rfl (by (repeat' (first | exact Conj.nil | refine Conj.cons ?_ ?_ | omega | exact hq0 | (simpa using hq0) | (exact fun h => h) | exact rfl | (intro hq; have hq0 := hq; try simp only [Bool.and_eq_true, Bool.or_eq_true, decide_eq_true_eq, Bool.not_eq_true', decide_eq_false_iff_not] at hq) | (simp; done) | (simp; omega) | decide))) rfl rfl (fun _ => rfl) ?_
   rintro v As ⟨rfl, rfl⟩
   refine ⟨_, rfl, trivial, ?_⟩
   refine J.r hX tk 400 (fun _ => rfl) fun b6 => ?_
   refine J.cond rfl (fun h2 => ?_) (fun h2 => ?_)
   ·refine J.r hX tk 400 (fun _ => rfl) fun b7 => ?_
    refine J.rt hX tk [1, 2] rfl rfl rfl ?_
    exact ⟨by rw [idxN, idxN_step hk hI.2 h2], rfl⟩
   ·refine J.r hX tk 400 (fun _ => rfl) fun b8 => ?_
    refine J.nx (k + 1) (⟨by omega, fun i hi => by
     rcases Nat.lt_succ_iff_lt_or_eq.1 hi with h3 | h3
     ·exact hI.2 i h3
     ·rw [h3]; exact h2⟩) (by omega) (fun _ s => s)
 ·simp only [decide_eq_false_iff_not, Int.ofNat_lt] at h1
  refine J.r hX tk 400 (fun _ => rfl) fun b9 => ?_
  refine J.rt hX tk [1, 2] rfl rfl rfl ?_
  exact ⟨by rw [idxN, idxN_none (fun i hi => hI.2 i (by omega))], rfl⟩
theorem x_ContainsI (c : Nat) (cs : List Value) (p : Int → Bool) (A : Atom) (hcal : callable Tryz.prog c = true) (l : List Int) (hf : ∀ x ∈ l, Fn Tryz.prog c (.int .i64 x :: cs) [A] (fun v As => v = .bool (p x) ∧ As = [A]))
  (a : Option Nat) (n cap : Nat) (hl : l.length = n) (hn : n ≤ 4611686018427387904) : Fn Tryz.prog 90 [slv a n cap, fnC c cs] [ownA 3 1 a n cap (cellsI l), A]
  (fun v As => v = .bool (l.any p) ∧ As = [ownA 3 1 a n cap (cellsI l), A]) := by
 refine Fn.enter [0, 0] Tryz.func90 rfl rfl rfl fun X F hX => ?_
 refine J.r hX tk 400 (fun _ => rfl) fun b10 => ?_
 refine J.ca hX (by kernel_rfl) (x_IndexI c cs p A hcal l hf a n cap hl hn) [1, 2] 0 rfl rfl rfl rfl rfl rfl (fun _ => rfl) ?_
 rintro v As ⟨rfl, rfl⟩
 refine ⟨_, rfl, trivial, ?_⟩
 refine J.r hX tk 400 (fun _ => rfl) fun b12 => ?_
 refine J.rt hX tk [1, 2] rfl rfl rfl ?_
 exact ⟨by rw [← idxN_any], rfl⟩
abbrev fdV (x : Fnd) : Value := .agg (fnL x).toArray
def Fnd.zero : Fnd := ⟨En.zero, 0, 0, 0, 0, false, false⟩
theorem v_behind (a b : Fnd) : Fn Tryz.prog 135 [fdV a, fdV b] [] (fun v As => v = .bool (V.behind a b) ∧ As = []) := by
 refine Fn.enter [0, 0] Tryz.func135 rfl rfl rfl fun X F hX => ?_
 refine J.r hX tk 400 (fun _ => rfl) fun b1 => ?_
 refine J.cond rfl (fun h1 => ?_) (fun h1 => ?_)
 ·refine J.r hX tk 400 (fun _ => rfl) fun b2 => ?_
  refine J.rt hX tk [] rfl rfl rfl ?_
  simp only [bne_iff_ne, ne_eq] at h1
  exact ⟨by rw [V.behind, if_pos h1], rfl⟩
 ·simp only [bne_eq_false_iff_eq] at h1
  refine J.run hX tk 400 (fun b3 => rfl) (fun b3 => ?_) (fun b3 => ?_)
  ·(repeat' (first | exact Conj.nil | refine Conj.cons ?_ ?_ | exact rfl | exact hq | (rw [hq]; rfl) | (rw [(Bool.not_eq_true' _).mp hq]) | intro hq | omega | (simp; done) | (simp_all; done)))
  refine J.r hX tk 400 (fun _ => rfl) fun b4 => ?_
  refine J.rt hX tk [] rfl rfl rfl ?_
  exact ⟨by rw [V.behind, if_neg (by simp [h1])], rfl⟩
theorem tops_succ {l : List Fnd} {k : Nat} {x : Fnd} (h : l[k]? = some x) : V.tops (l.take (k + 1)) = V.topsStep (V.tops (l.take k)) x := by
 unfold V.tops
 rw [List.take_add_one, h, Option.toList_some, List.foldl_append]; rfl
theorem topsStep_len (o : List Fnd) (x : Fnd) : (V.topsStep o x).length ≤ o.length + 1 := by
 cases o with
 | nil => simp [V.topsStep]
 | cons h t =>
  simp only [V.topsStep]
  split
  ·simp
  ·split <;> simp
theorem tops_len (l : List Fnd) : (V.tops l).length ≤ l.length := by
 have : ∀ k, k ≤ l.length → (V.tops (l.take k)).length ≤ k := by
  intro k
  induction k with
  | zero => intro _; simp [V.tops]
  | succ k ih =>
   intro hk
   rw [tops_succ (List.getElem?_eq_getElem (by omega))]
   have := topsStep_len (V.tops (l.take k)) l[k]
   have := ih (by omega)
   omega
 have := this l.length (Nat.le_refl _)
 rwa [List.take_length] at this
theorem v_tops (a : Option Nat) (n cap : Nat) (l : List Fnd) (hl : l.length = n) (hn : n ≤ 100000) : Fn Tryz.prog 88 [slv a n cap] [ownA 103 25 a n cap (cellsF l)]
  (fun v As => ∃ a' c', v = slv a' (V.tops l).length c' ∧ As = [ownA 103 25 a n cap (cellsF l), ownA 103 25 a' (V.tops l).length c' (cellsF (V.tops l))]) := by
 refine Fn.enter [0] Tryz.func88 rfl rfl rfl fun X F hX => ?_
 refine J.turn1 [] rfl (As := [ownA 103 25 none 0 0 (cellsF [])]) (fun h s => Sep.one ⟨rfl, rfl, rfl⟩) rfl ?_
 refine J.r hX tk 400 (fun _ => rfl) fun b5 => ?_
 refine J.lo (α := (Nat × Option Nat × Nat × List Fnd)) (fun z => z.1 ≤ n ∧ V.tops (l.take z.1) = z.2.2.2) (fun z => [⟨8, .int .i64 z.1, 0, .tt⟩, ⟨7, .int .i64 n, 0, .tt⟩, ⟨6, slv a n cap, 0, .tt⟩, ⟨3, slv z.2.1 z.2.2.2.length z.2.2.1, 0, .tt⟩]) [2] (fun z => [ownA 103 25 z.2.1 z.2.2.2.length z.2.2.1 (cellsF z.2.2.2)]) (fun z => n - z.1) ((0, none, 0, [])) (⟨Nat.zero_le _, rfl⟩) rfl ?_ (fun _ => rfl) fun z hI => ?_
 ·rfl
 obtain ⟨k, a1, c1, out⟩ := z
 dsimp only at hI ⊢
 obtain ⟨hI, hto⟩ := hI
 refine J.r hX tk 400 (fun _ => rfl) fun b7 => ?_
 refine J.cond rfl (fun h1 => ?_) (fun h1 => ?_)
 ·simp only [decide_eq_true_eq, Int.ofNat_lt] at h1
  cases a with
  | none =>
   refine J.know (fun h' s => (s.get (i := 1) rfl).2.1) fun hn0 => ?_
   omega
  | some g =>
  obtain ⟨x, hx⟩ : ∃ x, l[k]? = some x := ⟨_, List.getElem?_eq_getElem (by omega)⟩
  have hts := tops_succ hx
  have hlen := tops_len (l.take k)
  rw [List.length_take, hto] at hlen
  rw [hto] at hts
  refine J.r hX tk 400 (fun _ => rfl) fun b8 => ?_
  refine J.val hX (fdV x) 0 rfl rfl (fun hg a w he hs => ?_) rfl trivial ?_
  ·exact ownN_run tk rfl rfl he rfl rfl rfl (hs.get (i := 1) rfl) (by rw [show 0 + (k : Int).toNat * 25 = k * 25 from by omega]; exact cellsF_get hx) rfl
  rcases out with _ | ⟨y, o⟩
  ·skip
   refine J.r hX tk 400 (fun _ => rfl) fun b9 => ?_
   refine J.plan (.of [0,4,8,12,16,20,25,29,34,36,40]) [] [1,2,3] (by rw [hX.hP]; kernel_rfl) (by kernel_rfl) ?_
   refine J.r hX tk 5 (fun _ => rfl) fun b10 => ?_
   refine J.valT hX (.pointer (some ⟨g, 0, none⟩)) 0 rfl rfl (fun hg a w he hC => absurd hg (by simp [G.on])) rfl ?_
   refine J.r hX tk 400 (fun _ => rfl) fun b11 => ?_
   refine J.valT hX (fdV x) 0 rfl rfl (fun hg a w he hC => absurd hg (by simp [G.on])) rfl ?_
   refine J.r hX tk 400 (fun _ => rfl) fun b12 => ?_
   refine J.val hX (.bool true) 0 rfl rfl (fun hg a w he hC => absurd hg (by simp [G.on])) rfl (by first | exact trivial | (repeat' (first | exact trivial | refine ⟨rfl, ?_⟩))) ?_
   refine J.r hX tk 400 (fun _ => rfl) fun b13 => ?_
   refine J.cond rfl (fun _ => ?_) (fun h => absurd h (by decide))
   refine J.r hX tk 400 (fun _ => rfl) fun bs => ?_
   refine J.closeOwn (e := 103) (size := 25) (n := 1) (cap := 1) (xs := cellsF [x]) 4 rfl rfl rfl (Nat.le_refl _) (by decide) rfl rfl rfl ?_
   have hs : V.tops (l.take (k + 1)) = [x] := by rw [hts]; rfl
   refine J.slot (k := 3) (s' := ⟨3, slv (some (bs 0)) [x].length 1, 0, .tt⟩) rfl rfl rfl ?_
   refine J.r hX tk 400 (fun _ => rfl) fun b14 => ?_
   refine J.nS ((k + 1, some (bs 0), 1, [x])) (⟨by dsimp only; omega, hs⟩) (by dsimp only; omega) [0, 1, 4] rfl rfl
  ·refine J.know (fun h' s => own_some (c := (a1, c1)) (by simp) (s.get (i := 2) rfl)) fun hg => ?_
   obtain ⟨ga, rfl⟩ := hg
   refine J.r hX tk 400 (fun _ => rfl) fun b15 => ?_
   refine J.plan (.of [0,4,8,12,16,20,25,29,34,36,40]) [] [1,2,3] (by rw [hX.hP]; kernel_rfl) (by kernel_rfl) ?_
   refine J.r hX tk 400 (fun _ => rfl) fun b16 => ?_
   refine J.valT hX (fdV y) 0 rfl rfl (fun hg a w he hC => ?_) rfl ?_
   ·exact ownN_run tk rfl rfl he hg rfl rfl (hC rfl _ (cget_mem (i := 2) rfl)) rfl rfl
   have hnz : (((y :: o).length : Int) == 0) = false := by rw [beq_eq_false_iff_ne, List.length_cons]; omega
   rw [hnz]
   refine J.r hX tk 400 (fun _ => rfl) fun b17 => ?_
   refine J.ca hX (by kernel_rfl) (v_behind y x) [] 0 rfl rfl rfl rfl rfl rfl (fun _ => rfl) ?_
   rintro v As ⟨rfl, rfl⟩
   refine ⟨_, rfl, (by first | exact trivial | (repeat' (first | exact trivial | refine ⟨rfl, ?_⟩))), ?_⟩
   refine J.r hX tk 400 (fun _ => rfl) fun b19 => ?_
   refine J.cond rfl (fun h2 => ?_) (fun h2 => ?_)
   ·refine J.r hX tk 400 (fun _ => rfl) fun bs => ?_
    refine J.closeOwn (e := 103) (size := 25) (n := 1) (cap := 1) (xs := cellsF [x]) 4 rfl rfl rfl (Nat.le_refl _) (by decide) rfl rfl rfl ?_
    have hs : V.tops (l.take (k + 1)) = [x] := by rw [hts]; rw [V.topsStep, if_pos (by simpa using h2)]
    refine J.slot (k := 3) (s' := ⟨3, slv (some (bs 0)) [x].length 1, 0, .tt⟩) rfl rfl rfl ?_
    refine J.r hX tk 400 (fun _ => rfl) fun b20 => ?_
    refine J.nS ((k + 1, some (bs 0), 1, [x])) (⟨by dsimp only; omega, hs⟩) (by dsimp only; omega) [0, 1, 4] rfl rfl
   ·refine J.r hX tk 400 (fun _ => rfl) fun b21 => ?_
    refine J.plan (.of [1,4,8,13,19,20,24]) [4,5,6] [1,2,3] (by rw [hX.hP]; kernel_rfl) (by kernel_rfl) ?_
    refine J.r hX tk 400 (fun _ => rfl) fun b22 => ?_
    refine J.valT hX (fdV y) 0 rfl rfl (fun hg a w he hC => ?_) rfl ?_
    ·exact ownN_run tk rfl rfl he hg rfl rfl (hC rfl _ (cget_mem (i := 2) rfl)) rfl rfl
    refine J.r hX tk 400 (fun _ => rfl) fun b23 => ?_
    refine J.ca hX (by kernel_rfl) (v_behind x y) [] 0 rfl rfl rfl rfl rfl rfl (fun _ => rfl) ?_
    rintro v As ⟨rfl, rfl⟩
    refine ⟨_, rfl, (by first | exact trivial | (repeat' (first | exact trivial | refine ⟨rfl, ?_⟩))), ?_⟩
    refine J.r hX tk 400 (fun _ => rfl) fun b25 => ?_
    refine J.cond rfl (fun h3 => ?_) (fun h3 => ?_)
    ·refine J.r hX tk 400 (fun _ => rfl) fun b26 => ?_
     have hs : V.tops (l.take (k + 1)) = y :: o ++ [x] := by rw [hts, V.topsStep, if_neg (by simpa using h2), if_neg (by simpa using h3)]
     refine J.append hX tk 2 4 0 rfl rfl rfl rfl rfl rfl rfl rfl rfl rfl rfl rfl rfl rfl rfl rfl ?_ ?_ (fun _ => rfl) fun a3 c3 => ⟨_, (congrArg (fun z => lset _ 2 (ownA _ _ _ _ _ z)) (cellsF_snoc (y :: o) x).symm).trans rfl, trivial, ?_⟩
     ·simp only [maxLen]; omega
     ·omega
     rw [show (y :: o).length + 1 = (y :: o ++ [x]).length from by simp]
     refine J.r hX tk 400 (fun _ => rfl) fun b27 => ?_
     refine J.nS ((k + 1, a3, c3, y :: o ++ [x])) (⟨by dsimp only; omega, hs⟩) (by dsimp only; omega) [0, 1, 2] rfl rfl
    ·have hs : V.tops (l.take (k + 1)) = y :: o := by rw [hts, V.topsStep, if_neg (by simpa using h2), if_pos (by simpa using h3)]
     refine J.r hX tk 400 (fun _ => rfl) fun b28 => ?_
     refine J.nS ((k + 1, some ga, c1, y :: o)) (⟨by dsimp only; omega, hs⟩) (by dsimp only; omega) [0, 1, 2] rfl rfl
 ·simp only [decide_eq_false_iff_not, Int.ofNat_lt] at h1
  obtain rfl : k = n := by omega
  rw [List.take_of_length_le (by omega)] at hto
  subst hto
  refine J.r hX tk 400 (fun _ => rfl) fun b29 => ?_
  refine J.rt hX tk [1, 2] rfl rfl rfl ?_
  exact ⟨a1, c1, rfl, rfl⟩
def v_lastP (x : Int) : Bool := x != 2 && x != 4
theorem v_last1 (A : Atom) (x : Int) : Fn Tryz.prog 91 [.int .i64 x] [A] (fun v As => v = .bool (v_lastP x) ∧ As = [A]) := by
 refine Fn.enter [0] Tryz.func91 rfl rfl rfl fun X F hX => ?_
 refine J.r hX tk 400 (fun _ => rfl) fun b1 => ?_
 refine J.rt hX tk [1] rfl rfl rfl ?_
 exact ⟨rfl, rfl⟩
theorem blankRow_any (N : Nand) (b r : Int) : V.blankRow N b r = !(((M.rowN N b r N.dies).map (·.2)).any v_lastP) := by
 unfold V.blankRow
 rw [List.any_map, List.not_any_eq_all_not]
 congr 1
 funext x
 show (x.2 == 2 || x.2 == 4) = !(!(x.2 == 2) && !(x.2 == 4))
 cases (x.2 == 2) <;> cases (x.2 == 4) <;> rfl
def V.upto (N : Nand) (f : Fnd) (k : Nat) : Bool := (List.range k).all fun r : Nat => decide ((r : Int) ≤ f.row) || V.blankRow N f.block r
theorem V.upto_succ (N : Nand) (f : Fnd) (k : Nat) : V.upto N f (k + 1) = (V.upto N f k && (decide ((k : Int) ≤ f.row) || V.blankRow N f.block k)) := by
 unfold V.upto
 rw [List.range_succ, List.all_append]; simp
theorem V.upto_le (N : Nand) (f : Fnd) (k r0 : Nat) (hr : f.row = (r0 : Int)) (h : k ≤ r0 + 1) : V.upto N f k = true := by
 unfold V.upto
 rw [List.all_eq_true]
 intro r hr2
 rw [List.mem_range] at hr2
 rw [decide_eq_true (by omega)]; rfl
theorem v_last (p : Nat) (N : Nand) (hN : N.Ok) (hR : N.Room) (sp : Nat) (H : Value) (f : Fnd) (r0 : Nat) (hr : f.row = (r0 : Int)) (hr2 : r0 ≤ 1000) : Fn Tryz.prog 46 [.pointer (some ⟨sp, 0, none⟩), fdV f] [NandA p N, .pt sp 99 [.pointer (some ⟨p, 0, none⟩), H]]
  (fun v As => v = .bool (V.last N f) ∧ As = [NandA p N, .pt sp 99 [.pointer (some ⟨p, 0, none⟩), H]]) := by
 have hbd := hN.bd
 refine Fn.enter [3, 0] Tryz.func46 rfl rfl rfl fun X F hX => ?_
 refine J.r hX tk 400 (fun _ => rfl) fun bb => ?_
 rw [hr]
 refine J.r hX tk 400 (fun _ => rfl) fun b2 => ?_
 refine J.lo (α := Nat) (fun k => r0 + 1 ≤ k ∧ V.upto N f k = true ∧ (k = r0 + 1 ∨ k ≤ N.pages)) (fun k => [⟨5, .int .i64 k, 0, .tt⟩, ⟨0, .pointer (some ⟨sp, 0, none⟩), 3, .tt⟩, ⟨3, .pointer (some ⟨bb 0, 0, none⟩), 4, .tt⟩]) [] (fun k => []) (fun k => N.pages - k) (r0 + 1) (⟨Nat.le_refl _, V.upto_le N f _ r0 hr (Nat.le_refl _), .inl rfl⟩) rfl ?_ (fun _ => rfl) fun k hI => ?_
 ·rfl
 refine J.r hX tk 400 (fun _ => rfl) fun b3 => ?_
 refine J.ca hX (by kernel_rfl) (n_Geo p N) [1] 0 rfl rfl rfl rfl rfl rfl (fun _ => rfl) ?_
 rintro v As ⟨rfl, rfl⟩
 refine ⟨_, rfl, trivial, ?_⟩
 refine J.r hX tk 400 (fun _ => rfl) fun b5 => ?_
 refine J.cond rfl (fun h1 => ?_) (fun h1 => ?_)
 ·simp only [decide_eq_true_eq, Int.ofNat_lt] at h1
  refine J.r hX tk 400 (fun _ => rfl) fun b6 => ?_
  refine J.plan (.of [0,4,8,13,16,20,25,28,34,36,40,44,48,52]) [13] [1,2,3] (by rw [hX.hP]; kernel_rfl) (by kernel_rfl) ?_
  refine J.r hX tk 400 (fun _ => rfl) fun b7 => ?_
  refine J.ca hX (by kernel_rfl) (m_Row p N hN hR f.block k) [1] 0 rfl rfl rfl rfl rfl rfl (fun _ => rfl) ?_
  rintro v As ⟨a1, c1, a2, c2, rfl, rfl⟩
  refine ⟨_, rfl, (by first | exact trivial | (repeat' (first | exact trivial | refine ⟨rfl, ?_⟩))), ?_⟩
  refine J.r hX tk 400 (fun _ => rfl) fun b9 => ?_
  refine J.ca hX (by kernel_rfl) (x_ContainsI 91 [] v_lastP (NandA p N) (by kernel_rfl) ((M.rowN N f.block k N.dies).map (·.2)) (fun x _ => v_last1 (NandA p N) x) a2 N.dies c2 (by simp [M.rowN]) (by omega)) [5, 1] 0 rfl rfl rfl rfl rfl rfl (fun _ => rfl) ?_
  rintro v As ⟨rfl, rfl⟩
  refine ⟨_, rfl, trivial, ?_⟩
  have hbl := blankRow_any N f.block k
  have hk := V.upto_succ N f k
  have hlt : decide ((k : Int) ≤ f.row) = false := by rw [decide_eq_false_iff_not]; omega
  rw [hI.2.1, hlt] at hk
  refine J.r hX tk 400 (fun _ => rfl) fun b11 => ?_
  refine J.cond rfl (fun h2 => ?_) (fun h2 => ?_)
  ·rw [h2] at hbl
   refine J.r hX tk 400 (fun _ => rfl) fun b12 => ?_
   refine J.rt hX tk [1, 2] rfl rfl rfl ?_
   refine ⟨?_, rfl⟩
   have : V.last N f = false := by
    unfold V.last
    rw [Bool.and_eq_false_iff]
    left
    rw [List.all_eq_false]
    exact ⟨k, List.mem_range.2 h1, by rw [hlt, hbl]; simp⟩
   rw [this]
  ·rw [h2] at hbl
   rw [hbl] at hk
   refine J.r hX tk 400 (fun _ => rfl) fun b13 => ?_
   refine J.nS (k + 1) (⟨by omega, hk, by omega⟩) (by omega) [0, 1, 2, 3] rfl rfl
 ·simp only [decide_eq_false_iff_not, Int.ofNat_lt] at h1
  have hup : V.upto N f N.pages = true := by
   rcases hI.2.2 with h | h
   ·exact V.upto_le N f _ r0 hr (by omega)
   ·rw [show N.pages = k by omega]; exact hI.2.1
  refine J.r hX tk 400 (fun _ => rfl) fun b14 => ?_
  refine J.ca hX (by kernel_rfl) (g_Parity f.mask f.block f.row) [] 0 rfl rfl rfl rfl rfl rfl (fun _ => rfl) ?_
  rintro v As ⟨rfl, rfl⟩
  refine ⟨_, rfl, trivial, ?_⟩
  have hv : V.last N f = ((M.look N (G.parity f.mask f.block f.row) f.block f.row).2 != 4) := by
   unfold V.last
   have : ((List.range N.pages).all fun r : Nat => decide ((r : Int) ≤ f.row) || V.blankRow N f.block r) = true := hup
   rw [this, Bool.true_and]
  refine J.r hX tk 400 (fun _ => rfl) fun b16 => ?_
  refine J.plan (.take true 0 (.take true 1 (.take true 2 (.take false 3 (.take true 4 (.take true 5 (.take true 6 (.take false 7 (.take true 8 (.take true 9 (.take false 10 (.take true 11 (.alt false 12 ((.of [52,56,60,66,70,72])) (.alt false 16 ((.of [50,52,56,60,70,72])) .non)))))))))))))) [18] [1, 2, 3] (by rw [hX.hP]; kernel_rfl) (by kernel_rfl) ?_
  refine J.r hX tk 400 (fun _ => rfl) fun b17 => ?_
  refine J.alts ?_ ?_
  ·skip
   refine J.r hX tk 400 (fun _ => rfl) fun b18 => ?_
   refine J.ca hX (by kernel_rfl) (m_Look p N hN hR (G.parity f.mask f.block f.row) f.block f.row) [1] 0 rfl rfl rfl rfl rfl rfl (fun _ => rfl) ?_
   rintro v As ⟨rfl, rfl⟩
   refine ⟨_, rfl, (by first | exact trivial | (repeat' (first | exact trivial | refine ⟨rfl, ?_⟩))), ?_⟩
   refine J.r hX tk 400 (fun _ => rfl) fun b19 => ?_
   refine J.rt hX tk [1, 2] rfl rfl rfl ?_
   exact ⟨by rw [hv], rfl⟩
  ·skip
   refine J.r hX tk 1 (fun _ => rfl) fun b20 => ?_
   refine J.r hX tk 400 (fun _ => rfl) fun b21 => ?_
   refine J.ca hX (by kernel_rfl) (m_Look p N hN hR (G.parity f.mask f.block f.row) f.block f.row) [1] 0 rfl rfl rfl rfl rfl rfl (fun _ => rfl) ?_
   rintro v As ⟨rfl, rfl⟩
   refine ⟨_, rfl, (by first | exact trivial | (repeat' (first | exact trivial | refine ⟨rfl, ?_⟩))), ?_⟩
   refine J.r hX tk 400 (fun _ => rfl) fun b22 => ?_
   refine J.rt hX tk [1, 2] rfl rfl rfl ?_
   exact ⟨by rw [hv], rfl⟩
end Go.Proofs.YtoideahgjgaddaaGreat
