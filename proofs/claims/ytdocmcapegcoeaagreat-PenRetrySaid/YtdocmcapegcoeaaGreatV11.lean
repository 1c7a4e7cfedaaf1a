/- Helpers, proved here. No condition. -/
import Derived.Test.YtdocmcapegcoeaaGreatV06
import Derived.Test.YtdocmcapegcoeaaGreatV09
import Derived.Test.YtdocmcapegcoeaaGreatV10
set_option maxRecDepth 20000
set_option linter.all false
namespace Go.Proofs.YtdocmcapegcoeaaGreat
open Go.RowKit

theorem agg75 : AggT Tryz.prog 118 32 := ⟨⟨_, Tryz.underlying118, rfl⟩, by kernel_rfl⟩
theorem lit_zeros32 : (#[.int .u8 0, .int .u8 0, .int .u8 0, .int .u8 0, .int .u8 0, .int .u8 0, .int .u8 0, .int .u8 0, .int .u8 0, .int .u8 0, .int .u8 0, .int .u8 0, .int .u8 0, .int .u8 0, .int .u8 0, .int .u8 0, .int .u8 0, .int .u8 0, .int .u8 0, .int .u8 0, .int .u8 0, .int .u8 0, .int .u8 0, .int .u8 0, .int .u8 0, .int .u8 0, .int .u8 0, .int .u8 0, .int .u8 0, .int .u8 0, .int .u8 0, .int .u8 0] : Array Value) = (zeros32.map bv).toArray := rfl
theorem agg75z : AggT Tryz.prog 118 (zeros32.map bv).length := agg75
theorem agg75y : AggT Tryz.prog 118 (zeros32.map bv).toArray.size := agg75
theorem fit75y : 0 + (zeros32.map bv).toArray.size ≤ (zeros32.map bv).length := by decide
theorem one_bytes (l : List UInt8) : (l.map bv).toArray.all (·.oneCell') = true := by simp [bv, Value.oneCell']

theorem three_new (w : World) (A1 A2 A3 : Array Value) (T1 T2 T3 : TypeId) (w0 : World) (hw : ((w.alloc (.cells A1 T1)).alloc (.cells A2 T2)).alloc (.cells A3 T3) = w0) :
  Blk w0 w.heap.size T1 A1 ∧ Blk w0 (w.heap.size + 1) T2 A2 ∧ Blk w0 (w.heap.size + 1 + 1) T3 A3 ∧ Below w.heap.size w w0 ∧ w.heap.size + 3 ≤ w0.heap.size := by
 subst hw
 have h1 := Blk.new w T1 A1
 have h2 := Blk.new (w.alloc (.cells A1 T1)) T2 A2
 have h3 := Blk.new ((w.alloc (.cells A1 T1)).alloc (.cells A2 T2)) T3 A3
 refine ⟨(h1.alloc _).alloc _, by simpa using h2.alloc _, by simpa using h3, (((Below.refl _ _).alloc (Nat.le_refl _) _).alloc (by simp) _).alloc (by simp; omega) _, by simp⟩

set_option maxRecDepth 100000 in
set_option maxHeartbeats 1000000 in
theorem sherd_Put_no (s : Sh) (h : s.data.length = 16) (hmay : S.may s = false) (w : World) :
  Calls Tryz.prog 109 #[s.v] w fun e w' => e = .returned (.tuple #[.agg (zeros32.map bv).toArray, .bool false]) ∧ Below w.heap.size w w' := by
 have hm := fun W => sherd_May s h W
 rw [hmay] at hm
 have hsz : s.cells.toArray.toList.length = 23 := by simp [Sh.cells, h]
 unfold Sh.v at *
 generalize s.cells.toArray = C at *
 have hA : AggT Tryz.prog 132 C.toList.length := by rw [hsz]; exact agg43
 have Hm := Lib.hid hm
 clear hm hsz hmay h
 go_enter Tryz.func109, Tryz.ntmps109
 go_upto_region 2 with fail
 obtain ⟨w0, hw0⟩ : ∃ w0, ((w.alloc (.cells C 132)).alloc (.cells #[.int .u8 0, .int .u8 0, .int .u8 0, .int .u8 0, .int .u8 0, .int .u8 0, .int .u8 0, .int .u8 0, .int .u8 0, .int .u8 0, .int .u8 0, .int .u8 0, .int .u8 0, .int .u8 0, .int .u8 0, .int .u8 0, .int .u8 0, .int .u8 0, .int .u8 0, .int .u8 0, .int .u8 0, .int .u8 0, .int .u8 0, .int .u8 0, .int .u8 0, .int .u8 0, .int .u8 0, .int .u8 0, .int .u8 0, .int .u8 0, .int .u8 0, .int .u8 0] 118)).alloc (.cells #[.int .u8 0, .int .u8 0, .int .u8 0, .int .u8 0, .int .u8 0, .int .u8 0, .int .u8 0, .int .u8 0, .int .u8 0, .int .u8 0, .int .u8 0, .int .u8 0, .int .u8 0, .int .u8 0, .int .u8 0, .int .u8 0, .int .u8 0, .int .u8 0, .int .u8 0, .int .u8 0, .int .u8 0, .int .u8 0, .int .u8 0, .int .u8 0, .int .u8 0, .int .u8 0, .int .u8 0, .int .u8 0, .int .u8 0, .int .u8 0, .int .u8 0, .int .u8 0] 118) = w0 := ⟨_, rfl⟩
 rw [hw0]
 obtain ⟨b0, b1, b2, hbel, hs0⟩ := three_new _ _ _ _ _ _ _ _ hw0
 clear hw0
 rw [lit_zeros32] at b1 b2
 go_wp2_with ((with_reducible refine wl_load 132 C.toList w.heap.size 0 hA (rangeAt_blk b0 0 _ (by rw [List.drop_zero]; exact List.take_length)) ?_ ?_); (· rfl))
 refine (Hm.out _).mono ?_
 rintro e w1 ⟨rfl, hb1⟩
 replace b0 := b0.below hb1 b0.lt
 replace b1 := b1.below hb1 b1.lt
 replace b2 := b2.below hb1 b2.lt
 replace hbel := hbel.trans (hb1.mono (by omega))
 clear hb1 hs0
 go_wp2_with (first | ((with_reducible refine wl_load 118 (zeros32.map bv) (w.heap.size + 1 + 1) 0 agg75z (rangeAt_blk b2 0 _ (by rw [List.drop_zero]; exact List.take_length)) ?_ ?_); (· rfl)) | ((with_reducible refine wl_store 118 (w.heap.size + 1) 0 118 (zeros32.map bv) (zeros32.map bv).toArray agg75y b1 fit75y (one_bytes _) ?_ ?_ ?_); (· rfl); (· rfl); intro w2 c1 g2 s2))
 exact bodyPost_ret (res_cell_tmp Tryz.results109 _ _ (w.heap.size + 1) 118 (zeros32.map bv).toArray (by exact c1) agg75 rfl) rfl ⟨rfl, hbel.grown g2 (Nat.le_of_lt (by have := b2.lt; omega)) (fun k hk => by injection hk with hk; omega)⟩

theorem size5 : (Tryz.prog.info? 5).map (·.size) = some 1 := by kernel_rfl
theorem mem_bytes (l : List UInt8) : ∀ v ∈ l.map bv, v.oneCell' = true := by simp [bv, Value.oneCell']
theorem data_at {w : World} {n : Nat} {t : TypeId} {C : Array Value} {d : List UInt8} (hb : Blk w n t C) (hd : C.toList.take 16 = d.map bv) : ∀ j v, (d.map bv)[j]? = some v → w.cell? ((⟨n, 0, none⟩ : Addr).add j) = some v := by
 intro j v hv
 rw [Addr.add_mid, Nat.zero_add, hb.cell]
 rw [← hd, List.getElem?_take] at hv
 split at hv
 ·simpa using hv
 ·cases hv
theorem bytes_at {w : World} {n : Nat} {t : TypeId} {l : List UInt8} (hb : Blk w n t (l.map bv).toArray) : ∀ j x, l[j]? = some x → w.cell? ⟨n, 0 + j, none⟩ = some (bv x) := by
 intro j x hx
 rw [hb.cell]; simp [hx]

theorem OutAt.drew {w : World} {B g : Nat} {l : List Bool} (h : OutAt w B g l) : OutAt w.drew B g l := h
theorem OutAt.grown {w w' : World} {B g b : Nat} {l : List Bool} (h : OutAt w B g l) (hg : w.grownBy w' (some b)) (hb : b < B) : OutAt w' B g l := by
 obtain ⟨h1, v, h2, h3⟩ := h
 refine ⟨h1, v, h2.grown hg (fun e => by injection e with e; omega), h3.kept hg ?_⟩
 cases hv : v.ownBlock with
 | none => exact .inl rfl
 | some k => exact .inr (fun e => by injection e with e; have := h3.lt k hv; omega)
theorem OutAt.below {w w' : World} {B B' g : Nat} {l : List Bool} (h : OutAt w B g l) (hb : Below B' w w') (hB : w.heap.size ≤ B') : OutAt w' B g l := by
 obtain ⟨h1, v, h2, h3⟩ := h
 exact ⟨h1, v, h2.below hb (Nat.lt_of_lt_of_le h2.lt hB), h3.kept (row := none) ⟨hb.os, hb.tape, hb.output, hb.size, fun k hk _ => hb.block k (by omega)⟩ (by cases hv : v.ownBlock <;> simp)⟩
theorem splice_data {d : List UInt8} (h : d.length = 16) : splice (zeros32.map bv) 0 (d.map bv) = (d ++ zeros16).map bv := by
 simp [splice, h, zeros32, zeros16]
theorem splice_tail {d e f : List UInt8} (h : d.length = 16) : splice ((d ++ e).map bv) 16 (f.map bv) = (d ++ (f ++ e.drop f.length)).map bv := by
 have e1 : (List.map bv d ++ List.map bv e).take 16 = List.map bv d := by rw [List.take_append_of_le_length (by simp [h])]; exact List.take_of_length_le (by simp [h])
 have e2 : (List.map bv d ++ List.map bv e).drop (16 + f.length) = (List.map bv e).drop f.length := by
  rw [List.drop_append]; simp [h]
 simp only [splice, List.map_append, List.length_map, e1, e2, List.map_drop]

set_option maxRecDepth 100000 in
set_option maxHeartbeats 4000000 in
theorem sherd_Put_yes (s : Sh) (h : s.data.length = 16) (hmay : S.may s = true) (w : World) :
  Calls Tryz.prog 109 #[s.v] w fun e w' => e = .returned (.tuple #[.agg ((S.put s).map bv).toArray, .bool true]) ∧ Below w.heap.size w w' := by
 have hm := fun W => sherd_May s h W
 rw [hmay] at hm
 have hsz : s.cells.toArray.toList.length = 23 := by simp [Sh.cells, h]
 obtain ⟨_, _, c16, c17, c18, c19, c20, c21, c22⟩ := ShC.of s h
 have hmb := S.may_bounds s hmay
 have hdl : s.cells.toArray.toList.take 16 = s.data.map bv := by simp [Sh.cells, h]
 unfold Sh.v at *
 generalize s.cells.toArray = C at *
 have hA : AggT Tryz.prog 132 C.toList.length := by rw [hsz]; exact agg43
 have Hm := Lib.hid hm
 have Hdl := Lib.hid hdl
 clear hm hsz hmay hdl
 obtain ⟨m1, m2, m3, m4⟩ := hmb
 obtain ⟨bk, hbk⟩ : ∃ n : Nat, s.block = n := ⟨s.block.toNat, by omega⟩
 obtain ⟨rw_, hrw⟩ : ∃ n : Nat, s.row = n := ⟨s.row.toNat, by omega⟩
 obtain ⟨mk, hmk⟩ : ∃ n : Nat, s.mask = n := ⟨s.mask.toNat, by omega⟩
 obtain ⟨kd, hkd⟩ : ∃ n : Nat, s.kind = n := ⟨s.kind.toNat, by omega⟩
 rw [hbk] at m1 c20; rw [hrw] at m2 c21; rw [hmk] at m3 c22; rw [hkd] at m4 c19
 have Hh := Lib.hid (show S.head s = Bt.bits (S.meta_ s.role s.lpn s.seq) 64 ++ Bt.bits bk 8 ++ Bt.bits rw_ 8 ++ Bt.bits mk 8 ++ Bt.bits kd 8 by simp [S.head, hbk, hrw, hmk, hkd])
 have hml := S.meta_lt s.role s.lpn s.seq
 clear hbk hrw hmk hkd
 go_enter Tryz.func109, Tryz.ntmps109
 go_upto_region 2 with fail
 obtain ⟨w0, hw0⟩ : ∃ w0, ((w.alloc (.cells C 132)).alloc (.cells #[.int .u8 0, .int .u8 0, .int .u8 0, .int .u8 0, .int .u8 0, .int .u8 0, .int .u8 0, .int .u8 0, .int .u8 0, .int .u8 0, .int .u8 0, .int .u8 0, .int .u8 0, .int .u8 0, .int .u8 0, .int .u8 0, .int .u8 0, .int .u8 0, .int .u8 0, .int .u8 0, .int .u8 0, .int .u8 0, .int .u8 0, .int .u8 0, .int .u8 0, .int .u8 0, .int .u8 0, .int .u8 0, .int .u8 0, .int .u8 0, .int .u8 0, .int .u8 0] 118)).alloc (.cells #[.int .u8 0, .int .u8 0, .int .u8 0, .int .u8 0, .int .u8 0, .int .u8 0, .int .u8 0, .int .u8 0, .int .u8 0, .int .u8 0, .int .u8 0, .int .u8 0, .int .u8 0, .int .u8 0, .int .u8 0, .int .u8 0, .int .u8 0, .int .u8 0, .int .u8 0, .int .u8 0, .int .u8 0, .int .u8 0, .int .u8 0, .int .u8 0, .int .u8 0, .int .u8 0, .int .u8 0, .int .u8 0, .int .u8 0, .int .u8 0, .int .u8 0, .int .u8 0] 118) = w0 := ⟨_, rfl⟩
 rw [hw0]
 obtain ⟨b0, b1, b2, hbel, hs0⟩ := three_new _ _ _ _ _ _ _ _ hw0
 clear hw0
 rw [lit_zeros32] at b1 b2
 go_wp2_with ((with_reducible refine wl_load 132 C.toList w.heap.size 0 hA (rangeAt_blk b0 0 _ (by rw [List.drop_zero]; exact List.take_length)) ?_ ?_); (· rfl))
 refine (Hm.out _).mono ?_
 rintro e w1 ⟨rfl, hb1⟩
 replace b0 := b0.below hb1 b0.lt
 replace b1 := b1.below hb1 b1.lt
 replace b2 := b2.below hb1 b2.lt
 replace hbel := hbel.trans (hb1.mono (by omega))
 have hs1 := hb1.size
 clear hb1 Hm
 have d16 := (b0.cell 16).trans c16
 have d17 := (b0.cell 17).trans c17
 have d18 := (b0.cell 18).trans c18
 have d19 := (b0.cell 19).trans c19
 have d20 := (b0.cell 20).trans c20
 have d21 := (b0.cell 21).trans c21
 have d22 := (b0.cell 22).trans c22
 have hlt0 := b0.lt
 go_wp2_with (go_at_call 151; refine (sherd_Meta _ _ _ _).mono ?_; rintro e w' ⟨rfl, rfl⟩)
 have ho : OutAt (w1.alloc (.cells #[.slice none 0 0, .int .i64 0] 196)) w1.heap.size w1.heap.size [] := ⟨Nat.le_refl _, _, Blk.new _ _ _, World.ownsRow_nil _ _ _ _⟩
 refine (out_Put _ 64 (by decide) (by decide) hml [] (by decide) _ w1.heap.size _ (by simp) ho).mono ?_
 rintro e w2 ⟨rfl, ho2, hb2⟩
 replace b0 := (b0.alloc _).below hb2 hlt0
 replace b1 := (b1.alloc _).below hb2 b1.lt
 replace b2 := (b2.alloc _).below hb2 b2.lt
 replace hbel := (hbel.alloc (Nat.le_of_lt hlt0) (.cells #[.slice none 0 0, .int .i64 0] 196)).trans (hb2.mono (Nat.le_of_lt hlt0))
 have hs2 := hb2.size
 simp at hs2
 have hg2 : w.heap.size + 3 ≤ w1.heap.size := by omega
 clear hb2 ho d16 d17 d18 d19 d20 d21 d22 hs0 hs1
 replace d19 := (b0.cell 19).trans c19
 replace d20 := (b0.cell 20).trans c20
 replace d21 := (b0.cell 21).trans c21
 replace d22 := (b0.cell 22).trans c22
 generalize hL0 : [] ++ Bt.bits (S.meta_ s.role s.lpn s.seq) 64 = L0 at ho2
 have hl0 : L0.length = 64 := by rw [← hL0]; simp [Bt.length_bits]
 have HL0 := Lib.hid hL0
 clear hL0 hlt0
 generalize w1.heap.size = g at *
 generalize hn : w.heap.size = n at *
 have Hn := Lib.hid hn
 clear hn
 go_wp2_with fail
 go_loopw [32] (fun c wr => ∃ k : Nat, k ≤ 4 ∧ c = .int .i64 k ∧ OutAt wr g g (L0 ++ (([bk, rw_, mk, kd].take k).flatMap fun x => Bt.bits x 8)) ∧ Below g w2 wr ∧ g ≤ wr.heap.size) (fun c _ => 4 - (intOf c).toNat)
 case atStart => exact ⟨0, by omega, rfl, by simpa using ho2, Below.refl _ _, by omega⟩
 case round =>
  obtain ⟨k, hk, hc, hor, hbw, hgs⟩ := hrel
  have hl : (L0 ++ (([bk, rw_, mk, kd].take k).flatMap fun x => Bt.bits x 8)).length = 64 + 8 * k := by
   match k, hk with
   | 0, _ | 1, _ | 2, _ | 3, _ | 4, _ => simp [hl0, Bt.length_bits]
  match k, hk with
  | 0, _ =>
   obtain rfl : _ = Value.int .i64 0 := hc
   have ix : ∀ W : World, (Instr.index 199 (.agg #[.int .i64 (bk : Int), .int .i64 (rw_ : Int), .int .i64 (mk : Int), .int .i64 (kd : Int)]) (.int .i64 0)).run Tryz.prog W = .ok (.int .i64 (bk : Int)) W := fun _ => by kernel_rfl
   go_wp2_with (go_at_call 150; refine (out_Put bk 8 (by decide) (by decide) (by omega) _ (by rw [hl]; decide) _ g _ hgs hor).mono ?_; rintro e w3 ⟨rfl, ho3, hb3⟩)
   go_roundw
   case rel => exact ⟨1, by omega, by rfl, by simpa [List.append_assoc] using ho3, hbw.trans hb3, Nat.le_trans hgs hb3.size⟩
   case measure => simp [intOf]
  | 1, _ =>
   obtain rfl : _ = Value.int .i64 1 := hc
   have ix : ∀ W : World, (Instr.index 199 (.agg #[.int .i64 (bk : Int), .int .i64 (rw_ : Int), .int .i64 (mk : Int), .int .i64 (kd : Int)]) (.int .i64 1)).run Tryz.prog W = .ok (.int .i64 (rw_ : Int)) W := fun _ => by kernel_rfl
   go_wp2_with (go_at_call 150; refine (out_Put rw_ 8 (by decide) (by decide) (by omega) _ (by rw [hl]; decide) _ g _ hgs hor).mono ?_; rintro e w3 ⟨rfl, ho3, hb3⟩)
   go_roundw
   case rel => exact ⟨2, by omega, by rfl, by simpa [List.append_assoc] using ho3, hbw.trans hb3, Nat.le_trans hgs hb3.size⟩
   case measure => simp [intOf]
  | 2, _ =>
   obtain rfl : _ = Value.int .i64 2 := hc
   have ix : ∀ W : World, (Instr.index 199 (.agg #[.int .i64 (bk : Int), .int .i64 (rw_ : Int), .int .i64 (mk : Int), .int .i64 (kd : Int)]) (.int .i64 2)).run Tryz.prog W = .ok (.int .i64 (mk : Int)) W := fun _ => by kernel_rfl
   go_wp2_with (go_at_call 150; refine (out_Put mk 8 (by decide) (by decide) (by omega) _ (by rw [hl]; decide) _ g _ hgs hor).mono ?_; rintro e w3 ⟨rfl, ho3, hb3⟩)
   go_roundw
   case rel => exact ⟨3, by omega, by rfl, by simpa [List.append_assoc] using ho3, hbw.trans hb3, Nat.le_trans hgs hb3.size⟩
   case measure => simp [intOf]
  | 3, _ =>
   obtain rfl : _ = Value.int .i64 3 := hc
   have ix : ∀ W : World, (Instr.index 199 (.agg #[.int .i64 (bk : Int), .int .i64 (rw_ : Int), .int .i64 (mk : Int), .int .i64 (kd : Int)]) (.int .i64 3)).run Tryz.prog W = .ok (.int .i64 (kd : Int)) W := fun _ => by kernel_rfl
   go_wp2_with (go_at_call 150; refine (out_Put kd 8 (by decide) (by decide) (by omega) _ (by rw [hl]; decide) _ g _ hgs hor).mono ?_; rintro e w3 ⟨rfl, ho3, hb3⟩)
   go_roundw
   case rel => exact ⟨4, by omega, by rfl, by simpa [List.append_assoc] using ho3, hbw.trans hb3, Nat.le_trans hgs hb3.size⟩
   case measure => simp [intOf]
  | 4, _ =>
   obtain rfl : _ = Value.int .i64 4 := hc
   have hH : L0 ++ (([bk, rw_, mk, kd].take 4).flatMap fun x => Bt.bits x 8) = S.head s := by
    rw [Hh.out, ← HL0.out]; simp [List.append_assoc]
   rw [hH] at hor
   have hhl := S.length_head s
   replace b0 := b0.below hbw (by omega)
   replace b1 := b1.below hbw (by omega)
   replace b2 := b2.below hbw (by omega)
   replace hbel := hbel.trans (hbw.mono (by omega))
   clear hbw hl ho2 hk hH c16 c17 c18 c19 c20 c21 c22 d19 d20 d21 d22 hml
   go_wp2_with fail
   go_still_tail 3, (by kernel_rfl)
   change wpList _ _ _ _ _ wr.drew
   have r0 : ∀ j v, (s.data.map bv)[j]? = some v → wr.drew.cell? ((⟨n, 0, none⟩ : Addr).add j) = some v := data_at b0.drew Hdl.out
   go_wp2_with ((with_reducible refine wl_copy 194 194 5 Tryz.underlying194 size5 (n + 1 + 1) 0 32 32 ⟨n, 0, none⟩ 16 16 118 (zeros32.map bv) (s.data.map bv) b2.drew (by simp [h]) r0 (by simp [h, zeros32]) (mem_bytes _) ?_ ?_ ?_); (· rfl); (· rfl); intro w4 b24 g4 s4)
   replace hor := (hor.drew).grown g4 (by omega)
   replace b1 := b1.drew.grown g4 (by simp)
   replace hbel := (hbel.drew).grown g4 (by have := b2.lt; simp; omega) (fun k hk => by injection hk with hk; omega)
   rw [splice_data h] at b24
   have hgs4 : g ≤ w4.heap.size := by rw [s4]; simpa using hgs
   clear b2 g4 s4 r0 hgs
   go_wp2_with fail
   go_region_held3 (fun _ => True) (trivial)
    (first
     | (go_at_call 152; refine (out_Bytes (S.head s) (by omega) (by omega) _ g g (hor.drew)).mono ?_; rintro e w5 ⟨g5, cap5, rfl, hown5, hb5⟩)
     | (refine ws_copy 194 194 5 Tryz.underlying194 size5 (n + 1 + 1) 16 16 16 ⟨g5, 0, none⟩ (Bt.pack (S.head s)).length cap5 118 ((s.data ++ zeros16).map bv) ((Bt.pack (S.head s)).map bv) (b24.drew.below hb5 b24.lt) (by simp [Bt.length_pack, hhl]) (hown5.cells rfl) (by simp [Bt.length_pack, hhl, h, zeros16]) (mem_bytes _) ?_ ?_ ?_; (· rfl); (· rfl); intro w6 b26 g6 s6))
   rw [splice_tail h] at b26
   replace hor := (hor.drew.below hb5 (by simp)).grown g6 (by omega)
   replace b1 := (b1.drew.below hb5 (by simpa using b1.lt)).grown g6 (by simp)
   replace hbel := (hbel.drew.trans (hb5.mono (by have := b24.lt; simp; omega))).grown g6 (by have := b26.lt; have := b24.lt; have := hb5.size; simp at this; omega) (fun k hk => by injection hk with hk; omega)
   have hgs6 : g ≤ w6.heap.size := by rw [s6]; have := hb5.size; simp at this; omega
   clear b24 hgs4 hb5 hown5 g6 s6
   have hsum := K.sum_lt (s.data ++ Bt.pack (S.head s))
   have hb28 : (s.data ++ Bt.pack (S.head s)).length = 28 := by simp [Bt.length_pack, hhl, h]
   have hput := Lib.hid (show S.put s = s.data ++ Bt.pack (S.head s ++ Bt.bits (K.sum (s.data ++ Bt.pack (S.head s))) 32) from rfl)
   have hcl : ∀ j x, (s.data ++ Bt.pack (S.head s))[j]? = some x → w6.cell? ⟨n + 1 + 1, 0 + j, none⟩ = some (bv x) := fun j x hx => bytes_at b26 j x (by
    rw [← List.append_assoc, List.getElem?_append_left (by rw [hb28]; have := (List.getElem?_eq_some_iff.1 hx).1; omega)]; exact hx)
   have hko := koop_Of2 _ 28 hb28 (by omega) (n + 1 + 1) 0 32 w6 hcl
   have Hko := Lib.hid hko
   generalize K.sum (s.data ++ Bt.pack (S.head s)) = sm at *
   clear hko hcl hb28
   go_wp2_with fail
   refine (Hko.out).mono ?_
   rintro e w7 ⟨rfl, rfl⟩
   go_wp2_with fail
   refine (out_Put sm 32 (by decide) (by decide) hsum _ (by rw [hhl]; decide) _ g _ hgs6 hor).mono ?_
   rintro e w8 ⟨rfl, ho8, hb8⟩
   replace b1 := b1.below hb8 (by omega)
   replace b26 := b26.below hb8 (by omega)
   replace hbel := hbel.trans (hb8.mono (by omega))
   have hgs8 : g ≤ w8.heap.size := Nat.le_trans hgs6 hb8.size
   clear hb8 hor hgs6 Hko hsum
   have hh2 : (S.head s ++ Bt.bits sm 32).length = 128 := by simp [hhl, Bt.length_bits]
   go_wp2_with fail
   go_region_held3 (fun _ => True) (trivial)
    (first
     | (go_at_call 152; refine (out_Bytes (S.head s ++ Bt.bits sm 32) (by omega) (by omega) _ g g (ho8.drew)).mono ?_; rintro e w9 ⟨g9, cap9, rfl, hown9, hb9⟩)
     | (refine ws_copy 194 194 5 Tryz.underlying194 size5 (n + 1 + 1) 16 16 16 ⟨g9, 0, none⟩ (Bt.pack (S.head s ++ Bt.bits sm 32)).length cap9 118 ((s.data ++ (Bt.pack (S.head s) ++ zeros16.drop (Bt.pack (S.head s)).length)).map bv) ((Bt.pack (S.head s ++ Bt.bits sm 32)).map bv) (b26.drew.below hb9 b26.lt) (by simp [Bt.length_pack, hh2]) (hown9.cells rfl) (by simp [Bt.length_pack, hh2, hhl, h, zeros16]) (mem_bytes _) ?_ ?_ ?_; (· rfl); (· rfl); intro w10 b10 g10 s10))
   rw [splice_tail h, List.drop_of_length_le (by simp [Bt.length_pack, hh2, hhl, zeros16]), List.append_nil, ← hput.out] at b10
   replace b1 := (b1.drew.below hb9 (by simpa using b1.lt)).grown g10 (by simp)
   replace hbel := (hbel.drew.trans (hb9.mono (by have := b26.lt; simp; omega))).grown g10 (by have := b26.lt; have := hb9.size; simp at this; omega) (fun k hk => by injection hk with hk; omega)
   have hp32 : (S.put s).length = 32 := by rw [hput.out]; simp [Bt.length_pack, hh2, h]
   clear b26 hb9 hown9 g10 s10 ho8 hput
   generalize hpg : S.put s = pg at *
   have Hpg := Lib.hid hpg
   clear hpg
   have hL : AggT Tryz.prog 118 (pg.map bv).length := by rw [List.length_map, hp32]; exact agg75
   have hC : AggT Tryz.prog 118 (pg.map bv).toArray.size := by simp only [List.size_toArray, List.length_map, hp32]; exact agg75
   have hfit : 0 + (pg.map bv).toArray.size ≤ (zeros32.map bv).length := by simp [hp32, zeros32]
   have hspl : splice (zeros32.map bv) 0 (pg.map bv).toArray.toList = pg.map bv := by simp [splice, hp32, zeros32]
   have Hspl := Lib.hid hspl
   clear hspl
   go_wp2_with (first | ((with_reducible refine wl_load 118 (pg.map bv) (n + 1 + 1) 0 hL (rangeAt_blk b10 0 _ (by rw [List.drop_zero]; exact List.take_length)) ?_ ?_); (· rfl)) | ((with_reducible refine wl_store 118 (n + 1) 0 118 (zeros32.map bv) (pg.map bv).toArray hC b1 hfit (one_bytes _) ?_ ?_ ?_); (· rfl); (· rfl); intro w2 c1 g2 s2; rw [Hspl.out] at c1))
   exact bodyPost_ret (res_cell_tmp Tryz.results109 _ _ (n + 1) 118 (pg.map bv).toArray c1 hC rfl) rfl ⟨by rw [Hpg.out]; rfl, by rw [Hn.out]; exact hbel.grown g2 (Nat.le_of_lt (by have := b1.lt; omega)) (fun k hk => by injection hk with hk; omega)⟩

def shc (d : List UInt8) (role lpn seq kind block row mask : Int) : List Value := d.map bv ++ [.int .i64 role, .int .i64 lpn, .int .i64 seq, .int .i64 kind, .int .i64 block, .int .i64 row, .int .i64 mask]
theorem lit_zeros43 : (#[.int .u8 0, .int .u8 0, .int .u8 0, .int .u8 0, .int .u8 0, .int .u8 0, .int .u8 0, .int .u8 0, .int .u8 0, .int .u8 0, .int .u8 0, .int .u8 0, .int .u8 0, .int .u8 0, .int .u8 0, .int .u8 0, .int .i64 0, .int .i64 0, .int .i64 0, .int .i64 0, .int .i64 0, .int .i64 0, .int .i64 0] : Array Value) = (shc zeros16 0 0 0 0 0 0 0).toArray := rfl
section
variable {d : List UInt8} {a b c k l m n : Int} (h : d.length = 16) (x : Int)
include h
theorem shc_get (i : Nat) : (shc d a b c k l m n).toArray[16 + i]? = [Value.int .i64 a, .int .i64 b, .int .i64 c, .int .i64 k, .int .i64 l, .int .i64 m, .int .i64 n][i]? := by
 rw [List.getElem?_toArray, shc, List.getElem?_append_right (by simp [h])]; simp [h]
theorem shc_set (i : Nat) (v : Value) : (shc d a b c k l m n).toArray.setIfInBounds (16 + i) v = (d.map bv ++ [Value.int .i64 a, .int .i64 b, .int .i64 c, .int .i64 k, .int .i64 l, .int .i64 m, .int .i64 n].set i v).toArray := by
 simp only [shc, List.setIfInBounds_toArray]
 rw [List.set_append_right _ _ (by simp [h])]; simp [h]
theorem shc16 : (shc d a b c k l m n).toArray.setIfInBounds 16 (.int .i64 x) = (shc d x b c k l m n).toArray := shc_set h 0 _
theorem shc17 : (shc d a b c k l m n).toArray.setIfInBounds 17 (.int .i64 x) = (shc d a x c k l m n).toArray := shc_set h 1 _
theorem shc18 : (shc d a b c k l m n).toArray.setIfInBounds 18 (.int .i64 x) = (shc d a b x k l m n).toArray := shc_set h 2 _
theorem shc19 : (shc d a b c k l m n).toArray.setIfInBounds 19 (.int .i64 x) = (shc d a b c x l m n).toArray := shc_set h 3 _
theorem shc20 : (shc d a b c k l m n).toArray.setIfInBounds 20 (.int .i64 x) = (shc d a b c k x m n).toArray := shc_set h 4 _
theorem shc21 : (shc d a b c k l m n).toArray.setIfInBounds 21 (.int .i64 x) = (shc d a b c k l x n).toArray := shc_set h 5 _
theorem shc22 : (shc d a b c k l m n).toArray.setIfInBounds 22 (.int .i64 x) = (shc d a b c k l m x).toArray := shc_set h 6 _
theorem shc_splice : splice (shc zeros16 a b c k l m n) 0 (d.map bv) = shc d a b c k l m n := by
 simp [splice, shc, h, zeros16]
end

theorem leaves75 : leaves Tryz.prog 100 118 = some (List.replicate 32 (.int .u8)) := by kernel_rfl
theorem eqIn_page (x y : List UInt8) (hx : x.length = 32) (hy : y.length = 32) (w : World) :
  (Op.equalIn 10000 118 (.agg (x.map bv).toArray) (.agg (y.map bv).toArray)).run Tryz.prog w = .ok (decide (x = y)) w := by
 have h1 := fits_bytes x
 have h2 := fits_bytes y
 rw [hx] at h1; rw [hy] at h2
 have hm : ∀ xs, mkV Tryz.prog 118 xs = .agg xs.toArray := fun xs => by simp [mkV, Tryz.underlying118]
 have := equalIn_leaves 100 118 _ leaves75 10000 (by omega) (x.map bv) (y.map bv) h1 h2 w
 rw [eqCells_bytes, hm, hm] at this
 exact this
theorem fin_no : Ending.returned (.tuple #[.agg #[.int .u8 0, .int .u8 0, .int .u8 0, .int .u8 0, .int .u8 0, .int .u8 0, .int .u8 0, .int .u8 0, .int .u8 0, .int .u8 0, .int .u8 0, .int .u8 0, .int .u8 0, .int .u8 0, .int .u8 0, .int .u8 0, .int .i64 0, .int .i64 0, .int .i64 0, .int .i64 0, .int .i64 0, .int .i64 0, .int .i64 0], .int .i64 1]) = Ending.returned (.tuple #[Sh.zero.v, .int .i64 1]) := by
 rw [lit_zeros43]; rfl
theorem fin_yes (s : Sh) : Ending.returned (.tuple #[.agg s.cells.toArray, .int .i64 0]) = Ending.returned (.tuple #[s.v, .int .i64 0]) := rfl
theorem one_cells (s : Sh) : ∀ v ∈ s.cells, v.oneCell' = true := by
 intro v hv
 simp only [Sh.cells, List.mem_append, List.mem_map, List.mem_cons, List.not_mem_nil, or_false] at hv
 rcases hv with ⟨b, _, rfl⟩ | rfl | rfl | rfl | rfl | rfl | rfl | rfl <;> rfl
theorem splice_whole {α : Type} (a b : List α) (h : a.length = b.length) : splice a 0 b = b := by simp [splice, h]
theorem siz75 : (#[.int .u8 0, .int .u8 0, .int .u8 0, .int .u8 0, .int .u8 0, .int .u8 0, .int .u8 0, .int .u8 0, .int .u8 0, .int .u8 0, .int .u8 0, .int .u8 0, .int .u8 0, .int .u8 0, .int .u8 0, .int .u8 0, .int .u8 0, .int .u8 0, .int .u8 0, .int .u8 0, .int .u8 0, .int .u8 0, .int .u8 0, .int .u8 0, .int .u8 0, .int .u8 0, .int .u8 0, .int .u8 0, .int .u8 0, .int .u8 0, .int .u8 0, .int .u8 0] : Array Value).size = (zeros32.map bv).toArray.size := by decide
theorem agg43z : AggT Tryz.prog 132 (#[.int .u8 0, .int .u8 0, .int .u8 0, .int .u8 0, .int .u8 0, .int .u8 0, .int .u8 0, .int .u8 0, .int .u8 0, .int .u8 0, .int .u8 0, .int .u8 0, .int .u8 0, .int .u8 0, .int .u8 0, .int .u8 0, .int .i64 0, .int .i64 0, .int .i64 0, .int .i64 0, .int .i64 0, .int .i64 0, .int .i64 0] : Array Value).size := agg43
theorem fit43z : 0 + (#[.int .u8 0, .int .u8 0, .int .u8 0, .int .u8 0, .int .u8 0, .int .u8 0, .int .u8 0, .int .u8 0, .int .u8 0, .int .u8 0, .int .u8 0, .int .u8 0, .int .u8 0, .int .u8 0, .int .u8 0, .int .u8 0, .int .i64 0, .int .i64 0, .int .i64 0, .int .i64 0, .int .i64 0, .int .i64 0, .int .i64 0] : Array Value).size ≤ (shc zeros16 0 0 0 0 0 0 0).length := by decide
theorem one43z : (#[.int .u8 0, .int .u8 0, .int .u8 0, .int .u8 0, .int .u8 0, .int .u8 0, .int .u8 0, .int .u8 0, .int .u8 0, .int .u8 0, .int .u8 0, .int .u8 0, .int .u8 0, .int .u8 0, .int .u8 0, .int .u8 0, .int .i64 0, .int .i64 0, .int .i64 0, .int .i64 0, .int .i64 0, .int .i64 0, .int .i64 0] : Array Value).all (·.oneCell') = true := by simp [Value.oneCell']

set_option maxRecDepth 100000 in
set_option maxHeartbeats 4000000 in
theorem sherd_Get (p : List UInt8) (h : p.length = 32) (w : World) :
  Calls Tryz.prog 214 #[.agg (p.map bv).toArray] w fun e w' => e = .returned (.tuple #[(S.getV p).v, .int .i64 (S.getE p)]) ∧ Below w.heap.size w w' := by
 have hb16 : (p.drop 16).length = 16 := by simp [h]
 have hd16 : (p.take 16).length = 16 := by simp [h]
 have hpb : (p.map bv).toArray.toList.take 16 = (p.take 16).map bv := by simp
 have hA : AggT Tryz.prog 118 (p.map bv).length := by rw [List.length_map, h]; exact agg75
 have hpc : ∀ j x, (p.drop 16)[j]? = some x → (p.map bv).toArray[16 + j]? = some (bv x) := fun j x hx => by
  rw [List.getElem?_drop] at hx; simp [hx]
 obtain ⟨C, hC⟩ : ∃ C, (p.map bv).toArray = C := ⟨_, rfl⟩
 rw [hC] at hpb hpc ⊢
 have HC := Lib.hid hC
 have Hpb := Lib.hid hpb
 have Hpc := Lib.hid hpc
 clear hC hpb hpc
 go_enter Tryz.func214, Tryz.ntmps214
 go_upto_region 2 with fail
 obtain ⟨w0, hw0⟩ : ∃ w0, ((w.alloc (.cells C 118)).alloc (.cells #[.int .u8 0, .int .u8 0, .int .u8 0, .int .u8 0, .int .u8 0, .int .u8 0, .int .u8 0, .int .u8 0, .int .u8 0, .int .u8 0, .int .u8 0, .int .u8 0, .int .u8 0, .int .u8 0, .int .u8 0, .int .u8 0, .int .i64 0, .int .i64 0, .int .i64 0, .int .i64 0, .int .i64 0, .int .i64 0, .int .i64 0] 132)).alloc (.cells #[.int .u8 0, .int .u8 0, .int .u8 0, .int .u8 0, .int .u8 0, .int .u8 0, .int .u8 0, .int .u8 0, .int .u8 0, .int .u8 0, .int .u8 0, .int .u8 0, .int .u8 0, .int .u8 0, .int .u8 0, .int .u8 0, .int .i64 0, .int .i64 0, .int .i64 0, .int .i64 0, .int .i64 0, .int .i64 0, .int .i64 0] 132) = w0 := ⟨_, rfl⟩
 rw [hw0]
 obtain ⟨b0, b1, b2, hbel, hs0⟩ := three_new _ _ _ _ _ _ _ _ hw0
 clear hw0
 rw [lit_zeros43] at b1 b2
 generalize hn : w.heap.size = n at *
 have Hn := Lib.hid hn
 clear hn
 go_still_tail 3, (by kernel_rfl)
 change wpList _ _ _ _ _ w0.drew
 have r0 : ∀ j v, ((p.take 16).map bv)[j]? = some v → w0.drew.cell? ((⟨n, 0, none⟩ : Addr).add j) = some v := data_at b0.drew Hpb.out
 go_wp2_with ((with_reducible refine wl_copy 194 194 5 Tryz.underlying194 size5 (n + 1 + 1) 0 16 16 ⟨n, 0, none⟩ 32 32 132 (shc zeros16 0 0 0 0 0 0 0) ((p.take 16).map bv) b2.drew (by simp [h]) r0 (by simp [h, shc, zeros16]) (mem_bytes _) ?_ ?_ ?_); (· rfl); (· rfl); intro w4 b24 g4 s4)
 rw [shc_splice hd16] at b24
 replace b0 := b0.drew.grown g4 (by simp; omega)
 replace b1 := b1.drew.grown g4 (by simp)
 replace hbel := hbel.drew.grown g4 (by have := b2.lt; simp; omega) (fun k hk => by injection hk with hk; omega)
 have hs4 : n + 3 ≤ w4.heap.size := by rw [s4]; exact hs0
 clear b2 g4 s4 r0 hs0
 go_wp2_with fail
 refine (bits_Read (some ⟨n, 16, none⟩) 16 16 w4).mono ?_
 rintro e w5 ⟨rfl, hw5⟩
 have hin : InAt w5 w4.heap.size n 16 (p.drop 16) 0 := by
  rw [hw5]
  refine ⟨16, by rw [hb16]; exact Blk.new _ _ _, by omega, by have := b0.lt; omega, by have := b0.lt; simp; omega, fun j x hx => ?_⟩
  rw [(b0.alloc _).cell]; exact Hpc.out j x hx
 have s5 : w5.heap.size = w4.heap.size + 1 := by rw [hw5]; simp
 replace b0 := b0.alloc (.cells #[.slice (some ⟨n, 16, none⟩) 16 16, .int .i64 0] 287)
 replace b1 := b1.alloc (.cells #[.slice (some ⟨n, 16, none⟩) 16 16, .int .i64 0] 287)
 have b2 := b24.alloc (.cells #[.slice (some ⟨n, 16, none⟩) 16 16, .int .i64 0] 287)
 replace hbel := hbel.alloc (by omega) (.cells #[.slice (some ⟨n, 16, none⟩) 16 16, .int .i64 0] 287)
 rw [← hw5] at b0 b1 b2 hbel
 generalize w4.heap.size = g at *
 clear hw5 b24
 have s5' : g < w5.heap.size := by omega
 clear s5
 go_wp2_with fail
 refine (in_Get n 16 (p.drop 16) 0 64 (by decide) (by decide) (by omega) (by omega) w5 g hin).mono ?_
 rintro e w6 ⟨rfl, hin6, g6, s6⟩
 replace b0 := b0.grown g6 (fun e => by injection e with e; omega)
 replace b1 := b1.grown g6 (fun e => by injection e with e; omega)
 replace b2 := b2.grown g6 (fun e => by injection e with e; omega)
 replace hbel := hbel.grown g6 (by omega) (fun k hk => by injection hk with hk; omega)
 have s6' : g < w6.heap.size := by omega
 clear g6 s6 s5' hin
 have hm := Bt.numAt_lt (p.drop 16) 0 64
 generalize hM : Bt.numAt (p.drop 16) 0 64 = M at *
 have HM := Lib.hid hM
 clear hM
 go_wp2_with fail
 refine (sherd_Of M hm w6).mono ?_
 rintro e w7 ⟨rfl, rfl⟩
 obtain ⟨ro, hro⟩ : ∃ x : Int, ((M / 72057594037927936 : Nat) : Int) = x := ⟨_, rfl⟩
 obtain ⟨lp, hlp⟩ : ∃ x : Int, ((M / 1099511627776 % 65536 : Nat) : Int) = x := ⟨_, rfl⟩
 obtain ⟨sq, hsq⟩ : ∃ x : Int, ((M % 1099511627776 : Nat) : Int) = x := ⟨_, rfl⟩
 rw [hro, hlp, hsq]
 have Hro := Lib.hid hro; have Hlp := Lib.hid hlp; have Hsq := Lib.hid hsq
 clear hro hlp hsq hm
 have c16 := (b2.cell 16).trans (shc_get hd16 0)
 have c17 := (b2.cell 17).trans (shc_get hd16 1)
 have c18 := (b2.cell 18).trans (shc_get hd16 2)
 have f16 := b2.frozen 16
 have f17 := b2.frozen 17
 have f18 := b2.frozen 18
 simp at c16 c17 c18
 go_wp2_with fail
 obtain ⟨w8, hw8⟩ : ∃ w8, ((w6.setCell ⟨n + 1 + 1, 16, none⟩ (.int .i64 ro)).setCell ⟨n + 1 + 1, 17, none⟩ (.int .i64 lp)).setCell ⟨n + 1 + 1, 18, none⟩ (.int .i64 sq) = w8 := ⟨_, rfl⟩
 rw [hw8]
 replace b2 := ((b2.set_ 16 (.int .i64 ro)).set_ 17 (.int .i64 lp)).set_ 18 (.int .i64 sq)
 rw [shc16 hd16, shc17 hd16, shc18 hd16, hw8] at b2
 have g8 : w6.grownBy w8 (some (n + 1 + 1)) := by
  rw [← hw8]
  exact ((grown_setCell w6 ⟨n + 1 + 1, 16, none⟩ (.int .i64 ro)).trans (grown_setCell _ ⟨n + 1 + 1, 17, none⟩ (.int .i64 lp))).trans (grown_setCell _ ⟨n + 1 + 1, 18, none⟩ (.int .i64 sq))
 have s8 : w8.heap.size = w6.heap.size := by rw [← hw8]; simp [World.setCell]
 replace b0 := b0.grown g8 (by simp; omega)
 replace b1 := b1.grown g8 (by simp)
 replace hbel := hbel.grown g8 (by omega) (fun k hk => by injection hk with hk; omega)
 replace hin6 := hin6.grown g8 (fun e => by injection e with e; omega) (fun e => by injection e with e; omega)
 have s8' : g < w8.heap.size := by omega
 clear hw8 g8 s8 c16 c17 c18 f16 f17 f18 s6'
 go_loopw [39] (fun c wr => ∃ k : Nat, k ≤ 4 ∧ c = .int .i64 k ∧ InAt wr g n 16 (p.drop 16) (64 + 8 * k) ∧ Blk wr n 118 C ∧ Blk wr (n + 1) 132 (shc zeros16 0 0 0 0 0 0 0).toArray ∧
   Blk wr (n + 1 + 1) 132 (shc (p.take 16) ro lp sq (if k < 4 then 0 else Bt.numAt (p.drop 16) 88 8) (if k < 1 then 0 else Bt.numAt (p.drop 16) 64 8) (if k < 2 then 0 else Bt.numAt (p.drop 16) 72 8) (if k < 3 then 0 else Bt.numAt (p.drop 16) 80 8)).toArray ∧ Below n w wr ∧ g < wr.heap.size) (fun c _ => 4 - (intOf c).toNat)
 case atStart => exact ⟨0, by omega, rfl, hin6, b0, b1, b2, hbel, s8'⟩
 case round =>
  clear b0 b1 b2 hbel hin6 s8'
  obtain ⟨k, hk, hc, hin, b0, b1, b2, hbw, hgs⟩ := hrel
  match k, hk with
  | 0, _ =>
   obtain rfl : _ = Value.int .i64 0 := hc
   have ix : ∀ W : World, (Instr.index 272 (.agg #[.pointer (some ⟨n + 1 + 1, 20, none⟩), .pointer (some ⟨n + 1 + 1, 21, none⟩), .pointer (some ⟨n + 1 + 1, 22, none⟩), .pointer (some ⟨n + 1 + 1, 19, none⟩)]) (.int .i64 0)).run Tryz.prog W = .ok (.pointer (some ⟨n + 1 + 1, 20, none⟩)) W := fun _ => by kernel_rfl
   go_wp2_with fail
   refine (in_Get n 16 (p.drop 16) 64 8 (by decide) (by decide) (by omega) (by omega) wr g hin).mono ?_
   rintro e w9 ⟨rfl, hin9, g9, s9⟩
   replace b0 := b0.grown g9 (fun e => by injection e with e; omega)
   replace b1 := b1.grown g9 (fun e => by injection e with e; omega)
   replace b2 := b2.grown g9 (fun e => by injection e with e; omega)
   replace hbw := hbw.grown g9 (by omega) (fun k hk => by injection hk with hk; omega)
   have hgs9 : g < w9.heap.size := by omega
   clear g9 s9
   have hnl := Bt.numAt_lt (p.drop 16) 64 8
   generalize hX : Bt.numAt (p.drop 16) 64 8 = X at *
   have hnl' : (X : Int) < 256 := by omega
   have HX := Lib.hid hX
   clear hX hnl
   have cX := (b2.cell 20).trans (shc_get hd16 4)
   have fX := b2.frozen 20
   simp at cX
   go_wp2
   go_roundw
   case rel =>
    have b3 := b2.set_ 20 (.int .i64 (X : Int))
    rw [shc20 hd16] at b3
    exact ⟨1, by omega, by rfl, hin9.grown (grown_setCell _ _ _) (fun e => by injection e with e; simp at e; omega) (fun e => by injection e with e; simp at e; omega), b0.far (by simp; omega) _, b1.far (by simp) _, by rw [HX.out]; exact b3, hbw.setCell (by simp; omega) _, by simpa [World.setCell] using hgs9⟩
   case measure => simp [intOf]
  | 1, _ =>
   obtain rfl : _ = Value.int .i64 1 := hc
   have ix : ∀ W : World, (Instr.index 272 (.agg #[.pointer (some ⟨n + 1 + 1, 20, none⟩), .pointer (some ⟨n + 1 + 1, 21, none⟩), .pointer (some ⟨n + 1 + 1, 22, none⟩), .pointer (some ⟨n + 1 + 1, 19, none⟩)]) (.int .i64 1)).run Tryz.prog W = .ok (.pointer (some ⟨n + 1 + 1, 21, none⟩)) W := fun _ => by kernel_rfl
   go_wp2_with fail
   refine (in_Get n 16 (p.drop 16) 72 8 (by decide) (by decide) (by omega) (by omega) wr g hin).mono ?_
   rintro e w9 ⟨rfl, hin9, g9, s9⟩
   replace b0 := b0.grown g9 (fun e => by injection e with e; omega)
   replace b1 := b1.grown g9 (fun e => by injection e with e; omega)
   replace b2 := b2.grown g9 (fun e => by injection e with e; omega)
   replace hbw := hbw.grown g9 (by omega) (fun k hk => by injection hk with hk; omega)
   have hgs9 : g < w9.heap.size := by omega
   clear g9 s9
   have hnl := Bt.numAt_lt (p.drop 16) 72 8
   generalize hX : Bt.numAt (p.drop 16) 72 8 = X at *
   have hnl' : (X : Int) < 256 := by omega
   have HX := Lib.hid hX
   clear hX hnl
   have cX := (b2.cell 21).trans (shc_get hd16 5)
   have fX := b2.frozen 21
   simp at cX
   go_wp2
   go_roundw
   case rel =>
    have b3 := b2.set_ 21 (.int .i64 (X : Int))
    rw [shc21 hd16] at b3
    exact ⟨2, by omega, by rfl, hin9.grown (grown_setCell _ _ _) (fun e => by injection e with e; simp at e; omega) (fun e => by injection e with e; simp at e; omega), b0.far (by simp; omega) _, b1.far (by simp) _, by rw [HX.out]; exact b3, hbw.setCell (by simp; omega) _, by simpa [World.setCell] using hgs9⟩
   case measure => simp [intOf]
  | 2, _ =>
   obtain rfl : _ = Value.int .i64 2 := hc
   have ix : ∀ W : World, (Instr.index 272 (.agg #[.pointer (some ⟨n + 1 + 1, 20, none⟩), .pointer (some ⟨n + 1 + 1, 21, none⟩), .pointer (some ⟨n + 1 + 1, 22, none⟩), .pointer (some ⟨n + 1 + 1, 19, none⟩)]) (.int .i64 2)).run Tryz.prog W = .ok (.pointer (some ⟨n + 1 + 1, 22, none⟩)) W := fun _ => by kernel_rfl
   go_wp2_with fail
   refine (in_Get n 16 (p.drop 16) 80 8 (by decide) (by decide) (by omega) (by omega) wr g hin).mono ?_
   rintro e w9 ⟨rfl, hin9, g9, s9⟩
   replace b0 := b0.grown g9 (fun e => by injection e with e; omega)
   replace b1 := b1.grown g9 (fun e => by injection e with e; omega)
   replace b2 := b2.grown g9 (fun e => by injection e with e; omega)
   replace hbw := hbw.grown g9 (by omega) (fun k hk => by injection hk with hk; omega)
   have hgs9 : g < w9.heap.size := by omega
   clear g9 s9
   have hnl := Bt.numAt_lt (p.drop 16) 80 8
   generalize hX : Bt.numAt (p.drop 16) 80 8 = X at *
   have hnl' : (X : Int) < 256 := by omega
   have HX := Lib.hid hX
   clear hX hnl
   have cX := (b2.cell 22).trans (shc_get hd16 6)
   have fX := b2.frozen 22
   simp at cX
   go_wp2
   go_roundw
   case rel =>
    have b3 := b2.set_ 22 (.int .i64 (X : Int))
    rw [shc22 hd16] at b3
    exact ⟨3, by omega, by rfl, hin9.grown (grown_setCell _ _ _) (fun e => by injection e with e; simp at e; omega) (fun e => by injection e with e; simp at e; omega), b0.far (by simp; omega) _, b1.far (by simp) _, by rw [HX.out]; exact b3, hbw.setCell (by simp; omega) _, by simpa [World.setCell] using hgs9⟩
   case measure => simp [intOf]
  | 3, _ =>
   obtain rfl : _ = Value.int .i64 3 := hc
   have ix : ∀ W : World, (Instr.index 272 (.agg #[.pointer (some ⟨n + 1 + 1, 20, none⟩), .pointer (some ⟨n + 1 + 1, 21, none⟩), .pointer (some ⟨n + 1 + 1, 22, none⟩), .pointer (some ⟨n + 1 + 1, 19, none⟩)]) (.int .i64 3)).run Tryz.prog W = .ok (.pointer (some ⟨n + 1 + 1, 19, none⟩)) W := fun _ => by kernel_rfl
   go_wp2_with fail
   refine (in_Get n 16 (p.drop 16) 88 8 (by decide) (by decide) (by omega) (by omega) wr g hin).mono ?_
   rintro e w9 ⟨rfl, hin9, g9, s9⟩
   replace b0 := b0.grown g9 (fun e => by injection e with e; omega)
   replace b1 := b1.grown g9 (fun e => by injection e with e; omega)
   replace b2 := b2.grown g9 (fun e => by injection e with e; omega)
   replace hbw := hbw.grown g9 (by omega) (fun k hk => by injection hk with hk; omega)
   have hgs9 : g < w9.heap.size := by omega
   clear g9 s9
   have hnl := Bt.numAt_lt (p.drop 16) 88 8
   generalize hX : Bt.numAt (p.drop 16) 88 8 = X at *
   have hnl' : (X : Int) < 256 := by omega
   have HX := Lib.hid hX
   clear hX hnl
   have cX := (b2.cell 19).trans (shc_get hd16 3)
   have fX := b2.frozen 19
   simp at cX
   go_wp2
   go_roundw
   case rel =>
    have b3 := b2.set_ 19 (.int .i64 (X : Int))
    rw [shc19 hd16] at b3
    exact ⟨4, by omega, by rfl, hin9.grown (grown_setCell _ _ _) (fun e => by injection e with e; simp at e; omega) (fun e => by injection e with e; simp at e; omega), b0.far (by simp; omega) _, b1.far (by simp) _, by rw [HX.out]; exact b3, hbw.setCell (by simp; omega) _, by simpa [World.setCell] using hgs9⟩
   case measure => simp [intOf]
  | 4, _ =>
   obtain rfl : _ = Value.int .i64 4 := hc
   have hF : shc (p.take 16) ro lp sq (if 4 < 4 then 0 else Bt.numAt (p.drop 16) 88 8) (if 4 < 1 then 0 else Bt.numAt (p.drop 16) 64 8) (if 4 < 2 then 0 else Bt.numAt (p.drop 16) 72 8) (if 4 < 3 then 0 else Bt.numAt (p.drop 16) 80 8) = (S.fields p).cells := by
    rw [← Hro.out, ← Hlp.out, ← Hsq.out, ← HM.out]; rfl
   rw [hF] at b2
   have hfd : (S.fields p).data.length = 16 := hd16
   have hSA : AggT Tryz.prog 132 (S.fields p).cells.length := by rw [show (S.fields p).cells.length = 23 by simp [Sh.cells, hfd]]; exact agg43
   have hSC : AggT Tryz.prog 132 (S.fields p).cells.toArray.size := hSA
   have hpyes := fun hm W => sherd_Put_yes (S.fields p) hfd hm W
   have hpno := fun hm W => sherd_Put_no (S.fields p) hfd hm W
   have hgd : S.get p = if S.may (S.fields p) ∧ S.put (S.fields p) = p then some (S.fields p) else none := rfl
   have h1c : ∀ v ∈ (S.fields p).cells, v.oneCell' = true := one_cells _
   have hpl : (S.put (S.fields p)).length = 32 := S.length_put _ hfd
   have hspl := Lib.hid (show splice (shc zeros16 0 0 0 0 0 0 0) 0 (S.fields p).cells.toArray.toList = (S.fields p).cells from splice_whole _ _ (by simp [shc, zeros16, Sh.cells, hfd]))
   have hfit : 0 + (S.fields p).cells.toArray.size ≤ (shc zeros16 0 0 0 0 0 0 0).length := by simp [shc, zeros16, Sh.cells, hfd]
   unfold Sh.v at hpyes hpno
   clear hF hin hk
   cases hmay : S.may (S.fields p)
   ·have hg := Lib.hid (show S.getV p = Sh.zero ∧ S.getE p = 1 by unfold S.getV S.getE; rw [hgd]; simp [hmay])
    have hput := Lib.hid (hpno hmay)
    generalize S.fields p = fs at *
    clear hpno hpyes hgd hmay hfd hSC h1c
    generalize fs.cells = SH at *
    go_wp2_with ((with_reducible refine wl_load 132 SH (n + 1 + 1) 0 hSA (rangeAt_blk b2 0 _ (by rw [List.drop_zero]; exact List.take_length)) ?_ ?_); (· rfl))
    refine (hput.out wr).mono ?_
    rintro e w10 ⟨rfl, hb10⟩
    replace b0 := b0.below hb10 b0.lt
    replace b1 := b1.below hb10 b1.lt
    replace hbw := hbw.trans (hb10.mono (by omega))
    have hs10 := hb10.size
    clear hb10 b2
    go_wp2_with (first | ((with_reducible refine wl_store_new 118 w10 #[.int .u8 0, .int .u8 0, .int .u8 0, .int .u8 0, .int .u8 0, .int .u8 0, .int .u8 0, .int .u8 0, .int .u8 0, .int .u8 0, .int .u8 0, .int .u8 0, .int .u8 0, .int .u8 0, .int .u8 0, .int .u8 0, .int .u8 0, .int .u8 0, .int .u8 0, .int .u8 0, .int .u8 0, .int .u8 0, .int .u8 0, .int .u8 0, .int .u8 0, .int .u8 0, .int .u8 0, .int .u8 0, .int .u8 0, .int .u8 0, .int .u8 0, .int .u8 0] (zeros32.map bv).toArray 118 agg75y siz75 (one_bytes _) ?_ ?_ ?_); (· rfl); (· rfl)) | ((with_reducible refine wl_store 132 (n + 1) 0 132 (shc zeros16 0 0 0 0 0 0 0) #[.int .u8 0, .int .u8 0, .int .u8 0, .int .u8 0, .int .u8 0, .int .u8 0, .int .u8 0, .int .u8 0, .int .u8 0, .int .u8 0, .int .u8 0, .int .u8 0, .int .u8 0, .int .u8 0, .int .u8 0, .int .u8 0, .int .i64 0, .int .i64 0, .int .i64 0, .int .i64 0, .int .i64 0, .int .i64 0, .int .i64 0] agg43z (b1.alloc _) fit43z one43z ?_ ?_ ?_); (· rfl); (· rfl); intro w12 c1 g12 s12))
    exact bodyPost_ret (res_cell_tmp Tryz.results214 _ _ (n + 1) 132 #[.int .u8 0, .int .u8 0, .int .u8 0, .int .u8 0, .int .u8 0, .int .u8 0, .int .u8 0, .int .u8 0, .int .u8 0, .int .u8 0, .int .u8 0, .int .u8 0, .int .u8 0, .int .u8 0, .int .u8 0, .int .u8 0, .int .i64 0, .int .i64 0, .int .i64 0, .int .i64 0, .int .i64 0, .int .i64 0, .int .i64 0] c1 agg43z rfl) rfl ⟨by rw [hg.out.1, hg.out.2]; exact fin_no, by rw [Hn.out]; exact (hbw.alloc (by omega) _).grown g12 (by simp; omega) (fun k hk => by injection hk with hk; omega)⟩
   ·have hput := Lib.hid (hpyes hmay)
    by_cases hpp : S.put (S.fields p) = p
    ·have hg := Lib.hid (show S.getV p = S.fields p ∧ S.getE p = 0 by unfold S.getV S.getE; rw [hgd]; simp [hmay, hpp])
     rw [hpp] at hput
     have heq := fun W => eqIn_page p p h h W
     rw [HC.out] at heq hput
     have hde : decide (p = p) = true := by simp
     rw [hde] at heq
     have hvv : (some (S.fields p)).getD Sh.zero = S.fields p := rfl
     have Hvv := Lib.hid hvv
     have hCa : AggT Tryz.prog 118 C.size := by rw [← HC.out]; simp only [List.size_toArray, List.length_map, h]; exact agg75
     have hCs : (#[.int .u8 0, .int .u8 0, .int .u8 0, .int .u8 0, .int .u8 0, .int .u8 0, .int .u8 0, .int .u8 0, .int .u8 0, .int .u8 0, .int .u8 0, .int .u8 0, .int .u8 0, .int .u8 0, .int .u8 0, .int .u8 0, .int .u8 0, .int .u8 0, .int .u8 0, .int .u8 0, .int .u8 0, .int .u8 0, .int .u8 0, .int .u8 0, .int .u8 0, .int .u8 0, .int .u8 0, .int .u8 0, .int .u8 0, .int .u8 0, .int .u8 0, .int .u8 0] : Array Value).size = C.size := by rw [← HC.out]; simp [h]
     have hC1 : C.all (·.oneCell') = true := by rw [← HC.out]; exact one_bytes _
     have hCL : AggT Tryz.prog 118 C.toList.length := hCa
     have hS1 : (S.fields p).cells.toArray.all (·.oneCell') = true := all_oneCell_toArray h1c
     clear hpno hpyes hgd hmay hfd h1c hvv hde hpl
     generalize hfs : S.fields p = fs at *
     generalize hSH : fs.cells = SH at *
     have HSH := Lib.hid hSH
     clear hSH hfs
     go_wp2_with ((with_reducible refine wl_load 132 SH (n + 1 + 1) 0 hSA (rangeAt_blk b2 0 _ (by rw [List.drop_zero]; exact List.take_length)) ?_ ?_); (· rfl))
     refine (hput.out wr).mono ?_
     rintro e w10 ⟨rfl, hb10⟩
     replace b0 := b0.below hb10 b0.lt
     replace b1 := b1.below hb10 b1.lt
     replace b2 := b2.below hb10 b2.lt
     replace hbw := hbw.trans (hb10.mono (by omega))
     have hs10 := hb10.size
     clear hb10
     go_wp2_with (first | ((with_reducible refine wl_store_new 118 w10 #[.int .u8 0, .int .u8 0, .int .u8 0, .int .u8 0, .int .u8 0, .int .u8 0, .int .u8 0, .int .u8 0, .int .u8 0, .int .u8 0, .int .u8 0, .int .u8 0, .int .u8 0, .int .u8 0, .int .u8 0, .int .u8 0, .int .u8 0, .int .u8 0, .int .u8 0, .int .u8 0, .int .u8 0, .int .u8 0, .int .u8 0, .int .u8 0, .int .u8 0, .int .u8 0, .int .u8 0, .int .u8 0, .int .u8 0, .int .u8 0, .int .u8 0, .int .u8 0] C 118 hCa hCs hC1 ?_ ?_ ?_); (· rfl); (· rfl)) | ((with_reducible refine wl_load_g 118 C.toList w10.heap.size 0 hCL (rangeAt_whole _ _ _) ?_ ?_ ?_); (· rfl); (· rfl)) | ((with_reducible refine wl_load_g 118 C.toList n 0 hCL (rangeAt_blk (b0.alloc _) 0 _ (by rw [List.drop_zero]; exact List.take_length)) ?_ ?_ ?_); (· rfl); (· rfl)) | ((with_reducible refine wl_load 132 SH (n + 1 + 1) 0 hSA (rangeAt_blk (b2.alloc _) 0 _ (by rw [List.drop_zero]; exact List.take_length)) ?_ ?_); (· rfl)) | ((with_reducible refine wl_store 132 (n + 1) 0 132 (shc zeros16 0 0 0 0 0 0 0) SH.toArray hSC (b1.alloc _) hfit hS1 ?_ ?_ ?_); (· rfl); (· rfl); intro w12 c1 g12 s12; rw [hspl.out] at c1))
     exact bodyPost_ret (res_cell_tmp Tryz.results214 _ _ (n + 1) 132 SH.toArray c1 hSC rfl) rfl ⟨by rw [hg.out.1, hg.out.2, ← fin_yes, HSH.out]; rfl, by rw [Hn.out]; exact (hbw.alloc (by omega) _).grown g12 (by simp; omega) (fun k hk => by injection hk with hk; omega)⟩
    ·have hg := Lib.hid (show S.getV p = Sh.zero ∧ S.getE p = 1 by unfold S.getV S.getE; rw [hgd]; simp [hpp])
     have heq := fun W => eqIn_page (S.put (S.fields p)) p hpl h W
     rw [HC.out] at heq
     have hde : decide (S.put (S.fields p) = p) = false := by simp [hpp]
     rw [hde] at heq
     have hPa : AggT Tryz.prog 118 ((S.put (S.fields p)).map bv).toArray.size := by simp only [List.size_toArray, List.length_map, hpl]; exact agg75
     have hPs : (#[.int .u8 0, .int .u8 0, .int .u8 0, .int .u8 0, .int .u8 0, .int .u8 0, .int .u8 0, .int .u8 0, .int .u8 0, .int .u8 0, .int .u8 0, .int .u8 0, .int .u8 0, .int .u8 0, .int .u8 0, .int .u8 0, .int .u8 0, .int .u8 0, .int .u8 0, .int .u8 0, .int .u8 0, .int .u8 0, .int .u8 0, .int .u8 0, .int .u8 0, .int .u8 0, .int .u8 0, .int .u8 0, .int .u8 0, .int .u8 0, .int .u8 0, .int .u8 0] : Array Value).size = ((S.put (S.fields p)).map bv).toArray.size := by simp [hpl]
     have hP1 := one_bytes (S.put (S.fields p))
     have hCL : AggT Tryz.prog 118 C.toList.length := by rw [← HC.out]; simpa [h] using agg75
     generalize ((S.put (S.fields p)).map bv).toArray = PG at *
     have hPL : AggT Tryz.prog 118 PG.toList.length := hPa
     clear hpno hpyes hgd hmay hfd h1c hde hpl hpp
     generalize S.fields p = fs at *
     generalize fs.cells = SH at *
     go_wp2_with ((with_reducible refine wl_load 132 SH (n + 1 + 1) 0 hSA (rangeAt_blk b2 0 _ (by rw [List.drop_zero]; exact List.take_length)) ?_ ?_); (· rfl))
     refine (hput.out wr).mono ?_
     rintro e w10 ⟨rfl, hb10⟩
     replace b0 := b0.below hb10 b0.lt
     replace b1 := b1.below hb10 b1.lt
     replace hbw := hbw.trans (hb10.mono (by omega))
     have hs10 := hb10.size
     clear hb10 b2
     go_wp2_with (first | ((with_reducible refine wl_store_new 118 w10 #[.int .u8 0, .int .u8 0, .int .u8 0, .int .u8 0, .int .u8 0, .int .u8 0, .int .u8 0, .int .u8 0, .int .u8 0, .int .u8 0, .int .u8 0, .int .u8 0, .int .u8 0, .int .u8 0, .int .u8 0, .int .u8 0, .int .u8 0, .int .u8 0, .int .u8 0, .int .u8 0, .int .u8 0, .int .u8 0, .int .u8 0, .int .u8 0, .int .u8 0, .int .u8 0, .int .u8 0, .int .u8 0, .int .u8 0, .int .u8 0, .int .u8 0, .int .u8 0] PG 118 hPa hPs hP1 ?_ ?_ ?_); (· rfl); (· rfl)) | ((with_reducible refine wl_load_g 118 PG.toList w10.heap.size 0 hPL (rangeAt_whole _ _ _) ?_ ?_ ?_); (· rfl); (· rfl)) | ((with_reducible refine wl_load_g 118 C.toList n 0 hCL (rangeAt_blk (b0.alloc _) 0 _ (by rw [List.drop_zero]; exact List.take_length)) ?_ ?_ ?_); (· rfl); (· rfl)) | ((with_reducible refine wl_store 132 (n + 1) 0 132 (shc zeros16 0 0 0 0 0 0 0) #[.int .u8 0, .int .u8 0, .int .u8 0, .int .u8 0, .int .u8 0, .int .u8 0, .int .u8 0, .int .u8 0, .int .u8 0, .int .u8 0, .int .u8 0, .int .u8 0, .int .u8 0, .int .u8 0, .int .u8 0, .int .u8 0, .int .i64 0, .int .i64 0, .int .i64 0, .int .i64 0, .int .i64 0, .int .i64 0, .int .i64 0] agg43z (b1.alloc _) fit43z one43z ?_ ?_ ?_); (· rfl); (· rfl); intro w12 c1 g12 s12))
     exact bodyPost_ret (res_cell_tmp Tryz.results214 _ _ (n + 1) 132 #[.int .u8 0, .int .u8 0, .int .u8 0, .int .u8 0, .int .u8 0, .int .u8 0, .int .u8 0, .int .u8 0, .int .u8 0, .int .u8 0, .int .u8 0, .int .u8 0, .int .u8 0, .int .u8 0, .int .u8 0, .int .u8 0, .int .i64 0, .int .i64 0, .int .i64 0, .int .i64 0, .int .i64 0, .int .i64 0, .int .i64 0] c1 agg43z rfl) rfl ⟨by rw [hg.out.1, hg.out.2]; exact fin_no, by rw [Hn.out]; exact (hbw.alloc (by omega) _).grown g12 (by simp; omega) (fun k hk => by injection hk with hk; omega)⟩
end Go.Proofs.YtdocmcapegcoeaaGreat
namespace Go.Proofs.YtdocmcapegcoeaaGreat
open Go Go.RowKit
theorem l_All (n : Int) : Fn Tryz.prog 98 [.int .i64 n] [] (fun v As => v = .int .i64 (L.all n) ∧ As = []) := Fn.of_same (lane_All n)
theorem l_Has (m d : Int) : Fn Tryz.prog 111 [.int .i64 m, .int .i64 d] [] (fun v As => v = .bool (L.has m d) ∧ As = []) := Fn.of_same (lane_Has m d)
theorem l_With (m d : Int) : Fn Tryz.prog 94 [.int .i64 m, .int .i64 d] [] (fun v As => v = .int .i64 (L.with_ m d) ∧ As = []) := Fn.of_same (lane_With m d)
theorem l_Without (m d : Int) : Fn Tryz.prog 113 [.int .i64 m, .int .i64 d] [] (fun v As => v = .int .i64 (L.without m d) ∧ As = []) := Fn.of_same (lane_Without m d)
theorem l_Count (m : Int) : Fn Tryz.prog 100 [.int .i64 m] [] (fun v As => v = .int .i64 (L.count m) ∧ As = []) := Fn.of_same (lane_Count m)
theorem l_At (m i : Int) (hi0 : -1000000 ≤ i) (hi1 : i ≤ 1000000) : Fn Tryz.prog 148 [.int .i64 m, .int .i64 i] [] (fun v As => v = .int .i64 (L.at_ m i) ∧ As = []) := Fn.of_same (lane_At m i hi0 hi1)
theorem l_Spot (m d : Int) : Fn Tryz.prog 297 [.int .i64 m, .int .i64 d] [] (fun v As => v = .int .i64 (L.spot m d) ∧ As = []) := Fn.of_same (lane_Spot m d)
theorem g_Slots (m : Int) : Fn Tryz.prog 54 [.int .i64 m] [] (fun v As => v = .int .i64 (G.slots m) ∧ As = []) := Fn.of_same (geo_Slots m)
theorem g_Parity (m b r : Int) : Fn Tryz.prog 106 [.int .i64 m, .int .i64 b, .int .i64 r] [] (fun v As => v = .int .i64 (G.parity m b r) ∧ As = []) := Fn.of_drew (geo_Parity m b r)
theorem g_Die (m b r s : Int) (h0 : -1000000 ≤ s) (h1 : s ≤ 1000000) : Fn Tryz.prog 107 [.int .i64 m, .int .i64 b, .int .i64 r, .int .i64 s] [] (fun v As => v = .int .i64 (G.die m b r s) ∧ As = []) := Fn.of_drew (geo_Die m b r s h0 h1)
theorem g_Slot (m b r s : Int) : Fn Tryz.prog 288 [.int .i64 m, .int .i64 b, .int .i64 r, .int .i64 s] [] (fun v As => v = .int .i64 (G.slot m b r s) ∧ As = []) := Fn.of_drew (geo_Slot m b r s)
def shL (s : Sh) : List Value := [byC s.data 0, byC s.data 1, byC s.data 2, byC s.data 3, byC s.data 4, byC s.data 5, byC s.data 6, byC s.data 7, byC s.data 8, byC s.data 9, byC s.data 10, byC s.data 11, byC s.data 12, byC s.data 13, byC s.data 14, byC s.data 15,
 .int .i64 s.role, .int .i64 s.lpn, .int .i64 s.seq, .int .i64 s.kind, .int .i64 s.block, .int .i64 s.row, .int .i64 s.mask]
abbrev shV (s : Sh) : Value := .agg (shL s).toArray
theorem shL_eq (s : Sh) (h : s.data.length = 16) : shL s = s.cells := by
 rw [Sh.cells, ← dataC_eq s.data h]; rfl
theorem shV_eq (s : Sh) (h : s.data.length = 16) : s.v = shV s := by rw [Sh.v, shV, shL_eq s h]
abbrev pgV (p : List UInt8) : Value := .agg (pageC p).toArray
theorem pgV_eq (p : List UInt8) (h : p.length = 32) : .agg (p.map bv).toArray = pgV p := by rw [pgV, pageC_eq p h]
theorem h_Meta (role lpn seq : Int) : Fn Tryz.prog 151 [.int .i64 role, .int .i64 lpn, .int .i64 seq] [] (fun v As => v = .int .u64 (S.meta_ role lpn seq) ∧ As = []) := Fn.of_same (sherd_Meta role lpn seq)
theorem h_Of (m : Nat) (hm : m < 18446744073709551616) : Fn Tryz.prog 147 [.int .u64 m] [] (fun v As => v = .tuple #[.int .i64 (m / 72057594037927936 : Nat), .int .i64 (m / 1099511627776 % 65536 : Nat), .int .i64 (m % 1099511627776 : Nat)] ∧ As = []) := Fn.of_same (sherd_Of m hm)
theorem h_May (s : Sh) (h : s.data.length = 16) : Fn Tryz.prog 149 [shV s] [] (fun v As => v = .bool (S.may s) ∧ As = []) := by
 rw [← shV_eq s h]; exact Fn.of_below (sherd_May s h)
def putP (s : Sh) : List UInt8 := if S.may s then S.put s else zeros32
theorem putP_len (s : Sh) (h : s.data.length = 16) : (putP s).length = 32 := by
 unfold putP; split
 ·exact S.length_put s h
 ·rfl
theorem h_Put (s : Sh) (h : s.data.length = 16) : Fn Tryz.prog 109 [shV s] [] (fun v As => v = .tuple #[pgV (putP s), .bool (S.may s)] ∧ As = []) := by
 rw [← shV_eq s h]
 cases hm : S.may s with
 | true =>
  rw [← pgV_eq _ (putP_len s h), putP, if_pos hm]
  exact Fn.of_below (sherd_Put_yes s h hm)
 | false =>
  rw [← pgV_eq _ (putP_len s h), putP, if_neg (by simp [hm])]
  exact Fn.of_below (sherd_Put_no s h hm)
theorem getV_len (p : List UInt8) (h : p.length = 32) : (S.getV p).data.length = 16 := by
 unfold S.getV S.get
 split
 ·simp [S.fields, h]
 ·rfl
theorem h_Get (p : List UInt8) (h : p.length = 32) : Fn Tryz.prog 214 [pgV p] [] (fun v As => v = .tuple #[shV (S.getV p), .int .i64 (S.getE p)] ∧ As = []) := by
 rw [← pgV_eq p h, ← shV_eq _ (getV_len p h)]; exact Fn.of_below (sherd_Get p h)
structure En where
 lpn : Int
 seq : Int
 role : Int
 data : List UInt8
def enL (e : En) : List Value := [.int .i64 e.lpn, .int .i64 e.seq, .int .i64 e.role, byC e.data 0, byC e.data 1, byC e.data 2, byC e.data 3, byC e.data 4, byC e.data 5, byC e.data 6, byC e.data 7, byC e.data 8, byC e.data 9, byC e.data 10, byC e.data 11, byC e.data 12, byC e.data 13, byC e.data 14, byC e.data 15]
abbrev enV (e : En) : Value := .agg (enL e).toArray
namespace W
def sh (b r m : Int) (e : En) : Sh := ⟨e.data, e.role, e.lpn, e.seq, 1, b, r, m⟩
def ok (b r m : Int) (e : En) : Bool := S.may (sh b r m e)
def own (b r m : Int) (e : En) : Sh := if ok b r m e then sh b r m e else Sh.zero
end W
theorem w_Own (b r m : Int) (e : En) (h : e.data.length = 16) : Fn Tryz.prog 108 [.int .i64 b, .int .i64 r, .int .i64 m, enV e] [] (fun v As => v = .tuple #[shV (W.own b r m e), .bool (W.ok b r m e)] ∧ As = []) := by
 refine Fn.enter [0, 0, 0, 0] Tryz.func108 rfl rfl rfl fun X F hX => ?_
 refine J.q hX fun b1 => ?_
 refine J.cb hX (h_May (W.sh b r m e) h) [] ?_
 refine cpq ⟨_, rfl, trivial, ?_⟩
 refine J.q hX fun b3 => ?_
 refine J.cond rfl (fun h1 => ?_) (fun h1 => ?_)
 ·simp only [Bool.not_eq_true'] at h1
  refine J.q hX fun b4 => ?_
  refine J.ru hX [] ?_
  exact ⟨by rw [W.own, W.ok, h1]; rfl, rfl⟩
 ·simp only [Bool.not_eq_false'] at h1
  refine J.q hX fun b5 => ?_
  refine J.ru hX [] ?_
  exact ⟨by rw [W.own, W.ok, h1]; rfl, rfl⟩
section
variable {P : Program} {T : Tab} {E : Env} {w : World} {n0 : Nat} {a : Act}
theorem indexAgg_run (hT : TabOK P T) {o : Oper} {ty e len : Nat} {x y : Operand} {k1 k2 t1 t2 : Nat} {g1 g2 : G} {ik : IntKind} {i : Int} {cs : Array Value} {v : Value} {ti : TI} (hop : o.op = .index ty x y) (hx : ev E x = some ⟨k1, .agg cs, t1, g1⟩) (hy : ev E y = some ⟨k2, .int ik i, t2, g2⟩) (he : EnvOK n0 E a) (v1 : g1.on = true) (v2 : g2.on = true)
  (hd : P.underlying ty = some (.array len e)) (hti : T.get e = some ti) (h1 : ti.d.one = true) (hs : Nat.beq ti.size 1 = true) (h0 : 0 ≤ i) (hl : i < (len : Int)) (hv : cs[i.toNat]? = some v) : (execOp a.eval o).run P w = .ok (.value v) w := by
 have ex := ev_spec he hx
 have ey := ev_spec he hy
 simp only [Slot.val, v1, v2] at ex ey
 obtain ⟨d, f, z, ok⟩ := tiOf_spec (hT.get hti)
 have hsz : f.size = 1 := by rw [← ok.hsize]; exact Nat.eq_of_beq_eq_true hs
 have hp := part_run (P := P) (w := w) ok.hd ok.hf cs i.toNat
 rw [ok.one h1, hv] at hp
 simp only [execOp, hop, ex, ey, Instr.index, asIntOf, Sem.run_bind, Sem.run_pure, Result.andThen_ok, underlying_run hd, if_pos (And.intro h0 hl), sizeOf_run ok.hf, hsz, Nat.mul_one, hp]
 simp
end
namespace W
def mix (x s : List UInt8) (k : Nat) : List UInt8 := (List.zipWith (· ^^^ ·) x s).take k ++ x.drop k
def ovM (m x : Int) : Int := IntKind.u64.wrap ((BitVec.ofInt 64 m ^^^ BitVec.ofInt 64 x).toNat : Int)
def over1 (x : List UInt8 × Int) (s : Sh) : List UInt8 × Int := (mix x.1 s.data 16, ovM x.2 (S.meta_ s.role s.lpn s.seq))
def over (l : List Sh) : List UInt8 × Int := l.foldl over1 (zeros16, 0)
end W
def cellsS (l : List Sh) : List Value := l.flatMap shL
end Go.Proofs.YtdocmcapegcoeaaGreat
