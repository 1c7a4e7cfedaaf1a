/- Helpers. No condition. -/
import Derived.Test.YtgkpkpbnonmopaaGreatD05
import Derived.Test.YtgkpkpbnonmopaaGreatD06
import Derived.Test.YtgkpkpbnonmopaaGreatD09
import Derived.Test.YtgkpkpbnonmopaaGreatD10
set_option maxRecDepth 20000
set_option linter.all false
namespace Go.Proofs.YtgkpkpbnonmopaaGreat
open Go.RowKit

def shc (d:List UInt8) (role lpn seq kind block row mask:Int):List Value:=d.map bv++[.int .i64 role, .int .i64 lpn, .int .i64 seq, .int .i64 kind, .int .i64 block, .int .i64 row, .int .i64 mask]
theorem a1p:(#[.int .u8 0, .int .u8 0, .int .u8 0, .int .u8 0, .int .u8 0, .int .u8 0, .int .u8 0, .int .u8 0, .int .u8 0, .int .u8 0, .int .u8 0, .int .u8 0, .int .u8 0, .int .u8 0, .int .u8 0, .int .u8 0, .int .i64 0, .int .i64 0, .int .i64 0, .int .i64 0, .int .i64 0, .int .i64 0, .int .i64 0]:Array Value)=(shc zeros16 0 0 0 0 0 0 0).toArray:=rfl
section
variable {d : List UInt8} {a b c k l m n : Int} (h : d.length = 16) (x : Int)
include h
theorem Q5 (i:Nat):(shc d a b c k l m n).toArray[16+i]? =[Value.int .i64 a, .int .i64 b, .int .i64 c, .int .i64 k, .int .i64 l, .int .i64 m, .int .i64 n][i]?:=by
 rw[List.getElem?_toArray,shc,List.getElem?_append_right (by simp[h])];simp[h]
theorem Q4 (i:Nat) (v:Value):(shc d a b c k l m n).toArray.setIfInBounds (16+i) v=(d.map bv++[Value.int .i64 a, .int .i64 b, .int .i64 c, .int .i64 k, .int .i64 l, .int .i64 m, .int .i64 n].set i v).toArray:=by
 simp only[shc,List.setIfInBounds_toArray];rw[List.set_append_right _ _ (by simp[h])];simp[h]
theorem b5V:(shc d a b c k l m n).toArray.setIfInBounds 16 (.int .i64 x)=(shc d x b c k l m n).toArray:=Q4 h 0 _
theorem b5U:(shc d a b c k l m n).toArray.setIfInBounds 17 (.int .i64 x)=(shc d a x c k l m n).toArray:=Q4 h 1 _
theorem b5T:(shc d a b c k l m n).toArray.setIfInBounds 18 (.int .i64 x)=(shc d a b x k l m n).toArray:=Q4 h 2 _
theorem b5S:(shc d a b c k l m n).toArray.setIfInBounds 19 (.int .i64 x)=(shc d a b c x l m n).toArray:=Q4 h 3 _
theorem b5R:(shc d a b c k l m n).toArray.setIfInBounds 20 (.int .i64 x)=(shc d a b c k x m n).toArray:=Q4 h 4 _
theorem b5Q:(shc d a b c k l m n).toArray.setIfInBounds 21 (.int .i64 x)=(shc d a b c k l x n).toArray:=Q4 h 5 _
theorem b5P:(shc d a b c k l m n).toArray.setIfInBounds 22 (.int .i64 x)=(shc d a b c k l m x).toArray:=Q4 h 6 _
theorem a7l:splice (shc zeros16 a b c k l m n) 0 (d.map bv)=shc d a b c k l m n:=by
 simp[splice,shc,h,zeros16]
end

theorem b1s:v8 Tryz.prog 100 155=some (List.replicate 32 (.int .u8)):=by kernel_rfl
theorem a1d (x y:List UInt8) (hx:x.length=32) (hy:y.length=32) (w:World):
  (Op.equalIn 10000 155 (.agg (x.map bv).toArray) (.agg (y.map bv).toArray)).run Tryz.prog w= .ok (decide (x=y)) w:=by
 have h1:=R1 x;have h2:=R1 y;rw[hx]at h1;rw[hy]at h2;have hm:∀xs,mkV Tryz.prog 155 xs= .agg xs.toArray:=λxs=>by simp[mkV,Tryz.underlying155]
 have:=y5 100 155 _ b1s 10000 (by omega) (x.map bv) (y.map bv) h1 h2 w;rw[B2,hm,hm]at this;exact this
theorem b2g:Ending.returned (.tuple #[.agg #[.int .u8 0, .int .u8 0, .int .u8 0, .int .u8 0, .int .u8 0, .int .u8 0, .int .u8 0, .int .u8 0, .int .u8 0, .int .u8 0, .int .u8 0, .int .u8 0, .int .u8 0, .int .u8 0, .int .u8 0, .int .u8 0, .int .i64 0, .int .i64 0, .int .i64 0, .int .i64 0, .int .i64 0, .int .i64 0, .int .i64 0], .int .i64 1])=Ending.returned (.tuple #[Sh.zero.v, .int .i64 1]):=by
 rw[a1p];rfl
theorem b3Q (s:Sh):Ending.returned (.tuple #[.agg s.cells.toArray, .int .i64 0])=Ending.returned (.tuple #[s.v, .int .i64 0]):=rfl
theorem a9j (s:Sh):∀v∈s.cells,v.oneCell'=true:=by
 intro v hv;simp only[Sh.cells,List.mem_append,List.mem_map,List.mem_cons,List.not_mem_nil,or_false]at hv;rcases hv with⟨b,_,rfl⟩ | rfl | rfl | rfl | rfl | rfl | rfl | rfl<;>rfl
theorem a4C {α:Type} (a b:List α) (h:a.length=b.length):splice a 0 b=b:=by simp[splice,h]
theorem b5O:(#[.int .u8 0, .int .u8 0, .int .u8 0, .int .u8 0, .int .u8 0, .int .u8 0, .int .u8 0, .int .u8 0, .int .u8 0, .int .u8 0, .int .u8 0, .int .u8 0, .int .u8 0, .int .u8 0, .int .u8 0, .int .u8 0, .int .u8 0, .int .u8 0, .int .u8 0, .int .u8 0, .int .u8 0, .int .u8 0, .int .u8 0, .int .u8 0, .int .u8 0, .int .u8 0, .int .u8 0, .int .u8 0, .int .u8 0, .int .u8 0, .int .u8 0, .int .u8 0]:Array Value).size=(zeros32.map bv).toArray.size:=by decide
theorem a5F:AggT Tryz.prog 222 (#[.int .u8 0, .int .u8 0, .int .u8 0, .int .u8 0, .int .u8 0, .int .u8 0, .int .u8 0, .int .u8 0, .int .u8 0, .int .u8 0, .int .u8 0, .int .u8 0, .int .u8 0, .int .u8 0, .int .u8 0, .int .u8 0, .int .i64 0, .int .i64 0, .int .i64 0, .int .i64 0, .int .i64 0, .int .i64 0, .int .i64 0]:Array Value).size:=a7c
theorem b2e:0+(#[.int .u8 0, .int .u8 0, .int .u8 0, .int .u8 0, .int .u8 0, .int .u8 0, .int .u8 0, .int .u8 0, .int .u8 0, .int .u8 0, .int .u8 0, .int .u8 0, .int .u8 0, .int .u8 0, .int .u8 0, .int .u8 0, .int .i64 0, .int .i64 0, .int .i64 0, .int .i64 0, .int .i64 0, .int .i64 0, .int .i64 0]:Array Value).size<=(shc zeros16 0 0 0 0 0 0 0).length:=by decide
theorem b1f:(#[.int .u8 0, .int .u8 0, .int .u8 0, .int .u8 0, .int .u8 0, .int .u8 0, .int .u8 0, .int .u8 0, .int .u8 0, .int .u8 0, .int .u8 0, .int .u8 0, .int .u8 0, .int .u8 0, .int .u8 0, .int .u8 0, .int .i64 0, .int .i64 0, .int .i64 0, .int .i64 0, .int .i64 0, .int .i64 0, .int .i64 0]:Array Value).all (·.oneCell')=true:=by simp[Value.oneCell']

set_option maxRecDepth 100000 in
set_option maxHeartbeats 4000000 in
theorem a8W (p:List UInt8) (h:p.length=32) (w:World):
  Calls Tryz.prog 218 #[.agg (p.map bv).toArray] w λe w'=>e= .returned (.tuple #[(S.getV p).v, .int .i64 (S.getE p)])/\Below w.heap.size w w':=by
 have hb16:(p.drop 16).length=16:=by simp[h]
 have hd16:(p.take 16).length=16:=by simp[h]
 have hpb:(p.map bv).toArray.toList.take 16=(p.take 16).map bv:=by simp
 have hA:AggT Tryz.prog 155 (p.map bv).length:=by rw[List.length_map,h];exact a0J
 have hpc:∀j x,(p.drop 16)[j]? =some x->(p.map bv).toArray[16+j]? =some (bv x):=λj x hx=>by
  rw[List.getElem?_drop]at hx;simp[hx]
 obtain⟨C,hC⟩:∃C,(p.map bv).toArray=C:=⟨_,rfl⟩;rw[hC]at hpb hpc ⊢;have HC:=Lib.hid hC;have Hpb:=Lib.hid hpb;have Hpc:=Lib.hid hpc;clear hC hpb hpc
 go_enter Tryz.func218,Tryz.ntmps218
 go_upto_region 2 with fail
 obtain⟨w0,hw0⟩:∃w0,((w.alloc (.cells C 155)).alloc (.cells #[.int .u8 0, .int .u8 0, .int .u8 0, .int .u8 0, .int .u8 0, .int .u8 0, .int .u8 0, .int .u8 0, .int .u8 0, .int .u8 0, .int .u8 0, .int .u8 0, .int .u8 0, .int .u8 0, .int .u8 0, .int .u8 0, .int .i64 0, .int .i64 0, .int .i64 0, .int .i64 0, .int .i64 0, .int .i64 0, .int .i64 0] 222)).alloc (.cells #[.int .u8 0, .int .u8 0, .int .u8 0, .int .u8 0, .int .u8 0, .int .u8 0, .int .u8 0, .int .u8 0, .int .u8 0, .int .u8 0, .int .u8 0, .int .u8 0, .int .u8 0, .int .u8 0, .int .u8 0, .int .u8 0, .int .i64 0, .int .i64 0, .int .i64 0, .int .i64 0, .int .i64 0, .int .i64 0, .int .i64 0] 222)=w0:=⟨_,rfl⟩;rw[hw0];obtain⟨b0,b1,b2,hbel,hs0⟩:=a0O _ _ _ _ _ _ _ _ hw0;clear hw0;rw[a1p]at b1 b2;generalize hn:w.heap.size=n at*;have Hn:=Lib.hid hn;clear hn
 go_still_tail 3,(by kernel_rfl)
 change wpList _ _ _ _ _ w0.drew
 have r0:∀j v,((p.take 16).map bv)[j]? =some v->w0.drew.cell? ((⟨n,0,none⟩:Addr).add j)=some v:=a8D b0.drew Hpb.out
 go_wp2_with ((with_reducible refine a7X 306 306 5 Tryz.underlying306 a8c (n+1+1) 0 16 16 ⟨n,0,none⟩ 32 32 222 (shc zeros16 0 0 0 0 0 0 0) ((p.take 16).map bv) b2.drew (by simp[h]) r0 (by simp[h,shc,zeros16]) (X5 _) ?_ ?_ ?_);(· rfl);(· rfl);intro w4 b24 g4 s4)
 rw[a7l hd16]at b24
 replace b0:=b0.drew.grown g4 (by simp;omega)
 replace b1:=b1.drew.grown g4 (by simp)
 replace hbel:=hbel.drew.grown g4 (by have:=b2.lt;simp;omega) (λk hk=>by injection hk with hk;omega)
 have hs4:n+3<=w4.heap.size:=by rw[s4];exact hs0
 clear b2 g4 s4 r0 hs0
 go_wp2_with fail
 refine(a9V (some ⟨n,16,none⟩) 16 16 w4).mono ?_;rintro e w5 ⟨rfl,hw5⟩;have hin:InAt w5 w4.heap.size n 16 (p.drop 16) 0:=by
  rw[hw5];refine⟨16,by rw[hb16];exact Blk.new _ _ _,by omega,by have:=b0.lt;omega,by have:=b0.lt;simp;omega,λj x hx=>?_⟩;rw[(b0.alloc _).cell];exact Hpc.out j x hx
 have s5:w5.heap.size=w4.heap.size+1:=by rw[hw5];simp
 replace b0:=b0.alloc (.cells #[.slice (some ⟨n,16,none⟩) 16 16, .int .i64 0] 333)
 replace b1:=b1.alloc (.cells #[.slice (some ⟨n,16,none⟩) 16 16, .int .i64 0] 333)
 have b2:=b24.alloc (.cells #[.slice (some ⟨n,16,none⟩) 16 16, .int .i64 0] 333)
 replace hbel:=hbel.alloc (by omega) (.cells #[.slice (some ⟨n,16,none⟩) 16 16, .int .i64 0] 333)
 rw[<- hw5]at b0 b1 b2 hbel;generalize w4.heap.size=g at*;clear hw5 b24;have s5':g<w5.heap.size:=by omega
 clear s5
 go_wp2_with fail
 refine(a2P n 16 (p.drop 16) 0 64 (by decide) (by decide) (by omega) (by omega) w5 g hin).mono ?_;rintro e w6 ⟨rfl,hin6,g6,s6⟩
 replace b0:=b0.grown g6 (λe=>by injection e with e;omega)
 replace b1:=b1.grown g6 (λe=>by injection e with e;omega)
 replace b2:=b2.grown g6 (λe=>by injection e with e;omega)
 replace hbel:=hbel.grown g6 (by omega) (λk hk=>by injection hk with hk;omega)
 have s6':g<w6.heap.size:=by omega
 clear g6 s6 s5' hin;have hm:=Bt.numAt_lt (p.drop 16) 0 64;generalize hM:Bt.numAt (p.drop 16) 0 64=M at*;have HM:=Lib.hid hM;clear hM
 go_wp2_with fail
 refine(a5V M hm w6).mono ?_;rintro e w7 ⟨rfl,rfl⟩;obtain⟨ro,hro⟩:∃x:Int,((M/72057594037927936:Nat):Int)=x:=⟨_,rfl⟩;obtain⟨lp,hlp⟩:∃x:Int,((M/1099511627776 % 65536:Nat):Int)=x:=⟨_,rfl⟩;obtain⟨sq,hsq⟩:∃x:Int,((M % 1099511627776:Nat):Int)=x:=⟨_,rfl⟩;rw[hro,hlp,hsq];have Hro:=Lib.hid hro;have Hlp:=Lib.hid hlp;have Hsq:=Lib.hid hsq;clear hro hlp hsq hm;have c16:=(b2.cell 16).trans (Q5 hd16 0);have c17:=(b2.cell 17).trans (Q5 hd16 1);have c18:=(b2.cell 18).trans (Q5 hd16 2);have f16:=b2.frozen 16;have f17:=b2.frozen 17;have f18:=b2.frozen 18;simp at c16 c17 c18
 go_wp2_with fail
 obtain⟨w8,hw8⟩:∃w8,((w6.setCell ⟨n+1+1,16,none⟩ (.int .i64 ro)).setCell ⟨n+1+1,17,none⟩ (.int .i64 lp)).setCell ⟨n+1+1,18,none⟩ (.int .i64 sq)=w8:=⟨_,rfl⟩;rw[hw8]
 replace b2:=((b2.set_ 16 (.int .i64 ro)).set_ 17 (.int .i64 lp)).set_ 18 (.int .i64 sq)
 rw[b5V hd16,b5U hd16,b5T hd16,hw8]at b2;have g8:w6.grownBy w8 (some (n+1+1)):=by
  rw[<- hw8];exact((t6 w6 ⟨n+1+1,16,none⟩ (.int .i64 ro)).trans (t6 _ ⟨n+1+1,17,none⟩ (.int .i64 lp))).trans (t6 _ ⟨n+1+1,18,none⟩ (.int .i64 sq))
 have s8:w8.heap.size=w6.heap.size:=by rw[<- hw8];simp[World.setCell]
 replace b0:=b0.grown g8 (by simp;omega)
 replace b1:=b1.grown g8 (by simp)
 replace hbel:=hbel.grown g8 (by omega) (λk hk=>by injection hk with hk;omega)
 replace hin6:=hin6.grown g8 (λe=>by injection e with e;omega) (λe=>by injection e with e;omega)
 have s8':g<w8.heap.size:=by omega
 clear hw8 g8 s8 c16 c17 c18 f16 f17 f18 s6'
 go_loopw [39] (λc wr=>∃k:Nat,k<=4/\c= .int .i64 k/\InAt wr g n 16 (p.drop 16) (64+8*k)/\Blk wr n 155 C/\Blk wr (n+1) 222 (shc zeros16 0 0 0 0 0 0 0).toArray/\
   Blk wr (n+1+1) 222 (shc (p.take 16) ro lp sq (if k<4 then 0 else Bt.numAt (p.drop 16) 88 8) (if k<1 then 0 else Bt.numAt (p.drop 16) 64 8) (if k<2 then 0 else Bt.numAt (p.drop 16) 72 8) (if k<3 then 0 else Bt.numAt (p.drop 16) 80 8)).toArray/\Below n w wr/\g<wr.heap.size) (λc _=>4-(intOf c).toNat)
 case atStart=>exact⟨0,by omega,rfl,hin6,b0,b1,b2,hbel,s8'⟩
 case round=>
  clear b0 b1 b2 hbel hin6 s8';obtain⟨k,hk,hc,hin,b0,b1,b2,hbw,hgs⟩:=hrel
  match k,hk with
  | 0,_=>
   obtain rfl:_=Value.int .i64 0:=hc;have ix:∀W:World,(Instr.index 312 (.agg #[.pointer (some ⟨n+1+1,20,none⟩), .pointer (some ⟨n+1+1,21,none⟩), .pointer (some ⟨n+1+1,22,none⟩), .pointer (some ⟨n+1+1,19,none⟩)]) (.int .i64 0)).run Tryz.prog W= .ok (.pointer (some ⟨n+1+1,20,none⟩)) W:=λ_=>by kernel_rfl
   go_wp2_with fail
   refine(a2P n 16 (p.drop 16) 64 8 (by decide) (by decide) (by omega) (by omega) wr g hin).mono ?_;rintro e w9 ⟨rfl,hin9,g9,s9⟩
   replace b0:=b0.grown g9 (λe=>by injection e with e;omega)
   replace b1:=b1.grown g9 (λe=>by injection e with e;omega)
   replace b2:=b2.grown g9 (λe=>by injection e with e;omega)
   replace hbw:=hbw.grown g9 (by omega) (λk hk=>by injection hk with hk;omega)
   have hgs9:g<w9.heap.size:=by omega
   clear g9 s9;have hnl:=Bt.numAt_lt (p.drop 16) 64 8;generalize hX:Bt.numAt (p.drop 16) 64 8=X at*;have hnl':(X:Int)<256:=by omega
   have HX:=Lib.hid hX;clear hX hnl;have cX:=(b2.cell 20).trans (Q5 hd16 4);have fX:=b2.frozen 20;simp at cX
   go_wp2
   go_roundw
   case rel=>
    have b3:=b2.set_ 20 (.int .i64 (X:Int));rw[b5R hd16]at b3;exact⟨1,by omega,by rfl,hin9.grown (t6 _ _ _) (λe=>by injection e with e;simp at e;omega) (λe=>by injection e with e;simp at e;omega),b0.far (by simp;omega) _,b1.far (by simp) _,by rw[HX.out];exact b3,hbw.setCell (by simp;omega) _,by simpa[World.setCell]using hgs9⟩
   case measure=>simp[intOf]
  | 1,_=>
   obtain rfl:_=Value.int .i64 1:=hc;have ix:∀W:World,(Instr.index 312 (.agg #[.pointer (some ⟨n+1+1,20,none⟩), .pointer (some ⟨n+1+1,21,none⟩), .pointer (some ⟨n+1+1,22,none⟩), .pointer (some ⟨n+1+1,19,none⟩)]) (.int .i64 1)).run Tryz.prog W= .ok (.pointer (some ⟨n+1+1,21,none⟩)) W:=λ_=>by kernel_rfl
   go_wp2_with fail
   refine(a2P n 16 (p.drop 16) 72 8 (by decide) (by decide) (by omega) (by omega) wr g hin).mono ?_;rintro e w9 ⟨rfl,hin9,g9,s9⟩
   replace b0:=b0.grown g9 (λe=>by injection e with e;omega)
   replace b1:=b1.grown g9 (λe=>by injection e with e;omega)
   replace b2:=b2.grown g9 (λe=>by injection e with e;omega)
   replace hbw:=hbw.grown g9 (by omega) (λk hk=>by injection hk with hk;omega)
   have hgs9:g<w9.heap.size:=by omega
   clear g9 s9;have hnl:=Bt.numAt_lt (p.drop 16) 72 8;generalize hX:Bt.numAt (p.drop 16) 72 8=X at*;have hnl':(X:Int)<256:=by omega
   have HX:=Lib.hid hX;clear hX hnl;have cX:=(b2.cell 21).trans (Q5 hd16 5);have fX:=b2.frozen 21;simp at cX
   go_wp2
   go_roundw
   case rel=>
    have b3:=b2.set_ 21 (.int .i64 (X:Int));rw[b5Q hd16]at b3;exact⟨2,by omega,by rfl,hin9.grown (t6 _ _ _) (λe=>by injection e with e;simp at e;omega) (λe=>by injection e with e;simp at e;omega),b0.far (by simp;omega) _,b1.far (by simp) _,by rw[HX.out];exact b3,hbw.setCell (by simp;omega) _,by simpa[World.setCell]using hgs9⟩
   case measure=>simp[intOf]
  | 2,_=>
   obtain rfl:_=Value.int .i64 2:=hc;have ix:∀W:World,(Instr.index 312 (.agg #[.pointer (some ⟨n+1+1,20,none⟩), .pointer (some ⟨n+1+1,21,none⟩), .pointer (some ⟨n+1+1,22,none⟩), .pointer (some ⟨n+1+1,19,none⟩)]) (.int .i64 2)).run Tryz.prog W= .ok (.pointer (some ⟨n+1+1,22,none⟩)) W:=λ_=>by kernel_rfl
   go_wp2_with fail
   refine(a2P n 16 (p.drop 16) 80 8 (by decide) (by decide) (by omega) (by omega) wr g hin).mono ?_;rintro e w9 ⟨rfl,hin9,g9,s9⟩
   replace b0:=b0.grown g9 (λe=>by injection e with e;omega)
   replace b1:=b1.grown g9 (λe=>by injection e with e;omega)
   replace b2:=b2.grown g9 (λe=>by injection e with e;omega)
   replace hbw:=hbw.grown g9 (by omega) (λk hk=>by injection hk with hk;omega)
   have hgs9:g<w9.heap.size:=by omega
   clear g9 s9;have hnl:=Bt.numAt_lt (p.drop 16) 80 8;generalize hX:Bt.numAt (p.drop 16) 80 8=X at*;have hnl':(X:Int)<256:=by omega
   have HX:=Lib.hid hX;clear hX hnl;have cX:=(b2.cell 22).trans (Q5 hd16 6);have fX:=b2.frozen 22;simp at cX
   go_wp2
   go_roundw
   case rel=>
    have b3:=b2.set_ 22 (.int .i64 (X:Int));rw[b5P hd16]at b3;exact⟨3,by omega,by rfl,hin9.grown (t6 _ _ _) (λe=>by injection e with e;simp at e;omega) (λe=>by injection e with e;simp at e;omega),b0.far (by simp;omega) _,b1.far (by simp) _,by rw[HX.out];exact b3,hbw.setCell (by simp;omega) _,by simpa[World.setCell]using hgs9⟩
   case measure=>simp[intOf]
  | 3,_=>
   obtain rfl:_=Value.int .i64 3:=hc;have ix:∀W:World,(Instr.index 312 (.agg #[.pointer (some ⟨n+1+1,20,none⟩), .pointer (some ⟨n+1+1,21,none⟩), .pointer (some ⟨n+1+1,22,none⟩), .pointer (some ⟨n+1+1,19,none⟩)]) (.int .i64 3)).run Tryz.prog W= .ok (.pointer (some ⟨n+1+1,19,none⟩)) W:=λ_=>by kernel_rfl
   go_wp2_with fail
   refine(a2P n 16 (p.drop 16) 88 8 (by decide) (by decide) (by omega) (by omega) wr g hin).mono ?_;rintro e w9 ⟨rfl,hin9,g9,s9⟩
   replace b0:=b0.grown g9 (λe=>by injection e with e;omega)
   replace b1:=b1.grown g9 (λe=>by injection e with e;omega)
   replace b2:=b2.grown g9 (λe=>by injection e with e;omega)
   replace hbw:=hbw.grown g9 (by omega) (λk hk=>by injection hk with hk;omega)
   have hgs9:g<w9.heap.size:=by omega
   clear g9 s9;have hnl:=Bt.numAt_lt (p.drop 16) 88 8;generalize hX:Bt.numAt (p.drop 16) 88 8=X at*;have hnl':(X:Int)<256:=by omega
   have HX:=Lib.hid hX;clear hX hnl;have cX:=(b2.cell 19).trans (Q5 hd16 3);have fX:=b2.frozen 19;simp at cX
   go_wp2
   go_roundw
   case rel=>
    have b3:=b2.set_ 19 (.int .i64 (X:Int));rw[b5S hd16]at b3;exact⟨4,by omega,by rfl,hin9.grown (t6 _ _ _) (λe=>by injection e with e;simp at e;omega) (λe=>by injection e with e;simp at e;omega),b0.far (by simp;omega) _,b1.far (by simp) _,by rw[HX.out];exact b3,hbw.setCell (by simp;omega) _,by simpa[World.setCell]using hgs9⟩
   case measure=>simp[intOf]
  | 4,_=>
   obtain rfl:_=Value.int .i64 4:=hc;have hF:shc (p.take 16) ro lp sq (if 4<4 then 0 else Bt.numAt (p.drop 16) 88 8) (if 4<1 then 0 else Bt.numAt (p.drop 16) 64 8) (if 4<2 then 0 else Bt.numAt (p.drop 16) 72 8) (if 4<3 then 0 else Bt.numAt (p.drop 16) 80 8)=(S.fields p).cells:=by
    rw[<- Hro.out,<- Hlp.out,<- Hsq.out,<- HM.out];rfl
   rw[hF]at b2;have hfd:(S.fields p).data.length=16:=hd16;have hSA:AggT Tryz.prog 222 (S.fields p).cells.length:=by rw[show(S.fields p).cells.length=23 by simp[Sh.cells,hfd]];exact a7c
   have hSC:AggT Tryz.prog 222 (S.fields p).cells.toArray.size:=hSA;have hpyes:=λhm W=>Y7 (S.fields p) hfd hm W;have hpno:=λhm W=>a0o (S.fields p) hfd hm W;have hgd:S.get p=if S.may (S.fields p)/\S.put (S.fields p)=p then some (S.fields p)else none:=rfl
   have h1c:∀v∈(S.fields p).cells,v.oneCell'=true:=a9j _;have hpl:(S.put (S.fields p)).length=32:=S.length_put _ hfd;have hspl:=Lib.hid (show splice (shc zeros16 0 0 0 0 0 0 0) 0 (S.fields p).cells.toArray.toList=(S.fields p).cells from a4C _ _ (by simp[shc,zeros16,Sh.cells,hfd]));have hfit:0+(S.fields p).cells.toArray.size<=(shc zeros16 0 0 0 0 0 0 0).length:=by simp[shc,zeros16,Sh.cells,hfd]
   unfold Sh.v at hpyes hpno;clear hF hin hk;cases hmay:S.may (S.fields p)
   ·have hg:=Lib.hid (show S.getV p=Sh.zero/\S.getE p=1 by unfold S.getV S.getE;rw[hgd];simp[hmay]);have hput:=Lib.hid (hpno hmay);generalize S.fields p=fs at*;clear hpno hpyes hgd hmay hfd hSC h1c;generalize fs.cells=SH at*
    go_wp2_with ((with_reducible refine x5 222 SH (n+1+1) 0 hSA (n8 b2 0 _ (by rw[List.drop_zero];exact List.take_length)) ?_ ?_);(· rfl))
    refine(hput.out wr).mono ?_;rintro e w10 ⟨rfl,hb10⟩
    replace b0:=b0.below hb10 b0.lt
    replace b1:=b1.below hb10 b1.lt
    replace hbw:=hbw.trans (hb10.mono (by omega))
    have hs10:=hb10.size;clear hb10 b2
    go_wp2_with (first | ((with_reducible refine Q3 155 w10 #[.int .u8 0, .int .u8 0, .int .u8 0, .int .u8 0, .int .u8 0, .int .u8 0, .int .u8 0, .int .u8 0, .int .u8 0, .int .u8 0, .int .u8 0, .int .u8 0, .int .u8 0, .int .u8 0, .int .u8 0, .int .u8 0, .int .u8 0, .int .u8 0, .int .u8 0, .int .u8 0, .int .u8 0, .int .u8 0, .int .u8 0, .int .u8 0, .int .u8 0, .int .u8 0, .int .u8 0, .int .u8 0, .int .u8 0, .int .u8 0, .int .u8 0, .int .u8 0] (zeros32.map bv).toArray 155 b2B b5O (O5 _) ?_ ?_ ?_);(· rfl);(· rfl)) | ((with_reducible refine U7 222 (n+1) 0 222 (shc zeros16 0 0 0 0 0 0 0) #[.int .u8 0, .int .u8 0, .int .u8 0, .int .u8 0, .int .u8 0, .int .u8 0, .int .u8 0, .int .u8 0, .int .u8 0, .int .u8 0, .int .u8 0, .int .u8 0, .int .u8 0, .int .u8 0, .int .u8 0, .int .u8 0, .int .i64 0, .int .i64 0, .int .i64 0, .int .i64 0, .int .i64 0, .int .i64 0, .int .i64 0] a5F (b1.alloc _) b2e b1f ?_ ?_ ?_);(· rfl);(· rfl);intro w12 c1 g12 s12))
    exact bodyPost_ret (D3 Tryz.results218 _ _ (n+1) 222 #[.int .u8 0, .int .u8 0, .int .u8 0, .int .u8 0, .int .u8 0, .int .u8 0, .int .u8 0, .int .u8 0, .int .u8 0, .int .u8 0, .int .u8 0, .int .u8 0, .int .u8 0, .int .u8 0, .int .u8 0, .int .u8 0, .int .i64 0, .int .i64 0, .int .i64 0, .int .i64 0, .int .i64 0, .int .i64 0, .int .i64 0] c1 a5F rfl) rfl ⟨by rw[hg.out.1,hg.out.2];exact b2g,by rw[Hn.out];exact(hbw.alloc (by omega) _).grown g12 (by simp;omega) (λk hk=>by injection hk with hk;omega)⟩
   ·have hput:=Lib.hid (hpyes hmay)
    by_cases hpp:S.put (S.fields p)=p
    ·have hg:=Lib.hid (show S.getV p=S.fields p/\S.getE p=0 by unfold S.getV S.getE;rw[hgd];simp[hmay,hpp]);rw[hpp]at hput;have heq:=λW=>a1d p p h h W;rw[HC.out]at heq hput;have hde:decide (p=p)=true:=by simp
     rw[hde]at heq;have hvv:(some (S.fields p)).getD Sh.zero=S.fields p:=rfl;have Hvv:=Lib.hid hvv;have hCa:AggT Tryz.prog 155 C.size:=by rw[<- HC.out];simp only[List.size_toArray,List.length_map,h];exact a0J
     have hCs:(#[.int .u8 0, .int .u8 0, .int .u8 0, .int .u8 0, .int .u8 0, .int .u8 0, .int .u8 0, .int .u8 0, .int .u8 0, .int .u8 0, .int .u8 0, .int .u8 0, .int .u8 0, .int .u8 0, .int .u8 0, .int .u8 0, .int .u8 0, .int .u8 0, .int .u8 0, .int .u8 0, .int .u8 0, .int .u8 0, .int .u8 0, .int .u8 0, .int .u8 0, .int .u8 0, .int .u8 0, .int .u8 0, .int .u8 0, .int .u8 0, .int .u8 0, .int .u8 0]:Array Value).size=C.size:=by rw[<- HC.out];simp[h]
     have hC1:C.all (·.oneCell')=true:=by rw[<- HC.out];exact O5 _
     have hCL:AggT Tryz.prog 155 C.toList.length:=hCa;have hS1:(S.fields p).cells.toArray.all (·.oneCell')=true:=all_oneCell_toArray h1c;clear hpno hpyes hgd hmay hfd h1c hvv hde hpl;generalize hfs:S.fields p=fs at*;generalize hSH:fs.cells=SH at*;have HSH:=Lib.hid hSH;clear hSH hfs
     go_wp2_with ((with_reducible refine x5 222 SH (n+1+1) 0 hSA (n8 b2 0 _ (by rw[List.drop_zero];exact List.take_length)) ?_ ?_);(· rfl))
     refine(hput.out wr).mono ?_;rintro e w10 ⟨rfl,hb10⟩
     replace b0:=b0.below hb10 b0.lt
     replace b1:=b1.below hb10 b1.lt
     replace b2:=b2.below hb10 b2.lt
     replace hbw:=hbw.trans (hb10.mono (by omega))
     have hs10:=hb10.size;clear hb10
     go_wp2_with (first | ((with_reducible refine Q3 155 w10 #[.int .u8 0, .int .u8 0, .int .u8 0, .int .u8 0, .int .u8 0, .int .u8 0, .int .u8 0, .int .u8 0, .int .u8 0, .int .u8 0, .int .u8 0, .int .u8 0, .int .u8 0, .int .u8 0, .int .u8 0, .int .u8 0, .int .u8 0, .int .u8 0, .int .u8 0, .int .u8 0, .int .u8 0, .int .u8 0, .int .u8 0, .int .u8 0, .int .u8 0, .int .u8 0, .int .u8 0, .int .u8 0, .int .u8 0, .int .u8 0, .int .u8 0, .int .u8 0] C 155 hCa hCs hC1 ?_ ?_ ?_);(· rfl);(· rfl)) | ((with_reducible refine M9 155 C.toList w10.heap.size 0 hCL (M4 _ _ _) ?_ ?_ ?_);(· rfl);(· rfl)) | ((with_reducible refine M9 155 C.toList n 0 hCL (n8 (b0.alloc _) 0 _ (by rw[List.drop_zero];exact List.take_length)) ?_ ?_ ?_);(· rfl);(· rfl)) | ((with_reducible refine x5 222 SH (n+1+1) 0 hSA (n8 (b2.alloc _) 0 _ (by rw[List.drop_zero];exact List.take_length)) ?_ ?_);(· rfl)) | ((with_reducible refine U7 222 (n+1) 0 222 (shc zeros16 0 0 0 0 0 0 0) SH.toArray hSC (b1.alloc _) hfit hS1 ?_ ?_ ?_);(· rfl);(· rfl);intro w12 c1 g12 s12;rw[hspl.out]at c1))
     exact bodyPost_ret (D3 Tryz.results218 _ _ (n+1) 222 SH.toArray c1 hSC rfl) rfl ⟨by rw[hg.out.1,hg.out.2,<- b3Q,HSH.out];rfl,by rw[Hn.out];exact(hbw.alloc (by omega) _).grown g12 (by simp;omega) (λk hk=>by injection hk with hk;omega)⟩
    ·have hg:=Lib.hid (show S.getV p=Sh.zero/\S.getE p=1 by unfold S.getV S.getE;rw[hgd];simp[hpp]);have heq:=λW=>a1d (S.put (S.fields p)) p hpl h W;rw[HC.out]at heq;have hde:decide (S.put (S.fields p)=p)=false:=by simp[hpp]
     rw[hde]at heq;have hPa:AggT Tryz.prog 155 ((S.put (S.fields p)).map bv).toArray.size:=by simp only[List.size_toArray,List.length_map,hpl];exact a0J
     have hPs:(#[.int .u8 0, .int .u8 0, .int .u8 0, .int .u8 0, .int .u8 0, .int .u8 0, .int .u8 0, .int .u8 0, .int .u8 0, .int .u8 0, .int .u8 0, .int .u8 0, .int .u8 0, .int .u8 0, .int .u8 0, .int .u8 0, .int .u8 0, .int .u8 0, .int .u8 0, .int .u8 0, .int .u8 0, .int .u8 0, .int .u8 0, .int .u8 0, .int .u8 0, .int .u8 0, .int .u8 0, .int .u8 0, .int .u8 0, .int .u8 0, .int .u8 0, .int .u8 0]:Array Value).size=((S.put (S.fields p)).map bv).toArray.size:=by simp[hpl]
     have hP1:=O5 (S.put (S.fields p));have hCL:AggT Tryz.prog 155 C.toList.length:=by rw[<- HC.out];simpa[h]using a0J
     generalize((S.put (S.fields p)).map bv).toArray=PG at*;have hPL:AggT Tryz.prog 155 PG.toList.length:=hPa;clear hpno hpyes hgd hmay hfd h1c hde hpl hpp;generalize S.fields p=fs at*;generalize fs.cells=SH at*
     go_wp2_with ((with_reducible refine x5 222 SH (n+1+1) 0 hSA (n8 b2 0 _ (by rw[List.drop_zero];exact List.take_length)) ?_ ?_);(· rfl))
     refine(hput.out wr).mono ?_;rintro e w10 ⟨rfl,hb10⟩
     replace b0:=b0.below hb10 b0.lt
     replace b1:=b1.below hb10 b1.lt
     replace hbw:=hbw.trans (hb10.mono (by omega))
     have hs10:=hb10.size;clear hb10 b2
     go_wp2_with (first | ((with_reducible refine Q3 155 w10 #[.int .u8 0, .int .u8 0, .int .u8 0, .int .u8 0, .int .u8 0, .int .u8 0, .int .u8 0, .int .u8 0, .int .u8 0, .int .u8 0, .int .u8 0, .int .u8 0, .int .u8 0, .int .u8 0, .int .u8 0, .int .u8 0, .int .u8 0, .int .u8 0, .int .u8 0, .int .u8 0, .int .u8 0, .int .u8 0, .int .u8 0, .int .u8 0, .int .u8 0, .int .u8 0, .int .u8 0, .int .u8 0, .int .u8 0, .int .u8 0, .int .u8 0, .int .u8 0] PG 155 hPa hPs hP1 ?_ ?_ ?_);(· rfl);(· rfl)) | ((with_reducible refine M9 155 PG.toList w10.heap.size 0 hPL (M4 _ _ _) ?_ ?_ ?_);(· rfl);(· rfl)) | ((with_reducible refine M9 155 C.toList n 0 hCL (n8 (b0.alloc _) 0 _ (by rw[List.drop_zero];exact List.take_length)) ?_ ?_ ?_);(· rfl);(· rfl)) | ((with_reducible refine U7 222 (n+1) 0 222 (shc zeros16 0 0 0 0 0 0 0) #[.int .u8 0, .int .u8 0, .int .u8 0, .int .u8 0, .int .u8 0, .int .u8 0, .int .u8 0, .int .u8 0, .int .u8 0, .int .u8 0, .int .u8 0, .int .u8 0, .int .u8 0, .int .u8 0, .int .u8 0, .int .u8 0, .int .i64 0, .int .i64 0, .int .i64 0, .int .i64 0, .int .i64 0, .int .i64 0, .int .i64 0] a5F (b1.alloc _) b2e b1f ?_ ?_ ?_);(· rfl);(· rfl);intro w12 c1 g12 s12))
     exact bodyPost_ret (D3 Tryz.results218 _ _ (n+1) 222 #[.int .u8 0, .int .u8 0, .int .u8 0, .int .u8 0, .int .u8 0, .int .u8 0, .int .u8 0, .int .u8 0, .int .u8 0, .int .u8 0, .int .u8 0, .int .u8 0, .int .u8 0, .int .u8 0, .int .u8 0, .int .u8 0, .int .i64 0, .int .i64 0, .int .i64 0, .int .i64 0, .int .i64 0, .int .i64 0, .int .i64 0] c1 a5F rfl) rfl ⟨by rw[hg.out.1,hg.out.2];exact b2g,by rw[Hn.out];exact(hbw.alloc (by omega) _).grown g12 (by simp;omega) (λk hk=>by injection hk with hk;omega)⟩
end Go.Proofs.YtgkpkpbnonmopaaGreat
namespace Go.Proofs.YtgkpkpbnonmopaaGreat
open Go Go.RowKit
theorem a8x (n:Int):Fn Tryz.prog 208 [.int .i64 n] [] (λv As=>v= .int .i64 (L.all n)/\As=[]):=Fn.of_same (a6z n)
theorem a8w (m d:Int):Fn Tryz.prog 120 [.int .i64 m, .int .i64 d] [] (λv As=>v= .bool (L.has m d)/\As=[]):=Fn.of_same (P6 m d)
theorem a5d (m d:Int):Fn Tryz.prog 147 [.int .i64 m, .int .i64 d] [] (λv As=>v= .int .i64 (L.with_ m d)/\As=[]):=Fn.of_same (a9p m d)
theorem a4c (m d:Int):Fn Tryz.prog 196 [.int .i64 m, .int .i64 d] [] (λv As=>v= .int .i64 (L.without m d)/\As=[]):=Fn.of_same (Q9 m d)
theorem b3D (m:Int):Fn Tryz.prog 192 [.int .i64 m] [] (λv As=>v= .int .i64 (L.count m)/\As=[]):=Fn.of_same (p9 m)
theorem b6z (m i:Int) (hi0: -1000000<=i) (hi1:i<=1000000):Fn Tryz.prog 195 [.int .i64 m, .int .i64 i] [] (λv As=>v= .int .i64 (L.at_ m i)/\As=[]):=Fn.of_same (a5c m i hi0 hi1)
theorem b4Y (m d:Int):Fn Tryz.prog 326 [.int .i64 m, .int .i64 d] [] (λv As=>v= .int .i64 (L.spot m d)/\As=[]):=Fn.of_same (a4b m d)
theorem G9 (m:Int):Fn Tryz.prog 132 [.int .i64 m] [] (λv As=>v= .int .i64 (G.slots m)/\As=[]):=Fn.of_same (a9J m)
theorem P9 (m b r:Int):Fn Tryz.prog 164 [.int .i64 m, .int .i64 b, .int .i64 r] [] (λv As=>v= .int .i64 (G.parity m b r)/\As=[]):=Fn.of_drew (J9 m b r)
theorem a8y (m b r s:Int) (h0: -1000000<=s) (h1:s<=1000000):Fn Tryz.prog 136 [.int .i64 m, .int .i64 b, .int .i64 r, .int .i64 s] [] (λv As=>v= .int .i64 (G.die m b r s)/\As=[]):=Fn.of_drew (b3P m b r s h0 h1)
theorem b1Z (m b r s:Int):Fn Tryz.prog 322 [.int .i64 m, .int .i64 b, .int .i64 r, .int .i64 s] [] (λv As=>v= .int .i64 (G.slot m b r s)/\As=[]):=Fn.of_drew (b1Y m b r s)
def shL (s:Sh):List Value:=[byC s.data 0,byC s.data 1,byC s.data 2,byC s.data 3,byC s.data 4,byC s.data 5,byC s.data 6,byC s.data 7,byC s.data 8,byC s.data 9,byC s.data 10,byC s.data 11,byC s.data 12,byC s.data 13,byC s.data 14,byC s.data 15,
 .int .i64 s.role, .int .i64 s.lpn, .int .i64 s.seq, .int .i64 s.kind, .int .i64 s.block, .int .i64 s.row, .int .i64 s.mask]
abbrev shV (s:Sh):Value:= .agg (shL s).toArray
theorem b4G (s:Sh) (h:s.data.length=16):shL s=s.cells:=by
 rw[Sh.cells,<- Q0 s.data h];rfl
theorem a7m (s:Sh) (h:s.data.length=16):s.v=shV s:=by rw[Sh.v,shV,b4G s h]
abbrev pgV (p:List UInt8):Value:= .agg (A9 p).toArray
theorem a2t (p:List UInt8) (h:p.length=32): .agg (p.map bv).toArray=pgV p:=by rw[pgV,O4 p h]
theorem b1U (role lpn seq:Int):Fn Tryz.prog 262 [.int .i64 role, .int .i64 lpn, .int .i64 seq] [] (λv As=>v= .int .u64 (S.meta_ role lpn seq)/\As=[]):=Fn.of_same (a2i role lpn seq)
theorem b5d (m:Nat) (hm:m<18446744073709551616):Fn Tryz.prog 247 [.int .u64 m] [] (λv As=>v= .tuple #[.int .i64 (m/72057594037927936:Nat), .int .i64 (m/1099511627776 % 65536:Nat), .int .i64 (m % 1099511627776:Nat)]/\As=[]):=Fn.of_same (a5V m hm)
theorem a6H (s:Sh) (h:s.data.length=16):Fn Tryz.prog 244 [shV s] [] (λv As=>v= .bool (S.may s)/\As=[]):=by
 rw[<- a7m s h];exact Fn.of_below (a0R s h)
def Z5 (s:Sh):List UInt8:=if S.may s then S.put s else zeros32
theorem O2 (s:Sh) (h:s.data.length=16):(Z5 s).length=32:=by
 unfold Z5;split
 ·exact S.length_put s h
 ·rfl
theorem b4s (s:Sh) (h:s.data.length=16):Fn Tryz.prog 233 [shV s] [] (λv As=>v= .tuple #[pgV (Z5 s), .bool (S.may s)]/\As=[]):=by
 rw[<- a7m s h];cases hm:S.may s with
 | true=>
  rw[<- a2t _ (O2 s h),Z5,if_pos hm];exact Fn.of_below (Y7 s h hm)
 | false=>
  rw[<- a2t _ (O2 s h),Z5,if_neg (by simp[hm])];exact Fn.of_below (a0o s h hm)
theorem a6I (p:List UInt8) (h:p.length=32):(S.getV p).data.length=16:=by
 unfold S.getV S.get;split
 ·simp[S.fields,h]
 ·rfl
theorem b1V (p:List UInt8) (h:p.length=32):Fn Tryz.prog 218 [pgV p] [] (λv As=>v= .tuple #[shV (S.getV p), .int .i64 (S.getE p)]/\As=[]):=by
 rw[<- a2t p h,<- a7m _ (a6I p h)];exact Fn.of_below (a8W p h)
structure En where
 lpn:Int
 seq:Int
 role:Int
 data:List UInt8
def enL (e:En):List Value:=[iI e.lpn,iI e.seq,iI e.role,byC e.data 0,byC e.data 1,byC e.data 2,byC e.data 3,byC e.data 4,byC e.data 5,byC e.data 6,byC e.data 7,byC e.data 8,byC e.data 9,byC e.data 10,byC e.data 11,byC e.data 12,byC e.data 13,byC e.data 14,byC e.data 15]
abbrev enV (e:En):Value:= .agg (enL e).toArray
namespace W
def sh (b r m:Int) (e:En):Sh:=⟨e.data,e.role,e.lpn,e.seq,1,b,r,m⟩
def ok (b r m:Int) (e:En):Bool:=S.may (sh b r m e)
def own (b r m:Int) (e:En):Sh:=if ok b r m e then sh b r m e else Sh.zero
end W
theorem a5N (b r m:Int) (e:En) (h:e.data.length=16):FP 232 [iI b,iI r,iI m,enV e] [] (Ps (.tuple #[shV (W.own b r m e), .bool (W.ok b r m e)]) []):=by
 refine FE [0,0,0,0] Tryz.func232 λX F hX=>?_;refine J.qp (a6H (W.sh b r m e) h) [] λ_=>?_;refine J.qd (λ_ h1=>?_) λ_ h1=>?_
 ·simp only[Bool.not_eq_true']at h1;refine J.qr [] λ_=>?_;exact⟨by rw[W.own,W.ok,h1];rfl,rfl⟩
 ·simp only[Bool.not_eq_false']at h1;refine J.qr [] λ_=>?_;exact⟨by rw[W.own,W.ok,h1];rfl,rfl⟩
section
variable {P : Program} {T : Tab} {E : Env} {w : World} {n0 : Nat} {a : Act}
theorem a5l (hT:TabOK P T) {o:Oper} {ty e len:Nat} {x y:Operand} {k1 k2 t1 t2:Nat} {g1 g2:G} {ik:IntKind} {i:Int} {cs:Array Value} {v:Value} {ti:TI} (hop:o.op= .index ty x y) (hx:ev E x=some ⟨k1, .agg cs,t1,g1⟩) (hy:ev E y=some ⟨k2, .int ik i,t2,g2⟩) (he:EnvOK n0 E a) (v1:g1.on=true) (v2:g2.on=true)
  (hd:P.underlying ty=some (.array len e)) (hti:T.get e=some ti) (h1:ti.d.one=true) (hs:Nat.beq ti.size 1=true) (h0:0<=i) (hl:i<(len:Int)) (hv:cs[i.toNat]? =some v):(execOp a.eval o).run P w= .ok (.value v) w:=by
 have ex:=i7 he hx;have ey:=i7 he hy;simp only[Slot.val,v1,v2]at ex ey;obtain⟨d,f,z,ok⟩:=d8 (hT.get hti);have hsz:f.size=1:=by rw[<- ok.hsize];exact Nat.eq_of_beq_eq_true hs
 have hp:=a2u (P:=P) (w:=w) ok.hd ok.hf cs i.toNat
 rw[ok.one h1,hv]at hp;simp only[execOp,hop,ex,ey,Instr.index,asIntOf,Sem.run_bind,Sem.run_pure,Result.andThen_ok,d4 hd,if_pos (And.intro h0 hl),l6 ok.hf,hsz,Nat.mul_one,hp];simp
end
namespace W
def mix (x s:List UInt8) (k:Nat):List UInt8:=(List.zipWith (· ^^^ ·) x s).take k++x.drop k
def ovM (m x:Int):Int:=IntKind.u64.wrap ((BitVec.ofInt 64 m ^^^ BitVec.ofInt 64 x).toNat:Int)
def over1 (x:List UInt8×Int) (s:Sh):List UInt8×Int:=(mix x.1 s.data 16,ovM x.2 (S.meta_ s.role s.lpn s.seq))
def over (l:List Sh):List UInt8×Int:=l.foldl over1 (zeros16,0)
end W
def l7 (l:List Sh):List Value:=l.flatMap shL
theorem a8d (s:Sh):(shL s).length=23:=rfl
theorem Y5:∀(l:List Sh) (r:List Value) (k:Nat) (x:Sh),l[k]? =some x->((l7 l++r).drop (k*23)).take 23=shL x
 | [],_,_,_,h=>by simp at h
 | y::l,r,0,x,h=>by
  simp at h;subst h;rw[Nat.zero_mul,List.drop_zero];simp only[l7,List.flatMap_cons,List.append_assoc];exact List.take_left' (a8d y)
 | y::l,r,k+1,x,h=>by
  have:=Y5 l r k x (by simpa using h);rw[show(k+1)*23=23+k*23 from by omega,<- List.drop_drop];simp only[l7,List.flatMap_cons,List.append_assoc]at this ⊢;rw[List.drop_left' (a8d y)];exact this
theorem a4W {x s:List UInt8} (hx:x.length=16) (hs:s.length=16) (k:Nat) (hk:k<=16):(W.mix x s k).length=16:=by simp[W.mix,hx,hs];omega
theorem b3z {x s:List UInt8} (hx:x.length=16) (hs:s.length=16) {k:Nat} (hk:k<16):(W.mix x s k).getD k 0=x.getD k 0:=by
 have e:(W.mix x s k)[k]? =x[k]?:=by
  rw[W.mix,List.getElem?_append_right (by simp[hx,hs];omega),List.getElem?_drop];congr 1;simp[hx,hs];omega
 rw[List.getD_eq_getElem?_getD,e,List.getD_eq_getElem?_getD]
theorem b3y {x s:List UInt8} (hx:x.length=16) (hs:s.length=16) {k:Nat} (hk:k<16):(W.mix x s k).set k (x.getD k 0 ^^^ s.getD k 0)=W.mix x s (k+1):=by
 apply List.ext_getElem?;intro j;rw[List.getElem?_set,a4W hx hs k (by omega)];simp only[W.mix,List.getElem?_append,List.length_take,List.length_zipWith,hx,hs,Nat.min_self,List.getElem?_take,List.getElem?_drop]
 by_cases e:k=j
 ·subst e;rw[if_pos rfl,if_pos hk,if_pos (by omega),if_pos (by omega)];simp[List.getElem?_zipWith,hx,hs,hk]
 ·rw[if_neg e]
  by_cases h1:j<k
  ·rw[if_pos (show j<min k 16 by omega),if_pos h1,if_pos (show j<min (k+1) 16 by omega),if_pos (show j<k+1 by omega)]
  ·rw[if_neg (show¬j<min k 16 by omega),if_neg (show¬j<min (k+1) 16 by omega),show k+(j-min k 16)=j from by omega,show k+1+(j-min (k+1) 16)=j from by omega]
theorem u81:Tryz.prog.underlying 29=some (.array 16 5):=by kernel_rfl
theorem a4p {x:List UInt8} (h:x.length=16) {k:Nat} (hk:k<16):(j3 x)[k]? =some (bv (x.getD k 0)):=by
 rw[Q0 x h,List.getElem?_map];simp[h,hk]
theorem a9R {x:List UInt8} (h:x.length=16) {k:Nat} {b:UInt8}:(j3 x).set k (bv b)=j3 (x.set k b):=by
 rw[Q0 x h,Q0 _ (by simpa using h),List.map_set]
theorem b2E (b c:UInt8):IntKind.u8.wrap ((BitVec.ofInt IntKind.u8.bits (b.toNat:Int) ^^^ BitVec.ofInt IntKind.u8.bits (c.toNat:Int)).toNat:Int)=((b ^^^ c).toNat:Int):=by
 have h:=a9Z b (c.toNat:Int);have h1:((c.toNat:Int) % 256)=c.toNat:=by have:=c.toNat_lt;omega
 have h2:IntKind.u8.wrap (c.toNat:Int)=(c.toNat:Int):=by
  have:IntKind.u8.wrap (c.toNat:Int)=(c.toNat:Int) % 256:=by simp[IntKind.wrap,IntKind.bits,IntKind.signed]
  rw[this,h1]
 rw[h2,h1]at h;simpa using h
theorem W2 {l:List Sh} (hd:∀s∈l,s.data.length=16):∀(x:List UInt8×Int),x.1.length=16->(l.foldl W.over1 x).1.length=16:=by
 induction l with
 | nil=>intro x h;exact h
 | cons s l ih=>intro x h;exact ih (λt ht=>hd t (by simp[ht])) _ (a4W h (hd s (by simp)) 16 (by omega))
theorem I9 (a:Option Nat) (n cap:Nat) (l:List Sh) (hl:l.length=n) (hn:n<=1000) (hd:∀s∈l,s.data.length=16):FP 245 [slv a n cap] [c8 222 23 a n cap (l7 l)]
  (Ps (.tuple #[.agg (j3 (W.over l).1).toArray, .int .u64 (W.over l).2]) [c8 222 23 a n cap (l7 l)]):=by
 refine FE [0] Tryz.func245 λX F hX=>?_;refine J.q λbb=>?_;refine J.l (α:=Nat) (λk=>k<=n) (λk=>[si 12 k,si 11 n,sv 10 (slv a n cap),⟨5, .int .u64 ((l.take k).foldl W.over1 (zeros16,0)).2,0, .tt⟩,⟨4,pp (bb (0+1)),4, .tt⟩,⟨2,pp (bb 0),3, .tt⟩]) [3] (λk=>[.pt (bb (0+1)) 29 (j3 ((l.take k).foldl W.over1 (zeros16,0)).1)]) (λk=>n-k) (0) (Nat.zero_le _) λk hI=>?_;have hxl:((l.take k).foldl W.over1 (zeros16,0)).1.length=16:=W2 (λt ht=>hd t (List.mem_of_mem_take ht)) _ rfl;refine J.qd (λ_ h1=>?_) λ_ h1=>?_
 ·simp only[decide_eq_true_eq,Int.ofNat_lt]at h1;obtain⟨s,hs⟩:∃s,l[k]? =some s:=⟨_,List.getElem?_eq_getElem (by omega)⟩;have hsl:s.data.length=16:=hd s (List.mem_of_getElem? hs);have hnext:(l.take (k+1)).foldl W.over1 (zeros16,0)=W.over1 ((l.take k).foldl W.over1 (zeros16,0)) s:=by
   rw[List.take_add_one,hs];simp
  generalize(l.take k).foldl W.over1 (zeros16,0)=x at hxl hnext;cases a with
  | none=>
   refine J.know (λh' s=>(s.get (i:=1) rfl).2.1) λhn0=>?_;omega
  | some g=>
   refine J.q λ_=>?_;refine J.v (shV s) rfl rfl (λhg a w he hw=>?_) ?_
   ·exact n3 tk rfl rfl he rfl rfl rfl (hw.get (i:=1) rfl) (by rw[show 0+(k:Int).toNat*23=k*23 from by omega];have:=Y5 l [] k s hs;rwa [List.append_nil]at this) rfl
   refine J.q λcc=>?_;refine J.lo (α:=Nat) (λi=>i<=16) (λi=>[si 18 i,⟨17, .agg (j3 s.data).toArray,0, .tt⟩,⟨7,pp (cc 0),5, .tt⟩,si 12 k,si 11 n,sv 10 (slv (some g) n cap),⟨5, .int .u64 x.2,0, .tt⟩,⟨4,pp (bb (0+1)),4, .tt⟩,⟨2,pp (bb 0),3, .tt⟩]) [3] (λi=>[.pt (bb (0+1)) 29 (j3 (W.mix x.1 s.data i))]) (λi=>16-i) (0) (Nat.zero_le _) rfl ?_ (λ_=>rfl) λi hI=>?_
   ·rw[show W.mix x.1 s.data 0=x.1 from by simp[W.mix]];rfl
   have hml:=a4W hxl hsl i hI;refine J.qd (λ_ h2=>?_) λ_ h2=>?_
   ·simp only[decide_eq_true_eq]at h2;have h3:i<16:=by omega
    refine J.q λ_=>?_;refine J.v (bv (s.data.getD i 0)) rfl rfl (λhg a w he hw=>?_) ?_
    ·exact a5l tk rfl rfl rfl he rfl rfl u81 rfl rfl rfl (by omega) (by omega) (by rw[Int.toNat_natCast];have:=a4p hsl h3;simpa using this)
    refine J.q λ_=>?_;refine J.v (bv (x.1.getD i 0)) rfl rfl (λhg a w he hw=>?_) ?_
    ·exact f9 tk rfl rfl he rfl rfl rfl (hw.get (i:=3) rfl) (by rw[show 0+(i:Int).toNat*1=i from by omega,a4p hml h3,b3z hxl hsl h3])
    refine J.q λ_=>?_;refine J.s1 3 (j3 (W.mix x.1 s.data (i+1))) ?_ ?_ ?_
    ·show 0+(i:Int).toNat*1<16;omega
    ·rw[show 0+(i:Int).toNat*1=i from by omega,b2E,<- b3y hxl hsl h3];exact a9R hml
    refine J.q λ_=>?_;refine J.nx (i+1) (by omega) (by omega) (λ_ s=>s)
   ·simp only[decide_eq_false_iff_not]at h2;obtain rfl:i=16:=by omega
    refine J.qp (b1U s.role s.lpn s.seq) [] λ_=>?_;refine J.q λ_=>?_;have e1:W.mix x.1 s.data 16=((l.take (k+1)).foldl W.over1 (zeros16,0)).1:=by rw[hnext];rfl
    have e2:IntKind.u64.wrap ((BitVec.ofInt IntKind.u64.bits x.2 ^^^ BitVec.ofInt IntKind.u64.bits (S.meta_ s.role s.lpn s.seq)).toNat:Int)=((l.take (k+1)).foldl W.over1 (zeros16,0)).2:=by rw[hnext];rfl
    rw[e1,e2];refine J.q λ_=>?_;refine J.n (k+1) (by omega) (by omega) [0,1,2,3]
 ·simp only[decide_eq_false_iff_not,Int.ofNat_lt]at h1;obtain rfl:k=l.length:=by omega
  rw[List.take_length];exact J.qx [1]
def rdP (a:Option Addr) (size n:Nat) (xs:List Value) (h:Hl):Prop:=
 xs.length=n*size/\(0<n->∃b o cs ty fr,a=some ⟨b,o,none⟩/\h b=some (.cells cs ty fr)/\(cs.toList.drop o).take (n*size)=xs)
theorem rdP.up {a:Option Addr} {size n:Nat} {xs:List Value} {h h':Hl} (l:Hle h h') (s:rdP a size n xs h):rdP a size n xs h':=
 ⟨s.1,λhn=>let⟨b,o,cs,ty,fr,h1,h2,h3⟩:=s.2 hn;⟨b,o,cs,ty,fr,h1,l _ _ h2,h3⟩⟩
def Rd (A:Atom) (a:Option Addr) (size n:Nat) (xs:List Value):Prop:=∀h,A.sat h->rdP a size n xs h
theorem Rd.addr {a:Option Addr} {size n:Nat} {xs:List Value} {h:Hl} (s:rdP a size n xs h) (hn:0<n):∃g o,a=some ⟨g,o,none⟩:=let⟨b,o,_,_,_,e,_⟩:=s.2 hn;⟨b,o,e⟩
def oad (a:Option Nat):Option Addr:=match a with | some g=>some ⟨g,0,none⟩ | none=>none
theorem B8 (e size:Nat) (a:Option Nat) (n cap:Nat) (xs:List Value):Rd (c8 e size a n cap xs) (oad a) size n xs:=by
 intro h s;obtain⟨h0,h1⟩:=s;refine⟨h0,λhn=>?_⟩;cases a with
 | none=>omega
 | some g=>
  obtain⟨cur,q1,q2,q3,q4,q5⟩:=h1;exact⟨g,0,cur,e,(0,0),rfl,q1,by simpa using q5⟩
theorem a2p (b t:Nat) (cs:List Value) (size n:Nat) (h:cs.length=n*size):Rd (.pt b t cs) (some ⟨b,0,none⟩) size n cs:=by
 intro h' s;exact⟨h,λ_=>⟨b,0,cs.toArray,t,(0,0),rfl,s,by simp[<- h]⟩⟩
theorem Rd.take {A:Atom} {a:Option Addr} {size n:Nat} {xs:List Value} (h:Rd A a size n xs) (k:Nat) (hk:k<=n):Rd A a size k (xs.take (k*size)):=by
 intro h' s;obtain⟨h0,h1⟩:=h h' s;have hle:k*size<=n*size:=Nat.mul_le_mul_right _ hk;refine⟨by rw[List.length_take,h0];omega,λhk0=>?_⟩;obtain⟨b,o,cs,ty,fr,e1,e2,e3⟩:=h1 (by omega);refine⟨b,o,cs,ty,fr,e1,e2,?_⟩;rw[<- e3,List.take_take,Nat.min_eq_left hle]
section
variable {P : Program} {T : Tab} {E : Env} {n : Nat} {a : Act} {w : World}
theorem a4K {b o size m:Nat} {xs:List Value} (hb:rdP (some ⟨b,o,none⟩) size m xs (hl w)) (hm:0<m) {j:Nat} {v:Value} (hv:xs[j]? =some v):w.cell? ⟨b,o+j,none⟩=some v:=by
 obtain⟨b',o',cs,ty,fr,e1,e2,e3⟩:=hb.2 hm;simp only[Option.some.injEq,Addr.mk.injEq,and_true]at e1;obtain⟨rfl,rfl⟩:=e1;rw[cell_of_row w b (o+j) cs ty fr e2];rw[<- e3,List.getElem?_take]at hv;split at hv
 ·rw[List.getElem?_drop]at hv;simpa using hv
 ·cases hv
theorem B4 (hT:TabOK P T) {oo:Oper} {t:TypeId} {x:Operand} {k tg b off o j size m:Nat} {g:G} {ti:TI} {xs l:List Value} (hop:oo.op= .load t x) (hx:ev E x=some ⟨k, .pointer (some ⟨b,off,none⟩),tg,g⟩) (he:EnvOK n E a) (hg:g.on=true) (hti:T.get t=some ti) (h1:ti.d.one=false)
  (hb:rdP (some ⟨b,o,none⟩) size m xs (hl w)) (hm:0<m) (hoff:off=o+j) (hv:(xs.drop j).take ti.size=l) (hl:l.length=ti.size):(execOp a.eval oo).run P w= .ok (.value (.agg l.toArray)) w:=by
 have ex:=i7 he hx;simp only[Slot.val,hg]at ex;obtain⟨d,f,z,ok⟩:=d8 (hT.get hti);have hmm:=ok.many h1;have hr:w.rangeAt b off l:=by
  intro i v hi;subst hoff;rw[<- hv,List.getElem?_take]at hi;split at hi
  ·rw[List.getElem?_drop]at hi;rw[Nat.add_assoc];exact a4K hb hm hi
  ·cases hi
 have hr2:=run_loadVar_mid (P:=P) w b off t l d hr ok.hd (by cases d<;>simp_all [A6,TypeDesc.isRow]) (by rw[ok.hf];simp[hl,ok.hsize]);simp only[execOp,hop,ex,Instr.loadAt,Instr.sureAddr,Sem.run_bind,Sem.run_pure,Result.andThen_ok,hr2]
theorem a4M (hT:TabOK P T) {oo:Oper} {t:TypeId} {x:Operand} {k tg b off o j size m:Nat} {g:G} {ti:TI} {xs:List Value} {v:Value} (hop:oo.op= .load t x) (hx:ev E x=some ⟨k, .pointer (some ⟨b,off,none⟩),tg,g⟩) (he:EnvOK n E a) (hg:g.on=true) (hti:T.get t=some ti) (h1:ti.d.one=true)
  (hb:rdP (some ⟨b,o,none⟩) size m xs (hl w)) (hm:0<m) (hoff:off=o+j) (hv:xs[j]? =some v):(execOp a.eval oo).run P w= .ok (.value v) w:=by
 have ex:=i7 he hx;simp only[Slot.val,hg]at ex;obtain⟨d,f,z,ok⟩:=d8 (hT.get hti);subst hoff;simp only[execOp,hop,ex,Instr.loadAt,Instr.sureAddr,Sem.run_bind,Sem.run_pure,Result.andThen_ok,J6 ok.hd (ok.one h1) (a4K hb hm hv)]
end
section
variable {X : Cx} {P : Program} {T : Tab} {K : List KI} {E : Env} {L : List Atom} {N : Nat} {F : HP} {Post : Value → List Atom → Prop} {rs : List ResultVar}
theorem J.appendR (hX:IsCx X P rs N F Post) (hT:TabOK P T) {ops:Array Oper} {C:Cl} {lt:Bool} {i:Nat} {t:PT} {o:Oper} {g:G} {x y:Operand} {st e size by_:Nat} {ks tgs:Nat} {gs:G} {a:Option Nat} {n cap:Nat} {xs:List Value} {ky tgy:Nat} {gy:G} {b oo m c:Nat} {cs:List Value} {s1 b1:Nat} {z1:List Value} {E':Value->Env} {Ay:Atom} (is iy tag:Nat)
  (ho:m6 ops.toList i=some o) (hg:gd ops.toList E o=some g) (hgo:g.on=true) (hop:o.op= .call ⟨.builtin .append,#[x,y],#[st,st]⟩)
  (hx:ev E x=some ⟨ks,slv a n cap,tgs,gs⟩) (hvx:gs.on=true) (hy:ev E y=some ⟨ky, .slice (some ⟨b,oo,none⟩) m c,tgy,gy⟩) (hvy:gy.on=true)
  (hLs:m6 L is=some (c8 e size a n cap xs)) (hLy:m6 L iy=some Ay) (hrd:Rd Ay (some ⟨b,oo,none⟩) size m cs) (hst:T.get st=some ⟨.slice e size,s1,z1,b1⟩) {td:TD} {z:List Value} (he:T.get e=some ⟨td,size,z,by_⟩) (hz:Nat.beq z.length size=true)
  (hsz:Nat.blt 0 size=true) (h1:∀u∈cs,u.oneCell'=true) (h63:n+m<=maxLen) (hbytes:(n+m)*by_<=140737488355328)
  (hd:∀v,y9 N o.dst v tag .tt E=some (E' v))
  (hJ:∀a' cap',∃L',n5 L is (c8 e size a' (n+m) cap' (xs++cs))=some L'/\Conj (p4 lt C L')/\J X (.reg ops C t::K) (E' (slv a' (n+m) cap')) L'):J X (.reg ops C (.alt lt i t .non)::K) E L:=by
 refine J.op hX (S:=λv L'=>∃a' cap',v=slv a' (n+m) cap'/\L'=L.set is (c8 e size a' (n+m) cap' (xs++cs))) tag ho hg hgo (λa0 w hen hs=>?_) hd (λv L' ⟨a',cap',e1,e2⟩=>by subst e1;subst e2;obtain⟨L2,q1,q2⟩:=hJ a' cap';rw[<- u5 q1];exact q2);obtain⟨d,f,zv,ok⟩:=d8 (hT.get hst);obtain⟨fe,rfl,g1,g2⟩:=ok.slice rfl;obtain⟨d',f',zv',ok'⟩:=d8 (hT.get he);have hf:fe=f':=by have:=g1.symm.trans ok'.hf;injection this
 subst hf;have hzz:z=zv'.cells.toList:=ok'.hzero;subst hzz;rw[l9]at hLs hLy;have hrow:=a2w (hs.get hLs);have hrd2:=hrd _ (hs.get hLy);have hnews:∀j u,cs[j]? =some u->w.cell? ((⟨b,oo,none⟩:Addr).add j)=some u:=λj u hu=>by
  rw[Addr.add_none];refine a4K hrd2 ?_ hu;rcases Nat.eq_zero_or_pos m with h0 | h0
  ·have:=hrd2.1;rw[h0,Nat.zero_mul]at this;rw[List.eq_nil_of_length_eq_zero this]at hu;simp at hu
  ·exact h0
 obtain⟨v',w',r1,r2,r3,_,r5⟩:=run_append_own_at (P:=P) w 0 st o.type e fe zv' size by_ ok.hd ok'.hf ok'.hz g2 ok'.hbytes.symm (by have:=Nat.eq_of_beq_eq_true hz;simpa using this) (Nat.le_of_ble_eq_true hsz) _ n xs hrow ⟨b,oo,none⟩ m c cs hrd2.1 hnews h1 h63 hbytes (Nat.zero_le _);obtain⟨a',cap',e1,e2,e3⟩:=a6a r2;subst e1;have ex:=i7 hen hx;have ey:=i7 hen hy;simp only[Slot.val,hvx,hvy]at ex ey;refine⟨_,_, .value (slv a' (n+m) cap'),w',⟨a',cap',rfl,rfl⟩,?_, .inl rfl,?_,Ext.grown r3⟩
 ·simp only[execOp,hop,resolve,Sem.run_bind,Sem.run_pure,Result.andThen_ok,invoke,builtin,List.map_toArray,List.map_cons,List.map_nil,ex,ey,r1]
 ·refine Sep.step hs hLs (x:=(slv a n cap).ownBlock) (x':=a') (λh g0 hh he0=>?_) r3 (by rw[<- e3];exact r5) (λh hh=>⟨e2.1,?_⟩)
  ·cases a with
   | none=>simp[slv,Value.ownBlock]at he0
   | some ga=>
    simp only[slv,Value.ownBlock,Option.some.injEq]at he0;subst he0;obtain⟨cur,h1,_⟩:=hh.2;exact⟨_,h1⟩
  ·have e22:=e2.2;cases a' with
   | none=>exact e22
   | some ga=>
    obtain⟨cur,q1,q2⟩:=e22;exact⟨cur,(hh ga rfl).trans q1,q2⟩
end
def c9 (l:List En):List Value:=l.flatMap enL
theorem b3W (e:En):(enL e).length=19:=rfl
theorem z7:∀(l:List En) (r:List Value) (k:Nat) (x:En),l[k]? =some x->((c9 l++r).drop (k*19)).take 19=enL x
 | [],_,_,_,h=>by simp at h
 | y::l,r,0,x,h=>by
  simp at h;subst h;rw[Nat.zero_mul,List.drop_zero];simp only[c9,List.flatMap_cons,List.append_assoc];exact List.take_left' rfl
 | y::l,r,k+1,x,h=>by
  have:=z7 l r k x (by simpa using h);rw[show(k+1)*19=19+k*19 from by omega,<- List.drop_drop];simp only[c9,List.flatMap_cons,List.append_assoc]at this ⊢;rw[List.drop_left' (b3W y)];exact this
theorem q9 (l:List Sh) (s:Sh):l7 (l++[s])=l7 l++shL s:=by simp[l7]
namespace W
def parS (b r m:Int) (l:List En):Sh:=
 let x:=over (l.map (sh b r m))
 ⟨x.1,(x.2.toNat/72057594037927936:Nat),(x.2.toNat/1099511627776 % 65536:Nat),(x.2.toNat % 1099511627776:Nat),2,b,r,m⟩
def parB (b r m:Int) (l:List En):Bool:=decide ((l.length:Int)=G.slots m)&& !l.isEmpty&&l.all (ok b r m)
def par (b r m:Int) (l:List En):Sh:=if parB b r m l then parS b r m l else Sh.zero
end W
theorem b4P (m x:Int):0<=W.ovM m x/\W.ovM m x<18446744073709551616:=by
 have:W.ovM m x=((BitVec.ofInt 64 m ^^^ BitVec.ofInt 64 x).toNat:Int) % 18446744073709551616:=by simp[W.ovM,IntKind.wrap,IntKind.bits,IntKind.signed]
 rw[this];omega
theorem a2y:∀(l:List Sh) (x:List UInt8×Int),0<=x.2/\x.2<18446744073709551616->∃k:Nat,(l.foldl W.over1 x).2=k/\k<18446744073709551616
 | [],x,h=>⟨x.2.toNat,by simp only[List.foldl_nil];omega,by omega⟩
 | s::l,x,_=>a2y l _ (b4P _ _)
theorem C6 (m:Int):0<=G.slots m/\G.slots m<=7:=by
 have:=L.count_le m;unfold G.slots;split<;>omega
theorem a5M (b r m:Int) (A:Atom) (a:Option Addr) (n cap:Nat) (l:List En) (hA:Rd A a 19 n (c9 l)) (hl:l.length=n) (hd:∀s∈l,s.data.length=16):FP 231 [iI b,iI r,iI m, .slice a n cap] [A]
  (λv As=>v= .tuple #[shV (W.par b r m l), .bool (W.parB b r m l)]/\As=[A]):=by
 refine FE [0,0,0,0] Tryz.func231 λX F hX=>?_;refine J.q λbb=>?_;refine J.cb (G9 m) [] ?_;refine cpq ⟨_,rfl,trivial,?_⟩;refine J.qd (λ_ h1=>?_) λ_ h1=>?_
 ·refine J.qr [1] λ_=>?_;have:W.parB b r m l=false:=by
   simp only[Bool.or_eq_true,bne_iff_ne,ne_eq,beq_iff_eq]at h1;unfold W.parB;rw[hl];rcases h1 with h1 | h1
   ·simp[h1]
   ·have:l=[]:=List.eq_nil_of_length_eq_zero (by omega);subst this;simp
  exact⟨by rw[W.par,this];rfl,rfl⟩
 simp only[Bool.or_eq_false_iff,bne_eq_false_iff_eq,beq_eq_false_iff_ne,ne_eq]at h1;have hn:n<=1000:=by have:=C6 m;omega
 refine J.turn1 [] rfl (As:=[c8 222 23 none 0 0 (l7 [])]) (λh s=>Sep.one ⟨rfl,rfl,rfl⟩) rfl ?_;refine J.q λ_=>?_;refine J.l (α:=(Nat×Option Nat×Nat)) (λz=>z.1<=n/\(l.take z.1).all (W.ok b r m)=true) (λz=>[si 31 z.1,si 30 n,sv 29 (.slice a n cap),sv 10 (slv z.2.1 z.1 z.2.2),⟨8,pp (bb 0),3, .tt⟩,si 0 b,si 1 r,si 2 m]) [3] (λz=>[c8 222 23 z.2.1 z.1 z.2.2 (l7 ((l.take z.1).map (W.sh b r m)))]) (λz=>n-z.1) ((0,none,0)) (⟨Nat.zero_le _,rfl⟩) λz hI=>?_;obtain⟨k,a',cap'⟩:=z;dsimp only at hI ⊢;refine J.qd (λ_ h2=>?_) λ_ h2=>?_
 ·simp only[decide_eq_true_eq,Int.ofNat_lt]at h2;obtain⟨e,he0⟩:∃e,l[k]? =some e:=⟨_,List.getElem?_eq_getElem (by omega)⟩;have hel:e.data.length=16:=hd e (List.mem_of_getElem? he0);refine J.know (p:=∃g o,a=some ⟨g,o,none⟩) (λh' s=>Rd.addr (hA _ (s.get (i:=1) rfl)) (by omega)) λhk=>?_;obtain⟨g,o,rfl⟩:=hk;refine J.q λ_=>?_;refine J.v (enV e) rfl rfl (λhg a w he hw=>?_) ?_
  ·exact B4 tk rfl rfl he rfl rfl rfl (hA _ (hw.get (i:=1) rfl)) (by omega) (j:=k*19) (by omega) (by have:=z7 l [] k e he0;rwa [List.append_nil]at this) rfl
  refine J.qp (a5N b r m e hel) [] λ_=>?_;have htk:l.take (k+1)=l.take k++[e]:=by rw[List.take_add_one,he0];rfl
  refine J.qd (λ_ h3=>?_) λ_ h3=>?_
  ·simp only[Bool.not_eq_true']at h3;refine J.qr [1] λ_=>?_;have:W.parB b r m l=false:=by
    unfold W.parB;have:l.all (W.ok b r m)=false:=by
     rw[List.all_eq_false];exact⟨e,List.mem_of_getElem? he0,by simp[h3]⟩
    rw[this];simp
   exact⟨by rw[W.par,this];rfl,rfl⟩
  ·simp only[Bool.not_eq_false']at h3;rw[show W.own b r m e=W.sh b r m e from if_pos h3];refine J.q λ_=>?_;refine J.append hX tk 3 6 0 rfl rfl rfl rfl rfl rfl rfl rfl rfl rfl rfl rfl rfl rfl rfl rfl ?_ ?_ (λ_=>rfl) λa2 cap2=>⟨_,(congrArg (λz=>n5 _ 3 (c8 _ _ _ _ _ z)) (q9 _ (W.sh b r m e)).symm).trans rfl,trivial,?_⟩
   ·simp only[maxLen];omega
   ·omega
   rw[show(l.take k).map (W.sh b r m)++[W.sh b r m e]=(l.take (k+1)).map (W.sh b r m)from by rw[htk,List.map_append];rfl];refine J.q λ_=>?_;refine J.n ((k+1,a2,cap2)) (⟨by dsimp only;omega,by dsimp only;rw[htk,List.all_append,hI.2];simp[h3]⟩) (by dsimp only;omega) [0,1,2,3]
 ·simp only[decide_eq_false_iff_not,Int.ofNat_lt]at h2;obtain rfl:k=n:=by omega
  rw[show l.take k=l from List.take_of_length_le (by omega)]at*;refine J.qp (I9 a' k cap' (l.map (W.sh b r m)) (by rw[List.length_map,hl]) hn (λs hs=>by obtain⟨e,he,rfl⟩:=List.mem_map.1 hs;exact hd e he)) [3] λ_=>?_;obtain⟨mm,hm1,hm2⟩:=a2y (l.map (W.sh b r m)) (zeros16,0) ⟨by decide,by decide⟩;have hm1:(W.over (l.map (W.sh b r m))).2=(mm:Int):=hm1;rw[hm1];refine J.qp (b5d mm hm2) [] λ_=>?_;refine J.qr [1] λ_=>?_;have hB:W.parB b r m l=true:=by
   unfold W.parB;rw[hl,hI.2];have:l.isEmpty=false:=by
    cases l with
    | nil=>simp at hl;omega
    | cons x l=>rfl
   rw[this];simp[h1.1]
  refine⟨?_,rfl⟩;have hx:mm=(W.over (l.map (W.sh b r m))).2.toNat:=by rw[hm1];rfl
  rw[W.par,hB,if_pos rfl,W.parS,<- hx];rfl
end Go.Proofs.YtgkpkpbnonmopaaGreat
