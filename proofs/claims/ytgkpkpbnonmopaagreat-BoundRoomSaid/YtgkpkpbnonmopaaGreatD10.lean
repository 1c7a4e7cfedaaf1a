/- Helpers. No condition. -/
import Derived.Test.YtgkpkpbnonmopaaGreatD01
import Derived.Test.YtgkpkpbnonmopaaGreatD02
import Derived.Test.YtgkpkpbnonmopaaGreatD04
import Derived.Test.YtgkpkpbnonmopaaGreatD06
import Derived.Test.YtgkpkpbnonmopaaGreatD07
import Derived.Test.YtgkpkpbnonmopaaGreatD09
set_option maxRecDepth 20000
set_option linter.all false
namespace Go.Proofs.YtgkpkpbnonmopaaGreat
open Go.RowKit

set_option maxRecDepth 100000 in
set_option maxHeartbeats 400000 in
theorem a6S (v:Value) (xs:List Value) (n:Nat) (B:Nat) (w:World) (h:w.ownsRow B 5 1 v n xs) (hn:0<n) (hm:n<=65536) (h1:∀u∈xs,u.oneCell'=true):
  Calls Tryz.prog 280 #[v] w λe w'=>∃g cap,e= .returned (.slice (some ⟨g,0,none⟩) n cap)/\w'.ownsRow w.heap.size 5 1 (.slice (some ⟨g,0,none⟩) n cap) n xs/\Below w.heap.size w w':=by
 obtain⟨g,cap,rfl,hBg,hlt⟩:=h.form hn;obtain⟨i0,hi0,hz0,hz1,hz2⟩:=info_parts Tryz.info5
 go_enter Tryz.func280,Tryz.ntmps280
 have hnil:=λW:World=>Lib.run_eql_slice_nil (P:=Tryz.prog) W 306 5 (some ⟨g,0,none⟩) n cap 0 0 Tryz.underlying306
 go_wp2_with (at_builtin;refine wpList_append_lies _ rfl _ _ 306 rfl w.heap.size 5 i0 (.int .u8 0) 1 1 Tryz.underlying306 hi0 hz0 hz1 hz2 rfl (by decide) _ 0 [] (by rfl) (World.ownsRow_lit w #[] 0 (Nat.le_refl _) (by decide) rfl) ⟨g,0,none⟩ n cap xs rfl h.1 ((h.alloc _).cells rfl) h1 hn (by unfold maxLen;omega) (by omega) (by simp) _ rfl ?_;intro g2 cap2 w1 hown1 hgrow hat hlt1)
 have hb:Below w.heap.size w w1:=((Below.refl _ _).alloc (Nat.le_refl _) _).grown hgrow (by simp) (λk hk=>by simp[Value.ownBlock]at hk;omega);simp only[Nat.zero_add,List.nil_append]at hown1 ⊢
 go_wp2
 go_ret
 exact⟨g2,cap2,rfl,hown1,hb⟩

set_option maxRecDepth 100000 in
set_option maxHeartbeats 400000 in
theorem a3P (l:List Bool) (hl:0<l.length) (hl2:l.length<=65536) (w:World) (B g:Nat) (h:OutAt w B g l):
  Calls Tryz.prog 263 #[.pointer (some ⟨g,0,none⟩)] w λe w'=>∃g2 cap,e= .returned (.slice (some ⟨g2,0,none⟩) (Bt.pack l).length cap)/\w'.ownsRow w.heap.size 5 1 (.slice (some ⟨g2,0,none⟩) (Bt.pack l).length cap) (Bt.pack l).length ((Bt.pack l).map bv)/\Below w.heap.size w w':=by
 obtain⟨hBg,v,hb,hown⟩:=h;have c0:=hb.cell 0;simp at c0;have hp:0<(Bt.pack l).length:=by rw[Bt.length_pack];omega
 have hp2:(Bt.pack l).length<=65536:=by rw[Bt.length_pack];omega
 go_enter Tryz.func263,Tryz.ntmps263
 go_wp2_with (go_at_call 280;refine(a6S _ _ _ _ _ hown hp hp2 (by simp[bv,Value.oneCell'])).mono ?_;rintro e w1 ⟨g2,cap,rfl,hown1,hb1⟩)
 go_ret
 exact⟨g2,cap,rfl,hown1,hb1⟩

def InAt (w:World) (g a o:Nat) (b:List UInt8) (k:Nat):Prop:=∃cap,Blk w g 333 #[.slice (some ⟨a,o,none⟩) b.length cap, .int .i64 k]/\b.length<=cap/\a≠g/\a<w.heap.size/\∀j x,b[j]? =some x->w.cell? ⟨a,o+j,none⟩=some (bv x)

set_option maxRecDepth 100000 in
set_option maxHeartbeats 400000 in
theorem a9V (A:Option Addr) (n cap:Nat) (w:World):
  Calls Tryz.prog 254 #[.slice A n cap] w λe w'=>e= .returned (.pointer (some ⟨w.heap.size,0,none⟩))/\w'=w.alloc (.cells #[.slice A n cap, .int .i64 0] 333):=by
 go_enter Tryz.func254,Tryz.ntmps254
 go_wp2
 go_ret
 exact⟨rfl,rfl⟩

set_option maxRecDepth 100000 in
set_option maxHeartbeats 400000 in
theorem b3F (a o:Nat) (b:List UInt8) (k:Nat) (hk:k<=8*b.length) (hb:b.length<=65536) (w:World) (g:Nat) (h:InAt w g a o b k):
  Calls Tryz.prog 278 #[.pointer (some ⟨g,0,none⟩)] w λe w'=>e= .returned (.int .i64 ((8*b.length-k:Nat):Int))/\∃m,w'=w.drewN m:=by
 obtain⟨cap,hb,_,_,_,_⟩:=h;have c0:=hb.cell 0;have c1:=hb.cell 1;simp at c0 c1;have e1:IntKind.i64.wrap (8*(b.length:Int))=((8*b.length:Nat):Int):=by rw[IntWalk.i64_in _ (by omega)];omega
 have e2:IntKind.i64.wrap (((8*b.length:Nat):Int)-(k:Int))=((8*b.length-k:Nat):Int):=by rw[IntWalk.i64_in _ (by omega)];omega
 generalize 8*b.length=m at*;generalize m-k=d at*
 go_enter Tryz.func278,Tryz.ntmps278
 go_wp2
 go_quiet (fail)
 go_wp2
 go_ret
 exact⟨rfl,_,rfl⟩

theorem InAt.step {wr:World} {g a o j:Nat} {b:List UInt8} (h:InAt wr g a o b j) (m:Nat):InAt ((wr.setCell ⟨g,1,none⟩ (.int .i64 (j+1:Int))).drewN m) g a o b (j+1):=by
 obtain⟨cap,hb,h1,h2,h3,h4⟩:=h;refine⟨cap,?_,h1,h2,by simpa[World.setCell]using h3,λi x hx=>?_⟩
 ·exact hb.set_ 1 (.int .i64 (j+1:Int))
 ·have:((wr.setCell ⟨g,1,none⟩ (.int .i64 (j+1:Int))).drewN m).cell? ⟨a,o+i,none⟩=(wr.setCell ⟨g,1,none⟩ (.int .i64 (j+1:Int))).cell? ⟨a,o+i,none⟩:=by simp
  rw[this,World.cell?_setCell_other _ _ _ _ (λe=>h2 (by injection e with e _ _;exact e.symm))];exact h4 i x hx
theorem a7F {w wr:World} {g:Nat} (h:w.grownBy wr (some g)) (o:Nat) (u:Value) (m:Nat):w.grownBy ((wr.setCell ⟨g,o,none⟩ u).drewN m) (some g):=
 ⟨h.os,h.tape,h.output,by simpa[World.setCell]using h.size,λk hk hne=>(Below.heap_setCell wr ⟨g,o,none⟩ u k (λe=>hne (by rw[e]))).trans (h.block k hk hne)⟩
theorem InAt.grown {w w':World} {g a o j:Nat} {b:List UInt8} {r:Option Nat} (h:InAt w g a o b j) (hg:w.grownBy w' r) (h1:some g≠r) (h2:some a≠r):InAt w' g a o b j:=by
 obtain⟨cap,hb,e1,e2,e3,e4⟩:=h;exact⟨cap,hb.grown hg h1,e1,e2,Nat.lt_of_lt_of_le e3 hg.size,λi x hx=>(World.cell?_of_block (hg.block a e3 h2)).trans (e4 i x hx)⟩
theorem b3M (x:Nat) (hx:x<256) (s:Nat):bits BinOp.and IntKind.u8 ((x:Int)/2^s) 1=((x.testBit s).toNat:Int):=by
 have e:(x:Int)/2^s=((x/2^s:Nat):Int):=by simp
 have hb:x/2^s<=x:=Nat.div_le_self _ _;rw[e,show(1:Int)=((1:Nat):Int)from rfl,u8_and_nat _ _ (by omega) (by omega),nat_mask1,Nat.testBit_eq_decide_div_mod_eq];rcases Nat.mod_two_eq_zero_or_one (x/2^s)with h | h<;>simp[h]
theorem b4Q (u:Nat) (hu:2*u<18446744073709551616) (y:Bool):bits BinOp.or IntKind.u64 ((2*u:Nat):Int) (y.toNat:Int)=((2*u+y.toNat:Nat):Int):=by
 have hy:=Bool.toNat_le y;rw[u64_or_nat _ _ hu (by omega),nat_join 1 (2*u) y.toNat (by omega) (by omega)]

set_option maxRecDepth 100000 in
set_option maxHeartbeats 400000 in
theorem a2P (a o:Nat) (b:List UInt8) (k n:Nat) (hn1:1<=n) (hn:n<=64) (hk:k+n<=8*b.length) (hb:b.length<=65536) (w:World) (g:Nat) (h:InAt w g a o b k):
  Calls Tryz.prog 255 #[.pointer (some ⟨g,0,none⟩), .int .i64 n] w λe w'=>e= .returned (.tuple #[.int .u64 (Bt.numAt b k n), .bool true])/\InAt w' g a o b (k+n)/\w.grownBy w' (some g)/\w'.heap.size=w.heap.size:=by
 have hm:(decide (1<=(n:Int))&&decide ((n:Int)<=64))=true:=by simp;omega
 have hd:¬(((8*b.length-k:Nat):Int)<(n:Int)):=by omega
 generalize hD:8*b.length-k=D at hd;have HD:=Lib.hid hD;clear hD;obtain⟨cap,hblk,_,_,_,_⟩:=id h;have c1:=hblk.cell 1;simp at c1
 go_enter Tryz.func255,Tryz.ntmps255
 go_wp2_with (first | (go_at_call 277;refine(a7b _ _).mono ?_;rintro e w' ⟨rfl,rfl⟩) | (go_at_call 278;refine(b3F a o b k (by omega) hb _ g h).mono ?_;rintro e w' ⟨rfl,m,rfl⟩;rw[HD.out]))
 clear hm hd c1 hblk
 go_loopw [6] (λu wr=>∃i:Nat,i<=n/\u= .int .u64 (Bt.numAt b k i)/\InAt wr g a o b (k+i)/\w.grownBy wr (some g)/\wr.heap.size=w.heap.size) (λ_ wr=>((k:Int)+n-a5y wr ⟨g,1,none⟩).toNat)
 case atStart=>exact⟨0,by omega,rfl,h,⟨rfl,rfl,rfl,Nat.le_refl _,λ_ _ _=>rfl⟩,rfl⟩
 case round=>
  obtain⟨i,hi,rfl,hin,hgr,hsz⟩:=hrel;obtain⟨j,hj⟩:∃j,k+i=j:=⟨_,rfl⟩;rw[hj]at hin;obtain⟨cap2,hblk,hcap,hne,hlt,hcell⟩:=id hin;have c0:=hblk.cell 0;have c1:=hblk.cell 1;simp at c0 c1;have f1:=hblk.frozen 1;have hme:=a3f c1
  by_cases hlt2:i<n
  ·obtain⟨q,r,s,hq,hr,hs,hr7,q1,q2,q3,q4⟩:=b4p j;obtain⟨x,hx⟩:∃x,b[q]? =some x:=⟨b[q]'(by omega),List.getElem?_eq_getElem _⟩;have cj:=hcell q x hx;unfold bv at cj;have hx8:=x.toNat_lt;have hgb:=b3M x.toNat hx8 s;have hU:=Bt.numAt_lt b k i;have hU2:2*Bt.numAt b k i<18446744073709551616:=by
    have:2^i<=2^63:=Nat.pow_le_pow_right (by omega) (by omega);omega
   have hob:=b4Q (Bt.numAt b k i) hU2 (x.toNat.testBit s);have hbit:x.toNat.testBit s=Bt.bitAt b (k+i):=by
    unfold Bt.bitAt;rw[hj,hq,hr,hs,List.getD_eq_getElem?_getD,hx];rfl
   have hnx:2*Bt.numAt b k i+(x.toNat.testBit s).toNat=Bt.numAt b k (i+1):=by rw[hbit];rfl
   have hsl:IntKind.u64.wrap ((Bt.numAt b k i:Int)*2)=((2*Bt.numAt b k i:Nat):Int):=by rw[IntWalk.u64_in _ (by omega)];omega
   have i1:(0:Int)<=q:=by omega
   have i2:(q:Int)<(b.length:Int):=by omega
   have i3:q<b.length:=by omega
   have i5:IntKind.i64.wrap (q:Int)=q:=IntWalk.i64_in _ (by omega);have hlt3:(j:Int)<(k:Int)+(n:Int):=by omega
   have hs8:min s 8=s:=by omega
   have Hnx:=Lib.hid hnx;have Hj:=Lib.hid hj;have Hme:=Lib.hid hme;clear hnx hbit hq hr hs hx q4 hU hcell hj hme;generalize Bt.numAt b k i=U at*
   go_wp2
   go_quiet (fail)
   go_wp2
   go_roundw
   case rel=>
    refine⟨i+1,by omega,?_,by rw[show k+(i+1)=j+1 from by rw[<- Hj.out];omega];exact hin.step _,a7F hgr _ _ _,by simpa[World.setCell]using hsz⟩;rw[<- Hnx.out,<- hob];congr 2;rw[IntWalk.u64_in _ (by have:=Bool.toNat_le (x.toNat.testBit s);omega)]
   case measure=>
    rw[Hme.out];rw[a3f (k:= .i64) (x:=(j:Int)+1)]
    ·omega
    ·exact World.cell?_setCell_same (wr.drewN nq) ⟨g,1,none⟩ (.int .i64 ((j:Int)+1)) (by simpa using c1)
  ·have hin2:k+n=j:=by omega
   have h2:i=n:=by omega
   subst h2;have hlt3:¬(j:Int)<(k:Int)+(i:Int):=by omega
   have H2:=Lib.hid hin2;clear hin2 hj hme
   go_wp2
   go_ret2
   exact⟨rfl,by rw[H2.out];exact hin,hgr,hsz⟩

theorem b4D (s:Nat) (h:s<2147483648):bits .and .u32 (s:Int) 2147483648=0:=by
 rw[show(2147483648:Int)=((2147483648:Nat):Int)from rfl,u32_and_nat _ _ (by omega) (by omega),show(2147483648:Nat)=2^31 from rfl,nat_bit];have:s/2^31=0:=by omega
 rw[this];rfl
theorem b2S (s:Nat) (h:2147483648<=s) (h2:s<4294967296):bits .and .u32 (s:Int) 2147483648=2147483648:=by
 rw[show(2147483648:Int)=((2147483648:Nat):Int)from rfl,u32_and_nat _ _ (by omega) (by omega),show(2147483648:Nat)=2^31 from rfl,nat_bit];have:s/2^31=1:=by omega
 rw[this]

set_option maxRecDepth 100000 in
set_option maxHeartbeats 400000 in
theorem a4d (s x:Nat) (hs:s<4294967296) (hx:x<256) (w:World):
  Calls Tryz.prog 281 #[.int .u32 s, .int .u8 x] w λe w'=>e= .returned (.int .u32 (K.step s x))/\w=w':=by
 have e1:IntKind.u32.wrap ((x:Int)*16777216)=((x*16777216:Nat):Int):=by rw[IntWalk.u32_in _ (by omega)];omega
 have e2:bits .xor .u32 (s:Int) ((x*16777216:Nat):Int)=((s ^^^ x*16777216:Nat):Int):=u32_xor_nat _ _ hs (by omega);have hlt0:s ^^^ x*16777216<4294967296:=Nat.xor_lt_two_pow (n:=32) (by omega) (by omega);have hst:=Lib.hid (show K.step s x=K.rounds 8 (s ^^^ x*16777216)from rfl);generalize s ^^^ x*16777216=s0 at*;generalize hX:x*16777216=X at*;have HX:=Lib.hid hX;clear hX
 go_enter Tryz.func281,Tryz.ntmps281
 go_wp2
 go_loop [0,11] (λv c=>∃k:Nat,k<=8/\c= .int .i64 k/\v= .int .u32 (K.rounds k s0)) (λ_ c=>8-(intOf c).toNat)
 case atStart=>exact⟨0,by omega,rfl,rfl⟩
 case round=>
  obtain⟨k,hk,rfl,rfl⟩:=hrel;clear e1 e2
  by_cases hlt:k<8
  ·have hr:=K.rounds_lt k s0 hlt0;have hn:K.round (K.rounds k s0)=K.rounds (k+1) s0:=rfl;generalize K.rounds k s0=t at*
   by_cases ht:t<2147483648
   ·have e3:=b4D t ht;have e4:K.round t=t*2:=by simp[K.round,ht]
    have Hn:=Lib.hid (e4.symm.trans hn);clear e4 hn
    go_wp2
    go_round
    case rel=>exact⟨k+1,by omega,by go_num,by rw[<- Hn.out];go_num⟩
    case measure=>simp[intOf];omega
   ·have e3:=b2S t (by omega) hr;have e4:K.round t=(t*2 % 4294967296) ^^^ 1947962583:=by simp[K.round,ht]
    have e5:bits .xor .u32 ((t*2 % 4294967296:Nat):Int) 1947962583=(((t*2 % 4294967296) ^^^ 1947962583:Nat):Int):=u32_xor_nat _ 1947962583 (by omega) (by omega);have e6:IntKind.u32.wrap ((t:Int)*2)=((t*2 % 4294967296:Nat):Int):=by rw[IntKind.wrap_u32'];omega
    have Hn:=Lib.hid (e4.symm.trans hn);clear e4 hn;generalize t*2 % 4294967296=t2 at*;generalize t2 ^^^ 1947962583=t3 at*
    go_wp2
    go_round
    case rel=>exact⟨k+1,by omega,by go_num,by rw[<- Hn.out]⟩
    case measure=>simp[intOf];omega
  ·have:k=8:=by omega
   subst this
   go_wp2
   go_ret
   exact⟨by rw[hst.out];rfl,rfl⟩

set_option maxRecDepth 100000 in
set_option maxHeartbeats 400000 in
theorem b3E (b:List UInt8) (hb:b.length<=65536) (a o cap:Nat) (w:World) (hcell:∀j x,b[j]? =some x->w.cell? ⟨a,o+j,none⟩=some (bv x)):
  Calls Tryz.prog 264 #[.slice (some ⟨a,o,none⟩) b.length cap] w λe w'=>e= .returned (.int .u32 (K.sum b))/\w=w':=by
 go_enter Tryz.func264,Tryz.ntmps264
 go_wp2
 go_loop [3,8] (λs c=>∃k:Nat,k<=b.length/\c= .int .i64 k/\s= .int .u32 (K.sum (b.take k))) (λ_ c=>b.length-(intOf c).toNat)
 case atStart=>exact⟨0,by omega,rfl,rfl⟩
 case round=>
  obtain⟨k,hk,rfl,rfl⟩:=hrel
  by_cases hlt:k<b.length
  ·obtain⟨x,hx⟩:∃x,b[k]? =some x:=⟨b[k],List.getElem?_eq_getElem _⟩;have hs:K.sum (b.take k)<4294967296:=K.sum_lt _;have hst:K.step (K.sum (b.take k)) x.toNat=K.sum (b.take (k+1)):=(K.sum_snoc b k x hx).symm;have cj:=hcell k x hx;unfold bv at cj;have hx8:x.toNat<256:=x.toNat_lt;generalize K.sum (b.take k)=t at*;have Hst:=Lib.hid hst;clear hst hx hcell
   go_wp2_with (go_at_call 281;refine(a4d _ _ hs hx8 _).mono ?_;rintro e w' ⟨rfl,rfl⟩)
   go_round
   case rel=>exact⟨k+1,by omega,by go_num,by rw[<- Hst.out]⟩
   case measure=>simp[intOf];omega
  ·have:k=b.length:=by omega
   subst this;have hfin:=Lib.hid (show K.sum (b.take b.length)=K.sum b by rw[List.take_length]);clear hcell
   go_wp2
   go_ret
   exact⟨by rw[<- hfin.out];rfl,rfl⟩

theorem b1D (b:List UInt8) (n:Nat) (hn:b.length=n) (hb:b.length<=65536) (a o cap:Nat) (w:World) (hcell:∀j x,b[j]? =some x->w.cell? ⟨a,o+j,none⟩=some (bv x)):
  Calls Tryz.prog 264 #[.slice (some ⟨a,o,none⟩) n cap] w λe w'=>e= .returned (.int .u32 (K.sum b))/\w=w':=by
 subst hn;exact b3E b hb a o cap w hcell

theorem b3A (role lpn seq:Int):
  bits BinOp.or IntKind.u64 (bits BinOp.or IntKind.u64 (IntKind.u64.wrap (IntKind.u64.wrap role*72057594037927936)) (IntKind.u64.wrap (bits BinOp.and IntKind.u64 (IntKind.u64.wrap lpn) 65535*1099511627776))) (bits BinOp.and IntKind.u64 (IntKind.u64.wrap seq) 1099511627775)=(S.meta_ role lpn seq:Int):=by
 have w64:∀n:Int,IntKind.u64.wrap n=((n % 18446744073709551616).toNat:Int):=λn=>by
  have:IntKind.u64.wrap n=n % 18446744073709551616:=by simp[IntKind.wrap,IntKind.bits,IntKind.signed]
  rw[this];omega
 have hl:bits BinOp.and IntKind.u64 (IntKind.u64.wrap lpn) 65535=((lpn % 65536).toNat:Int):=by
  rw[w64,show(65535:Int)=((65535:Nat):Int)from rfl,u64_and_nat _ _ (by omega) (by omega),nat_mask16];omega
 have hs:bits BinOp.and IntKind.u64 (IntKind.u64.wrap seq) 1099511627775=((seq % 1099511627776).toNat:Int):=by
  rw[w64,show(1099511627775:Int)=((2^40-1:Nat):Int)from rfl,u64_and_nat _ _ (by omega) (by omega),Nat.and_two_pow_sub_one_eq_mod];omega
 have hr:IntKind.u64.wrap (IntKind.u64.wrap role*72057594037927936)=(((role % 256).toNat*72057594037927936:Nat):Int):=by rw[w64 role,w64];omega
 have hl2:IntKind.u64.wrap (((lpn % 65536).toNat:Int)*1099511627776)=(((lpn % 65536).toNat*1099511627776:Nat):Int):=by rw[w64];omega
 rw[hl,hs,hr,hl2,u64_or_nat _ _ (by omega) (by omega),nat_join 56 _ _ (by omega) (by omega),u64_or_nat _ _ (by omega) (by omega),nat_join 40 _ _ (by omega) (by omega)];unfold S.meta_;omega

set_option maxRecDepth 100000 in
set_option maxHeartbeats 400000 in
theorem a2i (role lpn seq:Int) (w:World):
  Calls Tryz.prog 262 #[.int .i64 role, .int .i64 lpn, .int .i64 seq] w λe w'=>e= .returned (.int .u64 (S.meta_ role lpn seq))/\w=w':=by
 have he:=Lib.hid (b3A role lpn seq)
 go_enter Tryz.func262,Tryz.ntmps262
 go_wp2
 go_ret
 exact⟨H7 he.out,rfl⟩

set_option maxRecDepth 100000 in
set_option maxHeartbeats 400000 in
theorem a5V (m:Nat) (hm:m<18446744073709551616) (w:World):
  Calls Tryz.prog 247 #[.int .u64 m] w λe w'=>e= .returned (.tuple #[.int .i64 (m/72057594037927936:Nat), .int .i64 (m/1099511627776 % 65536:Nat), .int .i64 (m % 1099511627776:Nat)])/\w=w':=by
 have e1:bits BinOp.and IntKind.u64 ((m:Int)/1099511627776) 65535=((m/1099511627776 % 65536:Nat):Int):=by
  rw[show(m:Int)/1099511627776=((m/1099511627776:Nat):Int)from rfl,show(65535:Int)=((65535:Nat):Int)from rfl,u64_and_nat _ _ (by omega) (by omega),nat_mask16]
 have e2:bits BinOp.and IntKind.u64 (m:Int) 1099511627775=((m % 1099511627776:Nat):Int):=by
  rw[show(1099511627775:Int)=((2^40-1:Nat):Int)from rfl,u64_and_nat _ _ (by omega) (by omega),Nat.and_two_pow_sub_one_eq_mod]
 have e3:wrap64 ((m/1099511627776 % 65536:Nat):Int)=((m/1099511627776 % 65536:Nat):Int):=IntWalk.wrap64_in _ (by omega);have e4:wrap64 ((m % 1099511627776:Nat):Int)=((m % 1099511627776:Nat):Int):=IntWalk.wrap64_in _ (by omega);have E1:=Lib.hid e1;have E2:=Lib.hid e2;have E3:=Lib.hid e3;have E4:=Lib.hid e4;clear e1 e2 e3 e4
 go_enter Tryz.func247,Tryz.ntmps247
 go_wp2
 go_ret3
 refine⟨?_,rfl⟩;show Ending.returned (Value.tuple #[.int .i64 ((m:Int)/72057594037927936), .int .i64 (wrap64 (bits BinOp.and IntKind.u64 ((m:Int)/1099511627776) 65535)), .int .i64 (wrap64 (bits BinOp.and IntKind.u64 (m:Int) 1099511627775))])=_;rw[E1.out,E2.out,E3.out,E4.out];rfl

set_option maxRecDepth 100000 in
set_option maxHeartbeats 400000 in
theorem O0 (n a:Int) (w:World):
  Calls Tryz.prog 272 #[.int .i64 n, .int .i64 a] w λe w'=>e= .returned (.bool (S.inB n a))/\w=w':=by
 by_cases h0:0<=n
 ·have hs:=Lib.hid (show S.inB n a=decide (n<=a)by simp[S.inB,h0])
  go_enter Tryz.func272,Tryz.ntmps272
  go_wp2
  go_ret
  exact⟨D5 hs.out.symm,rfl⟩
 ·have hs:=Lib.hid (show S.inB n a=false by simp only[S.inB,Bool.and_eq_false_iff,decide_eq_false_iff_not];exact .inl h0)
  go_enter Tryz.func272,Tryz.ntmps272
  go_wp2
  go_ret
  exact⟨D5 hs.out.symm,rfl⟩

def Sh.cells (s:Sh):List Value:=s.data.map bv++[.int .i64 s.role, .int .i64 s.lpn, .int .i64 s.seq, .int .i64 s.kind, .int .i64 s.block, .int .i64 s.row, .int .i64 s.mask]
def Sh.v (s:Sh):Value:= .agg s.cells.toArray
structure ShC (s:Sh) (C:Array Value):Prop where
 eq:C=s.cells.toArray
 data:s.data.length=16
 c16:C[16]? =some (.int .i64 s.role)
 c17:C[17]? =some (.int .i64 s.lpn)
 c18:C[18]? =some (.int .i64 s.seq)
 c19:C[19]? =some (.int .i64 s.kind)
 c20:C[20]? =some (.int .i64 s.block)
 c21:C[21]? =some (.int .i64 s.row)
 c22:C[22]? =some (.int .i64 s.mask)
theorem ShC.of (s:Sh) (h:s.data.length=16):ShC s s.cells.toArray:=by
 have g:∀i,s.cells.toArray[16+i]? =[Value.int .i64 s.role, .int .i64 s.lpn, .int .i64 s.seq, .int .i64 s.kind, .int .i64 s.block, .int .i64 s.row, .int .i64 s.mask][i]?:=λi=>by
  rw[List.getElem?_toArray,Sh.cells,List.getElem?_append_right (by simp[h])];simp[h]
 exact⟨rfl,h,g 0,g 1,g 2,g 3,g 4,g 5,g 6⟩

theorem b1t:v8 Tryz.prog 100 29=some (List.replicate 16 (.int .u8)):=by kernel_rfl
theorem R1 (l:List UInt8):Fits (List.replicate l.length (.int .u8)) (l.map bv):=by
 induction l with
 | nil=>trivial
 | cons x l ih=>exact⟨rfl,ih⟩
theorem B2:∀(l m:List UInt8),j8 (l.map bv) (m.map bv)=decide (l=m)
 | [],[]=>rfl
 | x::l,y::m=>by
  simp only[List.map_cons,j8,bv,a0e,B2 l m]
  by_cases h:x=y
  ·subst h;simp
  ·have:¬x.toNat=y.toNat:=λe=>h (UInt8.toNat_inj.1 e);have h2:((x.toNat:Int)==(y.toNat:Int))=false:=by simp;omega
   simp[h2,h]
 | [],_::_=>by simp[j8]
 | _::_,[]=>by simp[j8]
theorem b6q:AggT Tryz.prog 29 16:=⟨⟨_,Tryz.underlying29,rfl⟩,by kernel_rfl⟩
theorem a7c:AggT Tryz.prog 222 23:=⟨⟨_,Tryz.underlying222,rfl⟩,by kernel_rfl⟩
theorem a9P (x:List UInt8) (hx:x.length=16) (w:World):
  (Op.equalIn 10000 29 (.agg (x.map bv).toArray) (.agg #[.int .u8 0, .int .u8 0, .int .u8 0, .int .u8 0, .int .u8 0, .int .u8 0, .int .u8 0, .int .u8 0, .int .u8 0, .int .u8 0, .int .u8 0, .int .u8 0, .int .u8 0, .int .u8 0, .int .u8 0, .int .u8 0])).run Tryz.prog w= .ok (decide (x=zeros16)) w:=by
 have h1:=R1 x;rw[hx]at h1;have hm:∀xs,mkV Tryz.prog 29 xs= .agg xs.toArray:=λxs=>by simp[mkV,Tryz.underlying29]
 have hz:(zeros16.map bv).toArray= #[.int .u8 0, .int .u8 0, .int .u8 0, .int .u8 0, .int .u8 0, .int .u8 0, .int .u8 0, .int .u8 0, .int .u8 0, .int .u8 0, .int .u8 0, .int .u8 0, .int .u8 0, .int .u8 0, .int .u8 0, .int .u8 0]:=rfl;have:=y5 100 29 _ b1t 10000 (by omega) (x.map bv) (zeros16.map bv) h1 (R1 zeros16) w;rw[B2,hm,hm,hz]at this;exact this

set_option maxRecDepth 100000 in
set_option maxHeartbeats 400000 in
theorem a5U (s:Sh) (h:s.data.length=16) (w:World):
  Calls Tryz.prog 273 #[s.v] w λe w'=>e= .returned (.bool (S.entry s))/\Below w.heap.size w w':=by
 have hd:s.cells.take 16=s.data.map bv:=by simp[Sh.cells,h]
 obtain⟨dl,hdl⟩:∃dl,s.data.map bv=dl:=⟨_,rfl⟩;have hz:=λW=>a9P s.data h W;have hdl16:dl.length=16:=by rw[<- hdl];simp[h]
 obtain⟨h0,_,c16,c17,c18,_,_,_,_⟩:=ShC.of s h;have hra:=a1m w s.cells.toArray 222 0 dl (by rw[hdl16];simpa[hdl]using hd);rw[hdl]at hz;unfold Sh.v;generalize s.cells.toArray=C at*;generalize hes:S.entry s=b;have He:=Lib.hid hes;clear h0 hd hdl hes;have hw0:AggT Tryz.prog 29 dl.length:=by rw[hdl16];exact b6q
 by_cases r1:s.role=1
 ·have hr:(s.role==1)=true:=by simp[r1]
  have hfin:=Lib.hid (show true=b by rw[<- He.out];simp[S.entry, *]);clear r1
  go_enter Tryz.func273,Tryz.ntmps273
  go_wp2_with ((with_reducible refine x5 29 dl w.heap.size 0 hw0 hra ?_ ?_);· rfl)
  go_ret
  exact⟨D5 hfin.out,(Below.refl _ _).alloc (Nat.le_refl _) _⟩
 ·have hr1:(s.role==1)=false:=by simp[r1]
  by_cases r2:s.role=2
  ·have hr2:(s.role==2)=true:=by simp[r2]
   have hfin:=Lib.hid (show decide (s.data=zeros16)=b by rw[<- He.out];simp[S.entry, *]);clear r1 r2
   go_enter Tryz.func273,Tryz.ntmps273
   go_wp2_with ((with_reducible refine x5 29 dl w.heap.size 0 hw0 hra ?_ ?_);· rfl)
   go_ret
   exact⟨D5 hfin.out,(Below.refl _ _).alloc (Nat.le_refl _) _⟩
  ·have hr2:(s.role==2)=false:=by simp[r2]
   by_cases r4:s.role=4
   ·have hr4:(s.role==4)=true:=by simp[r4]
    have hfin:=Lib.hid (show decide (s.data=zeros16)=b by rw[<- He.out];simp[S.entry, *]);clear r1 r2 r4
    go_enter Tryz.func273,Tryz.ntmps273
    go_wp2_with ((with_reducible refine x5 29 dl w.heap.size 0 hw0 hra ?_ ?_);· rfl)
    go_ret
    exact⟨D5 hfin.out,(Below.refl _ _).alloc (Nat.le_refl _) _⟩
   ·have hr4:(s.role==4)=false:=by simp[r4]
    by_cases r3:s.role=3
    ·have hr3:(s.role==3)=true:=by simp[r3]
     by_cases z:s.data=zeros16
     ·have hzt:decide (s.data=zeros16)=true:=by simp[z]
      by_cases l0:s.lpn=0
      ·have hl0:(s.lpn==0)=true:=by simp[l0]
       have hfin:=Lib.hid (show(s.seq==0)=b by rw[<- He.out,Bool.eq_iff_iff];simp[S.entry, *]);clear r1 r2 r4 r3 z l0
       go_enter Tryz.func273,Tryz.ntmps273
       go_wp2_with ((with_reducible refine x5 29 dl w.heap.size 0 hw0 hra ?_ ?_);· rfl)
       go_ret
       exact⟨D5 hfin.out,(Below.refl _ _).alloc (Nat.le_refl _) _⟩
      ·have hl0:(s.lpn==0)=false:=by simp[l0]
       have hfin:=Lib.hid (show false=b by rw[<- He.out];simp[S.entry, *]);clear r1 r2 r4 r3 z l0
       go_enter Tryz.func273,Tryz.ntmps273
       go_wp2_with ((with_reducible refine x5 29 dl w.heap.size 0 hw0 hra ?_ ?_);· rfl)
       go_ret
       exact⟨D5 hfin.out,(Below.refl _ _).alloc (Nat.le_refl _) _⟩
     ·have hzt:decide (s.data=zeros16)=false:=by simp[z]
      have hfin:=Lib.hid (show false=b by rw[<- He.out];simp[S.entry, *]);clear r1 r2 r4 r3 z
      go_enter Tryz.func273,Tryz.ntmps273
      go_wp2_with ((with_reducible refine x5 29 dl w.heap.size 0 hw0 hra ?_ ?_);· rfl)
      go_ret
      exact⟨D5 hfin.out,(Below.refl _ _).alloc (Nat.le_refl _) _⟩
    ·have hr3:(s.role==3)=false:=by simp[r3]
     have hfin:=Lib.hid (show false=b by rw[<- He.out];simp[S.entry, *]);clear r1 r2 r4 r3
     go_enter Tryz.func273,Tryz.ntmps273
     go_wp2_with ((with_reducible refine x5 29 dl w.heap.size 0 hw0 hra ?_ ?_);· rfl)
     go_ret
     exact⟨D5 hfin.out,(Below.refl _ _).alloc (Nat.le_refl _) _⟩

theorem a6G {w w':World} {o:Obj} (h:Below (w.alloc o).heap.size (w.alloc o) w'):Below w.heap.size w w':=
 ((Below.refl w.heap.size w).alloc (Nat.le_refl _) o).trans (h.mono (by simp))
set_option maxRecDepth 100000 in
set_option maxHeartbeats 1000000 in
theorem a0R (s:Sh) (h:s.data.length=16) (w:World):
  Calls Tryz.prog 244 #[s.v] w λe w'=>e= .returned (.bool (S.may s))/\Below w.heap.size w w':=by
 obtain⟨h0,_,c16,c17,c18,c19,c20,c21,c22⟩:=ShC.of s h;have hent:=λW=>a5U s h W;have hra:=M4 w s.cells.toArray 222;have hsz:s.cells.toArray.toList.length=23:=by simp[Sh.cells,h]
 unfold Sh.v at*;generalize s.cells.toArray=C at*;have hA:AggT Tryz.prog 222 C.toList.length:=by rw[hsz];exact a7c
 have Hent:=Lib.hid hent;have hcl:=L.count_le s.mask;clear h0 hent hsz
 go_enter Tryz.func244,Tryz.ntmps244
 go_upto_region 1 with fail
 go_cut [3] (λs3 wx=>s3= .bool (S.place s)/\wx=w.alloc (.cells C 222))
 case first=>
  cases p1:S.inB s.block 15
  ·have hf:=Lib.hid (show S.place s=false by simp[S.place,p1])
   go_wp2_with (first | (go_at_call 272;refine(O0 _ _ _).mono ?_;rintro e w' ⟨rfl,rfl⟩) | (go_at_call 192;refine(p9 _ _).mono ?_;rintro e w' ⟨rfl,rfl⟩))
   go_meet
   exact⟨by rw[hf.out],rfl⟩
  ·cases p2:S.inB s.row 7
   ·have hf:=Lib.hid (show S.place s=false by simp[S.place,p2])
    go_wp2_with (first | (go_at_call 272;refine(O0 _ _ _).mono ?_;rintro e w' ⟨rfl,rfl⟩) | (go_at_call 192;refine(p9 _ _).mono ?_;rintro e w' ⟨rfl,rfl⟩))
    go_meet
    exact⟨by rw[hf.out],rfl⟩
   ·have hf:=Lib.hid (show S.place s=decide (2<=L.count s.mask)by simp[S.place,p1,p2])
    go_wp2_with (first | (go_at_call 272;refine(O0 _ _ _).mono ?_;rintro e w' ⟨rfl,rfl⟩) | (go_at_call 192;refine(p9 _ _).mono ?_;rintro e w' ⟨rfl,rfl⟩))
    go_meet
    exact⟨by rw[hf.out];congr 1;rw[Bool.eq_iff_iff];simp;omega,rfl⟩
 case rest=>
  obtain⟨rfl,rfl⟩:=hcut
  go_upto_region 2 with fail
  go_cut [3,4] (λs3 s4 wx=>s3= .bool (S.place s)/\s4= .bool (S.numbers s)/\wx=w.alloc (.cells C 222))
  case first=>
   cases p1:S.inB s.seq 1099511627775
   ·have hf:=Lib.hid (show S.numbers s=false by simp[S.numbers,p1])
    go_wp2_with (first | (go_at_call 272;refine(O0 _ _ _).mono ?_;rintro e w' ⟨rfl,rfl⟩) | (go_at_call 192;refine(p9 _ _).mono ?_;rintro e w' ⟨rfl,rfl⟩))
    go_meet
    exact⟨rfl,by rw[hf.out],rfl⟩
   ·cases p2:S.inB s.lpn 65535
    ·have hf:=Lib.hid (show S.numbers s=false by simp[S.numbers,p2])
     go_wp2_with (first | (go_at_call 272;refine(O0 _ _ _).mono ?_;rintro e w' ⟨rfl,rfl⟩) | (go_at_call 192;refine(p9 _ _).mono ?_;rintro e w' ⟨rfl,rfl⟩))
     go_meet
     exact⟨rfl,by rw[hf.out],rfl⟩
    ·have hf:=Lib.hid (show S.numbers s=S.inB s.role 255 by simp[S.numbers,p1,p2])
     go_wp2_with (first | (go_at_call 272;refine(O0 _ _ _).mono ?_;rintro e w' ⟨rfl,rfl⟩) | (go_at_call 192;refine(p9 _ _).mono ?_;rintro e w' ⟨rfl,rfl⟩))
     go_meet
     exact⟨rfl,by rw[hf.out],rfl⟩
  case rest=>
   obtain⟨rfl,rfl,rfl⟩:=hcut;cases hp:S.place s
   ·have hf:=Lib.hid (show S.may s=false by simp[S.may,hp])
    go_wp2
    go_ret
    exact⟨D5 hf.out.symm,(Below.refl _ _).alloc (Nat.le_refl _) _⟩
   ·cases hn:S.numbers s
    ·have hf:=Lib.hid (show S.may s=false by simp[S.may,hn])
     go_wp2
     go_ret
     exact⟨D5 hf.out.symm,(Below.refl _ _).alloc (Nat.le_refl _) _⟩
    ·by_cases k2:s.kind=2
     ·have hk:(s.kind==2)=true:=by simp[k2]
      have hf:=Lib.hid (show S.may s=true by simp[S.may,hp,hn,k2]);clear k2
      go_wp2
      go_ret
      exact⟨D5 hf.out.symm,(Below.refl _ _).alloc (Nat.le_refl _) _⟩
     ·have hk:(s.kind==2)=false:=by simp[k2]
      by_cases k1:s.kind=1
      ·have hk1:(s.kind==1)=true:=by simp[k1]
       have hf:=Lib.hid (show S.may s=S.entry s by simp[S.may,hp,hn,k1]);clear k1 k2
       go_wp2_with (first | ((with_reducible refine M9 222 C.toList w.heap.size 0 hA hra ?_ ?_ ?_);(· rfl);(· rfl)) | (go_at_call 273;refine(Hent.out _).mono ?_;rintro e w' ⟨rfl,hb⟩))
       go_ret
       exact⟨D5 hf.out.symm,a6G hb⟩
      ·have hk1:(s.kind==1)=false:=by simp[k1]
       have hf:=Lib.hid (show S.may s=false by simp[S.may,k1,k2]);clear k1 k2
       go_wp2
       go_ret
       exact⟨D5 hf.out.symm,(Below.refl _ _).alloc (Nat.le_refl _) _⟩

theorem a0J:AggT Tryz.prog 155 32:=⟨⟨_,Tryz.underlying155,rfl⟩,by kernel_rfl⟩
theorem a1q:(#[.int .u8 0, .int .u8 0, .int .u8 0, .int .u8 0, .int .u8 0, .int .u8 0, .int .u8 0, .int .u8 0, .int .u8 0, .int .u8 0, .int .u8 0, .int .u8 0, .int .u8 0, .int .u8 0, .int .u8 0, .int .u8 0, .int .u8 0, .int .u8 0, .int .u8 0, .int .u8 0, .int .u8 0, .int .u8 0, .int .u8 0, .int .u8 0, .int .u8 0, .int .u8 0, .int .u8 0, .int .u8 0, .int .u8 0, .int .u8 0, .int .u8 0, .int .u8 0]:Array Value)=(zeros32.map bv).toArray:=rfl
theorem b5A:AggT Tryz.prog 155 (zeros32.map bv).length:=a0J
theorem b2B:AggT Tryz.prog 155 (zeros32.map bv).toArray.size:=a0J
theorem b5i:0+(zeros32.map bv).toArray.size<=(zeros32.map bv).length:=by decide
theorem O5 (l:List UInt8):(l.map bv).toArray.all (·.oneCell')=true:=by simp[bv,Value.oneCell']

theorem a0O (w:World) (A1 A2 A3:Array Value) (T1 T2 T3:TypeId) (w0:World) (hw:((w.alloc (.cells A1 T1)).alloc (.cells A2 T2)).alloc (.cells A3 T3)=w0):
  Blk w0 w.heap.size T1 A1/\Blk w0 (w.heap.size+1) T2 A2/\Blk w0 (w.heap.size+1+1) T3 A3/\Below w.heap.size w w0/\w.heap.size+3<=w0.heap.size:=by
 subst hw;have h1:=Blk.new w T1 A1;have h2:=Blk.new (w.alloc (.cells A1 T1)) T2 A2;have h3:=Blk.new ((w.alloc (.cells A1 T1)).alloc (.cells A2 T2)) T3 A3;refine⟨(h1.alloc _).alloc _,by simpa using h2.alloc _,by simpa using h3,(((Below.refl _ _).alloc (Nat.le_refl _) _).alloc (by simp) _).alloc (by simp;omega) _,by simp⟩

set_option maxRecDepth 100000 in
set_option maxHeartbeats 1000000 in
theorem a0o (s:Sh) (h:s.data.length=16) (hmay:S.may s=false) (w:World):
  Calls Tryz.prog 233 #[s.v] w λe w'=>e= .returned (.tuple #[.agg (zeros32.map bv).toArray, .bool false])/\Below w.heap.size w w':=by
 have hm:=λW=>a0R s h W;rw[hmay]at hm;have hsz:s.cells.toArray.toList.length=23:=by simp[Sh.cells,h]
 unfold Sh.v at*;generalize s.cells.toArray=C at*;have hA:AggT Tryz.prog 222 C.toList.length:=by rw[hsz];exact a7c
 have Hm:=Lib.hid hm;clear hm hsz hmay h
 go_enter Tryz.func233,Tryz.ntmps233
 go_upto_region 2 with fail
 obtain⟨w0,hw0⟩:∃w0,((w.alloc (.cells C 222)).alloc (.cells #[.int .u8 0, .int .u8 0, .int .u8 0, .int .u8 0, .int .u8 0, .int .u8 0, .int .u8 0, .int .u8 0, .int .u8 0, .int .u8 0, .int .u8 0, .int .u8 0, .int .u8 0, .int .u8 0, .int .u8 0, .int .u8 0, .int .u8 0, .int .u8 0, .int .u8 0, .int .u8 0, .int .u8 0, .int .u8 0, .int .u8 0, .int .u8 0, .int .u8 0, .int .u8 0, .int .u8 0, .int .u8 0, .int .u8 0, .int .u8 0, .int .u8 0, .int .u8 0] 155)).alloc (.cells #[.int .u8 0, .int .u8 0, .int .u8 0, .int .u8 0, .int .u8 0, .int .u8 0, .int .u8 0, .int .u8 0, .int .u8 0, .int .u8 0, .int .u8 0, .int .u8 0, .int .u8 0, .int .u8 0, .int .u8 0, .int .u8 0, .int .u8 0, .int .u8 0, .int .u8 0, .int .u8 0, .int .u8 0, .int .u8 0, .int .u8 0, .int .u8 0, .int .u8 0, .int .u8 0, .int .u8 0, .int .u8 0, .int .u8 0, .int .u8 0, .int .u8 0, .int .u8 0] 155)=w0:=⟨_,rfl⟩;rw[hw0];obtain⟨b0,b1,b2,hbel,hs0⟩:=a0O _ _ _ _ _ _ _ _ hw0;clear hw0;rw[a1q]at b1 b2
 go_wp2_with ((with_reducible refine x5 222 C.toList w.heap.size 0 hA (n8 b0 0 _ (by rw[List.drop_zero];exact List.take_length)) ?_ ?_);(· rfl))
 refine(Hm.out _).mono ?_;rintro e w1 ⟨rfl,hb1⟩
 replace b0:=b0.below hb1 b0.lt
 replace b1:=b1.below hb1 b1.lt
 replace b2:=b2.below hb1 b2.lt
 replace hbel:=hbel.trans (hb1.mono (by omega))
 clear hb1 hs0
 go_wp2_with (first | ((with_reducible refine x5 155 (zeros32.map bv) (w.heap.size+1+1) 0 b5A (n8 b2 0 _ (by rw[List.drop_zero];exact List.take_length)) ?_ ?_);(· rfl)) | ((with_reducible refine U7 155 (w.heap.size+1) 0 155 (zeros32.map bv) (zeros32.map bv).toArray b2B b1 b5i (O5 _) ?_ ?_ ?_);(· rfl);(· rfl);intro w2 c1 g2 s2))
 exact bodyPost_ret (D3 Tryz.results233 _ _ (w.heap.size+1) 155 (zeros32.map bv).toArray (by exact c1) a0J rfl) rfl ⟨rfl,hbel.grown g2 (Nat.le_of_lt (by have:=b2.lt;omega)) (λk hk=>by injection hk with hk;omega)⟩

theorem a8c:(Tryz.prog.info? 5).map (·.size)=some 1:=by kernel_rfl
theorem X5 (l:List UInt8):∀v∈l.map bv,v.oneCell'=true:=by simp[bv,Value.oneCell']
theorem a8D {w:World} {n:Nat} {t:TypeId} {C:Array Value} {d:List UInt8} (hb:Blk w n t C) (hd:C.toList.take 16=d.map bv):∀j v,(d.map bv)[j]? =some v->w.cell? ((⟨n,0,none⟩:Addr).add j)=some v:=by
 intro j v hv;rw[Addr.add_mid,Nat.zero_add,hb.cell];rw[<- hd,List.getElem?_take]at hv;split at hv
 ·simpa using hv
 ·cases hv
theorem b2r {w:World} {n:Nat} {t:TypeId} {l:List UInt8} (hb:Blk w n t (l.map bv).toArray):∀j x,l[j]? =some x->w.cell? ⟨n,0+j,none⟩=some (bv x):=by
 intro j x hx;rw[hb.cell];simp[hx]

theorem OutAt.drew {w:World} {B g:Nat} {l:List Bool} (h:OutAt w B g l):OutAt w.drew B g l:=h
theorem OutAt.grown {w w':World} {B g b:Nat} {l:List Bool} (h:OutAt w B g l) (hg:w.grownBy w' (some b)) (hb:b<B):OutAt w' B g l:=by
 obtain⟨h1,v,h2,h3⟩:=h;refine⟨h1,v,h2.grown hg (λe=>by injection e with e;omega),h3.kept hg ?_⟩;cases hv:v.ownBlock with
 | none=>exact .inl rfl
 | some k=>exact .inr (λe=>by injection e with e;have:=h3.lt k hv;omega)
theorem OutAt.below {w w':World} {B B' g:Nat} {l:List Bool} (h:OutAt w B g l) (hb:Below B' w w') (hB:w.heap.size<=B'):OutAt w' B g l:=by
 obtain⟨h1,v,h2,h3⟩:=h;exact⟨h1,v,h2.below hb (Nat.lt_of_lt_of_le h2.lt hB),h3.kept (row:=none) ⟨hb.os,hb.tape,hb.output,hb.size,λk hk _=>hb.block k (by omega)⟩ (by cases hv:v.ownBlock<;>simp)⟩
theorem a5R {d:List UInt8} (h:d.length=16):splice (zeros32.map bv) 0 (d.map bv)=(d++zeros16).map bv:=by
 simp[splice,h,zeros32,zeros16]
theorem a1k {d e f:List UInt8} (h:d.length=16):splice ((d++e).map bv) 16 (f.map bv)=(d++(f++e.drop f.length)).map bv:=by
 have e1:(List.map bv d++List.map bv e).take 16=List.map bv d:=by rw[List.take_append_of_le_length (by simp[h])];exact List.take_of_length_le (by simp[h])
 have e2:(List.map bv d++List.map bv e).drop (16+f.length)=(List.map bv e).drop f.length:=by
  rw[List.drop_append];simp[h]
 simp only[splice,List.map_append,List.length_map,e1,e2,List.map_drop]

set_option maxRecDepth 100000 in
set_option maxHeartbeats 4000000 in
theorem Y7 (s:Sh) (h:s.data.length=16) (hmay:S.may s=true) (w:World):
  Calls Tryz.prog 233 #[s.v] w λe w'=>e= .returned (.tuple #[.agg ((S.put s).map bv).toArray, .bool true])/\Below w.heap.size w w':=by
 have hm:=λW=>a0R s h W;rw[hmay]at hm;have hsz:s.cells.toArray.toList.length=23:=by simp[Sh.cells,h]
 obtain⟨_,_,c16,c17,c18,c19,c20,c21,c22⟩:=ShC.of s h;have hmb:=S.may_bounds s hmay;have hdl:s.cells.toArray.toList.take 16=s.data.map bv:=by simp[Sh.cells,h]
 unfold Sh.v at*;generalize s.cells.toArray=C at*;have hA:AggT Tryz.prog 222 C.toList.length:=by rw[hsz];exact a7c
 have Hm:=Lib.hid hm;have Hdl:=Lib.hid hdl;clear hm hsz hmay hdl;obtain⟨m1,m2,m3,m4⟩:=hmb;obtain⟨bk,hbk⟩:∃n:Nat,s.block=n:=⟨s.block.toNat,by omega⟩;obtain⟨rw_,hrw⟩:∃n:Nat,s.row=n:=⟨s.row.toNat,by omega⟩;obtain⟨mk,hmk⟩:∃n:Nat,s.mask=n:=⟨s.mask.toNat,by omega⟩;obtain⟨kd,hkd⟩:∃n:Nat,s.kind=n:=⟨s.kind.toNat,by omega⟩;rw[hbk]at m1 c20;rw[hrw]at m2 c21;rw[hmk]at m3 c22;rw[hkd]at m4 c19;have Hh:=Lib.hid (show S.head s=Bt.bits (S.meta_ s.role s.lpn s.seq) 64++Bt.bits bk 8++Bt.bits rw_ 8++Bt.bits mk 8++Bt.bits kd 8 by simp[S.head,hbk,hrw,hmk,hkd]);have hml:=S.meta_lt s.role s.lpn s.seq;clear hbk hrw hmk hkd
 go_enter Tryz.func233,Tryz.ntmps233
 go_upto_region 2 with fail
 obtain⟨w0,hw0⟩:∃w0,((w.alloc (.cells C 222)).alloc (.cells #[.int .u8 0, .int .u8 0, .int .u8 0, .int .u8 0, .int .u8 0, .int .u8 0, .int .u8 0, .int .u8 0, .int .u8 0, .int .u8 0, .int .u8 0, .int .u8 0, .int .u8 0, .int .u8 0, .int .u8 0, .int .u8 0, .int .u8 0, .int .u8 0, .int .u8 0, .int .u8 0, .int .u8 0, .int .u8 0, .int .u8 0, .int .u8 0, .int .u8 0, .int .u8 0, .int .u8 0, .int .u8 0, .int .u8 0, .int .u8 0, .int .u8 0, .int .u8 0] 155)).alloc (.cells #[.int .u8 0, .int .u8 0, .int .u8 0, .int .u8 0, .int .u8 0, .int .u8 0, .int .u8 0, .int .u8 0, .int .u8 0, .int .u8 0, .int .u8 0, .int .u8 0, .int .u8 0, .int .u8 0, .int .u8 0, .int .u8 0, .int .u8 0, .int .u8 0, .int .u8 0, .int .u8 0, .int .u8 0, .int .u8 0, .int .u8 0, .int .u8 0, .int .u8 0, .int .u8 0, .int .u8 0, .int .u8 0, .int .u8 0, .int .u8 0, .int .u8 0, .int .u8 0] 155)=w0:=⟨_,rfl⟩;rw[hw0];obtain⟨b0,b1,b2,hbel,hs0⟩:=a0O _ _ _ _ _ _ _ _ hw0;clear hw0;rw[a1q]at b1 b2
 go_wp2_with ((with_reducible refine x5 222 C.toList w.heap.size 0 hA (n8 b0 0 _ (by rw[List.drop_zero];exact List.take_length)) ?_ ?_);(· rfl))
 refine(Hm.out _).mono ?_;rintro e w1 ⟨rfl,hb1⟩
 replace b0:=b0.below hb1 b0.lt
 replace b1:=b1.below hb1 b1.lt
 replace b2:=b2.below hb1 b2.lt
 replace hbel:=hbel.trans (hb1.mono (by omega))
 have hs1:=hb1.size;clear hb1 Hm;have d16:=(b0.cell 16).trans c16;have d17:=(b0.cell 17).trans c17;have d18:=(b0.cell 18).trans c18;have d19:=(b0.cell 19).trans c19;have d20:=(b0.cell 20).trans c20;have d21:=(b0.cell 21).trans c21;have d22:=(b0.cell 22).trans c22;have hlt0:=b0.lt
 go_wp2_with (go_at_call 262;refine(a2i _ _ _ _).mono ?_;rintro e w' ⟨rfl,rfl⟩)
 have ho:OutAt (w1.alloc (.cells #[.slice none 0 0, .int .i64 0] 320)) w1.heap.size w1.heap.size []:=⟨Nat.le_refl _,_,Blk.new _ _ _,World.ownsRow_nil _ _ _ _⟩;refine(X1 _ 64 (by decide) (by decide) hml [] (by decide) _ w1.heap.size _ (by simp) ho).mono ?_;rintro e w2 ⟨rfl,ho2,hb2⟩
 replace b0:=(b0.alloc _).below hb2 hlt0
 replace b1:=(b1.alloc _).below hb2 b1.lt
 replace b2:=(b2.alloc _).below hb2 b2.lt
 replace hbel:=(hbel.alloc (Nat.le_of_lt hlt0) (.cells #[.slice none 0 0, .int .i64 0] 320)).trans (hb2.mono (Nat.le_of_lt hlt0))
 have hs2:=hb2.size;simp at hs2;have hg2:w.heap.size+3<=w1.heap.size:=by omega
 clear hb2 ho d16 d17 d18 d19 d20 d21 d22 hs0 hs1
 replace d19:=(b0.cell 19).trans c19
 replace d20:=(b0.cell 20).trans c20
 replace d21:=(b0.cell 21).trans c21
 replace d22:=(b0.cell 22).trans c22
 generalize hL0:[]++Bt.bits (S.meta_ s.role s.lpn s.seq) 64=L0 at ho2;have hl0:L0.length=64:=by rw[<- hL0];simp[Bt.length_bits]
 have HL0:=Lib.hid hL0;clear hL0 hlt0;generalize w1.heap.size=g at*;generalize hn:w.heap.size=n at*;have Hn:=Lib.hid hn;clear hn
 go_wp2_with fail
 go_loopw [32] (λc wr=>∃k:Nat,k<=4/\c= .int .i64 k/\OutAt wr g g (L0++(([bk,rw_,mk,kd].take k).flatMap λx=>Bt.bits x 8))/\Below g w2 wr/\g<=wr.heap.size) (λc _=>4-(intOf c).toNat)
 case atStart=>exact⟨0,by omega,rfl,by simpa using ho2,Below.refl _ _,by omega⟩
 case round=>
  obtain⟨k,hk,hc,hor,hbw,hgs⟩:=hrel;have hl:(L0++(([bk,rw_,mk,kd].take k).flatMap λx=>Bt.bits x 8)).length=64+8*k:=by
   match k,hk with
   | 0,_ | 1,_ | 2,_ | 3,_ | 4,_=>simp[hl0,Bt.length_bits]
  match k,hk with
  | 0,_=>
   obtain rfl:_=Value.int .i64 0:=hc;have ix:∀W:World,(Instr.index 323 (.agg #[.int .i64 (bk:Int), .int .i64 (rw_:Int), .int .i64 (mk:Int), .int .i64 (kd:Int)]) (.int .i64 0)).run Tryz.prog W= .ok (.int .i64 (bk:Int)) W:=λ_=>by kernel_rfl
   go_wp2_with (go_at_call 261;refine(X1 bk 8 (by decide) (by decide) (by omega) _ (by rw[hl];decide) _ g _ hgs hor).mono ?_;rintro e w3 ⟨rfl,ho3,hb3⟩)
   go_roundw
   case rel=>exact⟨1,by omega,by rfl,by simpa[List.append_assoc]using ho3,hbw.trans hb3,Nat.le_trans hgs hb3.size⟩
   case measure=>simp[intOf]
  | 1,_=>
   obtain rfl:_=Value.int .i64 1:=hc;have ix:∀W:World,(Instr.index 323 (.agg #[.int .i64 (bk:Int), .int .i64 (rw_:Int), .int .i64 (mk:Int), .int .i64 (kd:Int)]) (.int .i64 1)).run Tryz.prog W= .ok (.int .i64 (rw_:Int)) W:=λ_=>by kernel_rfl
   go_wp2_with (go_at_call 261;refine(X1 rw_ 8 (by decide) (by decide) (by omega) _ (by rw[hl];decide) _ g _ hgs hor).mono ?_;rintro e w3 ⟨rfl,ho3,hb3⟩)
   go_roundw
   case rel=>exact⟨2,by omega,by rfl,by simpa[List.append_assoc]using ho3,hbw.trans hb3,Nat.le_trans hgs hb3.size⟩
   case measure=>simp[intOf]
  | 2,_=>
   obtain rfl:_=Value.int .i64 2:=hc;have ix:∀W:World,(Instr.index 323 (.agg #[.int .i64 (bk:Int), .int .i64 (rw_:Int), .int .i64 (mk:Int), .int .i64 (kd:Int)]) (.int .i64 2)).run Tryz.prog W= .ok (.int .i64 (mk:Int)) W:=λ_=>by kernel_rfl
   go_wp2_with (go_at_call 261;refine(X1 mk 8 (by decide) (by decide) (by omega) _ (by rw[hl];decide) _ g _ hgs hor).mono ?_;rintro e w3 ⟨rfl,ho3,hb3⟩)
   go_roundw
   case rel=>exact⟨3,by omega,by rfl,by simpa[List.append_assoc]using ho3,hbw.trans hb3,Nat.le_trans hgs hb3.size⟩
   case measure=>simp[intOf]
  | 3,_=>
   obtain rfl:_=Value.int .i64 3:=hc;have ix:∀W:World,(Instr.index 323 (.agg #[.int .i64 (bk:Int), .int .i64 (rw_:Int), .int .i64 (mk:Int), .int .i64 (kd:Int)]) (.int .i64 3)).run Tryz.prog W= .ok (.int .i64 (kd:Int)) W:=λ_=>by kernel_rfl
   go_wp2_with (go_at_call 261;refine(X1 kd 8 (by decide) (by decide) (by omega) _ (by rw[hl];decide) _ g _ hgs hor).mono ?_;rintro e w3 ⟨rfl,ho3,hb3⟩)
   go_roundw
   case rel=>exact⟨4,by omega,by rfl,by simpa[List.append_assoc]using ho3,hbw.trans hb3,Nat.le_trans hgs hb3.size⟩
   case measure=>simp[intOf]
  | 4,_=>
   obtain rfl:_=Value.int .i64 4:=hc;have hH:L0++(([bk,rw_,mk,kd].take 4).flatMap λx=>Bt.bits x 8)=S.head s:=by
    rw[Hh.out,<- HL0.out];simp[List.append_assoc]
   rw[hH]at hor;have hhl:=S.length_head s
   replace b0:=b0.below hbw (by omega)
   replace b1:=b1.below hbw (by omega)
   replace b2:=b2.below hbw (by omega)
   replace hbel:=hbel.trans (hbw.mono (by omega))
   clear hbw hl ho2 hk hH c16 c17 c18 c19 c20 c21 c22 d19 d20 d21 d22 hml
   go_wp2_with fail
   go_still_tail 3,(by kernel_rfl)
   change wpList _ _ _ _ _ wr.drew
   have r0:∀j v,(s.data.map bv)[j]? =some v->wr.drew.cell? ((⟨n,0,none⟩:Addr).add j)=some v:=a8D b0.drew Hdl.out
   go_wp2_with ((with_reducible refine a7X 306 306 5 Tryz.underlying306 a8c (n+1+1) 0 32 32 ⟨n,0,none⟩ 16 16 155 (zeros32.map bv) (s.data.map bv) b2.drew (by simp[h]) r0 (by simp[h,zeros32]) (X5 _) ?_ ?_ ?_);(· rfl);(· rfl);intro w4 b24 g4 s4)
   replace hor:=(hor.drew).grown g4 (by omega)
   replace b1:=b1.drew.grown g4 (by simp)
   replace hbel:=(hbel.drew).grown g4 (by have:=b2.lt;simp;omega) (λk hk=>by injection hk with hk;omega)
   rw[a5R h]at b24;have hgs4:g<=w4.heap.size:=by rw[s4];simpa using hgs
   clear b2 g4 s4 r0 hgs
   go_wp2_with fail
   go_region_held3 (λ_=>True) (trivial)
    (first
     | (go_at_call 263;refine(a3P (S.head s) (by omega) (by omega) _ g g (hor.drew)).mono ?_;rintro e w5 ⟨g5,cap5,rfl,hown5,hb5⟩)
     | (refine a7V 306 306 5 Tryz.underlying306 a8c (n+1+1) 16 16 16 ⟨g5,0,none⟩ (Bt.pack (S.head s)).length cap5 155 ((s.data++zeros16).map bv) ((Bt.pack (S.head s)).map bv) (b24.drew.below hb5 b24.lt) (by simp[Bt.length_pack,hhl]) (hown5.cells rfl) (by simp[Bt.length_pack,hhl,h,zeros16]) (X5 _) ?_ ?_ ?_;(· rfl);(· rfl);intro w6 b26 g6 s6))
   rw[a1k h]at b26
   replace hor:=(hor.drew.below hb5 (by simp)).grown g6 (by omega)
   replace b1:=(b1.drew.below hb5 (by simpa using b1.lt)).grown g6 (by simp)
   replace hbel:=(hbel.drew.trans (hb5.mono (by have:=b24.lt;simp;omega))).grown g6 (by have:=b26.lt;have:=b24.lt;have:=hb5.size;simp at this;omega) (λk hk=>by injection hk with hk;omega)
   have hgs6:g<=w6.heap.size:=by rw[s6];have:=hb5.size;simp at this;omega
   clear b24 hgs4 hb5 hown5 g6 s6;have hsum:=K.sum_lt (s.data++Bt.pack (S.head s));have hb28:(s.data++Bt.pack (S.head s)).length=28:=by simp[Bt.length_pack,hhl,h]
   have hput:=Lib.hid (show S.put s=s.data++Bt.pack (S.head s++Bt.bits (K.sum (s.data++Bt.pack (S.head s))) 32)from rfl);have hcl:∀j x,(s.data++Bt.pack (S.head s))[j]? =some x->w6.cell? ⟨n+1+1,0+j,none⟩=some (bv x):=λj x hx=>b2r b26 j x (by
    rw[<- List.append_assoc,List.getElem?_append_left (by rw[hb28];have:=(List.getElem?_eq_some_iff.1 hx).1;omega)];exact hx)
   have hko:=b1D _ 28 hb28 (by omega) (n+1+1) 0 32 w6 hcl;have Hko:=Lib.hid hko;generalize K.sum (s.data++Bt.pack (S.head s))=sm at*;clear hko hcl hb28
   go_wp2_with fail
   refine(Hko.out).mono ?_;rintro e w7 ⟨rfl,rfl⟩
   go_wp2_with fail
   refine(X1 sm 32 (by decide) (by decide) hsum _ (by rw[hhl];decide) _ g _ hgs6 hor).mono ?_;rintro e w8 ⟨rfl,ho8,hb8⟩
   replace b1:=b1.below hb8 (by omega)
   replace b26:=b26.below hb8 (by omega)
   replace hbel:=hbel.trans (hb8.mono (by omega))
   have hgs8:g<=w8.heap.size:=Nat.le_trans hgs6 hb8.size;clear hb8 hor hgs6 Hko hsum;have hh2:(S.head s++Bt.bits sm 32).length=128:=by simp[hhl,Bt.length_bits]
   go_wp2_with fail
   go_region_held3 (λ_=>True) (trivial)
    (first
     | (go_at_call 263;refine(a3P (S.head s++Bt.bits sm 32) (by omega) (by omega) _ g g (ho8.drew)).mono ?_;rintro e w9 ⟨g9,cap9,rfl,hown9,hb9⟩)
     | (refine a7V 306 306 5 Tryz.underlying306 a8c (n+1+1) 16 16 16 ⟨g9,0,none⟩ (Bt.pack (S.head s++Bt.bits sm 32)).length cap9 155 ((s.data++(Bt.pack (S.head s)++zeros16.drop (Bt.pack (S.head s)).length)).map bv) ((Bt.pack (S.head s++Bt.bits sm 32)).map bv) (b26.drew.below hb9 b26.lt) (by simp[Bt.length_pack,hh2]) (hown9.cells rfl) (by simp[Bt.length_pack,hh2,hhl,h,zeros16]) (X5 _) ?_ ?_ ?_;(· rfl);(· rfl);intro w10 b10 g10 s10))
   rw[a1k h,List.drop_of_length_le (by simp[Bt.length_pack,hh2,hhl,zeros16]),List.append_nil,<- hput.out]at b10
   replace b1:=(b1.drew.below hb9 (by simpa using b1.lt)).grown g10 (by simp)
   replace hbel:=(hbel.drew.trans (hb9.mono (by have:=b26.lt;simp;omega))).grown g10 (by have:=b26.lt;have:=hb9.size;simp at this;omega) (λk hk=>by injection hk with hk;omega)
   have hp32:(S.put s).length=32:=by rw[hput.out];simp[Bt.length_pack,hh2,h]
   clear b26 hb9 hown9 g10 s10 ho8 hput;generalize hpg:S.put s=pg at*;have Hpg:=Lib.hid hpg;clear hpg;have hL:AggT Tryz.prog 155 (pg.map bv).length:=by rw[List.length_map,hp32];exact a0J
   have hC:AggT Tryz.prog 155 (pg.map bv).toArray.size:=by simp only[List.size_toArray,List.length_map,hp32];exact a0J
   have hfit:0+(pg.map bv).toArray.size<=(zeros32.map bv).length:=by simp[hp32,zeros32]
   have hspl:splice (zeros32.map bv) 0 (pg.map bv).toArray.toList=pg.map bv:=by simp[splice,hp32,zeros32]
   have Hspl:=Lib.hid hspl;clear hspl
   go_wp2_with (first | ((with_reducible refine x5 155 (pg.map bv) (n+1+1) 0 hL (n8 b10 0 _ (by rw[List.drop_zero];exact List.take_length)) ?_ ?_);(· rfl)) | ((with_reducible refine U7 155 (n+1) 0 155 (zeros32.map bv) (pg.map bv).toArray hC b1 hfit (O5 _) ?_ ?_ ?_);(· rfl);(· rfl);intro w2 c1 g2 s2;rw[Hspl.out]at c1))
   exact bodyPost_ret (D3 Tryz.results233 _ _ (n+1) 155 (pg.map bv).toArray c1 hC rfl) rfl ⟨by rw[Hpg.out];rfl,by rw[Hn.out];exact hbel.grown g2 (Nat.le_of_lt (by have:=b1.lt;omega)) (λk hk=>by injection hk with hk;omega)⟩
end Go.Proofs.YtgkpkpbnonmopaaGreat
