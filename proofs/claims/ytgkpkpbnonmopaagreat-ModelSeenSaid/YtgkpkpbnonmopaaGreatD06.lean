/- Helpers. No condition. -/
import Derived.Test.YtgkpkpbnonmopaaGreatD01
import Derived.Test.YtgkpkpbnonmopaaGreatD04
import Derived.Test.YtgkpkpbnonmopaaGreatD05
import Derived.WalkKit
set_option maxRecDepth 20000
set_option linter.all false
namespace Go.Proofs.YtgkpkpbnonmopaaGreat
open Go.RowKit

theorem b1T (m d:Int) (h0:0<=m) (h1:m<256):(!(bits .and .i64 m (L.one d)==0))=L.has m d:=by
 obtain⟨m,rfl⟩:=Int.eq_ofNat_of_zero_le h0
 by_cases hd:0<=d/\d<8
 ·obtain⟨d,rfl⟩:=Int.eq_ofNat_of_zero_le hd.1;have h2:d<8:=by omega
  simp only[L.one,hd,and_self,if_true,Int.toNat_natCast];have h3:(2:Nat)^d<9223372036854775808:=Nat.lt_of_le_of_lt (Nat.pow_le_pow_right (by omega) (by omega:d<=8)) (by decide);rw[V9 _ _ (by omega) h3,nat_bit];have h4:L.has (m:Int) (d:Int)=m.testBit d:=by simp[L.has,L.set,h1];omega
  have h5:0<2^d:=Nat.pow_pos (by omega);have h6:¬(((2^d:Nat):Int)=0):=by omega
  rw[h4,Nat.testBit_eq_decide_div_mod_eq];rcases Nat.mod_two_eq_zero_or_one (m/2^d)with h | h
  ·simp[h]
  ·rw[h,Nat.one_mul,beq_eq_false_iff_ne.2 h6];rfl
 ·have:L.one d=0:=by simp[L.one,hd]
  rw[this];have h4:L.has (m:Int) d=false:=by
   simp only[L.has,Bool.and_eq_false_iff,decide_eq_false_iff_not];omega
  rw[h4,show(0:Int)=((0:Nat):Int)from rfl,V9 _ _ (by omega) (by omega)];simp

theorem a3S (d:Int):L.one d=0\/∃k:Nat,k<8/\d=k/\L.one d=((2^k:Nat):Int):=by
 by_cases hd:0<=d/\d<8
 ·obtain⟨d,rfl⟩:=Int.eq_ofNat_of_zero_le hd.1;exact .inr ⟨d,by omega,rfl,by simp only[L.one,hd,and_self,if_true,Int.toNat_natCast]⟩
 ·exact .inl (by simp[L.one,hd])
theorem b1e (d:Int):0<=L.one d/\L.one d<256:=by
 rcases a3S d with h | ⟨k,hk,_,h⟩
 ·omega
 ·have:=Nat.pow_le_pow_right (n:=2) (by omega) (by omega:k<=7);rw[h];generalize 2^k=q at*;omega
theorem a8P (m d:Int) (h0:0<=m) (h1:m<256):bits .or .i64 m (L.one d)=L.with_ m d:=by
 obtain⟨m,rfl⟩:=Int.eq_ofNat_of_zero_le h0;obtain⟨k,hk⟩:=Int.eq_ofNat_of_zero_le (b1e d).1;have:=(b1e d).2;rw[hk]at this ⊢;rw[a7D _ _ (by omega) (by omega)];simp[L.with_,L.set,hk,h1]
theorem a5L:∀m,m<256->∀k,k<8->bits .andNot .i64 ((m:Nat):Int) ((2^k:Nat):Int)=((m&&& (255-2^k):Nat):Int):=by decide+kernel
theorem a4w:∀m,m<256->bits .andNot .i64 ((m:Nat):Int) 0=((m&&& 255:Nat):Int):=by decide+kernel
theorem a4x (m d:Int) (h0:0<=m) (h1:m<256):bits .andNot .i64 m (L.one d)=L.without m d:=by
 obtain⟨m,rfl⟩:=Int.eq_ofNat_of_zero_le h0;have hs:L.set (m:Int)=true:=by simp[L.set];omega
 rcases a3S d with h | ⟨k,hk,_,h⟩
 ·rw[h,a4w _ (by omega)];simp only[L.without,hs,h,if_true,Int.toNat_natCast];rfl
 ·rw[h,a5L _ (by omega) _ hk];simp only[L.without,hs,h,if_true,Int.toNat_natCast]

set_option maxHeartbeats 400000 in
theorem H3 (m:Int) (w:World):
  Calls Tryz.prog 171 #[.int .i64 m] w λe w'=>e= .returned (.bool (L.set m))/\w=w':=by
 by_cases h0:0<=m
 ·go_enter Tryz.func171,Tryz.ntmps171
  go_wp2
  go_ret
  exact⟨D5 (by simp[L.set,h0]),rfl⟩
 ·go_enter Tryz.func171,Tryz.ntmps171
  go_wp2
  go_ret
  exact⟨D5 (by simp[L.set];omega),rfl⟩

set_option maxHeartbeats 400000 in
theorem P5 (d:Int) (w:World):
  Calls Tryz.prog 172 #[.int .i64 d] w λe w'=>e= .returned (.int .i64 (L.one d))/\w=w':=by
 by_cases h0:d<0
 ·go_enter Tryz.func172,Tryz.ntmps172
  go_wp2
  go_ret
  exact⟨H7 (by simp[L.one];omega),rfl⟩
 ·by_cases h8:8<=d
  ·go_enter Tryz.func172,Tryz.ntmps172
   go_wp2
   go_ret
   exact⟨H7 (by simp[L.one];omega),rfl⟩
  ·obtain⟨d,rfl⟩:=Int.eq_ofNat_of_zero_le (by omega:0<=d);have:d<8:=by omega
   match d,this with
   | 0,_ | 1,_ | 2,_ | 3,_ | 4,_ | 5,_ | 6,_ | 7,_=>
    go_enter Tryz.func172,Tryz.ntmps172
    go_wp2
    go_ret
    exact⟨rfl,rfl⟩

set_option maxHeartbeats 400000 in
theorem a6z (n:Int) (w:World):
  Calls Tryz.prog 208 #[.int .i64 n] w λe w'=>e= .returned (.int .i64 (L.all n))/\w=w':=by
 by_cases h0:n<0
 ·go_enter Tryz.func208,Tryz.ntmps208
  go_wp2
  go_ret
  exact⟨H7 (by simp[L.all];omega),rfl⟩
 ·by_cases h8:8<n
  ·go_enter Tryz.func208,Tryz.ntmps208
   go_wp2
   go_ret
   exact⟨H7 (by simp[L.all];omega),rfl⟩
  ·obtain⟨d,rfl⟩:=Int.eq_ofNat_of_zero_le (by omega:0<=n);have:d<9:=by omega
   match d,this with
   | 0,_ | 1,_ | 2,_ | 3,_ | 4,_ | 5,_ | 6,_ | 7,_ | 8,_=>
    go_enter Tryz.func208,Tryz.ntmps208
    go_wp2
    go_ret
    exact⟨rfl,rfl⟩

set_option maxHeartbeats 400000 in
theorem P6 (m d:Int) (w:World):
  Calls Tryz.prog 120 #[.int .i64 m, .int .i64 d] w λe w'=>e= .returned (.bool (L.has m d))/\w=w':=by
 by_cases h:0<=m/\m<256
 ·have hs:L.set m=true:=by simp[L.set,h]
  have hb:=Lib.hid (b1T m d h.1 h.2)
  go_enter Tryz.func120,Tryz.ntmps120
  go_wp2_with (first | (go_at_call 171;refine(H3 _ _).mono ?_;rintro e w' ⟨rfl,rfl⟩) | (go_at_call 172;refine(P5 _ _).mono ?_;rintro e w' ⟨rfl,rfl⟩))
  go_ret
  exact⟨D5 hb.out,rfl⟩
 ·have hs:L.set m=false:=by simp[L.set];omega
  have hb:=Lib.hid (show L.has m d=false by simp[L.has,hs])
  go_enter Tryz.func120,Tryz.ntmps120
  go_wp2_with (first | (go_at_call 171;refine(H3 _ _).mono ?_;rintro e w' ⟨rfl,rfl⟩) | (go_at_call 172;refine(P5 _ _).mono ?_;rintro e w' ⟨rfl,rfl⟩))
  go_ret
  exact⟨D5 hb.out.symm,rfl⟩

set_option maxHeartbeats 400000 in
theorem a9p (m d:Int) (w:World):
  Calls Tryz.prog 147 #[.int .i64 m, .int .i64 d] w λe w'=>e= .returned (.int .i64 (L.with_ m d))/\w=w':=by
 by_cases h:0<=m/\m<256
 ·have hs:L.set m=true:=by simp[L.set,h]
  have hb:=Lib.hid (a8P m d h.1 h.2)
  go_enter Tryz.func147,Tryz.ntmps147
  go_wp2_with (first | (go_at_call 171;refine(H3 _ _).mono ?_;rintro e w' ⟨rfl,rfl⟩) | (go_at_call 172;refine(P5 _ _).mono ?_;rintro e w' ⟨rfl,rfl⟩))
  go_ret
  exact⟨H7 hb.out,rfl⟩
 ·have hs:L.set m=false:=by simp[L.set];omega
  have hb:=Lib.hid (show L.with_ m d=0 by simp[L.with_,hs])
  go_enter Tryz.func147,Tryz.ntmps147
  go_wp2_with (first | (go_at_call 171;refine(H3 _ _).mono ?_;rintro e w' ⟨rfl,rfl⟩) | (go_at_call 172;refine(P5 _ _).mono ?_;rintro e w' ⟨rfl,rfl⟩))
  go_ret
  exact⟨H7 hb.out.symm,rfl⟩

set_option maxHeartbeats 400000 in
theorem Q9 (m d:Int) (w:World):
  Calls Tryz.prog 196 #[.int .i64 m, .int .i64 d] w λe w'=>e= .returned (.int .i64 (L.without m d))/\w=w':=by
 by_cases h:0<=m/\m<256
 ·have hs:L.set m=true:=by simp[L.set,h]
  have hb:=Lib.hid (a4x m d h.1 h.2)
  go_enter Tryz.func196,Tryz.ntmps196
  go_wp2_with (first | (go_at_call 171;refine(H3 _ _).mono ?_;rintro e w' ⟨rfl,rfl⟩) | (go_at_call 172;refine(P5 _ _).mono ?_;rintro e w' ⟨rfl,rfl⟩))
  go_ret
  exact⟨H7 hb.out,rfl⟩
 ·have hs:L.set m=false:=by simp[L.set];omega
  have hb:=Lib.hid (show L.without m d=0 by simp[L.without,hs])
  go_enter Tryz.func196,Tryz.ntmps196
  go_wp2_with (first | (go_at_call 171;refine(H3 _ _).mono ?_;rintro e w' ⟨rfl,rfl⟩) | (go_at_call 172;refine(P5 _ _).mono ?_;rintro e w' ⟨rfl,rfl⟩))
  go_ret
  exact⟨H7 hb.out.symm,rfl⟩

def oc1 (m:Int):Int:=IntKind.u64.wrap (bits BinOp.and IntKind.u64 (m/2) 6148914691236517205+bits BinOp.and IntKind.u64 m 6148914691236517205)
def oc2 (x:Int):Int:=IntKind.u64.wrap (bits BinOp.and IntKind.u64 (x/4) 3689348814741910323+bits BinOp.and IntKind.u64 x 3689348814741910323)
def oc3 (x:Int):Int:=bits BinOp.and IntKind.u64 (IntKind.u64.wrap (x/16+x)) 1085102592571150095
def oc4 (x:Int):Int:=IntKind.u64.wrap (x+x/256)
def oc5 (x:Int):Int:=IntKind.u64.wrap (x+x/65536)
def oc6 (x:Int):Int:=IntKind.u64.wrap (x+x/4294967296)
def oc (m:Int):Int:=bits BinOp.and IntKind.i64 (wrap64 (oc6 (oc5 (oc4 (oc3 (oc2 (oc1 m))))))) 127
theorem b4S:∀m,m<256->oc ((m:Nat):Int)=(L.count (m:Int):Int):=by decide+kernel
theorem b6d (m:Int) (h0:0<=m) (h1:m<256):oc m=(L.count m:Int):=by
 obtain⟨m,rfl⟩:=Int.eq_ofNat_of_zero_le h0;exact b4S m (by omega)
set_option maxHeartbeats 400000 in
theorem b4R (m:Int) (h0:0<=m) (h1:m<256) (w:World):
  Calls Tryz.prog 270 #[.int .u64 m] w λe w'=>e= .returned (.int .i64 (L.count m))/\w=w':=by
 have hoc:=Lib.hid (b6d m h0 h1)
 go_enter Tryz.func270,Tryz.ntmps270
 go_wp2
 go_ret
 exact⟨H7 hoc.out,rfl⟩
set_option maxHeartbeats 400000 in
theorem ones (m:Int) (h0:0<=m) (h1:m<256) (w:World):
  Calls Tryz.prog 241 #[.int .u64 m] w λe w'=>e= .returned (.int .i64 (L.count m))/\w=w':=by
 go_enter Tryz.func241,Tryz.ntmps241
 go_wp2_with (go_at_call 270;refine(b4R _ h0 h1 _).mono ?_;rintro e w' ⟨rfl,rfl⟩)
 go_ret
 exact⟨rfl,rfl⟩
set_option maxHeartbeats 400000 in
theorem p9 (m:Int) (w:World):
  Calls Tryz.prog 192 #[.int .i64 m] w λe w'=>e= .returned (.int .i64 (L.count m))/\w=w':=by
 by_cases h:0<=m/\m<256
 ·have hs:L.set m=true:=by simp[L.set,h]
  obtain⟨h0,h1⟩:=h
  go_enter Tryz.func192,Tryz.ntmps192
  go_wp2_with (first | (go_at_call 171;refine(H3 _ _).mono ?_;rintro e w' ⟨rfl,rfl⟩) | (go_at_call 241;refine(ones _ h0 h1 _).mono ?_;rintro e w' ⟨rfl,rfl⟩))
  go_ret
  exact⟨rfl,rfl⟩
 ·have hs:L.set m=false:=by simp[L.set];omega
  have hb:=Lib.hid (show(L.count m:Int)=0 by simp[L.count,L.dies,hs])
  go_enter Tryz.func192,Tryz.ntmps192
  go_wp2_with (first | (go_at_call 171;refine(H3 _ _).mono ?_;rintro e w' ⟨rfl,rfl⟩))
  go_ret
  exact⟨H7 hb.out.symm,rfl⟩

set_option maxHeartbeats 400000 in
theorem a5c (m i:Int) (hi0: -1000000<=i) (hi1:i<=1000000) (w:World):
  Calls Tryz.prog 195 #[.int .i64 m, .int .i64 i] w λe w'=>e= .returned (.int .i64 (L.at_ m i))/\w=w':=by
 go_enter Tryz.func195,Tryz.ntmps195
 go_wp2
 go_loop [1,6] (λj c=>∃k:Nat,k<=8/\c= .int .i64 k/\j= .int .i64 (i-L.below m k)/\(0<=i->(L.below m k:Int)<=i)) (λ_ c=>8-(intOf c).toNat)
 case atStart=>exact⟨0,by omega,rfl,by rw[L.below_zero];simp,λh=>by rw[L.below_zero];exact h⟩
 case round=>
  obtain⟨k,hk,rfl,rfl,hlow⟩:=hrel;have hbl:L.below m k<=8:=Nat.le_trans (List.length_filter_le _ _) (by simp)
  by_cases hlt:k<8
  ·have hs:=L.below_succ m k hlt;have ha:=L.at_below m k hlt;cases hh:L.has m k
   ·rw[hh]at hs;have hs:=Lib.hid hs;clear ha
    go_wp2_with (go_at_call 120;refine(P6 _ _ _).mono ?_;rintro e w' ⟨rfl,rfl⟩)
    go_round
    case rel=>exact⟨k+1,by omega,by go_num,by rw[hs.out];rfl,by rw[hs.out];exact hlow⟩
    case measure=>simp[intOf];omega
   ·have ha:=Lib.hid (ha hh);rw[hh]at hs;have hs:=Lib.hid hs
    by_cases he:i=L.below m k
    ·have he':(i-(L.below m k:Int)==0)=true:=by simp;omega
     have ha:Hid (L.at_ m i=k):=by rw[he];exact ha
     clear he
     go_wp2_with (go_at_call 120;refine(P6 _ _ _).mono ?_;rintro e w' ⟨rfl,rfl⟩)
     go_ret
     exact⟨H7 ha.out.symm,rfl⟩
    ·have he':(i-(L.below m k:Int)==0)=false:=by simp;omega
     have hlow':0<=i->(L.below m k:Int)+1<=i:=λh=>by have:=hlow h;omega
     clear he hlow
     go_wp2_with (go_at_call 120;refine(P6 _ _ _).mono ?_;rintro e w' ⟨rfl,rfl⟩)
     go_round
     case rel=>exact⟨k+1,by omega,by go_num,by rw[hs.out];simp;omega,by rw[hs.out];simpa using hlow'⟩
     case measure=>simp[intOf];omega
  ·have:k=8:=by omega
   subst this;rw[L.below_eight]at hlow;have ha:=Lib.hid (L.at_ge m i (by omega));clear hlow
   go_wp2
   go_ret
   exact⟨H7 ha.out.symm,rfl⟩

theorem b4g (m:Int) (d:Int) (hh:L.has m d=true):(L.count (bits .and .i64 m (L.all d)):Int)=L.spot m d:=by
 obtain⟨h1,h2,h3,h4⟩:=L.has_lt m d hh;rw[<- L.spot_eq m d hh];obtain⟨m,rfl⟩:=Int.eq_ofNat_of_zero_le h3;obtain⟨d,rfl⟩:=Int.eq_ofNat_of_zero_le h1;have h5:(2:Nat)^d-1<9223372036854775808:=Nat.lt_of_le_of_lt (Nat.le_trans (Nat.sub_le _ _) (Nat.pow_le_pow_right (by omega) (by omega:d<=8))) (by decide);rw[L.all,if_pos (by omega),V9 _ _ (by omega) (by simpa using h5)];simp only[Int.toNat_natCast]

set_option maxHeartbeats 400000 in
theorem a4b (m d:Int) (w:World):
  Calls Tryz.prog 326 #[.int .i64 m, .int .i64 d] w λe w'=>e= .returned (.int .i64 (L.spot m d))/\w=w':=by
 cases hh:L.has m d
 ·have hb:=Lib.hid (show L.spot m d= -1 by simp[L.spot,hh])
  go_enter Tryz.func326,Tryz.ntmps326
  go_wp2_with (first | (go_at_call 120;refine(P6 _ _ _).mono ?_;rintro e w' ⟨rfl,rfl⟩))
  go_ret
  exact⟨H7 hb.out.symm,rfl⟩
 ·have hb:=Lib.hid (b4g m d hh)
  go_enter Tryz.func326,Tryz.ntmps326
  go_wp2_with (first | (go_at_call 120;refine(P6 _ _ _).mono ?_;rintro e w' ⟨rfl,rfl⟩) | (go_at_call 208;refine(a6z _ _).mono ?_;rintro e w' ⟨rfl,rfl⟩) | (go_at_call 192;refine(p9 _ _).mono ?_;rintro e w' ⟨rfl,rfl⟩))
  go_ret
  exact⟨H7 hb.out,rfl⟩

set_option maxHeartbeats 400000 in
theorem E6 (n a b:Int) (w:World):
  Calls Tryz.prog 107 #[.int .i64 n, .int .i64 a, .int .i64 b] w λe w'=>e= .returned (.bool (decide (a<=n)&&decide (n<=b)))/\w=w':=by
 by_cases h0:a<=n
 ·go_enter Tryz.func107,Tryz.ntmps107
  go_wp2
  go_ret
  exact⟨D5 (by simp[h0]),rfl⟩
 ·go_enter Tryz.func107,Tryz.ntmps107
  go_wp2
  go_ret
  exact⟨D5 (by simp;omega),rfl⟩

set_option maxHeartbeats 400000 in
theorem a9J (m:Int) (w:World):
  Calls Tryz.prog 132 #[.int .i64 m] w λe w'=>e= .returned (.int .i64 (G.slots m))/\w=w':=by
 have hc:=L.count_le m
 by_cases h:L.count m<2
 ·have hs:=Lib.hid (show G.slots m=0 by simp[G.slots,h])
  go_enter Tryz.func132,Tryz.ntmps132
  go_wp2_with (go_at_call 192;refine(p9 _ _).mono ?_;rintro e w' ⟨rfl,rfl⟩)
  go_ret
  exact⟨H7 hs.out.symm,rfl⟩
 ·have hs:=Lib.hid (show G.slots m=(L.count m:Int)-1 by simp[G.slots,h])
  go_enter Tryz.func132,Tryz.ntmps132
  go_wp2_with (go_at_call 192;refine(p9 _ _).mono ?_;rintro e w' ⟨rfl,rfl⟩)
  go_ret
  exact⟨H7 hs.out.symm,rfl⟩

set_option maxHeartbeats 400000 in
theorem J9 (m b r:Int) (w:World):
  Calls Tryz.prog 164 #[.int .i64 m, .int .i64 b, .int .i64 r] w λe w'=>e= .returned (.int .i64 (G.parity m b r))/\∃n,w'=w.drewN n:=by
 have hc:=L.count_le m
 by_cases h:L.count m<2
 ·have hs:=Lib.hid (show G.parity m b r= -1 by simp[G.parity,h])
  go_enter Tryz.func164,Tryz.ntmps164
  go_wp2_with (go_at_call 192;refine(p9 _ _).mono ?_;rintro e w' ⟨rfl,rfl⟩)
  go_ret
  exact⟨H7 hs.out.symm,0,rfl⟩
 ·by_cases hb:b<0
  ·have hs:=Lib.hid (show G.parity m b r= -1 by simp[G.parity,hb])
   go_enter Tryz.func164,Tryz.ntmps164
   go_wp2_with (go_at_call 192;refine(p9 _ _).mono ?_;rintro e w' ⟨rfl,rfl⟩)
   go_ret
   exact⟨H7 hs.out.symm,0,rfl⟩
  ·by_cases hr:r<0
   ·have hs:=Lib.hid (show G.parity m b r= -1 by simp[G.parity,hr])
    go_enter Tryz.func164,Tryz.ntmps164
    go_wp2_with (go_at_call 192;refine(p9 _ _).mono ?_;rintro e w' ⟨rfl,rfl⟩)
    go_ret
    exact⟨H7 hs.out.symm,0,rfl⟩
   ·have hs:=Lib.hid (show G.parity m b r=L.at_ m ((b+r) % (L.count m:Int))by simp[G.parity,h,hb,hr]);have hn0:(0:Int)<(L.count m:Int):=by omega
    have h1:=Int.emod_nonneg b (by omega:(L.count m:Int)≠0);have h2:=Int.emod_lt_of_pos b hn0;have h3:=Int.emod_nonneg r (by omega:(L.count m:Int)≠0);have h4:=Int.emod_lt_of_pos r hn0;have h5:=Int.emod_nonneg (b+r) (by omega:(L.count m:Int)≠0);have h6:=Int.emod_lt_of_pos (b+r) hn0;have hne:¬L.count m=0:=by omega
    have e1:b.tmod (L.count m:Int)=b % (L.count m:Int):=Int.tmod_eq_emod_of_nonneg (by omega);have e2:r.tmod (L.count m:Int)=r % (L.count m:Int):=Int.tmod_eq_emod_of_nonneg (by omega);have e3:(b % (L.count m:Int)+r % (L.count m:Int)).tmod (L.count m:Int)=(b % (L.count m:Int)+r % (L.count m:Int)) % (L.count m:Int):=Int.tmod_eq_emod_of_nonneg (by omega);have e4:IntKind.i64.wrap (b % (L.count m:Int)+r % (L.count m:Int))=b % (L.count m:Int)+r % (L.count m:Int):=IntWalk.i64_in _ (by omega)
    go_enter Tryz.func164,Tryz.ntmps164
    go_wp2_with (first | (go_at_call 192;refine(p9 _ _).mono ?_;rintro e w' ⟨rfl,rfl⟩))
    go_quiet ((go_at_call 195;exact Calls.quiet_of_same ((a5c _ _ (by omega) (by omega) _).mono λ_ _ h=>⟨h.1,h.2.symm⟩)))
    go_wp2
    go_ret
    exact⟨H7 hs.out.symm,_,rfl⟩

set_option maxHeartbeats 400000 in
theorem b3P (m b r s:Int) (h0: -1000000<=s) (h1:s<=1000000) (w:World):
  Calls Tryz.prog 136 #[.int .i64 m, .int .i64 b, .int .i64 r, .int .i64 s] w λe w'=>e= .returned (.int .i64 (G.die m b r s))/\∃n,w'=w.drewN n:=by
 by_cases hp:G.parity m b r<0
 ·have hs:=Lib.hid (show G.die m b r s= -1 by simp[G.die,hp])
  go_enter Tryz.func136,Tryz.ntmps136
  go_wp2_with (go_at_call 164;refine(J9 _ _ _ _).mono ?_;rintro e w' ⟨rfl,n,rfl⟩)
  go_ret
  exact⟨H7 hs.out.symm,_,rfl⟩
 ·have hs:=Lib.hid (show G.die m b r s=L.at_ (L.without m (G.parity m b r)) s by simp[G.die,hp])
  go_enter Tryz.func136,Tryz.ntmps136
  go_wp2_with (first | (go_at_call 164;refine(J9 _ _ _ _).mono ?_;rintro e w' ⟨rfl,n,rfl⟩) | (go_at_call 196;refine(Q9 _ _ _).mono ?_;rintro e w' ⟨rfl,rfl⟩) | (go_at_call 195;refine(a5c _ _ h0 h1 _).mono ?_;rintro e w' ⟨rfl,rfl⟩))
  go_ret
  exact⟨H7 hs.out.symm,_,rfl⟩

set_option maxHeartbeats 400000 in
theorem b1Y (m b r s:Int) (w:World):
  Calls Tryz.prog 322 #[.int .i64 m, .int .i64 b, .int .i64 r, .int .i64 s] w λe w'=>e= .returned (.int .i64 (G.slot m b r s))/\∃n,w'=w.drewN n:=by
 by_cases hp:G.parity m b r<0
 ·have hs:=Lib.hid (show G.slot m b r s= -1 by simp[G.slot,hp])
  go_enter Tryz.func322,Tryz.ntmps322
  go_wp2_with (go_at_call 164;refine(J9 _ _ _ _).mono ?_;rintro e w' ⟨rfl,n,rfl⟩)
  go_ret
  exact⟨H7 hs.out.symm,_,rfl⟩
 ·have hs:=Lib.hid (show G.slot m b r s=L.spot (L.without m (G.parity m b r)) s by simp[G.slot,hp])
  go_enter Tryz.func322,Tryz.ntmps322
  go_wp2_with (first | (go_at_call 164;refine(J9 _ _ _ _).mono ?_;rintro e w' ⟨rfl,n,rfl⟩) | (go_at_call 196;refine(Q9 _ _ _).mono ?_;rintro e w' ⟨rfl,rfl⟩) | (go_at_call 326;refine(a4b _ _ _).mono ?_;rintro e w' ⟨rfl,rfl⟩))
  go_ret
  exact⟨H7 hs.out.symm,_,rfl⟩

def Z8 (d b p:Int):Bool:=decide (3<=d/\d<=6)&&decide (8<=b/\b<=16)&&decide (2<=p/\p<=8)
set_option maxHeartbeats 400000 in
theorem b3O (d b p:Int) (w:World):
  Calls Tryz.prog 65 #[.agg #[.int .i64 d, .int .i64 b, .int .i64 p]] w λe w'=>e= .returned (.bool (Z8 d b p))/\Below w.heap.size w w':=by
 by_cases h1:3<=d/\d<=6
 ·have e1:(decide (3<=d)&&decide (d<=6))=true:=by simp[h1]
  by_cases h2:8<=b/\b<=16
  ·have e2:(decide (8<=b)&&decide (b<=16))=true:=by simp[h2]
   have hs:=Lib.hid (show Z8 d b p=(decide (2<=p)&&decide (p<=8))by simp[Z8,h1,h2])
   go_enter Tryz.func65,Tryz.ntmps65
   go_wp2_with (go_at_call 107;refine(E6 _ _ _ _).mono ?_;rintro e w' ⟨rfl,rfl⟩)
   go_ret
   exact⟨D5 hs.out.symm,(Below.refl _ _).alloc (Nat.le_refl _) _⟩
  ·have e2:(decide (8<=b)&&decide (b<=16))=false:=by simp;omega
   have hs:=Lib.hid (show Z8 d b p=false by simp[Z8,h2])
   go_enter Tryz.func65,Tryz.ntmps65
   go_wp2_with (go_at_call 107;refine(E6 _ _ _ _).mono ?_;rintro e w' ⟨rfl,rfl⟩)
   go_ret
   exact⟨D5 hs.out.symm,(Below.refl _ _).alloc (Nat.le_refl _) _⟩
 ·have e1:(decide (3<=d)&&decide (d<=6))=false:=by simp;omega
  have hs:=Lib.hid (show Z8 d b p=false by simp[Z8,h1])
  go_enter Tryz.func65,Tryz.ntmps65
  go_wp2_with (go_at_call 107;refine(E6 _ _ _ _).mono ?_;rintro e w' ⟨rfl,rfl⟩)
  go_ret
  exact⟨D5 hs.out.symm,(Below.refl _ _).alloc (Nat.le_refl _) _⟩

def a2Q (d b p x y z:Int):Bool:=decide (0<=x/\x<d)&&decide (0<=y/\y<b)&&decide (0<=z/\z<p)
set_option maxRecDepth 100000 in
set_option maxHeartbeats 400000 in
theorem b5e (d b p x y z:Int) (hd:0<=d/\d<=1000000) (hb:0<=b/\b<=1000000) (hp:0<=p/\p<=1000000) (w:World):
  Calls Tryz.prog 137 #[.agg #[.int .i64 d, .int .i64 b, .int .i64 p], .agg #[.int .i64 x, .int .i64 y, .int .i64 z]] w λe w'=>e= .returned (.bool (a2Q d b p x y z))/\Below w.heap.size w w':=by
 by_cases h1:0<=x/\x<d
 ·have e1:(decide (0<=x)&&decide (x<=d-1))=true:=by simp;omega
  by_cases h2:0<=y/\y<b
  ·have e2:(decide (0<=y)&&decide (y<=b-1))=true:=by simp;omega
   have hs:=Lib.hid (show a2Q d b p x y z=(decide (0<=z)&&decide (z<=p-1))by rw[Bool.eq_iff_iff];simp[a2Q,h1,h2];omega)
   go_enter Tryz.func137,Tryz.ntmps137
   go_wp2_with (go_at_call 107;refine(E6 _ _ _ _).mono ?_;rintro e w' ⟨rfl,rfl⟩)
   go_ret
   exact⟨D5 hs.out.symm,((Below.refl _ _).alloc (Nat.le_refl _) _).alloc (by simp) _⟩
  ·have e2:(decide (0<=y)&&decide (y<=b-1))=false:=by rw[Bool.eq_false_iff];simp;omega
   have hs:=Lib.hid (show a2Q d b p x y z=false by simp only[a2Q,h2,decide_false,Bool.and_false,Bool.false_and])
   go_enter Tryz.func137,Tryz.ntmps137
   go_wp2_with (go_at_call 107;refine(E6 _ _ _ _).mono ?_;rintro e w' ⟨rfl,rfl⟩)
   go_ret
   exact⟨D5 hs.out.symm,((Below.refl _ _).alloc (Nat.le_refl _) _).alloc (by simp) _⟩
 ·have e1:(decide (0<=x)&&decide (x<=d-1))=false:=by rw[Bool.eq_false_iff];simp;omega
  have hs:=Lib.hid (show a2Q d b p x y z=false by simp only[a2Q,h1,decide_false,Bool.false_and])
  go_enter Tryz.func137,Tryz.ntmps137
  go_wp2_with (go_at_call 107;refine(E6 _ _ _ _).mono ?_;rintro e w' ⟨rfl,rfl⟩)
  go_ret
  exact⟨D5 hs.out.symm,((Below.refl _ _).alloc (Nat.le_refl _) _).alloc (by simp) _⟩

abbrev A3:=Int×Int×Int
def a3c (a:A3):List Value:=[.int .i64 a.1, .int .i64 a.2.1, .int .i64 a.2.2]
def a3v (a:A3):Value:= .agg #[.int .i64 a.1, .int .i64 a.2.1, .int .i64 a.2.2]
theorem b1u:v8 Tryz.prog 100 52=some [.int .i64, .int .i64, .int .i64]:=by kernel_rfl
theorem b5k (a b:A3):j8 (a3c a) (a3c b)=decide (a=b):=by
 obtain⟨a1,a2,a3⟩:=a;obtain⟨b1,b2,b3⟩:=b;rw[Bool.eq_iff_iff];simp[a3c,j8,a0e]
theorem D7:KeyOk Tryz.prog 52 a3v where
 now:=⟨_,Tryz.underlying52,λ_ _=> .inl rfl⟩
 eq:=λa b w=>by
  have hm:∀xs,mkV Tryz.prog 52 xs= .agg xs.toArray:=λxs=>by simp[mkV,Tryz.underlying52]
  have:=y5 100 52 _ b1u 10000 (by omega) (a3c a) (a3c b) ⟨rfl,rfl,rfl,trivial⟩ ⟨rfl,rfl,rfl,trivial⟩ w;rw[b5k,hm,hm]at this;exact this
 check:=λe a w=>by kernel_rfl
 bits:=λa=>by
  obtain⟨a1,a2,a3⟩:=a;simp[a3v,Instr.sameBits]

def x9 (l:List A3):List (A3×Value):=l.map λa=>(a, .bool true)
theorem a1D (l:List A3) (a:A3):((r6 (x9 l) a).getD (.bool false)= .bool (decide (a∈l)))/\(r6 (x9 l) a).isSome=decide (a∈l):=by
 induction l with
 | nil=>exact⟨rfl,rfl⟩
 | cons x l ih=>
  simp only[x9,List.map_cons,r6]
  by_cases h:a=x
  ·simp[h]
  ·have:¬(a=(x,Value.bool true).1):=h;simp only[if_neg this,List.mem_cons,h,false_or];exact ih


def a9X (l:List A3) (a:A3):List A3:=if a∈l then l else l++[a]
theorem a7T (l:List A3) (a:A3):a0f (x9 l) a=x9 (l.erase a):=by
 induction l with
 | nil=>rfl
 | cons x l ih=>
  rw[List.erase_cons];simp only[x9,List.map_cons,a0f]
  by_cases h:a=x
  ·subst h;simp
  ·have h2:¬(x==a)=true:=by simpa using Ne.symm h
   rw[if_neg h,if_neg h2,List.map_cons];exact congrArg _ ih
theorem a7Q (l:List A3) (a:A3):I1 (x9 l) a (.bool true)=x9 (a9X l a):=by
 unfold a9X
 induction l with
 | nil=>rfl
 | cons x l ih=>
  simp only[x9,List.map_cons,I1]
  by_cases h:a=x
  ·subst h;simp
  ·rw[if_neg h];have:(a∈x::l)↔a∈l:=by simp[h]
   simp only[this];split
   ·rename_i h3;rw[if_pos h3]at ih;simp only[List.map_cons];exact congrArg _ ih
   ·rename_i h3;rw[if_neg h3]at ih;simp only[List.cons_append,List.map_cons];exact congrArg _ ih

end Go.Proofs.YtgkpkpbnonmopaaGreat
namespace Go.Proofs.YtgkpkpbnonmopaaGreat
open Go Go.RowKit
abbrev pp (n:Nat):Value:= .pointer (some ⟨n,0,none⟩)
abbrev iI (x:Int):Value:= .int .i64 x
abbrev si (k:Nat) (x:Int):Slot:=⟨k, .int .i64 x,0, .tt⟩
abbrev sp (k n:Nat):Slot:=⟨k, .pointer (some ⟨n,0,none⟩),0, .tt⟩
abbrev sv (k:Nat) (v:Value):Slot:=⟨k,v,0, .tt⟩
abbrev FP:=Fn Tryz.prog
theorem FE {f:FuncId} {args:List Value} {Pre:List Atom} {Post:Value->List Atom->Prop} {fn:Func} {c:Code} {N:Nat} (tags:List Nat) (hf:Tryz.prog.funcs[f]? =some fn)
  (h:∀(X:Cx) (F:HP),IsCx X Tryz.prog fn.results.toList N F Post->J X [.code c] (a1C keys args tags) (.hp F::Pre)) (hb:fn.body=some c:=by exact rfl) (hN:fn.ntmps=N:=by exact rfl) (hl:Nat.ble args.length N=true:=by exact rfl):Fn Tryz.prog f args Pre Post:=Fn.enter tags hf hb hN hl h
abbrev Ps (V:Value) (M:List Atom):Value->List Atom->Prop:=λv As=>v=V/\As=M
theorem aq_ (h:True:=by intros;(repeat' (first | exact Conj.nil | refine Conj.cons ?_ ?_ | omega | exact hq0 | (simpa using hq0) | (exactλh=>h) | exact rfl | (intro hq;have hq0:=hq;try simp only[Bool.and_eq_true,Bool.or_eq_true,decide_eq_true_eq,Bool.not_eq_true',decide_eq_false_iff_not]at hq) | (simp;done) | (simp;omega) | decide))):True:=h
theorem cpq {V:Value} {M:List Atom} {R:Value->List Atom->Prop} (h:R V M):∀v As,(v=V/\As=M)->R v As:=by
 rintro v As ⟨rfl,rfl⟩;exact h
section
variable {X : Cx} {K : List KI} {E : Env} {L : List Atom} {N : Nat} {F : HP} {Post : Value → List Atom → Prop} {rs : List ResultVar}
theorem J.q {K':(Nat->Nat)->List KI} {E':(Nat->Nat)->Env} {L':(Nat->Nat)->List Atom} {ob:(Nat->Nat)->List Prop} (hJ:∀bs,J X (K' bs) (E' bs) (L' bs))
  (hX:IsCx X Tryz.prog rs N F Post:=by assumption) (h:∀bs,Go.Proofs.YtgkpkpbnonmopaaGreat.run tab N bs 400 K E L [] 0=⟨K' bs,E' bs,L' bs,ob bs⟩:=by exactλ_=>rfl) (hob:autoParam (∀bs,Conj (ob bs)) aq_._auto_1):J X K E L:=J.run hX tk 400 h hob hJ
theorem J.ru (hX:IsCx X Tryz.prog rs N F Post) {v:Value} {ob:List Prop} (is:List Nat) (hP:Post v (n6 L is)) (h:a2o tab E L rs=some (v,ob):=by exact rfl) (ok:p6 L (0::is)=true:=by exact rfl) (h0:m6 L 0=some (.hp F):=by exact rfl) (hob:autoParam (Conj ob) aq_._auto_1):J X (.code .ret::K) E L:=J.ret hX tk is h hob ok h0 hP
theorem J.cb {ops:Array Oper} {C:Cl} {l:Bool} {i:Nat} {t:PT} {o:Oper} {g:G} {f:FuncId} {vs:List Value} {ob:List Prop} {Pre:List Atom} {Po:Value->List Atom->Prop} {E':Value->Env}
  (c:Fn Tryz.prog f vs Pre Po) (is:List Nat) (hJ:∀v As,Po v As->∃L',H9 L is As=some L'/\Conj (p4 l C L')/\J X (.reg ops C t::K) (E' v) L') (hX:IsCx X Tryz.prog rs N F Post:=by assumption) (ho:m6 ops.toList i=some o:=by exact rfl) (hg:gd ops.toList E o=some g:=by exact rfl) (hgo:g.on=true:=by exact rfl) (hc:a3g E o.op=some (f,vs,ob):=by exact rfl) (hf:m5 Tryz.prog f=true:=by kernel_rfl) (ok:p6 L is=true:=by exact rfl) (hp:n6 L is=Pre:=by exact rfl)
  (hd:∀v,y9 N o.dst v 0 .tt E=some (E' v):=by exactλ_=>rfl) (hob:autoParam (Conj ob) aq_._auto_1):J X (.reg ops C (.alt l i t .non)::K) E L:=J.call hX hf c is 0 ho hg hgo hc hob ok hp hd hJ
theorem J.qn (n:Nat) {K':(Nat->Nat)->List KI} {E':(Nat->Nat)->Env} {L':(Nat->Nat)->List Atom} {ob:(Nat->Nat)->List Prop} (hJ:∀bs,J X (K' bs) (E' bs) (L' bs))
  (hX:IsCx X Tryz.prog rs N F Post:=by assumption) (h:∀bs,Go.Proofs.YtgkpkpbnonmopaaGreat.run tab N bs n K E L [] 0=⟨K' bs,E' bs,L' bs,ob bs⟩:=by exactλ_=>rfl) (hob:autoParam (∀bs,Conj (ob bs)) aq_._auto_1):J X K E L:=J.run hX tk n h hob hJ
theorem J.cF {c:Operand} {x y:Code} {k tag:Nat} {b:Bool} (hJ:J X (.code y::K) E L) (hc:ev E c=some ⟨k, .bool b,tag, .tt⟩:=by exact rfl) (hb:b=false:=by first | exact rfl | decide | simp):J X (.code (.cond c x y)::K) E L:=J.cond hc (λh=>by rw[hb]at h;cases h) (λ_=>hJ)
theorem J.cT {c:Operand} {x y:Code} {k tag:Nat} {b:Bool} (hJ:J X (.code x::K) E L) (hc:ev E c=some ⟨k, .bool b,tag, .tt⟩:=by exact rfl) (hb:b=true:=by first | exact rfl | decide | simp):J X (.code (.cond c x y)::K) E L:=J.cond hc (λ_=>hJ) (λh=>by rw[hb]at h;cases h)
theorem J.qd {K' K2:(Nat->Nat)->List KI} {E':(Nat->Nat)->Env} {L':(Nat->Nat)->List Atom} {ob:(Nat->Nat)->List Prop} {c:(Nat->Nat)->Operand} {x y:(Nat->Nat)->Code} {k tag:(Nat->Nat)->Nat} {b:(Nat->Nat)->Bool} (h1:∀bs,b bs=true->J X (.code (x bs)::K2 bs) (E' bs) (L' bs)) (h2:∀bs,b bs=false->J X (.code (y bs)::K2 bs) (E' bs) (L' bs))
  (hX:IsCx X Tryz.prog rs N F Post:=by assumption) (h:∀bs,Go.Proofs.YtgkpkpbnonmopaaGreat.run tab N bs 400 K E L [] 0=⟨K' bs,E' bs,L' bs,ob bs⟩:=by exactλ_=>rfl) (hob:autoParam (∀bs,Conj (ob bs)) aq_._auto_1) (hk:∀bs,K' bs= .code (.cond (c bs) (x bs) (y bs))::K2 bs:=by exactλ_=>rfl) (hc:∀bs,ev (E' bs) (c bs)=some ⟨k bs, .bool (b bs),tag bs, .tt⟩:=by exactλ_=>rfl):J X K E L:=J.run hX tk 400 h hob λbs=>by rw[hk bs];exact J.cond (hc bs) (h1 bs) (h2 bs)
theorem J.qF {K' K2:(Nat->Nat)->List KI} {E':(Nat->Nat)->Env} {L':(Nat->Nat)->List Atom} {ob:(Nat->Nat)->List Prop} {c:(Nat->Nat)->Operand} {x y:(Nat->Nat)->Code} {k tag:(Nat->Nat)->Nat} {b:(Nat->Nat)->Bool} (hJ:∀bs,J X (.code (y bs)::K2 bs) (E' bs) (L' bs))
  (hX:IsCx X Tryz.prog rs N F Post:=by assumption) (h:∀bs,Go.Proofs.YtgkpkpbnonmopaaGreat.run tab N bs 400 K E L [] 0=⟨K' bs,E' bs,L' bs,ob bs⟩:=by exactλ_=>rfl) (hob:autoParam (∀bs,Conj (ob bs)) aq_._auto_1) (hk:∀bs,K' bs= .code (.cond (c bs) (x bs) (y bs))::K2 bs:=by exactλ_=>rfl) (hc:∀bs,ev (E' bs) (c bs)=some ⟨k bs, .bool (b bs),tag bs, .tt⟩:=by exactλ_=>rfl) (hb:∀bs,b bs=false:=by intro bs;first | exact rfl | decide | simp):J X K E L:=J.run hX tk 400 h hob λbs=>by rw[hk bs];exact J.cond (hc bs) (λh=>by rw[hb]at h;cases h) (λ_=>hJ bs)
theorem J.qT {K' K2:(Nat->Nat)->List KI} {E':(Nat->Nat)->Env} {L':(Nat->Nat)->List Atom} {ob:(Nat->Nat)->List Prop} {c:(Nat->Nat)->Operand} {x y:(Nat->Nat)->Code} {k tag:(Nat->Nat)->Nat} {b:(Nat->Nat)->Bool} (hJ:∀bs,J X (.code (x bs)::K2 bs) (E' bs) (L' bs))
  (hX:IsCx X Tryz.prog rs N F Post:=by assumption) (h:∀bs,Go.Proofs.YtgkpkpbnonmopaaGreat.run tab N bs 400 K E L [] 0=⟨K' bs,E' bs,L' bs,ob bs⟩:=by exactλ_=>rfl) (hob:autoParam (∀bs,Conj (ob bs)) aq_._auto_1) (hk:∀bs,K' bs= .code (.cond (c bs) (x bs) (y bs))::K2 bs:=by exactλ_=>rfl) (hc:∀bs,ev (E' bs) (c bs)=some ⟨k bs, .bool (b bs),tag bs, .tt⟩:=by exactλ_=>rfl) (hb:∀bs,b bs=true:=by intro bs;first | exact rfl | decide | simp):J X K E L:=J.run hX tk 400 h hob λbs=>by rw[hk bs];exact J.cond (hc bs) (λ_=>hJ bs) (λh=>by rw[hb]at h;cases h)
theorem J.qr {K':(Nat->Nat)->List KI} {E':(Nat->Nat)->Env} {L':(Nat->Nat)->List Atom} {ob ob2:(Nat->Nat)->List Prop} {K2:(Nat->Nat)->List KI} {v:(Nat->Nat)->Value} (is:List Nat) (hP:∀bs,Post (v bs) (n6 (L' bs) is))
  (hX:IsCx X Tryz.prog rs N F Post:=by assumption) (h:∀bs,Go.Proofs.YtgkpkpbnonmopaaGreat.run tab N bs 400 K E L [] 0=⟨K' bs,E' bs,L' bs,ob bs⟩:=by exactλ_=>rfl) (hob:autoParam (∀bs,Conj (ob bs)) aq_._auto_1) (hk:∀bs,K' bs= .code .ret::K2 bs:=by exactλ_=>rfl) (hr:∀bs,a2o tab (E' bs) (L' bs) rs=some (v bs,ob2 bs):=by exactλ_=>rfl) (ok:∀bs,p6 (L' bs) (0::is)=true:=by exactλ_=>rfl) (h0:∀bs,m6 (L' bs) 0=some (.hp F):=by exactλ_=>rfl) (hob2:autoParam (∀bs,Conj (ob2 bs)) aq_._auto_1):J X K E L:=J.run hX tk 400 h hob λbs=>by rw[hk bs];exact J.ret hX tk is (hr bs) (hob2 bs) (ok bs) (h0 bs) (hP bs)
theorem J.qc {K' K2:(Nat->Nat)->List KI} {E':(Nat->Nat)->Env} {L':(Nat->Nat)->List Atom} {ob:(Nat->Nat)->List Prop} {ob2:(Nat->Nat)->List Prop} {ops:(Nat->Nat)->Array Oper} {C:(Nat->Nat)->Cl} {l:(Nat->Nat)->Bool} {i:(Nat->Nat)->Nat} {t:(Nat->Nat)->PT} {o:(Nat->Nat)->Oper} {g:(Nat->Nat)->G} {f:FuncId} {vs:List Value} {Pre:List Atom} {Po:Value->List Atom->Prop} {E2:(Nat->Nat)->Value->Env}
  (c:Fn Tryz.prog f vs Pre Po) (is:List Nat) (hJ:∀bs,∀v As,Po v As->∃L2,H9 (L' bs) is As=some L2/\Conj (p4 (l bs) (C bs) L2)/\J X (.reg (ops bs) (C bs) (t bs)::K2 bs) (E2 bs v) L2)
  (hX:IsCx X Tryz.prog rs N F Post:=by assumption) (h:∀bs,Go.Proofs.YtgkpkpbnonmopaaGreat.run tab N bs 400 K E L [] 0=⟨K' bs,E' bs,L' bs,ob bs⟩:=by exactλ_=>rfl) (hob:autoParam (∀bs,Conj (ob bs)) aq_._auto_1) (hk:∀bs,K' bs= .reg (ops bs) (C bs) (.alt (l bs) (i bs) (t bs) .non)::K2 bs:=by exactλ_=>rfl) (ho:∀bs,m6 (ops bs).toList (i bs)=some (o bs):=by exactλ_=>rfl) (hg:∀bs,gd (ops bs).toList (E' bs) (o bs)=some (g bs):=by exactλ_=>rfl) (hgo:∀bs,(g bs).on=true:=by exactλ_=>rfl) (hc:∀bs,a3g (E' bs) (o bs).op=some (f,vs,ob2 bs):=by exactλ_=>rfl) (hf:m5 Tryz.prog f=true:=by kernel_rfl) (ok:∀bs,p6 (L' bs) is=true:=by exactλ_=>rfl) (hp:∀bs,n6 (L' bs) is=Pre:=by exactλ_=>rfl)
  (hd:∀bs v,y9 N (o bs).dst v 0 .tt (E' bs)=some (E2 bs v):=by exactλ_ _=>rfl) (hob2:autoParam (∀bs,Conj (ob2 bs)) aq_._auto_1):J X K E L:=J.run hX tk 400 h hob λbs=>by rw[hk bs];exact J.call hX hf c is 0 (ho bs) (hg bs) (hgo bs) (hc bs) (hob2 bs) (ok bs) (hp bs) (hd bs) (hJ bs)
theorem J.qp {K' K2:(Nat->Nat)->List KI} {E':(Nat->Nat)->Env} {L':(Nat->Nat)->List Atom} {ob:(Nat->Nat)->List Prop} {ob2:(Nat->Nat)->List Prop} {ops:(Nat->Nat)->Array Oper} {C:(Nat->Nat)->Cl} {l:(Nat->Nat)->Bool} {i:(Nat->Nat)->Nat} {t:(Nat->Nat)->PT} {o:(Nat->Nat)->Oper} {g:(Nat->Nat)->G} {f:FuncId} {vs:List Value} {Pre M:List Atom} {V:Value} {E2:(Nat->Nat)->Value->Env} {L2:(Nat->Nat)->List Atom}
  (c:Fn Tryz.prog f vs Pre (λv As=>v=V/\As=M)) (is:List Nat) (hJ:∀bs,J X (.reg (ops bs) (C bs) (t bs)::K2 bs) (E2 bs V) (L2 bs))
  (hX:IsCx X Tryz.prog rs N F Post:=by assumption) (h:∀bs,Go.Proofs.YtgkpkpbnonmopaaGreat.run tab N bs 400 K E L [] 0=⟨K' bs,E' bs,L' bs,ob bs⟩:=by exactλ_=>rfl) (hob:autoParam (∀bs,Conj (ob bs)) aq_._auto_1) (hk:∀bs,K' bs= .reg (ops bs) (C bs) (.alt (l bs) (i bs) (t bs) .non)::K2 bs:=by exactλ_=>rfl) (ho:∀bs,m6 (ops bs).toList (i bs)=some (o bs):=by exactλ_=>rfl) (hg:∀bs,gd (ops bs).toList (E' bs) (o bs)=some (g bs):=by exactλ_=>rfl) (hgo:∀bs,(g bs).on=true:=by exactλ_=>rfl) (hc:∀bs,a3g (E' bs) (o bs).op=some (f,vs,ob2 bs):=by exactλ_=>rfl) (hf:m5 Tryz.prog f=true:=by kernel_rfl) (ok:∀bs,p6 (L' bs) is=true:=by exactλ_=>rfl) (hp:∀bs,n6 (L' bs) is=Pre:=by exactλ_=>rfl)
  (hd:∀bs v,y9 N (o bs).dst v 0 .tt (E' bs)=some (E2 bs v):=by exactλ_ _=>rfl) (hob2:autoParam (∀bs,Conj (ob2 bs)) aq_._auto_1) (hl:∀bs,H9 (L' bs) is M=some (L2 bs):=by exactλ_=>rfl) (hs:∀bs,Conj (p4 (l bs) (C bs) (L2 bs)):=by intro bs;first | exact trivial | (repeat' (first | exact trivial | refine⟨rfl,?_⟩))):J X K E L:=J.qc c is (λbs v As ⟨e1,e2⟩=>by subst e1;subst e2;exact⟨_,hl bs,hs bs,hJ bs⟩) hX h hob hk ho hg hgo hc hf ok hp hd hob2
theorem b1l:Tryz.prog.follows .mixedOrders=true:=by kernel_rfl
theorem J.p {K' K2:(Nat->Nat)->List KI} {E':(Nat->Nat)->Env} {L':(Nat->Nat)->List Atom} {ob:(Nat->Nat)->List Prop} {id:(Nat->Nat)->Nat} {ops:(Nat->Nat)->Array Oper} (t:PT) (lt ro:List Nat) (hJ:∀bs,J X (.reg (ops bs) (snap (L' bs) ro) t::K2 bs) (E' bs) (L' bs)) (hX:IsCx X Tryz.prog rs N F Post:=by assumption) (h:∀bs,Go.Proofs.YtgkpkpbnonmopaaGreat.run tab N bs 400 K E L [] 0=⟨K' bs,E' bs,L' bs,ob bs⟩:=by exactλ_=>rfl) (hob:autoParam (∀bs,Conj (ob bs)) aq_._auto_1) (hk:∀bs,K' bs= .code (.region (id bs) (ops bs) true)::K2 bs:=by exactλ_=>rfl) (ht:∀bs,t.good (ops bs) lt=true:=by intro bs;kernel_rfl):J X K E L:=J.run hX tk 400 h hob λbs=>by rw[hk bs];exact J.plan t lt ro (by rw[hX.hP];exact b1l) (ht bs) (hJ bs)
theorem J.pq {K' K2:(Nat->Nat)->List KI} {E':(Nat->Nat)->Env} {L':(Nat->Nat)->List Atom} {ob:(Nat->Nat)->List Prop} {id:(Nat->Nat)->Nat} {ops:(Nat->Nat)->Array Oper} {K3:(Nat->Nat)->(Nat->Nat)->List KI} {E3:(Nat->Nat)->(Nat->Nat)->Env} {L3:(Nat->Nat)->(Nat->Nat)->List Atom} {ob3:(Nat->Nat)->(Nat->Nat)->List Prop} (t:PT) (lt ro:List Nat) (hJ:∀bs cs,J X (K3 bs cs) (E3 bs cs) (L3 bs cs)) (hX:IsCx X Tryz.prog rs N F Post:=by assumption) (h:∀bs,Go.Proofs.YtgkpkpbnonmopaaGreat.run tab N bs 400 K E L [] 0=⟨K' bs,E' bs,L' bs,ob bs⟩:=by exactλ_=>rfl) (hob:autoParam (∀bs,Conj (ob bs)) aq_._auto_1) (hk:∀bs,K' bs= .code (.region (id bs) (ops bs) true)::K2 bs:=by exactλ_=>rfl) (ht:∀bs,t.good (ops bs) lt=true:=by intro bs;kernel_rfl) (h3:∀bs cs,Go.Proofs.YtgkpkpbnonmopaaGreat.run tab N cs 400 (.reg (ops bs) (snap (L' bs) ro) t::K2 bs) (E' bs) (L' bs) [] 0=⟨K3 bs cs,E3 bs cs,L3 bs cs,ob3 bs cs⟩:=by exactλ_ _=>rfl) (hob3:autoParam (∀bs cs,Conj (ob3 bs cs)) aq_._auto_1):J X K E L:=J.p t lt ro (λbs=>J.run hX tk 400 (h3 bs) (hob3 bs) (hJ bs)) hX h hob hk ht
theorem J.pn {K' K2:(Nat->Nat)->List KI} {E':(Nat->Nat)->Env} {L':(Nat->Nat)->List Atom} {ob:(Nat->Nat)->List Prop} {id:(Nat->Nat)->Nat} {ops:(Nat->Nat)->Array Oper} {K3:(Nat->Nat)->(Nat->Nat)->List KI} {E3:(Nat->Nat)->(Nat->Nat)->Env} {L3:(Nat->Nat)->(Nat->Nat)->List Atom} {ob3:(Nat->Nat)->(Nat->Nat)->List Prop} (n:Nat) (t:PT) (lt ro:List Nat) (hJ:∀bs cs,J X (K3 bs cs) (E3 bs cs) (L3 bs cs)) (hX:IsCx X Tryz.prog rs N F Post:=by assumption) (h:∀bs,Go.Proofs.YtgkpkpbnonmopaaGreat.run tab N bs 400 K E L [] 0=⟨K' bs,E' bs,L' bs,ob bs⟩:=by exactλ_=>rfl) (hob:autoParam (∀bs,Conj (ob bs)) aq_._auto_1) (hk:∀bs,K' bs= .code (.region (id bs) (ops bs) true)::K2 bs:=by exactλ_=>rfl) (ht:∀bs,t.good (ops bs) lt=true:=by intro bs;kernel_rfl) (h3:∀bs cs,Go.Proofs.YtgkpkpbnonmopaaGreat.run tab N cs n (.reg (ops bs) (snap (L' bs) ro) t::K2 bs) (E' bs) (L' bs) [] 0=⟨K3 bs cs,E3 bs cs,L3 bs cs,ob3 bs cs⟩:=by exactλ_ _=>rfl) (hob3:autoParam (∀bs cs,Conj (ob3 bs cs)) aq_._auto_1):J X K E L:=J.p t lt ro (λbs=>J.run hX tk n (h3 bs) (hob3 bs) (hJ bs)) hX h hob hk ht
theorem J.v {ops:Array Oper} {C:Cl} {l:Bool} {i:Nat} {t:PT} {o:Oper} {g:G} {E':Env} (v:Value) (ho:m6 ops.toList i=some o) (hg:gd ops.toList E o=some g)
  (hr:g.on=true->∀a w,EnvOK N E a->Sep L (hl w)->(execOp a.eval o).run Tryz.prog w= .ok (.value v) w) (hJ:J X (.reg ops C t::K) E' L) (hX:IsCx X Tryz.prog rs N F Post:=by assumption) (hd:y9 N o.dst v 0 g E=some E':=by exact rfl) (hst:Conj (p4 l C L):=by trivial):J X (.reg ops C (.alt l i t .non)::K) E L:=J.val hX v 0 ho hg hr hd hst hJ
theorem J.vT {ops:Array Oper} {C:Cl} {q:Bool} {i:Nat} {t:PT} {o:Oper} {g:G} {E':Env} (v:Value) (ho:m6 ops.toList i=some o) (hg:gd ops.toList E o=some g)
  (hr:g.on=true->∀a w,EnvOK N E a->(q=false->CAt C w)->(execOp a.eval o).run Tryz.prog w= .ok (.value v) w) (hJ:J X (.reg ops C t::K) E' L) (hX:IsCx X Tryz.prog rs N F Post:=by assumption) (hd:y9 N o.dst v 0 g E=some E':=by exact rfl):J X (.reg ops C (.take q i t)::K) E L:=J.valT hX v 0 ho hg hr hd hJ
theorem J.qx {K':(Nat->Nat)->List KI} {E':(Nat->Nat)->Env} {L':(Nat->Nat)->List Atom} {ob ob2:(Nat->Nat)->List Prop} {K2:(Nat->Nat)->List KI} {v:(Nat->Nat)->Value} (is:List Nat)
  (hX:IsCx X Tryz.prog rs N F Post:=by assumption) (h:∀bs,Go.Proofs.YtgkpkpbnonmopaaGreat.run tab N bs 400 K E L [] 0=⟨K' bs,E' bs,L' bs,ob bs⟩:=by exactλ_=>rfl) (hob:autoParam (∀bs,Conj (ob bs)) aq_._auto_1) (hk:∀bs,K' bs= .code .ret::K2 bs:=by exactλ_=>rfl) (hr:∀bs,a2o tab (E' bs) (L' bs) rs=some (v bs,ob2 bs):=by exactλ_=>rfl) (ok:∀bs,p6 (L' bs) (0::is)=true:=by exactλ_=>rfl) (h0:∀bs,m6 (L' bs) 0=some (.hp F):=by exactλ_=>rfl) (hob2:autoParam (∀bs,Conj (ob2 bs)) aq_._auto_1) (hP:∀bs,Post (v bs) (n6 (L' bs) is):=by exactλ_=>⟨rfl,rfl⟩):J X K E L:=J.qr is hP hX h hob hk hr ok h0 hob2
theorem J.f {v:Value} {ob:List Prop} (is:List Nat) (hP:Post v (n6 L is)) (hX:IsCx X Tryz.prog rs N F Post:=by assumption) (h:a2o tab E L rs=some (v,ob):=by exact rfl) (ok:p6 L (0::is)=true:=by exact rfl) (h0:m6 L 0=some (.hp F):=by exact rfl) (hob:autoParam (Conj ob) aq_._auto_1):J X [] E L:=J.fin hX tk is h hob ok h0 hP
theorem J.o {α:Type} {f:α->List Atom} {L':α->List Atom} (i:Nat) (h:∀x,J X K E (L' x)) (ok:p6 L [i]=true:=by exact rfl) (hp:n6 L [i]=[exA f]:=by exact rfl) (hL:∀x,H9 L [i] (f x)=some (L' x):=by exactλ_=>rfl):J X K E L:=J.open_ i ok hp hL h
theorem J.cl {α:Type} (f:α->List Atom) {L':List Atom} (x:α) (is:List Nat) (h:J X K E L') (ok:p6 L is=true:=by exact rfl) (hp:n6 L is=f x:=by exact rfl) (hL:H9 L is [exA f]=some L':=by exact rfl):J X K E L:=J.close x is ok hp hL h
theorem J.s1 {ops:Array Oper} {C:Cl} {lt:Bool} {i:Nat} {t:PT} {o:Oper} {g:G} {ty0:TypeId} {x y:Operand} {k1 k2 t1 t2 b off ty:Nat} {g1 g2:G} {v:Value} {cs:List Value} {ti:TI} {E':Value->Env} {L2:List Atom} (is:Nat) (cs':List Value) (hlt:off<cs.length) (hcs:cs.set off v=cs') (hJ:J X (.reg ops C t::K) (E' undef) L2) (hX:IsCx X Tryz.prog rs N F Post:=by assumption)
  (ho:m6 ops.toList i=some o:=by exact rfl) (hg:gd ops.toList E o=some g:=by exact rfl) (hgo:g.on=true:=by exact rfl) (hop:o.op= .store ty0 x y:=by exact rfl) (hx:ev E x=some ⟨k1, .pointer (some ⟨b,off,none⟩),t1,g1⟩:=by exact rfl) (v1:g1.on=true:=by exact rfl) (hy:ev E y=some ⟨k2,v,t2,g2⟩:=by exact rfl) (v2:g2.on=true:=by exact rfl)
  (hti:tab.get ty0=some ti:=by exact rfl) (hsz:Nat.beq ti.size 1=true:=by exact rfl) (hc:v.cells.toList=[v]:=by exact rfl) (h1:v.oneCell'=true:=by exact rfl) (hL:m6 L is=some (.pt b ty cs):=by exact rfl) (hL2:n5 L is (.pt b ty cs')=some L2:=by exact rfl)
  (hd:∀v,y9 N o.dst v 0 .tt E=some (E' v):=by exactλ_=>rfl) (hs:Conj (p4 lt C L2):=by first | exact trivial | (repeat' (first | exact trivial | refine⟨rfl,?_⟩))):J X (.reg ops C (.alt lt i t .non)::K) E L:=J.store1 hX tk is ho hg hgo hop hx v1 hy v2 hti hsz hc h1 hL hlt cs' hcs hL2 hd ⟨hs,hJ⟩
theorem J.n {α:Type} {I:α->Prop} {Ei:α->Env} {Li:α->List Atom} {μ:α->Nat} {m:Nat} (x:α) (h1:I x) (h2:μ x<m) (is:List Nat) (ok:p6 L is=true:=by exact rfl) (hL:n6 L is=Li x:=by exact rfl) (h3:autoParam (Conj (a3t E (Ei x))) aq_._auto_1):
  J X (.stop (λa w=>Ext X.w0 w/\∃x',I x'/\μ x'<m/\EnvOK X.n (Ei x') a/\Sep (Li x') (hl w))::K) E L:=J.nextS x h1 h2 is h3 ok hL
theorem J.l {c:Code} {α:Type} (I:α->Prop) (Ei:α->Env) (is:List Nat) (As:α->List Atom) (μ:α->Nat) (x0:α) {Li:α->List Atom} (h0:I x0)
  (round:∀x,I x->J X (.code c:: .stop (λa w=>Ext X.w0 w/\∃x',I x'/\μ x'<μ x/\EnvOK X.n (Ei x') a/\Sep (Li x') (hl w))::K) (Ei x) (Li x)) (ok:p6 L is=true:=by exact rfl) (hA:n6 L is=As x0:=by exact rfl) (hLi:∀x,H9 L is (As x)=some (Li x):=by exactλ_=>rfl) (hE:autoParam (Conj (a3t E (Ei x0))) aq_._auto_1):J X (.code (.loop c)::K) E L:=J.loopN I Ei is As μ x0 h0 hE ok hA hLi round
end
def I3 (q:Nat) (l:List A3):Atom:=exA λmr:Nat=>[.pt q 177 [.map (some mr)],u4 mr a3v (x9 l)]
theorem b2P:Tryz.prog.underlying 175=some (.map 52 4):=by kernel_rfl
theorem a5W:FP 70 [] [] (λv As=>∃q,v=pp q/\As=[I3 q []]):=by
 refine FE [] Tryz.func70 λX F hX=>?_;refine J.q λbs=>?_;refine J.turn1 [1] rfl (As:=[u4 (bs 0) a3v (x9 [])]) (λh s=>?_) rfl ?_
 ·refine⟨λ_=>0,λi A hA=>?_⟩;cases i with
  | zero=>simp at hA;subst hA;exact⟨#[],0,res_some.2 ⟨rfl,s.get (i:=0) rfl⟩,rfl,by simp,by simp⟩
  | succ k=>simp at hA
 refine J.cl (λmr:Nat=>[.pt (bs 1) 177 [.map (some mr)],u4 mr a3v (x9 [])]) (bs 0) [2,1] ?_;refine J.qr [2] λ_=>?_;exact⟨bs 1,rfl,rfl⟩
theorem b4n (q:Nat) (l:List A3) (x y z:Int):FP 265 [pp q, .agg #[iI x,iI y,iI z]] [I3 q l]
  (Ps (.tuple #[.bool (decide ((x,y,z)∈l)), .bool (decide ((x,y,z)∈l))]) [I3 q l]):=by
 refine FE [2,0] Tryz.func265 λX F hX=>?_;refine J.o (α:=Nat) 1 λmr=>?_;refine J.qF λ_=>?_;refine J.pq (.of [0,4,8,13,17,21,24,28,32,36,40]) [10] [1,2,3] λ_ _=>?_;refine J.vT (.tuple #[.bool (decide ((x,y,z)∈l)), .bool (decide ((x,y,z)∈l))]) rfl rfl (λ_ a w he hC=>?_) ?_
 ·refine(l4 (key:=(x,y,z)) D7 b2P (z:= .bool false) (λw=>by kernel_rfl) rfl rfl rfl rfl he rfl rfl (hC rfl _ (d7 (i:=2) rfl))).trans ?_;simp only[(a1D l _).1,(a1D l _).2]
 refine J.cl (λmr:Nat=>[.pt q 177 [.map (some mr)],u4 mr a3v (x9 l)]) mr [1,2] ?_;exact J.qx [1]
theorem b5W (q:Nat) (l:List A3) (x y z:Int):FP 212 [pp q, .agg #[iI x,iI y,iI z], .bool true] [I3 q l]
  (Ps (.tuple #[]) [I3 q (a9X l (x,y,z))]):=by
 refine FE [2,0,0] Tryz.func212 λX F hX=>?_;refine J.o (α:=Nat) 1 λmr=>?_;refine J.qT λ_=>?_;refine J.pq (.of [0,4,8,13,17,20,27]) [6] [1,2,3] λ_ _=>?_;refine J.mapUpdate hX D7 b2P (x,y,z) 2 rfl rfl rfl rfl rfl rfl rfl rfl rfl rfl rfl rfl (λ_=>rfl) (by rw[a7Q];rfl) ⟨trivial,?_⟩;refine J.cl (λmr:Nat=>[.pt q 177 [.map (some mr)],u4 mr a3v (x9 (a9X l (x,y,z)))]) mr [1,2] ?_;refine J.q λ_=>?_;refine J.f [1] ?_;exact⟨rfl,rfl⟩
theorem b0C (q:Nat) (l:List A3) (x y z:Int):FP 238 [pp q, .agg #[iI x,iI y,iI z]] [I3 q l]
  (Ps (.bool (decide ((x,y,z)∈l))) [I3 q (l.erase (x,y,z))]):=by
 refine FE [2,0] Tryz.func238 λX F hX=>?_;refine J.qp (b4n q l x y z) [1] λ_=>?_;refine J.qd (λ_ h=>?_) λ_ h=>?_
 ·refine J.o (α:=Nat) 1 λmr=>?_;refine J.pq (.of [0,4,8,13,17,22]) [] [1,2] λ_ _=>?_;refine J.delete hX D7 b2P (x,y,z) 3 rfl rfl rfl rfl rfl rfl rfl rfl rfl rfl (λ_=>rfl) (by rw[a7T];rfl) ⟨⟨rfl,rfl,trivial⟩,?_⟩;refine J.cl (λmr:Nat=>[.pt q 177 [.map (some mr)],u4 mr a3v (x9 (l.erase (x,y,z)))]) mr [1,3] ?_;exact J.qx [1]
 ·refine J.qr [1] λ_=>?_;simp only[decide_eq_false_iff_not]at h;exact⟨rfl,by rw[List.erase_of_not_mem h];rfl⟩
end Go.Proofs.YtgkpkpbnonmopaaGreat
