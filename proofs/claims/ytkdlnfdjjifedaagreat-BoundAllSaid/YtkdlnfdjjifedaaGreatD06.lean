/- Helpers, proved here. No condition. -/
import Derived.Test.YtkdlnfdjjifedaaGreatD01
import Derived.Test.YtkdlnfdjjifedaaGreatD04
import Derived.Test.YtkdlnfdjjifedaaGreatD05
import Derived.WalkKit
set_option maxRecDepth 20000
set_option linter.all false
namespace Go.Proofs.YtkdlnfdjjifedaaGreat
open Go.RowKit

theorem has_bits (m d:Int) (h0:0<=m) (h1:m<256):(!(bits .and .i64 m (L.one d)==0))=L.has m d:=by
 obtain⟨m,rfl⟩:=Int.eq_ofNat_of_zero_le h0
 by_cases hd:0<=d/\d<8
 ·obtain⟨d,rfl⟩:=Int.eq_ofNat_of_zero_le hd.1;have h2:d<8:=by omega
  simp only[L.one,hd,and_self,if_true,Int.toNat_natCast];have h3:(2:Nat)^d<9223372036854775808:=Nat.lt_of_le_of_lt (Nat.pow_le_pow_right (by omega) (by omega:d<=8)) (by decide);rw[i64_and_nat _ _ (by omega) h3,nat_bit];have h4:L.has (m:Int) (d:Int)=m.testBit d:=by simp[L.has,L.set,h1];omega
  have h5:0<2^d:=Nat.pow_pos (by omega);have h6:¬(((2^d:Nat):Int)=0):=by omega
  rw[h4,Nat.testBit_eq_decide_div_mod_eq];rcases Nat.mod_two_eq_zero_or_one (m/2^d)with h | h
  ·simp[h]
  ·rw[h,Nat.one_mul,beq_eq_false_iff_ne.2 h6];rfl
 ·have:L.one d=0:=by simp[L.one,hd]
  rw[this];have h4:L.has (m:Int) d=false:=by
   simp only[L.has,Bool.and_eq_false_iff,decide_eq_false_iff_not];omega
  rw[h4,show(0:Int)=((0:Nat):Int)from rfl,i64_and_nat _ _ (by omega) (by omega)];simp

theorem one_cases (d:Int):L.one d=0\/∃k:Nat,k<8/\d=k/\L.one d=((2^k:Nat):Int):=by
 by_cases hd:0<=d/\d<8
 ·obtain⟨d,rfl⟩:=Int.eq_ofNat_of_zero_le hd.1;exact .inr ⟨d,by omega,rfl,by simp only[L.one,hd,and_self,if_true,Int.toNat_natCast]⟩
 ·exact .inl (by simp[L.one,hd])
theorem one_bd (d:Int):0<=L.one d/\L.one d<256:=by
 rcases one_cases d with h | ⟨k,hk,_,h⟩
 ·omega
 ·have:=Nat.pow_le_pow_right (n:=2) (by omega) (by omega:k<=7);rw[h];generalize 2^k=q at*;omega
theorem with_bits (m d:Int) (h0:0<=m) (h1:m<256):bits .or .i64 m (L.one d)=L.with_ m d:=by
 obtain⟨m,rfl⟩:=Int.eq_ofNat_of_zero_le h0;obtain⟨k,hk⟩:=Int.eq_ofNat_of_zero_le (one_bd d).1;have:=(one_bd d).2;rw[hk]at this ⊢;rw[i64_or_nat _ _ (by omega) (by omega)];simp[L.with_,L.set,hk,h1]
theorem without_dec:∀m,m<256->∀k,k<8->bits .andNot .i64 ((m:Nat):Int) ((2^k:Nat):Int)=((m&&& (255-2^k):Nat):Int):=by decide+kernel
theorem without_dec0:∀m,m<256->bits .andNot .i64 ((m:Nat):Int) 0=((m&&& 255:Nat):Int):=by decide+kernel
theorem without_bits (m d:Int) (h0:0<=m) (h1:m<256):bits .andNot .i64 m (L.one d)=L.without m d:=by
 obtain⟨m,rfl⟩:=Int.eq_ofNat_of_zero_le h0;have hs:L.set (m:Int)=true:=by simp[L.set];omega
 rcases one_cases d with h | ⟨k,hk,_,h⟩
 ·rw[h,without_dec0 _ (by omega)];simp only[L.without,hs,h,if_true,Int.toNat_natCast];rfl
 ·rw[h,without_dec _ (by omega) _ hk];simp only[L.without,hs,h,if_true,Int.toNat_natCast]

set_option maxHeartbeats 400000 in
theorem lane_set (m:Int) (w:World):
  Calls Tryz.prog 169 #[.int .i64 m] w λe w'=>e= .returned (.bool (L.set m))/\w=w':=by
 by_cases h0:0<=m
 ·go_enter Tryz.func169,Tryz.ntmps169
  go_wp2
  go_ret
  exact⟨retB (by simp[L.set,h0]),rfl⟩
 ·go_enter Tryz.func169,Tryz.ntmps169
  go_wp2
  go_ret
  exact⟨retB (by simp[L.set];omega),rfl⟩

set_option maxHeartbeats 400000 in
theorem lane_one (d:Int) (w:World):
  Calls Tryz.prog 170 #[.int .i64 d] w λe w'=>e= .returned (.int .i64 (L.one d))/\w=w':=by
 by_cases h0:d<0
 ·go_enter Tryz.func170,Tryz.ntmps170
  go_wp2
  go_ret
  exact⟨retI (by simp[L.one];omega),rfl⟩
 ·by_cases h8:8<=d
  ·go_enter Tryz.func170,Tryz.ntmps170
   go_wp2
   go_ret
   exact⟨retI (by simp[L.one];omega),rfl⟩
  ·obtain⟨d,rfl⟩:=Int.eq_ofNat_of_zero_le (by omega:0<=d);have:d<8:=by omega
   match d,this with
   | 0,_ | 1,_ | 2,_ | 3,_ | 4,_ | 5,_ | 6,_ | 7,_=>
    go_enter Tryz.func170,Tryz.ntmps170
    go_wp2
    go_ret
    exact⟨rfl,rfl⟩

set_option maxHeartbeats 400000 in
theorem lane_All (n:Int) (w:World):
  Calls Tryz.prog 206 #[.int .i64 n] w λe w'=>e= .returned (.int .i64 (L.all n))/\w=w':=by
 by_cases h0:n<0
 ·go_enter Tryz.func206,Tryz.ntmps206
  go_wp2
  go_ret
  exact⟨retI (by simp[L.all];omega),rfl⟩
 ·by_cases h8:8<n
  ·go_enter Tryz.func206,Tryz.ntmps206
   go_wp2
   go_ret
   exact⟨retI (by simp[L.all];omega),rfl⟩
  ·obtain⟨d,rfl⟩:=Int.eq_ofNat_of_zero_le (by omega:0<=n);have:d<9:=by omega
   match d,this with
   | 0,_ | 1,_ | 2,_ | 3,_ | 4,_ | 5,_ | 6,_ | 7,_ | 8,_=>
    go_enter Tryz.func206,Tryz.ntmps206
    go_wp2
    go_ret
    exact⟨rfl,rfl⟩

set_option maxHeartbeats 400000 in
theorem lane_Has (m d:Int) (w:World):
  Calls Tryz.prog 119 #[.int .i64 m, .int .i64 d] w λe w'=>e= .returned (.bool (L.has m d))/\w=w':=by
 by_cases h:0<=m/\m<256
 ·have hs:L.set m=true:=by simp[L.set,h]
  have hb:=Lib.hid (has_bits m d h.1 h.2)
  go_enter Tryz.func119,Tryz.ntmps119
  go_wp2_with (first | (go_at_call 169;refine(lane_set _ _).mono ?_;rintro e w' ⟨rfl,rfl⟩) | (go_at_call 170;refine(lane_one _ _).mono ?_;rintro e w' ⟨rfl,rfl⟩))
  go_ret
  exact⟨retB hb.out,rfl⟩
 ·have hs:L.set m=false:=by simp[L.set];omega
  have hb:=Lib.hid (show L.has m d=false by simp[L.has,hs])
  go_enter Tryz.func119,Tryz.ntmps119
  go_wp2_with (first | (go_at_call 169;refine(lane_set _ _).mono ?_;rintro e w' ⟨rfl,rfl⟩) | (go_at_call 170;refine(lane_one _ _).mono ?_;rintro e w' ⟨rfl,rfl⟩))
  go_ret
  exact⟨retB hb.out.symm,rfl⟩

set_option maxHeartbeats 400000 in
theorem lane_With (m d:Int) (w:World):
  Calls Tryz.prog 145 #[.int .i64 m, .int .i64 d] w λe w'=>e= .returned (.int .i64 (L.with_ m d))/\w=w':=by
 by_cases h:0<=m/\m<256
 ·have hs:L.set m=true:=by simp[L.set,h]
  have hb:=Lib.hid (with_bits m d h.1 h.2)
  go_enter Tryz.func145,Tryz.ntmps145
  go_wp2_with (first | (go_at_call 169;refine(lane_set _ _).mono ?_;rintro e w' ⟨rfl,rfl⟩) | (go_at_call 170;refine(lane_one _ _).mono ?_;rintro e w' ⟨rfl,rfl⟩))
  go_ret
  exact⟨retI hb.out,rfl⟩
 ·have hs:L.set m=false:=by simp[L.set];omega
  have hb:=Lib.hid (show L.with_ m d=0 by simp[L.with_,hs])
  go_enter Tryz.func145,Tryz.ntmps145
  go_wp2_with (first | (go_at_call 169;refine(lane_set _ _).mono ?_;rintro e w' ⟨rfl,rfl⟩) | (go_at_call 170;refine(lane_one _ _).mono ?_;rintro e w' ⟨rfl,rfl⟩))
  go_ret
  exact⟨retI hb.out.symm,rfl⟩

set_option maxHeartbeats 400000 in
theorem lane_Without (m d:Int) (w:World):
  Calls Tryz.prog 194 #[.int .i64 m, .int .i64 d] w λe w'=>e= .returned (.int .i64 (L.without m d))/\w=w':=by
 by_cases h:0<=m/\m<256
 ·have hs:L.set m=true:=by simp[L.set,h]
  have hb:=Lib.hid (without_bits m d h.1 h.2)
  go_enter Tryz.func194,Tryz.ntmps194
  go_wp2_with (first | (go_at_call 169;refine(lane_set _ _).mono ?_;rintro e w' ⟨rfl,rfl⟩) | (go_at_call 170;refine(lane_one _ _).mono ?_;rintro e w' ⟨rfl,rfl⟩))
  go_ret
  exact⟨retI hb.out,rfl⟩
 ·have hs:L.set m=false:=by simp[L.set];omega
  have hb:=Lib.hid (show L.without m d=0 by simp[L.without,hs])
  go_enter Tryz.func194,Tryz.ntmps194
  go_wp2_with (first | (go_at_call 169;refine(lane_set _ _).mono ?_;rintro e w' ⟨rfl,rfl⟩) | (go_at_call 170;refine(lane_one _ _).mono ?_;rintro e w' ⟨rfl,rfl⟩))
  go_ret
  exact⟨retI hb.out.symm,rfl⟩

def oc1 (m:Int):Int:=IntKind.u64.wrap (bits BinOp.and IntKind.u64 (m/2) 6148914691236517205+bits BinOp.and IntKind.u64 m 6148914691236517205)
def oc2 (x:Int):Int:=IntKind.u64.wrap (bits BinOp.and IntKind.u64 (x/4) 3689348814741910323+bits BinOp.and IntKind.u64 x 3689348814741910323)
def oc3 (x:Int):Int:=bits BinOp.and IntKind.u64 (IntKind.u64.wrap (x/16+x)) 1085102592571150095
def oc4 (x:Int):Int:=IntKind.u64.wrap (x+x/256)
def oc5 (x:Int):Int:=IntKind.u64.wrap (x+x/65536)
def oc6 (x:Int):Int:=IntKind.u64.wrap (x+x/4294967296)
def oc (m:Int):Int:=bits BinOp.and IntKind.i64 (wrap64 (oc6 (oc5 (oc4 (oc3 (oc2 (oc1 m))))))) 127
theorem oc_dec:∀m,m<256->oc ((m:Nat):Int)=(L.count (m:Int):Int):=by decide+kernel
theorem oc_eq (m:Int) (h0:0<=m) (h1:m<256):oc m=(L.count m:Int):=by
 obtain⟨m,rfl⟩:=Int.eq_ofNat_of_zero_le h0;exact oc_dec m (by omega)
set_option maxHeartbeats 400000 in
theorem ones64 (m:Int) (h0:0<=m) (h1:m<256) (w:World):
  Calls Tryz.prog 266 #[.int .u64 m] w λe w'=>e= .returned (.int .i64 (L.count m))/\w=w':=by
 have hoc:=Lib.hid (oc_eq m h0 h1)
 go_enter Tryz.func266,Tryz.ntmps266
 go_wp2
 go_ret
 exact⟨retI hoc.out,rfl⟩
set_option maxHeartbeats 400000 in
theorem ones (m:Int) (h0:0<=m) (h1:m<256) (w:World):
  Calls Tryz.prog 237 #[.int .u64 m] w λe w'=>e= .returned (.int .i64 (L.count m))/\w=w':=by
 go_enter Tryz.func237,Tryz.ntmps237
 go_wp2_with (go_at_call 266;refine(ones64 _ h0 h1 _).mono ?_;rintro e w' ⟨rfl,rfl⟩)
 go_ret
 exact⟨rfl,rfl⟩
set_option maxHeartbeats 400000 in
theorem lane_Count (m:Int) (w:World):
  Calls Tryz.prog 190 #[.int .i64 m] w λe w'=>e= .returned (.int .i64 (L.count m))/\w=w':=by
 by_cases h:0<=m/\m<256
 ·have hs:L.set m=true:=by simp[L.set,h]
  obtain⟨h0,h1⟩:=h
  go_enter Tryz.func190,Tryz.ntmps190
  go_wp2_with (first | (go_at_call 169;refine(lane_set _ _).mono ?_;rintro e w' ⟨rfl,rfl⟩) | (go_at_call 237;refine(ones _ h0 h1 _).mono ?_;rintro e w' ⟨rfl,rfl⟩))
  go_ret
  exact⟨rfl,rfl⟩
 ·have hs:L.set m=false:=by simp[L.set];omega
  have hb:=Lib.hid (show(L.count m:Int)=0 by simp[L.count,L.dies,hs])
  go_enter Tryz.func190,Tryz.ntmps190
  go_wp2_with (first | (go_at_call 169;refine(lane_set _ _).mono ?_;rintro e w' ⟨rfl,rfl⟩))
  go_ret
  exact⟨retI hb.out.symm,rfl⟩

set_option maxHeartbeats 400000 in
theorem lane_At (m i:Int) (hi0: -1000000<=i) (hi1:i<=1000000) (w:World):
  Calls Tryz.prog 193 #[.int .i64 m, .int .i64 i] w λe w'=>e= .returned (.int .i64 (L.at_ m i))/\w=w':=by
 go_enter Tryz.func193,Tryz.ntmps193
 go_wp2
 go_loop [1,6] (λj c=>∃k:Nat,k<=8/\c= .int .i64 k/\j= .int .i64 (i-L.below m k)/\(0<=i->(L.below m k:Int)<=i)) (λ_ c=>8-(intOf c).toNat)
 case atStart=>exact⟨0,by omega,rfl,by rw[L.below_zero];simp,λh=>by rw[L.below_zero];exact h⟩
 case round=>
  obtain⟨k,hk,rfl,rfl,hlow⟩:=hrel;have hbl:L.below m k<=8:=Nat.le_trans (List.length_filter_le _ _) (by simp)
  by_cases hlt:k<8
  ·have hs:=L.below_succ m k hlt;have ha:=L.at_below m k hlt;cases hh:L.has m k
   ·rw[hh]at hs;have hs:=Lib.hid hs;clear ha
    go_wp2_with (go_at_call 119;refine(lane_Has _ _ _).mono ?_;rintro e w' ⟨rfl,rfl⟩)
    go_round
    case rel=>exact⟨k+1,by omega,by go_num,by rw[hs.out];rfl,by rw[hs.out];exact hlow⟩
    case measure=>simp[intOf];omega
   ·have ha:=Lib.hid (ha hh);rw[hh]at hs;have hs:=Lib.hid hs
    by_cases he:i=L.below m k
    ·have he':(i-(L.below m k:Int)==0)=true:=by simp;omega
     have ha:Hid (L.at_ m i=k):=by rw[he];exact ha
     clear he
     go_wp2_with (go_at_call 119;refine(lane_Has _ _ _).mono ?_;rintro e w' ⟨rfl,rfl⟩)
     go_ret
     exact⟨retI ha.out.symm,rfl⟩
    ·have he':(i-(L.below m k:Int)==0)=false:=by simp;omega
     have hlow':0<=i->(L.below m k:Int)+1<=i:=λh=>by have:=hlow h;omega
     clear he hlow
     go_wp2_with (go_at_call 119;refine(lane_Has _ _ _).mono ?_;rintro e w' ⟨rfl,rfl⟩)
     go_round
     case rel=>exact⟨k+1,by omega,by go_num,by rw[hs.out];simp;omega,by rw[hs.out];simpa using hlow'⟩
     case measure=>simp[intOf];omega
  ·have:k=8:=by omega
   subst this;rw[L.below_eight]at hlow;have ha:=Lib.hid (L.at_ge m i (by omega));clear hlow
   go_wp2
   go_ret
   exact⟨retI ha.out.symm,rfl⟩

theorem all_and (m:Int) (d:Int) (hh:L.has m d=true):(L.count (bits .and .i64 m (L.all d)):Int)=L.spot m d:=by
 obtain⟨h1,h2,h3,h4⟩:=L.has_lt m d hh;rw[<- L.spot_eq m d hh];obtain⟨m,rfl⟩:=Int.eq_ofNat_of_zero_le h3;obtain⟨d,rfl⟩:=Int.eq_ofNat_of_zero_le h1;have h5:(2:Nat)^d-1<9223372036854775808:=Nat.lt_of_le_of_lt (Nat.le_trans (Nat.sub_le _ _) (Nat.pow_le_pow_right (by omega) (by omega:d<=8))) (by decide);rw[L.all,if_pos (by omega),i64_and_nat _ _ (by omega) (by simpa using h5)];simp only[Int.toNat_natCast]

set_option maxHeartbeats 400000 in
theorem lane_Spot (m d:Int) (w:World):
  Calls Tryz.prog 322 #[.int .i64 m, .int .i64 d] w λe w'=>e= .returned (.int .i64 (L.spot m d))/\w=w':=by
 cases hh:L.has m d
 ·have hb:=Lib.hid (show L.spot m d= -1 by simp[L.spot,hh])
  go_enter Tryz.func322,Tryz.ntmps322
  go_wp2_with (first | (go_at_call 119;refine(lane_Has _ _ _).mono ?_;rintro e w' ⟨rfl,rfl⟩))
  go_ret
  exact⟨retI hb.out.symm,rfl⟩
 ·have hb:=Lib.hid (all_and m d hh)
  go_enter Tryz.func322,Tryz.ntmps322
  go_wp2_with (first | (go_at_call 119;refine(lane_Has _ _ _).mono ?_;rintro e w' ⟨rfl,rfl⟩) | (go_at_call 206;refine(lane_All _ _).mono ?_;rintro e w' ⟨rfl,rfl⟩) | (go_at_call 190;refine(lane_Count _ _).mono ?_;rintro e w' ⟨rfl,rfl⟩))
  go_ret
  exact⟨retI hb.out,rfl⟩

set_option maxHeartbeats 400000 in
theorem geo_within (n a b:Int) (w:World):
  Calls Tryz.prog 107 #[.int .i64 n, .int .i64 a, .int .i64 b] w λe w'=>e= .returned (.bool (decide (a<=n)&&decide (n<=b)))/\w=w':=by
 by_cases h0:a<=n
 ·go_enter Tryz.func107,Tryz.ntmps107
  go_wp2
  go_ret
  exact⟨retB (by simp[h0]),rfl⟩
 ·go_enter Tryz.func107,Tryz.ntmps107
  go_wp2
  go_ret
  exact⟨retB (by simp;omega),rfl⟩

set_option maxHeartbeats 400000 in
theorem geo_Slots (m:Int) (w:World):
  Calls Tryz.prog 131 #[.int .i64 m] w λe w'=>e= .returned (.int .i64 (G.slots m))/\w=w':=by
 have hc:=L.count_le m
 by_cases h:L.count m<2
 ·have hs:=Lib.hid (show G.slots m=0 by simp[G.slots,h])
  go_enter Tryz.func131,Tryz.ntmps131
  go_wp2_with (go_at_call 190;refine(lane_Count _ _).mono ?_;rintro e w' ⟨rfl,rfl⟩)
  go_ret
  exact⟨retI hs.out.symm,rfl⟩
 ·have hs:=Lib.hid (show G.slots m=(L.count m:Int)-1 by simp[G.slots,h])
  go_enter Tryz.func131,Tryz.ntmps131
  go_wp2_with (go_at_call 190;refine(lane_Count _ _).mono ?_;rintro e w' ⟨rfl,rfl⟩)
  go_ret
  exact⟨retI hs.out.symm,rfl⟩

set_option maxHeartbeats 400000 in
theorem geo_Parity (m b r:Int) (w:World):
  Calls Tryz.prog 162 #[.int .i64 m, .int .i64 b, .int .i64 r] w λe w'=>e= .returned (.int .i64 (G.parity m b r))/\∃n,w'=w.drewN n:=by
 have hc:=L.count_le m
 by_cases h:L.count m<2
 ·have hs:=Lib.hid (show G.parity m b r= -1 by simp[G.parity,h])
  go_enter Tryz.func162,Tryz.ntmps162
  go_wp2_with (go_at_call 190;refine(lane_Count _ _).mono ?_;rintro e w' ⟨rfl,rfl⟩)
  go_ret
  exact⟨retI hs.out.symm,0,rfl⟩
 ·by_cases hb:b<0
  ·have hs:=Lib.hid (show G.parity m b r= -1 by simp[G.parity,hb])
   go_enter Tryz.func162,Tryz.ntmps162
   go_wp2_with (go_at_call 190;refine(lane_Count _ _).mono ?_;rintro e w' ⟨rfl,rfl⟩)
   go_ret
   exact⟨retI hs.out.symm,0,rfl⟩
  ·by_cases hr:r<0
   ·have hs:=Lib.hid (show G.parity m b r= -1 by simp[G.parity,hr])
    go_enter Tryz.func162,Tryz.ntmps162
    go_wp2_with (go_at_call 190;refine(lane_Count _ _).mono ?_;rintro e w' ⟨rfl,rfl⟩)
    go_ret
    exact⟨retI hs.out.symm,0,rfl⟩
   ·have hs:=Lib.hid (show G.parity m b r=L.at_ m ((b+r) % (L.count m:Int))by simp[G.parity,h,hb,hr]);have hn0:(0:Int)<(L.count m:Int):=by omega
    have h1:=Int.emod_nonneg b (by omega:(L.count m:Int)≠0);have h2:=Int.emod_lt_of_pos b hn0;have h3:=Int.emod_nonneg r (by omega:(L.count m:Int)≠0);have h4:=Int.emod_lt_of_pos r hn0;have h5:=Int.emod_nonneg (b+r) (by omega:(L.count m:Int)≠0);have h6:=Int.emod_lt_of_pos (b+r) hn0;have hne:¬L.count m=0:=by omega
    have e1:b.tmod (L.count m:Int)=b % (L.count m:Int):=Int.tmod_eq_emod_of_nonneg (by omega);have e2:r.tmod (L.count m:Int)=r % (L.count m:Int):=Int.tmod_eq_emod_of_nonneg (by omega);have e3:(b % (L.count m:Int)+r % (L.count m:Int)).tmod (L.count m:Int)=(b % (L.count m:Int)+r % (L.count m:Int)) % (L.count m:Int):=Int.tmod_eq_emod_of_nonneg (by omega);have e4:IntKind.i64.wrap (b % (L.count m:Int)+r % (L.count m:Int))=b % (L.count m:Int)+r % (L.count m:Int):=IntWalk.i64_in _ (by omega)
    go_enter Tryz.func162,Tryz.ntmps162
    go_wp2_with (first | (go_at_call 190;refine(lane_Count _ _).mono ?_;rintro e w' ⟨rfl,rfl⟩))
    go_quiet ((go_at_call 193;exact Calls.quiet_of_same ((lane_At _ _ (by omega) (by omega) _).mono λ_ _ h=>⟨h.1,h.2.symm⟩)))
    go_wp2
    go_ret
    exact⟨retI hs.out.symm,_,rfl⟩

set_option maxHeartbeats 400000 in
theorem geo_Die (m b r s:Int) (h0: -1000000<=s) (h1:s<=1000000) (w:World):
  Calls Tryz.prog 135 #[.int .i64 m, .int .i64 b, .int .i64 r, .int .i64 s] w λe w'=>e= .returned (.int .i64 (G.die m b r s))/\∃n,w'=w.drewN n:=by
 by_cases hp:G.parity m b r<0
 ·have hs:=Lib.hid (show G.die m b r s= -1 by simp[G.die,hp])
  go_enter Tryz.func135,Tryz.ntmps135
  go_wp2_with (go_at_call 162;refine(geo_Parity _ _ _ _).mono ?_;rintro e w' ⟨rfl,n,rfl⟩)
  go_ret
  exact⟨retI hs.out.symm,_,rfl⟩
 ·have hs:=Lib.hid (show G.die m b r s=L.at_ (L.without m (G.parity m b r)) s by simp[G.die,hp])
  go_enter Tryz.func135,Tryz.ntmps135
  go_wp2_with (first | (go_at_call 162;refine(geo_Parity _ _ _ _).mono ?_;rintro e w' ⟨rfl,n,rfl⟩) | (go_at_call 194;refine(lane_Without _ _ _).mono ?_;rintro e w' ⟨rfl,rfl⟩) | (go_at_call 193;refine(lane_At _ _ h0 h1 _).mono ?_;rintro e w' ⟨rfl,rfl⟩))
  go_ret
  exact⟨retI hs.out.symm,_,rfl⟩

set_option maxHeartbeats 400000 in
theorem geo_Slot (m b r s:Int) (w:World):
  Calls Tryz.prog 318 #[.int .i64 m, .int .i64 b, .int .i64 r, .int .i64 s] w λe w'=>e= .returned (.int .i64 (G.slot m b r s))/\∃n,w'=w.drewN n:=by
 by_cases hp:G.parity m b r<0
 ·have hs:=Lib.hid (show G.slot m b r s= -1 by simp[G.slot,hp])
  go_enter Tryz.func318,Tryz.ntmps318
  go_wp2_with (go_at_call 162;refine(geo_Parity _ _ _ _).mono ?_;rintro e w' ⟨rfl,n,rfl⟩)
  go_ret
  exact⟨retI hs.out.symm,_,rfl⟩
 ·have hs:=Lib.hid (show G.slot m b r s=L.spot (L.without m (G.parity m b r)) s by simp[G.slot,hp])
  go_enter Tryz.func318,Tryz.ntmps318
  go_wp2_with (first | (go_at_call 162;refine(geo_Parity _ _ _ _).mono ?_;rintro e w' ⟨rfl,n,rfl⟩) | (go_at_call 194;refine(lane_Without _ _ _).mono ?_;rintro e w' ⟨rfl,rfl⟩) | (go_at_call 322;refine(lane_Spot _ _ _).mono ?_;rintro e w' ⟨rfl,rfl⟩))
  go_ret
  exact⟨retI hs.out.symm,_,rfl⟩

def mayGeo (d b p:Int):Bool:=decide (3<=d/\d<=6)&&decide (8<=b/\b<=16)&&decide (2<=p/\p<=8)
set_option maxHeartbeats 400000 in
theorem geo_May (d b p:Int) (w:World):
  Calls Tryz.prog 72 #[.agg #[.int .i64 d, .int .i64 b, .int .i64 p]] w λe w'=>e= .returned (.bool (mayGeo d b p))/\Below w.heap.size w w':=by
 by_cases h1:3<=d/\d<=6
 ·have e1:(decide (3<=d)&&decide (d<=6))=true:=by simp[h1]
  by_cases h2:8<=b/\b<=16
  ·have e2:(decide (8<=b)&&decide (b<=16))=true:=by simp[h2]
   have hs:=Lib.hid (show mayGeo d b p=(decide (2<=p)&&decide (p<=8))by simp[mayGeo,h1,h2])
   go_enter Tryz.func72,Tryz.ntmps72
   go_wp2_with (go_at_call 107;refine(geo_within _ _ _ _).mono ?_;rintro e w' ⟨rfl,rfl⟩)
   go_ret
   exact⟨retB hs.out.symm,(Below.refl _ _).alloc (Nat.le_refl _) _⟩
  ·have e2:(decide (8<=b)&&decide (b<=16))=false:=by simp;omega
   have hs:=Lib.hid (show mayGeo d b p=false by simp[mayGeo,h2])
   go_enter Tryz.func72,Tryz.ntmps72
   go_wp2_with (go_at_call 107;refine(geo_within _ _ _ _).mono ?_;rintro e w' ⟨rfl,rfl⟩)
   go_ret
   exact⟨retB hs.out.symm,(Below.refl _ _).alloc (Nat.le_refl _) _⟩
 ·have e1:(decide (3<=d)&&decide (d<=6))=false:=by simp;omega
  have hs:=Lib.hid (show mayGeo d b p=false by simp[mayGeo,h1])
  go_enter Tryz.func72,Tryz.ntmps72
  go_wp2_with (go_at_call 107;refine(geo_within _ _ _ _).mono ?_;rintro e w' ⟨rfl,rfl⟩)
  go_ret
  exact⟨retB hs.out.symm,(Below.refl _ _).alloc (Nat.le_refl _) _⟩

def inGeo (d b p x y z:Int):Bool:=decide (0<=x/\x<d)&&decide (0<=y/\y<b)&&decide (0<=z/\z<p)
set_option maxRecDepth 100000 in
set_option maxHeartbeats 400000 in
theorem geo_In (d b p x y z:Int) (hd:0<=d/\d<=1000000) (hb:0<=b/\b<=1000000) (hp:0<=p/\p<=1000000) (w:World):
  Calls Tryz.prog 101 #[.agg #[.int .i64 d, .int .i64 b, .int .i64 p], .agg #[.int .i64 x, .int .i64 y, .int .i64 z]] w λe w'=>e= .returned (.bool (inGeo d b p x y z))/\Below w.heap.size w w':=by
 by_cases h1:0<=x/\x<d
 ·have e1:(decide (0<=x)&&decide (x<=d-1))=true:=by simp;omega
  by_cases h2:0<=y/\y<b
  ·have e2:(decide (0<=y)&&decide (y<=b-1))=true:=by simp;omega
   have hs:=Lib.hid (show inGeo d b p x y z=(decide (0<=z)&&decide (z<=p-1))by rw[Bool.eq_iff_iff];simp[inGeo,h1,h2];omega)
   go_enter Tryz.func101,Tryz.ntmps101
   go_wp2_with (go_at_call 107;refine(geo_within _ _ _ _).mono ?_;rintro e w' ⟨rfl,rfl⟩)
   go_ret
   exact⟨retB hs.out.symm,((Below.refl _ _).alloc (Nat.le_refl _) _).alloc (by simp) _⟩
  ·have e2:(decide (0<=y)&&decide (y<=b-1))=false:=by rw[Bool.eq_false_iff];simp;omega
   have hs:=Lib.hid (show inGeo d b p x y z=false by simp only[inGeo,h2,decide_false,Bool.and_false,Bool.false_and])
   go_enter Tryz.func101,Tryz.ntmps101
   go_wp2_with (go_at_call 107;refine(geo_within _ _ _ _).mono ?_;rintro e w' ⟨rfl,rfl⟩)
   go_ret
   exact⟨retB hs.out.symm,((Below.refl _ _).alloc (Nat.le_refl _) _).alloc (by simp) _⟩
 ·have e1:(decide (0<=x)&&decide (x<=d-1))=false:=by rw[Bool.eq_false_iff];simp;omega
  have hs:=Lib.hid (show inGeo d b p x y z=false by simp only[inGeo,h1,decide_false,Bool.false_and])
  go_enter Tryz.func101,Tryz.ntmps101
  go_wp2_with (go_at_call 107;refine(geo_within _ _ _ _).mono ?_;rintro e w' ⟨rfl,rfl⟩)
  go_ret
  exact⟨retB hs.out.symm,((Below.refl _ _).alloc (Nat.le_refl _) _).alloc (by simp) _⟩

abbrev A3:=Int×Int×Int
def a3c (a:A3):List Value:=[.int .i64 a.1, .int .i64 a.2.1, .int .i64 a.2.2]
def a3v (a:A3):Value:= .agg #[.int .i64 a.1, .int .i64 a.2.1, .int .i64 a.2.2]
theorem leaves39:leaves Tryz.prog 100 32=some [.int .i64, .int .i64, .int .i64]:=by kernel_rfl
theorem eqc_a3 (a b:A3):eqCells (a3c a) (a3c b)=decide (a=b):=by
 obtain⟨a1,a2,a3⟩:=a;obtain⟨b1,b2,b3⟩:=b;rw[Bool.eq_iff_iff];simp[a3c,eqCells,cellEq]
theorem key39:KeyOk Tryz.prog 32 a3v where
 now:=⟨_,Tryz.underlying32,λ_ _=> .inl rfl⟩
 eq:=λa b w=>by
  have hm:∀xs,mkV Tryz.prog 32 xs= .agg xs.toArray:=λxs=>by simp[mkV,Tryz.underlying32]
  have:=equalIn_leaves 100 32 _ leaves39 10000 (by omega) (a3c a) (a3c b) ⟨rfl,rfl,rfl,trivial⟩ ⟨rfl,rfl,rfl,trivial⟩ w;rw[eqc_a3,hm,hm]at this;exact this
 check:=λe a w=>by kernel_rfl
 bits:=λa=>by
  obtain⟨a1,a2,a3⟩:=a;simp[a3v,Instr.sameBits]

def trues (l:List A3):List (A3×Value):=l.map λa=>(a, .bool true)
theorem alook_trues (l:List A3) (a:A3):((alook (trues l) a).getD (.bool false)= .bool (decide (a∈l)))/\(alook (trues l) a).isSome=decide (a∈l):=by
 induction l with
 | nil=>exact⟨rfl,rfl⟩
 | cons x l ih=>
  simp only[trues,List.map_cons,alook]
  by_cases h:a=x
  ·simp[h]
  ·have:¬(a=(x,Value.bool true).1):=h;simp only[if_neg this,List.mem_cons,h,false_or];exact ih


def addS (l:List A3) (a:A3):List A3:=if a∈l then l else l++[a]
theorem adel_trues (l:List A3) (a:A3):adel (trues l) a=trues (l.erase a):=by
 induction l with
 | nil=>rfl
 | cons x l ih=>
  rw[List.erase_cons];simp only[trues,List.map_cons,adel]
  by_cases h:a=x
  ·subst h;simp
  ·have h2:¬(x==a)=true:=by simpa using Ne.symm h
   rw[if_neg h,if_neg h2,List.map_cons];exact congrArg _ ih
theorem aput_trues (l:List A3) (a:A3):aput (trues l) a (.bool true)=trues (addS l a):=by
 unfold addS
 induction l with
 | nil=>rfl
 | cons x l ih=>
  simp only[trues,List.map_cons,aput]
  by_cases h:a=x
  ·subst h;simp
  ·rw[if_neg h];have:(a∈x::l)↔a∈l:=by simp[h]
   simp only[this];split
   ·rename_i h3;rw[if_pos h3]at ih;simp only[List.map_cons];exact congrArg _ ih
   ·rename_i h3;rw[if_neg h3]at ih;simp only[List.cons_append,List.map_cons];exact congrArg _ ih

end Go.Proofs.YtkdlnfdjjifedaaGreat
namespace Go.Proofs.YtkdlnfdjjifedaaGreat
open Go
theorem cpq {V:Value} {M:List Atom} {R:Value->List Atom->Prop} (h:R V M):∀v As,(v=V/\As=M)->R v As:=by
 rintro v As ⟨rfl,rfl⟩;exact h
section
variable {X : Cx} {K : List KI} {E : Env} {L : List Atom} {N : Nat} {F : HP} {Post : Value → List Atom → Prop} {rs : List ResultVar}
theorem J.q (hX:IsCx X Tryz.prog rs N F Post) {K':(Nat->Nat)->List KI} {E':(Nat->Nat)->Env} {L':(Nat->Nat)->List Atom} {ob:(Nat->Nat)->List Prop} (hJ:∀bs,J X (K' bs) (E' bs) (L' bs))
  (h:∀bs,Go.Proofs.YtkdlnfdjjifedaaGreat.run tab N bs 400 K E L [] 0=⟨K' bs,E' bs,L' bs,ob bs⟩:=by exactλ_=>rfl) (hob:∀bs,Conj (ob bs):=by intro bs;(repeat' (first | exact Conj.nil | refine Conj.cons ?_ ?_ | omega | exact hq0 | (simpa using hq0) | (exactλh=>h) | exact rfl | (intro hq;have hq0:=hq;try simp only[Bool.and_eq_true,Bool.or_eq_true,decide_eq_true_eq,Bool.not_eq_true',decide_eq_false_iff_not]at hq) | (simp;done) | (simp;omega) | decide))):J X K E L:=J.run hX tk 400 h hob hJ
theorem J.ru (hX:IsCx X Tryz.prog rs N F Post) {v:Value} {ob:List Prop} (is:List Nat) (hP:Post v (picks L is)) (h:resV tab E L rs=some (v,ob):=by exact rfl) (ok:okIdx L (0::is)=true:=by exact rfl) (h0:lget L 0=some (.hp F):=by exact rfl) (hob:Conj ob:=by(repeat' (first | exact Conj.nil | refine Conj.cons ?_ ?_ | omega | exact hq0 | (simpa using hq0) | (exactλh=>h) | exact rfl | (intro hq;have hq0:=hq;try simp only[Bool.and_eq_true,Bool.or_eq_true,decide_eq_true_eq,Bool.not_eq_true',decide_eq_false_iff_not]at hq) | (simp;done) | (simp;omega) | decide))):J X (.code .ret::K) E L:=J.ret hX tk is h hob ok h0 hP
theorem J.cb (hX:IsCx X Tryz.prog rs N F Post) {ops:Array Oper} {C:Cl} {l:Bool} {i:Nat} {t:PT} {o:Oper} {g:G} {f:FuncId} {vs:List Value} {ob:List Prop} {Pre:List Atom} {Po:Value->List Atom->Prop} {E':Value->Env}
  (c:Fn Tryz.prog f vs Pre Po) (is:List Nat) (hJ:∀v As,Po v As->∃L',lupd L is As=some L'/\Conj (staysL l C L')/\J X (.reg ops C t::K) (E' v) L') (ho:lget ops.toList i=some o:=by exact rfl) (hg:gd ops.toList E o=some g:=by exact rfl) (hgo:g.on=true:=by exact rfl) (hc:callV E o.op=some (f,vs,ob):=by exact rfl) (hf:callable Tryz.prog f=true:=by kernel_rfl) (ok:okIdx L is=true:=by exact rfl) (hp:picks L is=Pre:=by exact rfl)
  (hd:∀v,putE N o.dst v 0 .tt E=some (E' v):=by exactλ_=>rfl) (hob:Conj ob:=by(repeat' (first | exact Conj.nil | refine Conj.cons ?_ ?_ | omega | exact hq0 | (simpa using hq0) | (exactλh=>h) | exact rfl | (intro hq;have hq0:=hq;try simp only[Bool.and_eq_true,Bool.or_eq_true,decide_eq_true_eq,Bool.not_eq_true',decide_eq_false_iff_not]at hq) | (simp;done) | (simp;omega) | decide))):J X (.reg ops C (.alt l i t .non)::K) E L:=J.call hX hf c is 0 ho hg hgo hc hob ok hp hd hJ
theorem J.qn (hX:IsCx X Tryz.prog rs N F Post) (n:Nat) {K':(Nat->Nat)->List KI} {E':(Nat->Nat)->Env} {L':(Nat->Nat)->List Atom} {ob:(Nat->Nat)->List Prop} (hJ:∀bs,J X (K' bs) (E' bs) (L' bs))
  (h:∀bs,Go.Proofs.YtkdlnfdjjifedaaGreat.run tab N bs n K E L [] 0=⟨K' bs,E' bs,L' bs,ob bs⟩:=by exactλ_=>rfl) (hob:∀bs,Conj (ob bs):=by intro bs;(repeat' (first | exact Conj.nil | refine Conj.cons ?_ ?_ | omega | exact hq0 | (simpa using hq0) | (exactλh=>h) | exact rfl | (intro hq;have hq0:=hq;try simp only[Bool.and_eq_true,Bool.or_eq_true,decide_eq_true_eq,Bool.not_eq_true',decide_eq_false_iff_not]at hq) | (simp;done) | (simp;omega) | decide))):J X K E L:=J.run hX tk n h hob hJ
theorem J.cF {c:Operand} {x y:Code} {k tag:Nat} {b:Bool} (hJ:J X (.code y::K) E L) (hc:ev E c=some ⟨k, .bool b,tag, .tt⟩:=by exact rfl) (hb:b=false:=by first | exact rfl | decide | simp):J X (.code (.cond c x y)::K) E L:=J.cond hc (λh=>by rw[hb]at h;cases h) (λ_=>hJ)
theorem J.cT {c:Operand} {x y:Code} {k tag:Nat} {b:Bool} (hJ:J X (.code x::K) E L) (hc:ev E c=some ⟨k, .bool b,tag, .tt⟩:=by exact rfl) (hb:b=true:=by first | exact rfl | decide | simp):J X (.code (.cond c x y)::K) E L:=J.cond hc (λ_=>hJ) (λh=>by rw[hb]at h;cases h)
end
end Go.Proofs.YtkdlnfdjjifedaaGreat
namespace Go.Proofs.YtkdlnfdjjifedaaGreat
open Go Go.RowKit
def SpotA (q:Nat) (l:List A3):Atom:=exA λmr:Nat=>[.pt q 179 [.map (some mr)],mapA mr a3v (trues l)]
theorem umap:Tryz.prog.underlying 177=some (.map 32 4):=by kernel_rfl
theorem s_New:Fn Tryz.prog 73 [] [] (λv As=>∃q,v= .pointer (some ⟨q,0,none⟩)/\As=[SpotA q []]):=by
 refine Fn.enter [] Tryz.func73 rfl rfl rfl λX F hX=>?_;refine J.q hX λbs=>?_;refine J.turn1 [1] rfl (As:=[mapA (bs 0) a3v (trues [])]) (λh s=>?_) rfl ?_
 ·refine⟨λ_=>0,λi A hA=>?_⟩;cases i with
  | zero=>simp at hA;subst hA;exact⟨#[],0,res_some.2 ⟨rfl,s.get (i:=0) rfl⟩,rfl,by simp,by simp⟩
  | succ k=>simp at hA
 refine J.close (f:=λmr:Nat=>[.pt (bs 1) 179 [.map (some mr)],mapA mr a3v (trues [])]) (bs 0) [2,1] rfl rfl rfl ?_;refine J.q hX λ_=>?_;refine J.ru hX [2] ?_;exact⟨bs 1,rfl,rfl⟩
theorem s_Get (q:Nat) (l:List A3) (x y z:Int):Fn Tryz.prog 261 [.pointer (some ⟨q,0,none⟩), .agg #[.int .i64 x, .int .i64 y, .int .i64 z]] [SpotA q l]
  (λv As=>v= .tuple #[.bool (decide ((x,y,z)∈l)), .bool (decide ((x,y,z)∈l))]/\As=[SpotA q l]):=by
 refine Fn.enter [2,0] Tryz.func261 rfl rfl rfl λX F hX=>?_;refine J.open_ (α:=Nat) 1 rfl rfl (λ_=>rfl) λmr=>?_;refine J.q hX λ_=>?_;refine J.cF ?_;refine J.q hX λ_=>?_;refine J.plan (.of [0,4,8,13,17,21,24,28,32,36,40]) [10] [1,2,3] (by rw[hX.hP];kernel_rfl) (by kernel_rfl) ?_;refine J.q hX λ_=>?_;refine J.valT hX (.tuple #[.bool (decide ((x,y,z)∈l)), .bool (decide ((x,y,z)∈l))]) 0 rfl rfl (λ_ a w he hC=>?_) rfl ?_
 ·refine(lookup_run (key:=(x,y,z)) key39 umap (z:= .bool false) (λw=>by kernel_rfl) rfl rfl rfl rfl he rfl rfl (hC rfl _ (cget_mem (i:=2) rfl))).trans ?_;simp only[(alook_trues l _).1,(alook_trues l _).2]
 refine J.close (f:=λmr:Nat=>[.pt q 179 [.map (some mr)],mapA mr a3v (trues l)]) mr [1,2] rfl rfl rfl ?_;refine J.q hX λ_=>?_;exact J.ru hX [1] ⟨rfl,rfl⟩
theorem s_Set (q:Nat) (l:List A3) (x y z:Int):Fn Tryz.prog 102 [.pointer (some ⟨q,0,none⟩), .agg #[.int .i64 x, .int .i64 y, .int .i64 z], .bool true] [SpotA q l]
  (λv As=>v= .tuple #[]/\As=[SpotA q (addS l (x,y,z))]):=by
 refine Fn.enter [2,0,0] Tryz.func102 rfl rfl rfl λX F hX=>?_;refine J.open_ (α:=Nat) 1 rfl rfl (λ_=>rfl) λmr=>?_;refine J.q hX λ_=>?_;refine J.cT ?_;refine J.q hX λ_=>?_;refine J.plan (.of [0,4,8,13,17,20,27]) [6] [1,2,3] (by rw[hX.hP];kernel_rfl) (by kernel_rfl) ?_;refine J.q hX λ_=>?_;refine J.mapUpdate hX key39 umap (x,y,z) 2 rfl rfl rfl rfl rfl rfl rfl rfl rfl rfl rfl rfl (λ_=>rfl) (by rw[aput_trues];rfl) ⟨trivial,?_⟩;refine J.close (f:=λmr:Nat=>[.pt q 179 [.map (some mr)],mapA mr a3v (trues (addS l (x,y,z)))]) mr [1,2] rfl rfl rfl ?_;refine J.q hX λ_=>?_;refine J.fi hX tk [1] rfl rfl rfl ?_;exact⟨rfl,rfl⟩
theorem s_Drop (q:Nat) (l:List A3) (x y z:Int):Fn Tryz.prog 234 [.pointer (some ⟨q,0,none⟩), .agg #[.int .i64 x, .int .i64 y, .int .i64 z]] [SpotA q l]
  (λv As=>v= .bool (decide ((x,y,z)∈l))/\As=[SpotA q (l.erase (x,y,z))]):=by
 refine Fn.enter [2,0] Tryz.func234 rfl rfl rfl λX F hX=>?_;refine J.q hX λ_=>?_;refine J.cb hX (s_Get q l x y z) [1] ?_;refine cpq ⟨_,rfl,trivial,?_⟩;refine J.q hX λ_=>?_;refine J.cond rfl (λh=>?_) (λh=>?_)
 ·refine J.open_ (α:=Nat) 1 rfl rfl (λ_=>rfl) λmr=>?_;refine J.q hX λ_=>?_;refine J.plan (.of [0,4,8,13,17,22]) [] [1,2] (by rw[hX.hP];kernel_rfl) (by kernel_rfl) ?_;refine J.q hX λ_=>?_;refine J.delete hX key39 umap (x,y,z) 3 rfl rfl rfl rfl rfl rfl rfl rfl rfl rfl (λ_=>rfl) (by rw[adel_trues];rfl) ⟨⟨rfl,rfl,trivial⟩,?_⟩;refine J.close (f:=λmr:Nat=>[.pt q 179 [.map (some mr)],mapA mr a3v (trues (l.erase (x,y,z)))]) mr [1,3] rfl rfl rfl ?_;refine J.q hX λ_=>?_;exact J.ru hX [1] ⟨rfl,rfl⟩
 ·refine J.q hX λ_=>?_;refine J.ru hX [1] ?_;simp only[decide_eq_false_iff_not]at h;exact⟨rfl,by rw[List.erase_of_not_mem h];rfl⟩
end Go.Proofs.YtkdlnfdjjifedaaGreat
namespace Go.Proofs.YtkdlnfdjjifedaaGreat
namespace Bt
def bits (u w:Nat):List Bool:=(List.range w).map λi=>u.testBit (w-1-i)
def byteAt (l:List Bool) (j:Nat):Nat:=
 (l.getD j false).toNat*128+(l.getD (j+1) false).toNat*64+(l.getD (j+2) false).toNat*32+(l.getD (j+3) false).toNat*16+
 (l.getD (j+4) false).toNat*8+(l.getD (j+5) false).toNat*4+(l.getD (j+6) false).toNat*2+(l.getD (j+7) false).toNat
def pack (l:List Bool):List UInt8:=(List.range ((l.length+7)/8)).map λj=>UInt8.ofNat (byteAt l (8*j))
theorem length_bits (u w:Nat):(bits u w).length=w:=by simp[bits]
theorem byteAt_lt (l:List Bool) (j:Nat):byteAt l j<256:=by
 unfold byteAt;have h:∀b:Bool,b.toNat<=1:=λb=>Bool.toNat_le b;have h0:=h (l.getD j false);have h1:=h (l.getD (j+1) false);have h2:=h (l.getD (j+2) false);have h3:=h (l.getD (j+3) false);have h4:=h (l.getD (j+4) false);have h5:=h (l.getD (j+5) false);have h6:=h (l.getD (j+6) false);have h7:=h (l.getD (j+7) false);omega
theorem length_pack (l:List Bool):(pack l).length=(l.length+7)/8:=by simp[pack]
theorem pack_get (l:List Bool) (j:Nat) (h:j<(l.length+7)/8):(pack l)[j]? =some (UInt8.ofNat (byteAt l (8*j))):=by
 simp[pack,h]
theorem byteAt_out (l:List Bool) (j:Nat) (h:l.length<=j):byteAt l j=0:=by
 have g:∀k,l.length<=k->l.getD k false=false:=λk hk=>by simp[List.getD_eq_getElem?_getD,List.getElem?_eq_none hk]
 unfold byteAt;rw[g _ h,g _ (by omega),g _ (by omega),g _ (by omega),g _ (by omega),g _ (by omega),g _ (by omega),g _ (by omega)];rfl
theorem getD_snoc (l:List Bool) (x:Bool) (k:Nat):(l++[x]).getD k false=if k=l.length then x else l.getD k false:=by
 simp only[List.getD_eq_getElem?_getD,List.getElem?_append]
 by_cases h:k<l.length
 ·rw[if_pos h,if_neg (by omega)]
 ·rw[if_neg h]
  by_cases e:k=l.length
  ·subst e;simp
  ·rw[if_neg e,List.getElem?_eq_none (by simp;omega),List.getElem?_eq_none (by omega)]
theorem byteAt_snoc (l:List Bool) (x:Bool) (j:Nat):byteAt (l++[x]) j=byteAt l j+(if j<=l.length/\l.length<j+8 then x.toNat*2^(7-(l.length-j))else 0):=by
 have g:∀k,l.length<=k->l.getD k false=false:=λk hk=>by simp[List.getD_eq_getElem?_getD,List.getElem?_eq_none hk]
 by_cases h:j<=l.length/\l.length<j+8
 ·rw[if_pos h];obtain⟨i,hi⟩:∃i,l.length=j+i:=⟨l.length-j,by omega⟩;have hi8:i<8:=by omega
  rw[show l.length-j=i from by omega];unfold byteAt;simp only[getD_snoc]
  match i,hi8 with
  | 0,_=>rw[g j (by omega),if_pos (by omega),if_neg (by omega),if_neg (by omega),if_neg (by omega),if_neg (by omega),if_neg (by omega),if_neg (by omega),if_neg (by omega)];simp;omega
  | 1,_=>rw[g (j+1) (by omega),if_neg (by omega),if_pos (by omega),if_neg (by omega),if_neg (by omega),if_neg (by omega),if_neg (by omega),if_neg (by omega),if_neg (by omega)];simp;omega
  | 2,_=>rw[g (j+2) (by omega),if_neg (by omega),if_neg (by omega),if_pos (by omega),if_neg (by omega),if_neg (by omega),if_neg (by omega),if_neg (by omega),if_neg (by omega)];simp;omega
  | 3,_=>rw[g (j+3) (by omega),if_neg (by omega),if_neg (by omega),if_neg (by omega),if_pos (by omega),if_neg (by omega),if_neg (by omega),if_neg (by omega),if_neg (by omega)];simp;omega
  | 4,_=>rw[g (j+4) (by omega),if_neg (by omega),if_neg (by omega),if_neg (by omega),if_neg (by omega),if_pos (by omega),if_neg (by omega),if_neg (by omega),if_neg (by omega)];simp;omega
  | 5,_=>rw[g (j+5) (by omega),if_neg (by omega),if_neg (by omega),if_neg (by omega),if_neg (by omega),if_neg (by omega),if_pos (by omega),if_neg (by omega),if_neg (by omega)];simp;omega
  | 6,_=>rw[g (j+6) (by omega),if_neg (by omega),if_neg (by omega),if_neg (by omega),if_neg (by omega),if_neg (by omega),if_neg (by omega),if_pos (by omega),if_neg (by omega)];simp;omega
  | 7,_=>rw[g (j+7) (by omega),if_neg (by omega),if_neg (by omega),if_neg (by omega),if_neg (by omega),if_neg (by omega),if_neg (by omega),if_neg (by omega),if_pos (by omega)];simp
 ·rw[if_neg h];unfold byteAt;simp only[getD_snoc];rw[if_neg (by omega),if_neg (by omega),if_neg (by omega),if_neg (by omega),if_neg (by omega),if_neg (by omega),if_neg (by omega),if_neg (by omega)];simp

def packZ (l:List Bool):List UInt8:=if l.length % 8=0 then pack l++[0]else pack l
theorem length_packZ (l:List Bool):(packZ l).length=l.length/8+1:=by
 unfold packZ;split
 ·simp[length_pack];omega
 ·rw[length_pack];omega
theorem packZ_get (l:List Bool) (j:Nat) (h:j<l.length/8+1):(packZ l)[j]? =some (UInt8.ofNat (byteAt l (8*j))):=by
 unfold packZ;split
 ·by_cases e:j<(pack l).length
  ·rw[List.getElem?_append_left e,pack_get _ _ (by rw[length_pack]at e;exact e)]
  ·have:j=(pack l).length:=by rw[length_pack]at e ⊢;omega
   subst this;rw[List.getElem?_append_right (Nat.le_refl _),Nat.sub_self,byteAt_out _ _ (by rw[length_pack];omega)];rfl
 ·exact pack_get _ _ (by omega)
theorem pack_snoc (l:List Bool) (x:Bool):pack (l++[x])=(packZ l).set (l.length/8) (UInt8.ofNat (byteAt l (8*(l.length/8))+x.toNat*2^(7-l.length % 8))):=by
 apply List.ext_getElem?;intro j;have hl:(pack (l++[x])).length=l.length/8+1:=by rw[length_pack];simp;omega
 by_cases h:j<l.length/8+1
 ·rw[pack_get _ _ (by simp;omega),List.getElem?_set,length_packZ,byteAt_snoc]
  by_cases e:l.length/8=j
  ·rw[if_pos e,if_pos (by omega),if_pos (by omega),<- e,show l.length-8*(l.length/8)=l.length % 8 from by omega]
  ·rw[if_neg e,if_neg (by omega),packZ_get _ _ h];simp
 ·rw[List.getElem?_eq_none (by omega),List.getElem?_eq_none (by simp[length_packZ];omega)]
theorem byte_or_dec:∀i,i<8->∀h,h<2^i->(h*2^(8-i))||| (2^(7-i))=h*2^(8-i)+2^(7-i):=by decide+kernel
theorem byteAt_last (l:List Bool):∃h,h<2^(l.length % 8)/\byteAt l (8*(l.length/8))=h*2^(8-l.length % 8):=by
 have g:∀k,l.length<=k->l.getD k false=false:=λk hk=>by simp[List.getD_eq_getElem?_getD,List.getElem?_eq_none hk]
 have hb:∀b:Bool,b.toNat<=1:=λb=>Bool.toNat_le b;generalize hj:8*(l.length/8)=j;have h8:l.length % 8<8:=Nat.mod_lt _ (by omega);have hn:l.length=j+l.length % 8:=by omega
 have h0:=hb (l.getD j false);have h1:=hb (l.getD (j+1) false);have h2:=hb (l.getD (j+2) false);have h3:=hb (l.getD (j+3) false);have h4:=hb (l.getD (j+4) false);have h5:=hb (l.getD (j+5) false);have h6:=hb (l.getD (j+6) false);generalize l.length % 8=i at*;unfold byteAt
 match i,h8 with
 | 0,_=>rw[g j (by omega),g (j+1) (by omega),g (j+2) (by omega),g (j+3) (by omega),g (j+4) (by omega),g (j+5) (by omega),g (j+6) (by omega),g (j+7) (by omega)];exact⟨0,by decide,rfl⟩
 | 1,_=>rw[g (j+1) (by omega),g (j+2) (by omega),g (j+3) (by omega),g (j+4) (by omega),g (j+5) (by omega),g (j+6) (by omega),g (j+7) (by omega)];exact⟨(l.getD j false).toNat,by omega,by simp⟩
 | 2,_=>rw[g (j+2) (by omega),g (j+3) (by omega),g (j+4) (by omega),g (j+5) (by omega),g (j+6) (by omega),g (j+7) (by omega)];exact⟨(l.getD j false).toNat*2+(l.getD (j+1) false).toNat,by omega,by simp;omega⟩
 | 3,_=>rw[g (j+3) (by omega),g (j+4) (by omega),g (j+5) (by omega),g (j+6) (by omega),g (j+7) (by omega)];exact⟨(l.getD j false).toNat*4+(l.getD (j+1) false).toNat*2+(l.getD (j+2) false).toNat,by omega,by simp;omega⟩
 | 4,_=>rw[g (j+4) (by omega),g (j+5) (by omega),g (j+6) (by omega),g (j+7) (by omega)];exact⟨(l.getD j false).toNat*8+(l.getD (j+1) false).toNat*4+(l.getD (j+2) false).toNat*2+(l.getD (j+3) false).toNat,by omega,by simp;omega⟩
 | 5,_=>rw[g (j+5) (by omega),g (j+6) (by omega),g (j+7) (by omega)];exact⟨(l.getD j false).toNat*16+(l.getD (j+1) false).toNat*8+(l.getD (j+2) false).toNat*4+(l.getD (j+3) false).toNat*2+(l.getD (j+4) false).toNat,by omega,by simp;omega⟩
 | 6,_=>rw[g (j+6) (by omega),g (j+7) (by omega)];exact⟨(l.getD j false).toNat*32+(l.getD (j+1) false).toNat*16+(l.getD (j+2) false).toNat*8+(l.getD (j+3) false).toNat*4+(l.getD (j+4) false).toNat*2+(l.getD (j+5) false).toNat,by omega,by simp;omega⟩
 | 7,_=>rw[g (j+7) (by omega)];exact⟨(l.getD j false).toNat*64+(l.getD (j+1) false).toNat*32+(l.getD (j+2) false).toNat*16+(l.getD (j+3) false).toNat*8+(l.getD (j+4) false).toNat*4+(l.getD (j+5) false).toNat*2+(l.getD (j+6) false).toNat,by omega,by simp;omega⟩
theorem byte_or (l:List Bool) (x:Bool):byteAt l (8*(l.length/8))||| x.toNat*2^(7-l.length % 8)=byteAt l (8*(l.length/8))+x.toNat*2^(7-l.length % 8):=by
 obtain⟨h,hh,e⟩:=byteAt_last l;cases x
 ·simp
 ·rw[e];simpa using byte_or_dec (l.length % 8) (Nat.mod_lt _ (by omega)) h hh
theorem take_bits_succ (u n k:Nat) (h:k<n):(bits u n).take (k+1)=(bits u n).take k++[u.testBit (n-1-k)]:=by
 rw[List.take_succ_eq_append_getElem (by rw[length_bits];exact h)];simp[bits]
def bitAt (b:List UInt8) (j:Nat):Bool:=(b.getD (j/8) 0).toNat.testBit (7-j % 8)
def numAt (b:List UInt8) (k:Nat):Nat->Nat
 | 0=>0
 | w+1=>2*numAt b k w+(bitAt b (k+w)).toNat
theorem numAt_lt (b:List UInt8) (k w:Nat):numAt b k w<2^w:=by
 induction w with
 | zero=>simp[numAt]
 | succ w ih=>
  have:=Bool.toNat_le (bitAt b (k+w));rw[numAt,Nat.pow_succ];omega
end Bt
end Go.Proofs.YtkdlnfdjjifedaaGreat
namespace Go.Proofs.YtkdlnfdjjifedaaGreat
structure Sh where
 data:List UInt8
 role:Int
 lpn:Int
 seq:Int
 kind:Int
 block:Int
 row:Int
 mask:Int
 deriving DecidableEq
def zeros16:List UInt8:=List.replicate 16 0
def Sh.zero:Sh:=⟨zeros16,0,0,0,0,0,0,0⟩
namespace S
def entry (s:Sh):Bool:=
 if s.role=1 then true
 else if s.role=2\/s.role=4 then decide (s.data=zeros16)
 else if s.role=3 then decide (s.data=zeros16)&&decide (s.lpn=0)&&decide (s.seq=0)
 else false
def inB (n a:Int):Bool:=decide (0<=n)&&decide (n<=a)
def place (s:Sh):Bool:=inB s.block 15&&inB s.row 7&&decide (2<=L.count s.mask)
def numbers (s:Sh):Bool:=inB s.seq 1099511627775&&inB s.lpn 65535&&inB s.role 255
def may (s:Sh):Bool:=place s&&numbers s&&(decide (s.kind=2)||(decide (s.kind=1)&&entry s))
def meta_ (role lpn seq:Int):Nat:=(role % 256).toNat*72057594037927936+((lpn % 65536).toNat*1099511627776+(seq % 1099511627776).toNat)
def head (s:Sh):List Bool:=Bt.bits (meta_ s.role s.lpn s.seq) 64++Bt.bits s.block.toNat 8++Bt.bits s.row.toNat 8++Bt.bits s.mask.toNat 8++Bt.bits s.kind.toNat 8
def put (s:Sh):List UInt8:=s.data++Bt.pack (head s++Bt.bits (K.sum (s.data++Bt.pack (head s))) 32)
def fields (p:List UInt8):Sh:=
 let b:=p.drop 16
 let m:=Bt.numAt b 0 64
 ⟨p.take 16,(m/72057594037927936:Nat),(m/1099511627776 % 65536:Nat),(m % 1099511627776:Nat),Bt.numAt b 88 8,Bt.numAt b 64 8,Bt.numAt b 72 8,Bt.numAt b 80 8⟩
def get (p:List UInt8):Option Sh:=if may (fields p)/\put (fields p)=p then some (fields p)else none
def getV (p:List UInt8):Sh:=(get p).getD Sh.zero
def getE (p:List UInt8):Int:=if(get p).isSome then 0 else 1
theorem may_bounds (s:Sh) (h:may s=true):(0<=s.block/\s.block<=15)/\(0<=s.row/\s.row<=7)/\(0<=s.mask/\s.mask<=255)/\(1<=s.kind/\s.kind<=2):=by
 simp only[may,place,inB,Bool.and_eq_true,decide_eq_true_eq,Bool.or_eq_true]at h;have hm:0<=s.mask/\s.mask<=255:=by
  by_cases hh:0<=s.mask/\s.mask<256
  ·omega
  ·have:=L.count_no s.mask hh;omega
 omega
theorem length_head (s:Sh):(head s).length=96:=by simp[head,Bt.length_bits]
theorem length_put (s:Sh) (h:s.data.length=16):(put s).length=32:=by simp[put,Bt.length_pack,length_head,Bt.length_bits,h]
theorem meta_lt (role lpn seq:Int):meta_ role lpn seq<18446744073709551616:=by unfold meta_;omega
end S
end Go.Proofs.YtkdlnfdjjifedaaGreat
namespace Go.Proofs.YtkdlnfdjjifedaaGreat
abbrev A3':=Int×Int×Int
structure NCell where
 p:List UInt8
 lost:Bool
 turned:Bool
structure NBlock where
 cells:List NCell
 worn:Int
 fails:Bool
 met:Bool
structure Nand where
 dies:Nat
 blocks:Nat
 pages:Nat
 blk:Nat->Nat->NBlock
 plan:List A3'
 dead:List Bool
 off:Bool
 ops:Int
 broken:Int
 cuts:Bool
 left:Int
 keep:Int
def geoMay (d b p:Int):Bool:=decide (3<=d/\d<=6)&&decide (8<=b/\b<=16)&&decide (2<=p/\p<=8)
def geoIn (d b p x y z:Int):Bool:=decide (0<=x/\x<d)&&decide (0<=y/\y<b)&&decide (0<=z/\z<p)
def zeros32:List UInt8:=List.replicate 32 0
structure Nand.Ok (N:Nand):Prop where
 geo:geoMay N.dies N.blocks N.pages=true
 dead:N.dead.length=N.dies
 cells:∀i j,i<N.dies->j<N.blocks->(N.blk i j).cells.length<=N.pages/\∀c∈(N.blk i j).cells,c.p.length=32
 num:0<=N.ops/\0<=N.broken/\(∀i j,0<=(N.blk i j).worn/\(N.blk i j).worn<=N.ops)
 lft:N.cuts=true->0<=N.left/\N.left<=9223372036854775807
 lf2: -9223372036854775807<=N.left/\N.left<=9223372036854775807
 kp:0<=N.keep/\N.keep<=32
structure Nand.Room (N:Nand):Prop where
 ops:N.ops<4611686018427387904
 broken:N.broken<4611686018427387904
namespace Nand
def setBlk (N:Nand) (i j:Nat) (B:NBlock):Nand:={N with blk:=λa b=>if a=i/\b=j then B else N.blk a b}
def refuses (N:Nand) (x y z:Int):Int:=
 if N.off then 9 else if geoIn N.dies N.blocks N.pages x y z=false then 3 else if N.dead.getD x.toNat false then 8 else 0
def cutB (N:Nand):Bool:=N.cuts&&decide (N.left<=0)
def cutN (N:Nand):Nand:={N with ops:=N.ops+1,left:=if N.cuts then N.left-1 else N.left,off:=if N.cutB then true else N.off,cuts:=if N.cutB then false else N.cuts}
def pageAt (N:Nand) (x y z:Int):Option NCell:=(N.blk x.toNat y.toNat).cells[z.toNat]?
def readV (N:Nand) (x y z:Int):List UInt8:=if N.refuses x y z≠0 then zeros32 else match N.pageAt x y z with
 | none=>zeros32
 | some c=>if c.lost then zeros32 else c.p
def readE (N:Nand) (x y z:Int):Int:=if N.refuses x y z≠0 then N.refuses x y z else match N.pageAt x y z with
 | none=>5
 | some c=>if c.lost then 6 else 0
def onN (N:Nand):Nand:={N with off:=false,cuts:=false}
def setCut (N:Nand) (x k:Int):Nand:=if N.off then N else {N with cuts:=decide (0<=x),left:=x,keep:=min (max k 0) 32,off:=decide (x<0)}
def next (N:Nand) (x y:Int):Nat:=if 0<=x/\x<N.dies/\0<=y/\y<N.blocks then(N.blk x.toNat y.toNat).cells.length else 0
def wornAt (N:Nand) (x y:Int):Int:=if 0<=x/\x<N.dies/\0<=y/\y<N.blocks then(N.blk x.toNat y.toNat).worn else 0
def deadAt (N:Nand) (x:Int):Bool:=decide (0<=x)&&decide (x<N.dies)&&N.dead.getD x.toNat false
def push (N:Nand) (i j:Nat) (c:NCell):Nand:=N.setBlk i j {N.blk i j with cells:=(N.blk i j).cells++[c]}
def fillP (k:Nat) (p:List UInt8):List UInt8:=p.take k++List.replicate (32-k) 255
def fails (N:Nand) (x y z:Int):Bool:=decide ((x,y,z)∈N.plan)||(N.blk x.toNat y.toNat).met
def progN (N:Nand) (x y z:Int) (pg:List UInt8):Nand:=
 if N.refuses x y z≠0 then N else
 if z≠(N.blk x.toNat y.toNat).cells.length then {N with broken:=N.broken+1}else
 if N.cutB then N.cutN.push x.toNat y.toNat ⟨fillP N.keep.toNat pg,false,true⟩else
 push {N.cutN with plan:=N.plan.erase (x,y,z)} x.toNat y.toNat ⟨pg,N.fails x y z,false⟩
def progE (N:Nand) (x y z:Int):Int:=
 if N.refuses x y z≠0 then N.refuses x y z else
 if z≠(N.blk x.toNat y.toNat).cells.length then 4 else
 if N.cutB then 9 else if N.fails x y z then 7 else 0
def zcell:NCell:=⟨zeros32,false,false⟩
def eraseN (N:Nand) (x y:Int):Nand:=
 let B:=N.blk x.toNat y.toNat
 if N.refuses x y 0≠0 then N else
 if N.cutB then N.cutN.setBlk x.toNat y.toNat {B with cells:=(B.cells++List.replicate (N.pages-B.cells.length) zcell).map λc=>{c with lost:=true}}else
 if B.fails then N.cutN.setBlk x.toNat y.toNat {B with met:=true}else
 {N.cutN.setBlk x.toNat y.toNat {B with cells:=[],worn:=B.worn+1}with plan:=N.plan.filter λa=>!(decide (a.1=x)&&decide (a.2.1=y))}
def eraseE (N:Nand) (x y:Int):Int:=
 if N.refuses x y 0≠0 then N.refuses x y 0 else if N.cutB then 9 else if(N.blk x.toNat y.toNat).fails then 7 else 0
def xorAt (p:List UInt8) (n:Nat) (x:UInt8):List UInt8:=p.set n ((p.getD n 0) ^^^ x)
def setCell (N:Nand) (x y z:Int) (f:NCell->NCell):Nand:=
 N.setBlk x.toNat y.toNat {N.blk x.toNat y.toNat with cells:=(N.blk x.toNat y.toNat).cells.modify z.toNat f}
def addP (l:List A3') (a:A3'):List A3':=if a∈l then l else l++[a]
def fault (N:Nand) (kind x y z n xx:Int):Bool×Nand:=
 if geoIn N.dies N.blocks N.pages x y z=false then(false,N)else
 if kind=1 then(true,{N with plan:=addP N.plan (x,y,z)})else
 if kind=2 then(true,N.setBlk x.toNat y.toNat {N.blk x.toNat y.toNat with fails:=true})else
 if kind=3 then(true,N.setCell x y z λc=>{c with lost:=true})else
 if kind=4 then(true,{N with dead:=N.dead.set x.toNat true})else
 if kind=5 then
  if n<0\/32<=n then(false,N)else
  match N.pageAt x y z with
  | none=>(true,N)
  | some c=>if c.turned then(false,N)else if c.lost then(true,N)else
   (true,N.setCell x y z λc=>{c with p:=xorAt c.p n.toNat (UInt8.ofNat (xx % 256).toNat),turned:=true})
 else(false,N)
def new (d b p:Nat):Nand:=⟨d,b,p,λ_ _=>⟨[],0,false,false⟩,[],List.replicate d false,false,0,0,false,0,0⟩
theorem refuses_zero {N:Nand} {x y z:Int} (h:N.refuses x y z=0):N.off=false/\N.dead.getD x.toNat false=false/\0<=x/\x<N.dies/\0<=y/\y<N.blocks/\0<=z/\z<N.pages:=by
 unfold refuses at h;split at h
 ·omega
 ·rename_i h1;split at h
  ·omega
  ·rename_i h2;split at h
   ·omega
   ·rename_i h3;simp[geoIn]at h2;exact⟨by simpa using h1,by simpa using h3,by omega⟩
end Nand
end Go.Proofs.YtkdlnfdjjifedaaGreat
