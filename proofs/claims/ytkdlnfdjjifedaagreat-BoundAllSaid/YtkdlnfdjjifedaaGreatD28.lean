/- Helpers, proved here. No condition. -/
import Derived.Test.YtkdlnfdjjifedaaGreatD06
import Derived.Test.YtkdlnfdjjifedaaGreatD18
import Derived.Test.YtkdlnfdjjifedaaGreatD22
import Derived.Test.YtkdlnfdjjifedaaGreatD23
import Derived.Test.YtkdlnfdjjifedaaGreatD24
import Derived.Test.YtkdlnfdjjifedaaGreatD27
import Derived.Test.YtkdlnfdjjifedaaGreatRows
import Derived.JoinedOf
set_option maxRecDepth 20000
set_option linter.all false
namespace Go.Proofs.YtkdlnfdjjifedaaGreat
open Go
namespace Nand
variable {N N' N'' : Nand} {b : Nat}
end Nand
namespace V
end V
def u8 (x:Int):UInt8:=UInt8.ofNat (x % 256).toNat
end Go.Proofs.YtkdlnfdjjifedaaGreat
namespace Go.Proofs.YtkdlnfdjjifedaaGreat
open Go Go.RowKit
theorem u8_val (x:Int):Value.int .u8 (IntKind.u8.wrap x)=bv (u8 x):=by
 have h:IntKind.u8.wrap x=x % 256:=by simp[IntKind.wrap,IntKind.bits,IntKind.signed]
 rw[h,bv,u8];congr 1;have h1:0<=x % 256/\x % 256<256:=⟨Int.emod_nonneg _ (by decide),Int.emod_lt_of_pos _ (by decide)⟩;have h2:(UInt8.ofNat (x % 256).toNat).toNat=(x % 256).toNat:=by
  rw[UInt8.toNat_ofNat'];omega
 rw[h2];omega
def e18 (k s:Int):En:=⟨k,s,1,[u8 k,u8 s,u8 (s/256),7,0,0,0,0,0,0,0,0,0,0,0,0]⟩
theorem l18_entry (k s:Int):Fn Tryz.prog 154 [.int .i64 k, .int .i64 s] [] (λv As=>v=enV (e18 k s)/\As=[]):=by
 refine Fn.enter [0,0] Tryz.func154 rfl rfl rfl λX F hX=>?_;refine J.qn hX 9 λ_=>?_;refine J.val hX (bv (u8 k)) 0 rfl rfl (λhg a w he hs=>by rw[<- u8_val k];exact convert_run tk rfl rfl he rfl rfl rfl) rfl trivial ?_;refine J.qn hX 1 λ_=>?_;refine J.val hX (bv (u8 s)) 0 rfl rfl (λhg a w he hs=>by rw[<- u8_val s];exact convert_run tk rfl rfl he rfl rfl rfl) rfl trivial ?_;refine J.qn hX 2 λ_=>?_;rw[show s.fdiv (2^min (Int.toNat 8) IntKind.i64.bits)=s/256 from Int.fdiv_eq_ediv_of_nonneg s (by decide:(0:Int)<=256)];refine J.val hX (bv (u8 (s/256))) 0 rfl rfl (λhg a w he hs=>by rw[<- u8_val (s/256)];exact convert_run tk rfl rfl he rfl rfl rfl) rfl trivial ?_;refine J.q hX λ_=>?_;exact J.ru hX [] ⟨rfl,rfl⟩
def Dv.new (d b p:Nat) (lg:Int):Dv:=⟨Nand.new d b p,Tl.new d b p,Tb.new lg,-1,0,0,1⟩
theorem gd_new (d b p:Nat) (h:geoMay d b p=true) (k:Nat) (hk:k<=1000000000000000):(Nand.new d b p).Gd k 0:=by
 have h0:=Nand.Gd.new d b p h 0 (by omega);refine⟨h0.ok,?_,?_,h0.nodup,h0.few⟩
 ·show(0:Int)+(k:Int)<_;omega
 ·show(0:Int)+(k:Int)<_;omega
theorem Dv.Ok.new (d b p:Nat) (lg:Int) (h:geoMay d b p=true) (k:Nat) (hk:k<=1000000000000000):(Dv.new d b p lg).Ok k 0:=
 ⟨gd_new d b p h k hk,⟨rfl,rfl,rfl,by show(List.replicate b Sb.zero).length=b;simp⟩,Tb.Ok.new lg,λx hx=>by simp[Dv.new,Tb.new]at hx,by show(0:Int)<=0/\(0:Int)<=8;omega,by show(1:Int)<=1/\(1:Int)<=1099511627776;omega⟩
theorem l18_bench (d b p:Nat) (h:geoMay d b p=true) (lg:Int):Fn Tryz.prog 153 [.agg #[.int .i64 d, .int .i64 b, .int .i64 p], .int .i64 lg] []
  (λv As=>∃n t l q,v= .tuple #[.pointer (some ⟨n,0,none⟩), .pointer (some ⟨t,0,none⟩), .pointer (some ⟨l,0,none⟩), .pointer (some ⟨q,0,none⟩)]/\As=DvP q n t l (Dv.new d b p lg)):=by
 refine Fn.enter [0,0] Tryz.func153 rfl rfl rfl λX F hX=>?_;refine J.q hX λ_=>?_;refine J.cb hX (n_New d b p h) [] ?_;rintro v As ⟨n,rfl,rfl⟩;refine⟨_,rfl,trivial,?_⟩;refine J.q hX λ_=>?_;refine J.cb hX (tl_New d b p h) [] ?_;rintro v As ⟨t,rfl,rfl⟩;refine⟨_,rfl,trivial,?_⟩;refine J.q hX λ_=>?_;refine J.cb hX (tb_New lg) [] ?_;rintro v As ⟨l,rfl,rfl⟩;refine⟨_,rfl,trivial,?_⟩;refine J.q hX λ_=>?_;refine J.cb hX (pn_New n t l 1 (by decide) (Nand.new d b p) (Tl.new d b p) (Tb.new lg)) [] ?_;rintro v As ⟨q,rfl,rfl⟩;refine⟨_,rfl,trivial,?_⟩;refine J.q hX λ_=>?_;refine J.ru hX [5,2,3,4] ?_;exact⟨n,t,l,q,rfl,rfl⟩
theorem Dv.Ok.fault0 {S:Dv} {k m:Nat} (h:S.Ok k m) (kd x y z n xx:Int) (hk:kd≠1):({S with N:=(S.N.fault kd x y z n xx).2}:Dv).Ok k m:=
 ⟨h.gd.fault0 kd x y z n xx hk,h.t.like (Nand.like_fault _ _ _ _ _ _ _),h.T,h.sl,h.row,h.next⟩
namespace B18
def S0:Dv:=Dv.new 3 8 2 20
def S1:Dv:=(S0.pen [e18 1 1,e18 2 2,e18 3 3]).1
def S2:Dv:=(S1.pen [e18 3 3]).1
def S3:Dv:=(S2.carry 0 2).1
def S4:Dv:={S3 with N:=(S3.N.fault 4 2 0 0 0 0).2}
def S5:Dv:=(S4.step 2).1
def S6:Dv:=S5.room.1
def S7:Dv:=(S6.torn [e18 9 9]).1
theorem h1:(S0.pen [e18 1 1,e18 2 2,e18 3 3]).2=(2,0):=by kernel_rfl
theorem h2:(S1.pen [e18 3 3]).2=(1,0):=by kernel_rfl
theorem h3:(S2.carry 0 2).2=(2,0):=by kernel_rfl
theorem h4:Tb.look S3.T.at_ 1=some ⟨1,0,0,7,4,1⟩:=by kernel_rfl
theorem h5:S3.op=1:=by kernel_rfl
theorem h6:(S4.step 2).2=(1,0):=by kernel_rfl
theorem h7:S5.leftN=2:=by kernel_rfl
theorem h8:S5.N.broken=0:=by kernel_rfl
theorem h9:S5.room.2=0:=by kernel_rfl
theorem h10:(S6.torn [e18 9 9]).2=0:=by kernel_rfl
theorem h11:S7.clear.2=0:=by kernel_rfl
def U:Nat:=10000000000
theorem G0:S0.Ok (10*U) 0:=Dv.Ok.new 3 8 2 20 rfl _ (by decide)
theorem d3:∀s∈[e18 1 1,e18 2 2,e18 3 3],s.data.length=16:=by decide
theorem d1:∀s∈[e18 3 3],s.data.length=16:=by decide
theorem d9:∀s∈[e18 9 9],s.data.length=16:=by decide
theorem G1:S1.Ok (9*U) 0:=(Dv.pen_keep (G0.less (by decide:8*Dv.fuel+9*U<=_)) d3).1
theorem G2:S2.Ok (8*U) 0:=(Dv.pen_keep (G1.less (by decide:8*Dv.fuel+8*U<=_)) d1).1
theorem G3:S3.Ok (7*U) 0:=(Dv.carry_keep (G2.less (by decide:Dv.costC+7*U<=_)) 0 2).1
theorem G4:S4.Ok (7*U) 0:=Dv.Ok.fault0 G3 4 2 0 0 0 0 (by decide)
theorem G5:S5.Ok (6*U) 0:=(Dv.step_keep (G4.less (by decide:Dv.costS+6*U<=_)) 2).1
theorem G6:S6.Ok (5*U) 0:=(Dv.room_keep (G5.less (by decide:Dv.costM+5*U<=_))).1
theorem G7:S7.Ok (4*U) 0:=(Dv.tornGo_keep 1 S6 [e18 9 9] _ (G6.less (by decide:Dv.costT*1+4*U<=_)) d9).1
end B18
end Go.Proofs.YtkdlnfdjjifedaaGreat
namespace Go.Proofs.YtkdlnfdjjifedaaGreat
open Go Go.RowKit
open B18
theorem l16_Begun:Fn Tryz.prog 155 [] [] (λv As=>v= .bool true/\As=[]):=by
 refine Fn.enter [] Tryz.func155 rfl rfl rfl λX F hX=>?_;refine J.q hX λ_=>?_;refine J.cb hX (l16_begun) [] ?_;refine cpq ⟨_,rfl,trivial,?_⟩;refine J.q hX λ_=>?_;exact J.ru hX [] ⟨rfl,rfl⟩
theorem l18_begun:Fn Tryz.prog 105 [] [] (λv As=>v= .bool true/\As=[]):=by
 refine Fn.enter [] Tryz.func105 rfl rfl rfl λX F hX=>?_;refine J.q hX λ_=>?_;refine J.cb hX (l18_bench 3 8 2 rfl 20) [] ?_;rintro v As ⟨n,t,l,q,rfl,rfl⟩;refine⟨_,rfl,trivial,?_⟩;rw[show Dv.new 3 8 2 20=S0 from rfl];refine J.q hX λ_=>?_;refine J.cF ?_;refine J.q hX λ_=>?_;refine J.cb hX (l18_entry 1 1) [] ?_;refine cpq ⟨_,rfl,trivial,?_⟩;refine J.q hX λ_=>?_;refine J.cb hX (l18_entry 2 2) [] ?_;refine cpq ⟨_,rfl,trivial,?_⟩;refine J.q hX λ_=>?_;refine J.cb hX (l18_entry 3 3) [] ?_;refine cpq ⟨_,rfl,trivial,?_⟩;refine J.q hX λbx=>?_;refine J.ca hX (by kernel_rfl) (pn_Write q n t l S0 (9*U) 0 (G0.less (by decide)) (.pt (bx 0) 133 (cellsE [e18 1 1,e18 2 2,e18 3 3])) (some ⟨bx 0,0,none⟩) 3 3 [e18 1 1,e18 2 2,e18 3 3] (pt_rd _ _ _ _ _ rfl) rfl (by decide) B18.d3) [1,2,3,4,5] 0 rfl rfl rfl rfl rfl rfl (λ_=>rfl) ?_;refine cpq ⟨_,rfl,trivial,?_⟩;rw[show(S0.pen [e18 1 1,e18 2 2,e18 3 3]).1=S1 from rfl,h1];refine J.q hX λ_=>?_;refine J.cb hX (l18_entry 3 3) [] ?_;refine cpq ⟨_,rfl,trivial,?_⟩;refine J.q hX λby_=>?_;refine J.ca hX (by kernel_rfl) (pn_Write q n t l S1 (8*U) 0 (G1.less (by decide)) (.pt (by_ 0) 133 (cellsE [e18 3 3])) (some ⟨by_ 0,0,none⟩) 1 1 [e18 3 3] (pt_rd _ _ _ _ _ rfl) rfl (by decide) B18.d1) [1,2,3,4,6] 0 rfl rfl rfl rfl rfl rfl (λ_=>rfl) ?_;refine cpq ⟨_,rfl,trivial,?_⟩;rw[show(S1.pen [e18 3 3]).1=S2 from rfl,h2];refine J.q hX λ_=>?_;refine J.cb hX (sw_Carry n t l q S2 (7*U) 0 (G2.less (by decide)) 0 2) [1,2,3,4] ?_;refine cpq ⟨_,rfl,trivial,?_⟩;rw[show(S2.carry 0 2).1=S3 from rfl,h3];refine J.q hX λ_=>?_;refine J.cb hX (tb_Get l S3.T 1) [4] ?_;refine cpq ⟨_,rfl,trivial,?_⟩;rw[h4,Option.getD_some,Option.isSome_some];refine J.q hX λ_=>?_;refine J.cb hX (pn_Open q n t l S3) [1] ?_;refine cpq ⟨_,rfl,trivial,?_⟩;rw[h5];refine J.q hX λ_=>?_;refine J.cb hX (n_Fault n S3.N G3.gd.ok 0 4 2 0 0 0 0) [2] ?_;refine cpq ⟨_,rfl,trivial,?_⟩;rw[show(S3.N.fault 4 2 0 0 0 0).2=S4.N from rfl,show PenA q n t l S3=PenA q n t l S4 from rfl,show S3.t=S4.t from rfl,show S3.T=S4.T from rfl];refine J.q hX λ_=>?_;refine J.cb hX (mn_Step n t l q S4 (6*U) 0 (G4.less (by decide)) (by decide) 2) [1,2,3,4] ?_;refine cpq ⟨_,rfl,trivial,?_⟩;rw[show(S4.step 2).1=S5 from rfl,h6];refine J.q hX λ_=>?_;refine J.cb hX (l16_Begun) [] ?_;refine cpq ⟨_,rfl,trivial,?_⟩;refine J.q hX λ_=>?_;refine J.cb hX (mn_Left t l S5 (6*U) 0 G5) [3,4] ?_;refine cpq ⟨_,rfl,trivial,?_⟩;rw[h7];refine J.q hX λ_=>?_;refine J.cb hX (n_Broken n S5.N) [2] ?_;refine cpq ⟨_,rfl,trivial,?_⟩;rw[h8];refine J.q hX λ_=>?_;refine J.cb hX (sw_Room n t l q S5 (5*U) 0 (G5.less (by decide)) (by decide)) [1,2,3,4] ?_;refine cpq ⟨_,rfl,trivial,?_⟩;rw[show S5.room.1=S6 from rfl,h9];refine J.q hX λ_=>?_;refine J.cb hX (l18_entry 9 9) [] ?_;refine cpq ⟨_,rfl,trivial,?_⟩;refine J.q hX λ_=>?_;refine J.effG hX tk rfl rfl rfl (λ_=>rfl) (by(repeat' (first | exact Conj.nil | refine Conj.cons ?_ ?_ | omega | exact hq0 | (simpa using hq0) | (exactλh=>h) | exact rfl | (intro hq;have hq0:=hq;try simp only[Bool.and_eq_true,Bool.or_eq_true,decide_eq_true_eq,Bool.not_eq_true',decide_eq_false_iff_not]at hq) | (simp;done) | (simp;omega) | decide))) (λ_=>rfl) λbt=>⟨trivial,?_⟩;refine J.q hX λ_=>?_;refine J.ca hX (by kernel_rfl) (mn_Torn n t l q S6 (4*U) 0 (.pt bt 133 (cellsE [e18 9 9])) (some (bt,0)) 1 1 [e18 9 9] (pt_rd _ _ _ _ _ rfl) rfl (by decide) (by decide) (λh=>by cases h) B18.d9 (G6.less (by decide)) (by decide)) [1,2,3,4,8] 0 rfl rfl rfl rfl rfl rfl (λ_=>rfl) ?_;refine cpq ⟨_,rfl,trivial,?_⟩;rw[show(S6.torn [e18 9 9]).1=S7 from rfl,h10];refine J.q hX λ_=>?_;refine J.cb hX (pn_Open q n t l S7) [1] ?_;refine cpq ⟨_,rfl,trivial,?_⟩;refine J.q hX λ_=>?_;refine J.ca hX (by kernel_rfl) (sw_Clear n t l S7.N S7.t S7.T (3*U) 0 (G7.gd.less (by decide) (Nat.le_refl _)) (by decide) G7.t S7.op) [2,3,4] 0 rfl rfl rfl rfl rfl rfl (λ_=>rfl) ?_;refine cpq ⟨_,rfl,trivial,?_⟩;rw[show(Dv.clearX S7.N S7.t S7.T S7.op).2.2=0 from h11];refine J.q hX λ_=>?_;exact J.ru hX [] ⟨rfl,rfl⟩
end Go.Proofs.YtkdlnfdjjifedaaGreat
namespace Go.Proofs.YtkdlnfdjjifedaaGreat
open Go Go.RowKit
theorem PlayP_on (q n:Nat) (A:Pad) (P:Pv) (Z:Fv) (hZ:P.Z=some Z):PlayP q n A P=[PlQ q n (some Z) A.f (.pointer (some ⟨A.fp,0,none⟩)) (slv A.a2 P.log.length A.c2), .pt A.fp 235 [.slice (oad2 A.a) P.L.length A.c],rdA (oad2 A.a) 7 P.L.length (cellsFl P.L),ownA 62 17 A.a2 P.log.length A.c2 (cellsTd P.log)]++FvP A.f A.p n A.t A.l A.d Z:=by unfold PlayP devP;rw[hZ];rfl
theorem fine_of {Z:List MSl} {M:List MPv} (h:Z.map (·.v)=M) (hM:∀v∈M,v.now.length=16/\(∀x∈v.may,x.length=16)/\(∀x∈v.ever,x.length=16)/\v.may.length<=1000/\v.ever.length<=1000):∀z∈Z,z.Fine:=λz hz=>hM z.v (by rw[<- h];exact List.mem_map.2 ⟨z,hz,rfl⟩)
theorem l18_Begun:Fn Tryz.prog 66 [] [] (λv As=>v= .bool true/\As=[]):=by
 refine Fn.enter [] Tryz.func66 rfl rfl rfl λX F hX=>?_;refine J.q hX λ_=>?_;refine J.cb hX (l18_begun) [] ?_;refine cpq ⟨_,rfl,trivial,?_⟩;refine J.q hX λ_=>?_;exact J.ru hX [] ⟨rfl,rfl⟩
open B21
theorem l21_begun:Fn Tryz.prog 19 [] [] (λv As=>v= .bool true/\As=[]):=by
 have G0:N0.Gd (Dv.costK+0) 0:=Gd_newB 3 8 2 rfl _ (by decide);refine Fn.enter [] Tryz.func19 rfl rfl rfl λX F hX=>?_;refine J.q hX λ_=>?_;refine J.cb hX (n_New 3 8 2 rfl) [] ?_;rintro v As ⟨n,rfl,rfl⟩;refine⟨_,rfl,trivial,?_⟩;rw[show Nand.new 3 8 2=N0 from rfl];refine J.q hX λ_=>?_;refine J.cb hX (ft_Mount n N0 0 0 G0 (by decide) rfl) [1] ?_;rintro v As (⟨_,f,p,t,l,d,rfl,rfl⟩ | ⟨he,rfl,rfl⟩)
 rotate_left
 ·exact absurd m0 he
 refine⟨_,rfl,trivial,?_⟩;rw[show Fv.of (mount N0).1=F0 from rfl];refine J.q hX λ_=>?_;refine J.cF ?_;refine J.q hX λ_=>?_;refine J.cb hX (ft_Write f p n t l d F0 (K 1) 0 (ok0.less (by decide)) (by decide) 1 (d1 7) rfl) [1,2,3,4,5,6] ?_;refine cpq ⟨_,rfl,trivial,?_⟩;rw[show F0.write 1 (d1 7)=F1 from rfl,v1];refine J.q hX λ_=>?_;refine J.cb hX (ft_Trim f p n t l d F1.1 (K 2) 0 (ok1.less (by decide)) (by decide) 2) [1,2,3,4,5,6] ?_;refine cpq ⟨_,rfl,trivial,?_⟩;rw[show F1.1.trim 2=F2 from rfl,v2];refine J.q hX λ_=>?_;refine J.cb hX (ft_Write f p n t l d F2.1 (K 3) 0 (ok2.less (by decide)) (by decide) 3 zd rfl) [1,2,3,4,5,6] ?_;refine cpq ⟨_,rfl,trivial,?_⟩;rw[show F2.1.write 3 zd=F3 from rfl,v3];refine J.q hX λ_=>?_;refine J.cb hX (ft_Read f p n t l d F3.1 (K 3) 0 ok3 1) [1,2,3,4,5,6] ?_;refine cpq ⟨_,rfl,trivial,?_⟩;rw[show F3.1.read 1=F4 from rfl,v4,w4];refine J.q hX λc7=>?_;refine J.cb hX (ft_Flush f p n t l d F4.1 (K 5) 0 (ok4.less (by decide)) (by decide)) [1,2,3,4,5,6] ?_;refine cpq ⟨_,rfl,trivial,?_⟩;rw[show F4.1.flush=F5 from rfl,v5];refine J.q hX λ_=>?_;refine J.cb hX (n_Cut n F5.1.S.N (-1) 0) [3] ?_;refine cpq ⟨_,rfl,trivial,?_⟩;refine J.q hX λ_=>?_;refine J.cb hX (ft_Read f p n t l d F6 (K 5) 0 ok6 1) [1,2,3,4,5,6] ?_;refine cpq ⟨_,rfl,trivial,?_⟩;rw[show F6.read 1=F7 from rfl,v7];refine J.q hX λc10=>?_;refine J.cb hX (n_On n F7.1.S.N) [3] ?_;refine cpq ⟨_,rfl,trivial,?_⟩;rw[show F7.1.S.N.onN=N8 from rfl];refine J.q hX λ_=>?_;refine J.cb hX (ft_Mount n N8 (K 6) 0 g8 (by decide) rfl) [3] ?_;rintro v As (⟨_,f',p',t',l',d',rfl,rfl⟩ | ⟨he,rfl,rfl⟩)
 rotate_left
 ·exact absurd m8 he
 refine⟨_,rfl,trivial,?_⟩;rw[show Fv.of (mount N8).1=F8 from rfl];refine J.q hX λ_=>?_;refine J.cb hX (ft_Read f' p' n t' l' d' F8 (K 6) 0 ok8 1) [3,9,10,11,12,13] ?_;refine cpq ⟨_,rfl,trivial,?_⟩;rw[show F8.read 1=F9 from rfl,v9,w9];refine J.q hX λc14=>?_;refine J.cb hX (md_New 2) [] ?_;rintro v As ⟨mq,mg,MZ,rfl,rfl,hM0⟩;refine⟨_,rfl,trivial,?_⟩;have ml0:MZ.length=2:=by have:=congrArg List.length hM0;rw[List.length_map]at this;exact this
 refine J.q hX λ_=>?_;refine J.cb hX (md_Write mq mg MZ (by omega) (fine_of hM0 (by decide)) 0 (d1 1) rfl) [15,16,17,18] ?_;rintro v As ⟨MZ1,rfl,rfl,hM1⟩;refine⟨_,rfl,trivial,?_⟩;rw[hM0]at hM1;have ml1:MZ1.length=2:=by have:=congrArg List.length hM1;rw[List.length_map]at this;exact this
 refine J.q hX λ_=>?_;refine J.cb hX (md_Cut mq mg MZ1 (by omega)) [15,16,17,18] ?_;rintro v As ⟨MZ2,rfl,rfl,hM2⟩;refine⟨_,rfl,trivial,?_⟩;rw[hM1]at hM2;have hM2:MZ2.map (·.v)=M1:=hM2;have ml2:MZ2.length=2:=by have:=congrArg List.length hM2;rw[List.length_map]at this;exact this
 refine J.q hX λ_=>?_;refine J.turn1 [] rfl (As:=[rdA none 7 0 (cellsFl [])]) (λh s=>Sep.one ⟨rfl,λh=>absurd h (by decide)⟩) rfl ?_;refine J.q hX λ_=>?_;refine J.ca hX (by kernel_rfl) (py_New 3 8 2 rfl (rdA none 7 0 (cellsFl [])) none 0 0 [] (rdA_rd _ _ _ _) rfl (by decide)) [19] 0 rfl rfl rfl rfl rfl rfl (λ_=>rfl) ?_;rintro v As ⟨q,nn,A0,rfl,hA0,rfl⟩;rw[show Pv.new 3 8 2 []=P0 from rfl]at hA0 ⊢;rw[PlayP_on q nn A0 P0 F0 z0];refine⟨_,rfl,trivial,?_⟩;refine J.q hX λ_=>?_;have hst1:=py_Step q nn A0 P0 hA0 F0 z0 (K 1) 0 (ok0.less (by decide)) (by decide) (by decide) (by decide) s1 rfl;rw[PlayP_on q nn A0 P0 F0 z0]at hst1;refine J.q hX λ_=>?_;refine J.cb hX (hst1) [20,21,22,23,24,25,26,27,28,29] ?_;rintro v As ⟨A1,rfl,hA1,rfl⟩;obtain⟨x1,hx1⟩:∃x,(P0.step s1).2=⟨0,x⟩:=⟨(P0.step s1).2.data,by rw[<- e1]⟩;rw[show(P0.step s1).1=P1 from rfl]at hA1 ⊢;rw[PlayP_on q nn A1 P1 B21.Z1 z1,hx1];refine⟨_,rfl,trivial,?_⟩;refine J.q hX λc18=>?_;have hst2:=py_Step q nn A1 P1 hA1 B21.Z1 z1 (K 2) 0 (okz1.less (by decide)) (by rw[pL1];decide) (by rw[pL1];decide) (by rw[pl1];decide) s2 rfl;rw[PlayP_on q nn A1 P1 B21.Z1 z1]at hst2;refine J.q hX λ_=>?_;refine J.cb hX (hst2) [20,21,22,23,24,25,26,27,28,29] ?_;rintro v As ⟨A2,rfl,hA2,rfl⟩;obtain⟨x2,hx2⟩:∃x,(P1.step s2).2=⟨x,d1 9⟩:=⟨(P1.step s2).2.err,by rw[<- e2]⟩;rw[show(P1.step s2).1=P2 from rfl]at hA2 ⊢;rw[PlayP_on q nn A2 P2 B21.Z2 z2,hx2];refine⟨_,rfl,trivial,?_⟩;refine J.q hX λc19=>?_;refine J.cb hX (ca_All f' p' n t' l' d' F9.1 (K 6) 0 ok9) [3,9,10,11,12,13] ?_;rintro v As ⟨aa,ac,rfl,rfl⟩;refine⟨_,rfl,trivial,?_⟩;rw[show F9.1.all=Fa from rfl,va,wa];refine J.q hX λ_=>?_;have hz2:P2.Z=some B21.Z2:=z2;have hlog:=py_Log q nn A2 P2 (by rw[lg2];decide);rw[hz2]at hlog;refine J.q hX λ_=>?_;refine J.cb hX (hlog) [20,23] ?_;rintro v As ⟨la,lc,rfl,rfl⟩;refine⟨_,rfl,trivial,?_⟩;refine J.q hX λ_=>?_;refine J.cb hX (l18_Begun) [] ?_;refine cpq ⟨_,rfl,trivial,?_⟩;refine J.qn hX 19 λ_=>?_;refine J.val hX (.bool true) 0 rfl rfl (λhg aa w he hw=>(eqAgg_run (xs:=dataC (d1 7)) (ys:=dataC (d1 7)) rfl rfl rfl he hg rfl leavesD (fitsD _) (fitsD _) mkD gdD).trans (by rw[eqD _ _ rfl rfl];simp)) rfl trivial ?_;refine J.qn hX 20 λ_=>?_;refine J.val hX (.bool true) 0 rfl rfl (λhg aa w he hw=>(eqAgg_run (xs:=dataC (d1 7)) (ys:=dataC (d1 7)) rfl rfl rfl he hg rfl leavesD (fitsD _) (fitsD _) mkD gdD).trans (by rw[eqD _ _ rfl rfl];simp)) rfl trivial ?_;refine J.q hX λ_=>?_;refine J.cb hX (ft_Logical f n t l p d (F7.1.setN Fa.1.S.N) oka.dv.gd.ok) [1,10] ?_;refine cpq ⟨_,rfl,trivial,?_⟩;rw[show(F7.1.setN Fa.1.S.N).lg=3 from lgA];refine J.q hX λ_=>?_;refine J.cb hX (md_May mq mg MZ2 (by omega) (fine_of hM2 (by decide)) 0 (zd) rfl) [15,16,17,18] ?_;refine cpq ⟨_,rfl,trivial,?_⟩;rw[hM2,q1];refine J.q hX λ_=>?_;refine J.cb hX (md_May mq mg MZ2 (by omega) (fine_of hM2 (by decide)) 0 (d1 1) rfl) [15,16,17,18] ?_;refine cpq ⟨_,rfl,trivial,?_⟩;rw[hM2,q2];refine J.q hX λ_=>?_;refine J.cb hX (md_May mq mg MZ2 (by omega) (fine_of hM2 (by decide)) 0 (d1 2) rfl) [15,16,17,18] ?_;refine cpq ⟨_,rfl,trivial,?_⟩;rw[hM2,q3];refine J.qn hX 11 λ_=>?_;refine J.val hX (.bool true) 0 rfl rfl (λhg aa w he hw=>(eqAgg_run (xs:=dataC (d1 9)) (ys:=dataC (d1 9)) rfl rfl rfl he hg rfl leavesD (fitsD _) (fitsD _) mkD gdD).trans (by rw[eqD _ _ rfl rfl];simp)) rfl trivial ?_;refine J.q hX λ_=>?_;have hrest:=ca_Rest q nn A2 P2 hA2 B21.Z2 z2 50 0 0 (okz2.less (by decide)) okz2o (by rw[pL2];decide) (by rw[pL2];decide) (by rw[lg2];decide) B21.Z3 z3;rw[PlayP_on q nn A2 P2 B21.Z2 z2]at hrest;refine J.q hX λ_=>?_;refine J.cb hX (hrest) [20,21,22,23,24,25,26,27,28,29] ?_;rintro v As ⟨A3,rfl,_,rfl⟩;refine⟨_,rfl,trivial,?_⟩;rw[t3];refine J.q hX λ_=>?_;refine J.cb hX (bo_Ops 3 8 2) [] ?_;refine cpq ⟨_,rfl,trivial,?_⟩;rw[show boOps 3 8 2=616 from rfl];refine J.q hX λ_=>?_;refine J.ru hX [] ?_;refine⟨?_,rfl⟩;rw[lg2];rfl
end Go.Proofs.YtkdlnfdjjifedaaGreat
namespace Go.Proofs.YtkdlnfdjjifedaaGreat
open Go Go.RowKit
theorem f6_MayZ (d b p:Int):Fn Tryz.prog 61 [.agg #[.int .i64 d, .int .i64 b, .int .i64 p]] [] (λv As=>v= .bool (geoMay d b p)/\As=[]):=by
 refine Fn.enter [0] Tryz.func61 rfl rfl rfl λX F hX=>?_;refine J.run hX tk 400 (λb1=>rfl) (λb1=>?_) (λb1=>?_)
 ·(repeat' (first | exact Conj.nil | refine Conj.cons ?_ ?_ | exact rfl | exact hq | (exact Bool.noConfusion hq) | (rw[hq];rfl) | (rw[(Bool.not_eq_true' _).mp hq]) | intro hq | omega | (simp;done)))
 refine J.q hX λ_=>?_;refine J.ru hX [] ?_;refine⟨?_,rfl⟩;show Value.bool _= .bool (geoMay d b p);congr 1;rw[Bool.eq_iff_iff];simp[geoMay];omega
theorem bo_facts {d b p:Int} (hbd:(3<=d/\d<=6)/\(8<=b/\b<=16)/\(2<=p/\p<=8)):(0<=12*d*b/\12*d*b<=1152)/\(0<=12*d*b*p/\12*d*b*p<=9216):=by
 have m1:0<=12*d*b/\12*d*b<=1152:=by
  have h1:=Int.mul_nonneg (show 0<=12*d by omega) (show 0<=b by omega);have h2:=Int.mul_le_mul (show 12*d<=72 by omega) (show b<=16 by omega) (by omega) (by omega);omega
 have h1:=Int.mul_nonneg m1.1 (show 0<=p by omega);have h2:=Int.mul_le_mul m1.2 (show p<=8 by omega) (by omega) (by omega);exact⟨m1,by omega⟩
theorem s_BoundAll (d b p:Int) (A:Atom):Fn Tryz.prog 16 [.agg #[.int .i64 d, .int .i64 b, .int .i64 p]] [A] (λv As=>v= .bool true/\As=[A]):=by
 refine Fn.enter [0] Tryz.func16 rfl rfl rfl λX F hX=>?_;refine J.q hX λ_=>?_;refine J.cb hX (l21_begun) [] ?_;refine cpq ⟨_,rfl,trivial,?_⟩;refine J.q hX λ_=>?_;refine J.cF ?_;refine J.q hX λ_=>?_;refine J.cb hX (f6_MayZ d b p) [] ?_;refine cpq ⟨_,rfl,trivial,?_⟩;refine J.q hX λ_=>?_;refine J.cond rfl (λh1=>?_) (λh1=>?_)
 ·have hg:geoMay d b p=false:=by simpa using h1
  have hb:boOps d b p=0:=by unfold boOps;rw[hg];rfl
  have ht:boTicks d b p=0:=by unfold boTicks;rw[hg];rfl
  refine J.q hX λ_=>?_;refine J.cb hX (bo_Ops d b p) [] ?_;refine cpq ⟨_,rfl,trivial,?_⟩;rw[hb];refine J.q hX λ_=>?_;refine J.cb hX (bo_Mount d b p) [] ?_;refine cpq ⟨_,rfl,trivial,?_⟩;rw[hb];refine J.q hX λ_=>?_;refine J.cb hX (bo_Ticks d b p) [] ?_;refine cpq ⟨_,rfl,trivial,?_⟩;rw[ht];refine J.q hX λ_=>?_;exact J.ru hX [1] ⟨rfl,rfl⟩
 ·have hg:geoMay d b p=true:=by simpa using h1
  have hbd:(3<=d/\d<=6)/\(8<=b/\b<=16)/\(2<=p/\p<=8):=by simp[geoMay]at hg;omega
  obtain⟨D,rfl⟩:=Int.eq_ofNat_of_zero_le (show 0<=d by omega);obtain⟨B,rfl⟩:=Int.eq_ofNat_of_zero_le (show 0<=b by omega);obtain⟨P,rfl⟩:=Int.eq_ofNat_of_zero_le (show 0<=p by omega);obtain⟨m1,m2⟩:=bo_facts hbd;have h200:1<=lgN D B P/\lgN D B P<=200:=lgN_200 (Gd_newB D B P hg 0 (by decide)).ok;have hb:boOps D B P=12*D*B*P+40:=by unfold boOps;rw[hg];rfl
  have ht:boTicks D B P=lgN D B P+2*B:=by unfold boTicks;rw[hg];rfl
  refine J.q hX λ_=>?_;refine J.plan (.of [1,8,6,12,16,21,28,32,26,36,40,44,49,57,64,69,72,54,62,76,80,84,88]) [22] [1,2] (by rw[hX.hP];kernel_rfl) (by kernel_rfl) ?_;refine J.q hX λ_=>?_;refine J.cb hX (bo_Ops D B P) [] ?_;refine cpq ⟨_,rfl,(by first | exact trivial | (repeat' (first | exact trivial | refine⟨rfl,?_⟩))),?_⟩;rw[hb];obtain⟨x,hx⟩:∃x:Int,12*(D:Int)*B*P+40=x:=⟨_,rfl⟩;rw[hx]at hb ⊢;refine J.qn hX 1 λ_=>?_;rw[show(x==x)=true from beq_self_eq_true x];refine J.q hX λ_=>?_;refine J.cb hX (bo_Mount D B P) [] ?_;refine cpq ⟨_,rfl,(by first | exact trivial | (repeat' (first | exact trivial | refine⟨rfl,?_⟩))),?_⟩;rw[hb];refine J.qn hX 1 λ_=>?_;rw[show(2*x==2*x)=true from beq_self_eq_true _];refine J.q hX λ_=>?_;refine J.cb hX (bo_Ticks D B P) [] ?_;refine cpq ⟨_,rfl,(by first | exact trivial | (repeat' (first | exact trivial | refine⟨rfl,?_⟩))),?_⟩;rw[ht];refine J.q hX λ_=>?_;refine J.cb hX (f6_Logical D B P hg) [] ?_;refine cpq ⟨_,rfl,(by first | exact trivial | (repeat' (first | exact trivial | refine⟨rfl,?_⟩))),?_⟩;refine J.q hX λ_=>?_;refine J.ru hX [1] ?_;refine⟨?_,rfl⟩;show Value.bool (_&&(_==_))=_;rw[beq_self_eq_true];rfl
end Go.Proofs.YtkdlnfdjjifedaaGreat
namespace Go.Proofs.YtkdlnfdjjifedaaGreat
open Go
theorem andT {a b:Bool} (ha:a=true) (hb:b=true):(a&&b)=true:=by rw[ha,hb];rfl
theorem joined_of {P:Program} {f:FuncId} {fn:Func} {s:ChangeSpec} {c:OpenClaim} (k0:(c.wf (OpenSpec.ofChange s))=true) (k1:(laidOutB P)=true) (k2:(mapsRowed P)=true) (k3:(fn.params.all (P.readableRec ·))=true) (k4:(namedTie P c.named s.vars)=true) (k5:(c.stops==[])=true) (k6:(P.stops==[])=true) (k7:(c.knobs==[])=true) (k8:(P.stopKnobs==[])=true) (k9:(c.inPlace==P.inPlace f)=true) (k10:(c.unfollowed==P.unfollowed f)=true) (k11:(c.recurses==P.recurses f)=true) (k12:(c.named==P.varsNamed f)=true) (k13:(c.maps==(fn.params.toList++s.plain.varTypes P).any (P.mapsRec ·))=true) (k14:(c.ifaces==(fn.params.toList++s.plain.varTypes P).any (P.ifacesRec ·))=true) (k15:(c.mapsOut==P.mapsAmong fn.resultTypes.toList)=true) (k16:(c.loops==(fn.params.toList++s.plain.varTypes P).any (P.loopsFrom ·))=true) (k17:(c.wideKeys==(fn.params.toList++s.plain.varTypes P++fn.resultTypes.toList).any (P.wideKeysFrom ·))=true) (k18:(s.vars.all (P.varReadable ·))=true) (k19:(fn.resultTypes.all (λt=>P.readableRec t&&decide (t<P.types.size)))=true) (k20:(c.ifacesOut==fn.resultTypes.toList.any (P.ifacesRec ·))=true) (k21:(c.loopsOut==fn.resultTypes.toList.any (P.loopsFrom ·))=true) (k22:(c.plainKeys==P.plainKeys)=true) (k23:(c.shortTexts.isNone)=true) (k24:(P.stopsHeard)=true) (k25:(P.mayEnter)=true) (k26:(c.lifted==P.liftsFinal)=true) (k27:(P.make==some c.make)=true) (k28a:c.domain.isEmpty=true) (k28:(c.kinds==[])=true) (k29:(c.pinned==c.pinnedBy)=true) (k30:(c.veiled==(fn.params.toList++s.plain.varTypes P++fn.resultTypes.toList).any (P.veiledRec ·))=true) (k31:(c.veiledFits P fn.params.toList (fn.params.toList++s.plain.varTypes P++fn.resultTypes.toList))=true):joinedFacts P f fn s c=true:=by
 unfold joinedFacts;rw[if_pos k28a];exact(andT (andT (andT (andT (andT (andT (andT (andT (andT (andT (andT (andT (andT (andT (andT (andT (andT (andT (andT (andT (andT (andT (andT (andT (andT (andT (andT (andT (andT (andT (andT k0 k1) k2) k3) k4) k5) k6) k7) k8) k9) k10) k11) k12) k13) k14) k15) k16) k17) k18) k19) k20) k21) k22) k23) k24) k25) k26) k27) k28) k29) k30) k31)
theorem j_laid:laidOutB Tryz.prog=true:=by kernel_rfl
theorem j_rowed:mapsRowed Tryz.prog=true:=by kernel_rfl
theorem j_stops:(Tryz.prog.stops==[])=true:=by kernel_rfl
theorem j_knobs:(Tryz.prog.stopKnobs==[])=true:=by kernel_rfl
theorem j_heard:Tryz.prog.stopsHeard=true:=by kernel_rfl
theorem j_enter:Tryz.prog.mayEnter=true:=by kernel_rfl
end Go.Proofs.YtkdlnfdjjifedaaGreat
