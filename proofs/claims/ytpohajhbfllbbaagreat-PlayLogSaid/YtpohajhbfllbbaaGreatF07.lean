/- Helpers. No condition. -/
import Derived.Test.YtpohajhbfllbbaaGreatF04
import Derived.Test.YtpohajhbfllbbaaGreatF05
import Derived.Test.YtpohajhbfllbbaaGreatF06
set_option maxRecDepth 20000
set_option linter.all false
namespace Go.Proofs.YtpohajhbfllbbaaGreat
open Go Go.RowKit
theorem f8 {e size:Nat} {c:Option Nat×Nat} {n:Nat} {xs:List Value} (hn:0<n) {h:Hl} (s:(c8 e size c.1 n c.2 xs).sat h):∃g,c.1=some g:=by
 obtain⟨_,h2⟩:=s;cases hc:c.1 with
 | none=>rw[hc]at h2;omega
 | some g=>exact⟨g,rfl⟩
theorem J.cg {X:Cx} {K:List KI} {E E':Env} {L:List Atom} {N:Nat} {F:HP} {Post:Value->List Atom->Prop} {rs:List ResultVar} (hX:IsCx X Tryz.prog rs N F Post) {ops:Array Oper} {C:Cl} {l:Bool} {i:Nat} {t:PT} {o:Oper} {b:Bool} {f:FuncId} {vs:List Value} {ob:List Prop} {V:Value}
  (c:Fn Tryz.prog f vs [] (Ps V [])) (hJ:J X (.reg ops C t::K) E' L) (hf:j7 Tryz.prog f=true:=by kernel_rfl) (ho:j5 ops.toList i=some o:=by exact rfl) (hg:gd ops.toList E o=some (.when b):=by exact rfl) (hc:a0G E o.op=some (f,vs,ob):=by exact rfl) (hob:b=true->Conj ob:=by intro hq;(repeat' (first | exact Conj.nil | refine Conj.cons ?_ ?_ | omega | exact hq0 | (simpa using hq0) | (exactλh=>h) | exact rfl | (intro hq;have hq0:=hq;try simp only[Bool.and_eq_true,Bool.or_eq_true,decide_eq_true_eq,Bool.not_eq_true',decide_eq_false_iff_not]at hq) | (simp;done) | (simp;omega) | decide)))
  (hd:v6 N o.dst V 0 (.when b) E=some E':=by exact rfl) (ok:m9 L []=true:=by exact rfl) (h0:D0 L [] []=some L:=by exact rfl) (hst:Conj (l5 l C L):=by first | exact trivial | (repeat' (first | exact trivial | refine⟨rfl,?_⟩))):J X (.reg ops C (.alt l i t .non)::K) E L:=by
 intro a w hx he hs;rw[j4]at ho;have ho':ops[i]? =some o:=by simpa using ho
 refine⟨⟨o,ho',?_⟩,trivial⟩;have hw:=D7 he hg;unfold sOp;cases b with
 | true=>
  rw[if_pos (by rw[hw];rfl),a3B (P:=X.P) he (by rw[hX.hP];exact hf) hc (hob rfl)];have hcall:=c (HP.of (C4 L [])) w (hs.split ok);rw[<- hX.hP]at hcall;refine Calls.mono hcall λe w' ⟨v,As,he',⟨e1,e2⟩,hs',hx'⟩=>⟨v,he',?_⟩;subst e1 e2;have hs2:=Sep.back ok hs';rw[<- O7 (A6 ok).1 h0]at hs2;exact⟨p4 hst hs2,hJ _ w' (hx.trans hx') (r6 he (by rw[hX.hN];exact hd) _ rfl) hs2⟩
 | false=>
  rw[if_neg (by rw[hw];simp[G.on])];exact⟨p4 hst hs,hJ _ w hx (r6 he (by rw[hX.hN];exact hd) _ rfl) hs⟩
theorem b0I (m d:Int) (h0:0<=m) (h1:m<256):(bits .and .i64 m (L.one d) !=0)=L.has m d:=by
 obtain⟨m,rfl⟩:=Int.eq_ofNat_of_zero_le h0
 by_cases hd:0<=d/\d<8
 ·obtain⟨d,rfl⟩:=Int.eq_ofNat_of_zero_le hd.1;exact(by decide+kernel:∀m,m<256->∀d,d<8->(bits .and .i64 ((m:Nat):Int) (L.one (d:Nat)) !=0)=L.has m d) m (by omega) d (by omega)
 ·have h4:L.has (m:Int) d=false:=by
   simp only[L.has,Bool.and_eq_false_iff,decide_eq_false_iff_not];omega
  rw[h4,L.one,if_neg hd];exact(by decide+kernel:∀m,m<256->(bits .and .i64 ((m:Nat):Int) 0 !=0)=false) m (by omega)
theorem a7S (d:Int):L.one d=0\/∃k:Nat,k<8/\d=k/\L.one d=((2^k:Nat):Int):=by
 by_cases hd:0<=d/\d<8
 ·obtain⟨d,rfl⟩:=Int.eq_ofNat_of_zero_le hd.1;exact .inr ⟨d,by omega,rfl,by simp only[L.one,hd,and_self,if_true,Int.toNat_natCast]⟩
 ·exact .inl (by simp[L.one,hd])
theorem without_dec:∀m,m<256->∀k,k<8->bits .andNot .i64 ((m:Nat):Int) ((2^k:Nat):Int)=((m&&& (255-2^k):Nat):Int):=by decide+kernel
theorem with_dec:∀m,m<256->∀k,k<8->bits .or .i64 ((m:Nat):Int) ((2^k:Nat):Int)=((m||| 2^k:Nat):Int):=by decide+kernel
theorem a7y:∀m,m<256->bits .or .i64 ((m:Nat):Int) 0=((m||| 0:Nat):Int)/\bits .andNot .i64 ((m:Nat):Int) 0=((m&&& 255:Nat):Int):=by decide+kernel
theorem a2J (m d:Int) (h0:0<=m) (h1:m<256):bits .or .i64 m (L.one d)=L.with_ m d/\bits .andNot .i64 m (L.one d)=L.without m d:=by
 obtain⟨m,rfl⟩:=Int.eq_ofNat_of_zero_le h0;have hs:L.set (m:Int)=true:=by simp[L.set];omega
 simp only[L.with_,L.without,hs,if_true];rcases a7S d with h | ⟨k,hk,_,h⟩
 ·rw[h];exact a7y m (by omega)
 ·rw[h];exact⟨with_dec m (by omega) k hk,without_dec m (by omega) k hk⟩
theorem a7d (m:Int):FP 155 [iI m] [] (Ps (.bool (L.set m)) []):=by
 refine FE [0] Tryz.func155 λX F hX=>?_;exact J.qx []
theorem b0k (d:Int):FP 156 [iI d] [] (Ps (iI (L.one d)) []):=by
 refine FE [0] Tryz.func156 λX F hX=>?_;refine J.qd (λ_ h=>?_) λ_ h=>?_
 ·simp only[Bool.or_eq_true,decide_eq_true_eq]at h;refine J.qr [] λ_=>?_;exact⟨by rw[L.one,if_neg (by omega)],rfl⟩
 ·simp only[Bool.or_eq_false_iff,decide_eq_false_iff_not]at h;obtain⟨d,rfl⟩:=Int.eq_ofNat_of_zero_le (by omega:0<=d)
  match d,(by omega:d<8)with
  | 0,_ | 1,_ | 2,_ | 3,_ | 4,_ | 5,_ | 6,_ | 7,_=>
   exact J.qx []
theorem a5p (n:Int):FP 153 [iI n] [] (Ps (iI (L.all n)) []):=by
 refine FE [0] Tryz.func153 λX F hX=>?_;refine J.qd (λ_ h=>?_) λ_ h=>?_
 ·simp only[Bool.or_eq_true,decide_eq_true_eq]at h;refine J.qr [] λ_=>?_;exact⟨by rw[L.all,if_neg (by omega)],rfl⟩
 ·simp only[Bool.or_eq_false_iff,decide_eq_false_iff_not]at h;obtain⟨d,rfl⟩:=Int.eq_ofNat_of_zero_le (by omega:0<=n)
  match d,(by omega:d<9)with
  | 0,_ | 1,_ | 2,_ | 3,_ | 4,_ | 5,_ | 6,_ | 7,_ | 8,_=>
   exact J.qx []
theorem a3i (m d:Int):FP 122 [iI m,iI d] [] (Ps (.bool (L.has m d)) []):=by
 refine FE [0,0] Tryz.func122 λX F hX=>?_;refine J.qp (a7d m) [] λ_=>?_;cases h:L.set m with
 | false=>
  refine J.q λ_=>?_;refine J.v (iI 0) rfl rfl (λhg a w he hw=>by simp[G.on]at hg) ?_;refine J.qr [] λ_=>?_;exact⟨by simp[L.has,h],rfl⟩
 | true=>
  refine J.qp (b0k d) [] λ_=>?_;refine J.qr [] λ_=>?_;exact⟨congrArg Value.bool (b0I m d ((L.set_iff m).1 h).1 ((L.set_iff m).1 h).2),rfl⟩
theorem a4e (m d:Int):FP 103 [iI m,iI d] [] (Ps (iI (L.with_ m d)) []):=by
 refine FE [0,0] Tryz.func103 λX F hX=>?_;refine J.qp (a7d m) [] λ_=>?_;cases h:L.set m with
 | false=>
  refine J.qT λ_=>?_;refine J.qr [] λ_=>?_;exact⟨by simp[L.with_,h],rfl⟩
 | true=>
  refine J.qF λ_=>?_;refine J.qp (b0k d) [] λ_=>?_;refine J.qr [] λ_=>?_;exact⟨congrArg (Value.int .i64) (a2J m d ((L.set_iff m).1 h).1 ((L.set_iff m).1 h).2).1,rfl⟩
theorem U8 (m d:Int):FP 195 [iI m,iI d] [] (Ps (iI (L.without m d)) []):=by
 refine FE [0,0] Tryz.func195 λX F hX=>?_;refine J.qp (a7d m) [] λ_=>?_;cases h:L.set m with
 | false=>
  refine J.qT λ_=>?_;refine J.qr [] λ_=>?_;exact⟨by simp[L.without,h],rfl⟩
 | true=>
  refine J.qF λ_=>?_;refine J.qp (b0k d) [] λ_=>?_;refine J.qr [] λ_=>?_;exact⟨congrArg (Value.int .i64) (a2J m d ((L.set_iff m).1 h).1 ((L.set_iff m).1 h).2).2,rfl⟩
def oc1 (m:Int):Int:=IntKind.u64.wrap (bits BinOp.and IntKind.u64 (m/2) 6148914691236517205+bits BinOp.and IntKind.u64 m 6148914691236517205)
def oc2 (x:Int):Int:=IntKind.u64.wrap (bits BinOp.and IntKind.u64 (x/4) 3689348814741910323+bits BinOp.and IntKind.u64 x 3689348814741910323)
def oc3 (x:Int):Int:=bits BinOp.and IntKind.u64 (IntKind.u64.wrap (x/16+x)) 1085102592571150095
def oc4 (x:Int):Int:=IntKind.u64.wrap (x+x/256)
def oc5 (x:Int):Int:=IntKind.u64.wrap (x+x/65536)
def oc6 (x:Int):Int:=IntKind.u64.wrap (x+x/4294967296)
def oc (m:Int):Int:=bits BinOp.and IntKind.i64 (wrap64 (oc6 (oc5 (oc4 (oc3 (oc2 (oc1 m))))))) 127
theorem b3N:∀m,m<256->oc ((m:Nat):Int)=(L.count (m:Int):Int):=by decide+kernel
set_option maxHeartbeats 400000 in
theorem b3L (m:Int) (h0:0<=m) (h1:m<256) (w:World):
  Calls Tryz.prog 255 #[.int .u64 m] w λe w'=>e= .returned (iI (L.count m))/\w=w':=by
 obtain⟨k,rfl⟩:=Int.eq_ofNat_of_zero_le h0;have hoc:=Lib.hid (b3N k (by omega))
 go_enter Tryz.func255,Tryz.ntmps255
 go_wp2
 go_ret
 exact⟨a3R hoc.out,rfl⟩
theorem b3S (m:Int) (h0:0<=m) (h1:m<256):FP 227 [.int .u64 m] [] (Ps (iI (L.count m)) []):=by
 refine FE [0] Tryz.func227 λX F hX=>?_;refine J.qF λ_=>?_;refine J.qp ((Fn.of_same (b3L m h0 h1))) [] λ_=>?_;exact J.qx []
theorem X6 (m:Int):FP 191 [iI m] [] (Ps (iI (L.count m)) []):=by
 refine FE [0] Tryz.func191 λX F hX=>?_;refine J.qp (a7d m) [] λ_=>?_;cases h:L.set m with
 | false=>
  refine J.qT λ_=>?_;refine J.qr [] λ_=>?_;exact⟨by simp[L.count,L.dies,h],rfl⟩
 | true=>
  obtain⟨h0,h1⟩:=(L.set_iff m).1 h;refine J.qF λ_=>?_;refine J.qp (b3S m h0 h1) [] λ_=>?_;exact J.qx []
theorem b3T (m i:Int) (h0: -1000000<=i) (h1:i<=1000000):FP 194 [iI m,iI i] [] (Ps (iI (L.at_ m i)) []):=by
 refine FE [0,0] Tryz.func194 λX F hX=>?_;have hz:=L.below_zero m;refine J.q λ_=>?_;refine J.l (α:=(Nat×Int)) (λz=>z.1<=8/\z.2=i-L.below m z.1/\(0<=i->(L.below m z.1:Int)<=i)) (λz=>[si 6 z.1,si 1 z.2,si 0 m]) [] (λz=>[]) (λz=>8-z.1) ((0,i)) (⟨Nat.zero_le _,by dsimp only;omega,λ_=>by dsimp only;omega⟩) λz hI=>?_;obtain⟨k,x⟩:=z;dsimp only at hI ⊢;obtain⟨hk,hx,hi⟩:=hI;have hb:L.below m k<=8:=Nat.le_trans (List.length_filter_le _ _) (by simp);refine J.qd (λ_ h=>?_) λ_ h=>?_
 ·simp only[decide_eq_true_eq]at h;have hs:=L.below_succ m k (by omega);have ha:=L.at_below m k (by omega);refine J.qp (a3i m k) [] λ_=>?_;cases hh:L.has m k with
  | false=>
   rw[hh]at hs;refine J.qT λ_=>?_;refine J.q λ_=>?_;refine J.n ((k+1,x)) (⟨by dsimp only;omega,by dsimp only;rw[hs];simpa using hx,by dsimp only;rw[hs];simpa using hi⟩) (by dsimp only;omega) [0]
  | true=>
   rw[hh,if_pos rfl]at hs;refine J.qF λ_=>?_;refine J.qd (λ_ h2=>?_) λ_ h2=>?_
   ·simp only[beq_iff_eq]at h2;refine J.qr [] λ_=>?_;exact⟨by rw[<- ha hh,show(L.below m k:Int)=i from by omega],rfl⟩
   ·simp only[beq_eq_false_iff_ne,ne_eq]at h2;refine J.q λ_=>?_;refine J.n ((k+1,x-1)) (⟨by dsimp only;omega,by dsimp only;omega,λh=>by have:=hi h;dsimp only;omega⟩) (by dsimp only;omega) [0]
 ·simp only[decide_eq_false_iff_not]at h;obtain rfl:k=8:=by omega
  rw[L.below_eight]at hi;refine J.qr [] λ_=>?_;exact⟨by rw[L.at_ge m i (by omega)],rfl⟩
theorem all_dec:∀m,m<256->∀d,d<8->L.has (m:Nat) (d:Nat)=true->(L.count (bits .and .i64 ((m:Nat):Int) (L.all (d:Nat))):Int)=L.spot (m:Nat) (d:Nat):=by decide+kernel
theorem b0l (m d:Int):FP 310 [iI m,iI d] [] (Ps (iI (L.spot m d)) []):=by
 refine FE [0,0] Tryz.func310 λX F hX=>?_;refine J.qp (a3i m d) [] λ_=>?_;cases h:L.has m d with
 | false=>
  refine J.qT λ_=>?_;refine J.qr [] λ_=>?_;exact⟨by simp[L.spot,h],rfl⟩
 | true=>
  obtain⟨h1,h2,h3,h4⟩:=L.has_lt m d h;obtain⟨m,rfl⟩:=Int.eq_ofNat_of_zero_le h3;obtain⟨d,rfl⟩:=Int.eq_ofNat_of_zero_le h1;refine J.qF λ_=>?_;refine J.qp (a5p d) [] λ_=>?_;refine J.qp (X6 _) [] λ_=>?_;refine J.qr [] λ_=>?_;exact⟨congrArg (Value.int .i64) (all_dec m (by omega) d (by omega) h),rfl⟩
theorem D8 (m:Int):FP 131 [iI m] [] (Ps (iI (G.slots m)) []):=by
 have:=L.count_le m;refine FE [0] Tryz.func131 λX F hX=>?_;refine J.qp (X6 m) [] λ_=>?_;refine J.qd (λ_ h=>?_) λ_ h=>?_
 ·simp only[decide_eq_true_eq]at h;refine J.qr [] λ_=>?_;exact⟨by rw[G.slots,if_pos (by omega)],rfl⟩
 ·simp only[decide_eq_false_iff_not]at h;refine J.qr [] λ_=>?_;exact⟨by rw[G.slots,if_neg (by omega)],rfl⟩
theorem E6 (m b r:Int):FP 171 [iI m,iI b,iI r] [] (Ps (iI (G.parity m b r)) []):=by
 have hc:=L.count_le m;refine FE [0,0,0] Tryz.func171 λX F hX=>?_;refine J.qp (X6 m) [] λ_=>?_;refine J.qd (λ_ h=>?_) λ_ h=>?_
 ·simp only[Bool.or_eq_true,decide_eq_true_eq]at h;refine J.qr [] λ_=>?_;exact⟨by rw[G.parity,if_pos (by omega)],rfl⟩
 ·simp only[Bool.or_eq_false_iff,decide_eq_false_iff_not]at h;have hn0:(L.count m:Int)≠0:=by omega
  have hn1:(0:Int)<L.count m:=by omega
  have h1:=Int.emod_nonneg b hn0;have h2:=Int.emod_lt_of_pos b hn1;have h3:=Int.emod_nonneg r hn0;have h4:=Int.emod_lt_of_pos r hn1;have h5:=Int.emod_nonneg (b+r) hn0;have h6:=Int.emod_lt_of_pos (b+r) hn1;have e1:b.tmod (L.count m:Int)=b % (L.count m:Int):=Int.tmod_eq_emod_of_nonneg (by omega);have e2:r.tmod (L.count m:Int)=r % (L.count m:Int):=Int.tmod_eq_emod_of_nonneg (by omega);have e3:(b.tmod (L.count m:Int)+r.tmod (L.count m:Int)).tmod (L.count m:Int)=(b+r) % (L.count m:Int):=by rw[e1,e2,Int.tmod_eq_emod_of_nonneg (by omega),<- Int.add_emod]
  refine J.pq (.of [0,4,8,12,16,20,24,28,32,36,43,44]) [10,11] [] λ_ _=>?_;rw[e3];refine J.q λ_=>?_;refine J.ca hX (by kernel_rfl) (b3T m _ (by omega) (by omega)) [] 0 rfl rfl rfl rfl rfl rfl (λ_=>rfl) ?_;refine cpq ⟨_,rfl,trivial,?_⟩;refine J.qr [] λ_=>?_;exact⟨by rw[G.parity,if_neg (by omega)],rfl⟩
theorem a7f (m b r s:Int) (h0: -1000000<=s) (h1:s<=1000000):FP 136 [iI m,iI b,iI r,iI s] [] (Ps (iI (G.die m b r s)) []):=by
 refine FE [0,0,0,0] Tryz.func136 λX F hX=>?_;refine J.qp (E6 m b r) [] λ_=>?_;refine J.qd (λ_ h=>?_) λ_ h=>?_
 ·simp only[decide_eq_true_eq]at h;refine J.qr [] λ_=>?_;exact⟨by rw[G.die,if_pos h],rfl⟩
 ·simp only[decide_eq_false_iff_not]at h;refine J.qp (U8 m _) [] λ_=>?_;refine J.qp (b3T _ s h0 h1) [] λ_=>?_;refine J.qr [] λ_=>?_;exact⟨by rw[G.die,if_neg h],rfl⟩
theorem b0Q (m b r s:Int):FP 306 [iI m,iI b,iI r,iI s] [] (Ps (iI (G.slot m b r s)) []):=by
 refine FE [0,0,0,0] Tryz.func306 λX F hX=>?_;refine J.qp (E6 m b r) [] λ_=>?_;refine J.qd (λ_ h=>?_) λ_ h=>?_
 ·simp only[decide_eq_true_eq]at h;refine J.qr [] λ_=>?_;exact⟨by rw[G.slot,if_pos h],rfl⟩
 ·simp only[decide_eq_false_iff_not]at h;refine J.qp (U8 m _) [] λ_=>?_;refine J.qp (b0l _ s) [] λ_=>?_;refine J.qr [] λ_=>?_;exact⟨by rw[G.slot,if_neg h],rfl⟩
theorem M8 (n a b:Int):FP 108 [iI n,iI a,iI b] [] (Ps (.bool (decide (a<=n)&&decide (n<=b))) []):=by
 refine FE [0,0,0] Tryz.func108 λX F hX=>?_;exact J.qx []
theorem a0D (d b p:Int):FP 68 [.agg #[iI d,iI b,iI p]] [] (Ps (.bool (m7 d b p)) []):=by
 have hs:m7 d b p=(((decide (3<=d)&&decide (d<=6))&&(decide (8<=b)&&decide (b<=16)))&&(decide (2<=p)&&decide (p<=8))):=by simp[m7,Bool.decide_and]
 refine FE [0] Tryz.func68 λX F hX=>?_;refine J.qp (M8 d 3 6) [] λ_=>?_;refine J.q λ_=>?_;refine J.cg hX (M8 b 8 16) ?_;refine J.q λ_=>?_;refine J.cg hX (M8 p 2 8) ?_;refine J.qr [] λ_=>?_;exact⟨by rw[hs],rfl⟩
theorem a5z (d b p x y z:Int) (hd:0<=d/\d<=1000000) (hb:0<=b/\b<=1000000) (hp:0<=p/\p<=1000000):FP 109 [.agg #[iI d,iI b,iI p], .agg #[iI x,iI y,iI z]] [] (Ps (.bool (x3 d b p x y z)) []):=by
 have e:∀u v:Int,decide (0<=u/\u<v)=(decide (0<=u)&&decide (u<=v-1)):=λu v=>by rw[Bool.eq_iff_iff];simp;omega
 have hs:x3 d b p x y z=(((decide (0<=x)&&decide (x<=d-1))&&(decide (0<=y)&&decide (y<=b-1)))&&(decide (0<=z)&&decide (z<=p-1))):=by simp only[x3,e]
 refine FE [0,0] Tryz.func109 λX F hX=>?_;refine J.qp (M8 x 0 (d-1)) [] λ_=>?_;refine J.q λ_=>?_;refine J.cg hX (M8 y 0 (b-1)) ?_;refine J.q λ_=>?_;refine J.cg hX (M8 z 0 (p-1)) ?_;refine J.qr [] λ_=>?_;exact⟨by rw[hs],rfl⟩
def byC (l:List UInt8) (k:Nat):Value:=bv (l.getD k 0)
def j8 (l:List UInt8):List Value:=[byC l 0,byC l 1,byC l 2,byC l 3,byC l 4,byC l 5,byC l 6,byC l 7,byC l 8,byC l 9,byC l 10,byC l 11,byC l 12,byC l 13,byC l 14,byC l 15]
def p9 (l:List UInt8):List Value:=[byC l 0,byC l 1,byC l 2,byC l 3,byC l 4,byC l 5,byC l 6,byC l 7,byC l 8,byC l 9,byC l 10,byC l 11,byC l 12,byC l 13,byC l 14,byC l 15,byC l 16,byC l 17,byC l 18,byC l 19,byC l 20,byC l 21,byC l 22,byC l 23,byC l 24,byC l 25,byC l 26,byC l 27,byC l 28,byC l 29,byC l 30,byC l 31]
def NCell.vals (c:NCell):List Value:=[byC c.p 0,byC c.p 1,byC c.p 2,byC c.p 3,byC c.p 4,byC c.p 5,byC c.p 6,byC c.p 7,byC c.p 8,byC c.p 9,byC c.p 10,byC c.p 11,byC c.p 12,byC c.p 13,byC c.p 14,byC c.p 15,byC c.p 16,byC c.p 17,byC c.p 18,byC c.p 19,byC c.p 20,byC c.p 21,byC c.p 22,byC c.p 23,byC c.p 24,byC c.p 25,byC c.p 26,byC c.p 27,byC c.p 28,byC c.p 29,byC c.p 30,byC c.p 31, .bool c.lost, .bool c.turned]
def m5 (l:List NCell):List Value:=l.flatMap NCell.vals
structure NLoc where
 r:Nat
 q:Nat
 d:Nat
 bp:Nat->Nat
def Nand.mainV (N:Nand) (Y:NLoc):List Value:=
 [iI N.dies,iI N.blocks,iI N.pages, .map (some Y.r),pp Y.q, .slice (some ⟨Y.d,0,none⟩) N.dies N.dies, .bool N.off,iI N.ops,iI N.broken, .bool N.cuts,iI N.left,iI N.keep]
def a2E (b:Nat) (B:NBlock):Atom:=exA λa:Option Nat×Nat=>
 [.pt b 118 [slv a.1 B.cells.length a.2,iI B.worn, .bool B.fails, .bool B.met],c8 178 34 a.1 B.cells.length a.2 (m5 B.cells)]
def U0 (nb n:Nat) (bp:Nat->Nat):List (A3×Value):=(List.range n).map λk=>((((k/nb:Nat):Int),((k % nb:Nat):Int),0),pp (bp k))
def B8 (nb n:Nat) (bp:Nat->Nat) (f:Nat->Nat->NBlock):List Atom:=(List.range n).map λk=>a2E (bp k) (f (k/nb) (k % nb))
def B1 (p:Nat) (N:Nand) (Y:NLoc):List Atom:=
 [.pt p 94 (N.mainV Y),s7 Y.r a3v (U0 N.blocks (N.dies*N.blocks) Y.bp),H4 Y.q N.plan, .pt Y.d 4 (N.dead.map Value.bool), .hp (HP.of (B8 N.blocks (N.dies*N.blocks) Y.bp N.blk))]
def d8 (p:Nat) (N:Nand):Atom:=exA (B1 p N)
theorem a6F (nb:Nat) (bp:Nat->Nat) (i j:Nat) (hj:j<nb):∀n,p6 (U0 nb n bp) ((i:Int),(j:Int),0)=if i*nb+j<n then some (pp (bp (i*nb+j)))else none:=by
 have hnb:0<nb:=by omega
 have key:∀(m k:Nat),p6 ((List.range' m k).map λk=>((((k/nb:Nat):Int),((k % nb:Nat):Int),(0:Int)),Value.pointer (some ⟨bp k,0,none⟩))) ((i:Int),(j:Int),0)=if m<=i*nb+j/\i*nb+j<m+k then some (pp (bp (i*nb+j)))else none:=by
  intro m k
  induction k generalizing m with
  | zero=>simp[p6]
  | succ k ih=>
   rw[List.range'_succ,List.map_cons,p6]
   by_cases e:m=i*nb+j
   ·subst e;rw[if_pos,if_pos (by omega)];have h1:(i*nb+j)/nb=i:=by rw[Nat.add_comm,Nat.mul_comm,Nat.add_mul_div_left _ _ hnb,Nat.div_eq_of_lt hj,Nat.zero_add]
    have h2:(i*nb+j) % nb=j:=by rw[Nat.add_comm,Nat.add_mul_mod_self_right];exact Nat.mod_eq_of_lt hj
    rw[h1,h2]
   ·rw[if_neg,ih]
    ·by_cases h:m+1<=i*nb+j/\i*nb+j<m+1+k
     ·rw[if_pos h,if_pos (by omega)]
     ·rw[if_neg h,if_neg (by omega)]
    ·intro h;simp only[Prod.mk.injEq,Int.natCast_inj,and_true]at h;apply e;rw[h.1,h.2,Nat.mul_comm];exact(Nat.div_add_mod m nb).symm
 intro n;have:=key 0 n;simpa[U0,List.range_eq_range']using this
theorem a2o (nb:Nat) (hnb:0<nb) (bp:Nat->Nat) (a:A3) (n:Nat) (h:∀i j:Nat,i*nb+j<n->j<nb->a≠((i:Int),(j:Int),0)):p6 (U0 nb n bp) a=none:=by
 have key:∀(l:List Nat),(∀k∈l,k<n)->p6 (l.map λk=>((((k/nb:Nat):Int),((k % nb:Nat):Int),(0:Int)),Value.pointer (some ⟨bp k,0,none⟩))) a=none:=by
  intro l
  induction l with
  | nil=>intro _;rfl
  | cons k l ih=>
   intro hl;rw[List.map_cons,p6,if_neg,ih (λk' hk'=>hl k' (List.mem_cons_of_mem _ hk'))];refine h (k/nb) (k % nb) ?_ (Nat.mod_lt _ hnb);have:=Nat.div_add_mod k nb;rw[Nat.mul_comm]at this;rw[this];exact hl k (List.mem_cons_self ..)
 exact key _ (λk hk=>by simpa using hk)
theorem Sep.openAt {BL:List Atom} {h:Hl} {k:Nat} {A:Atom} (s:Sep [.hp (HP.of BL)] h) (hk:BL[k]? =some A):Sep [.hp (HP.of (BL.set k .emp)),A] h:=by
 obtain⟨own,hw⟩:=Sep.hpOf.1 s;refine⟨λb=>if own b=k then 1 else 0,λj B hB=>?_⟩
 match j with
 | 0=>
  simp at hB;subst hB;refine⟨own,λi C hC=>?_⟩;rw[List.getElem?_set]at hC;split at hC
  ·split at hC
   ·simp at hC;subst hC;trivial
   ·cases hC
  ·rename_i hne;refine Atom.up (λb o hb=>?_) (hw i C hC);rw[res_some]at hb ⊢;exact⟨hb.1,res_some.2 ⟨by rw[if_neg (by rw[hb.1];exactλe=>hne e.symm)],hb.2⟩⟩
 | 1=>
  simp at hB;subst hB;refine Atom.up (λb o hb=>?_) (hw k _ hk);rw[res_some]at hb ⊢;exact⟨by rw[if_pos hb.1],hb.2⟩
 | j+2=>simp at hB
theorem Sep.closeAt {BL:List Atom} {h:Hl} {k:Nat} {A:Atom} (s:Sep [.hp (HP.of (BL.set k .emp)),A] h):Sep [.hp (HP.of (BL.set k A))] h:=by
 obtain⟨own,hw⟩:=s;obtain⟨own2,hw2⟩:=hw 0 _ rfl;refine Sep.hpOf.2 ⟨λb=>if own b=0 then own2 b else k,λj B hB=>?_⟩;rw[List.getElem?_set]at hB;split at hB
 ·rename_i e;split at hB
  ·injection hB with hB;subst hB;subst e;refine Atom.up (λb o hb=>?_) (hw 1 _ rfl);rw[res_some]at hb ⊢;exact⟨by rw[if_neg (by omega)],hb.2⟩
  ·cases hB
 ·rename_i hne;refine Atom.up (λb o hb=>?_) (hw2 j B (by rw[List.getElem?_set,if_neg hne];exact hB));rw[res_some]at hb ⊢;have:=res_some.1 hb.2;exact⟨by rw[if_pos this.1];exact hb.1,this.2⟩
section
variable {X : Cx} {K : List KI} {E : Env} {L : List Atom}
theorem J.openAt {BL L':List Atom} (i k:Nat) {A:Atom} (ok:m9 L [i]=true) (hp:l8 L [i]=[.hp (HP.of BL)]) (hk:BL[k]? =some A) (hL:D0 L [i] [.hp (HP.of (BL.set k .emp)),A]=some L') (h:J X K E L'):J X K E L:=
 J.turn1 [i] ok (λh' s=>by rw[hp]at s;exact s.openAt hk) hL h
theorem J.closeAt {BL L':List Atom} (i j k:Nat) {A:Atom} (ok:m9 L [i,j]=true) (hp:l8 L [i,j]=[.hp (HP.of (BL.set k .emp)),A]) (hL:D0 L [i,j] [.hp (HP.of (BL.set k A))]=some L') (h:J X K E L'):J X K E L:=
 J.turn1 [i,j] ok (λh' s=>by rw[hp]at s;exact s.closeAt) hL h
end
theorem D6 (nb n:Nat) (bp:Nat->Nat) (f:Nat->Nat->NBlock) (k:Nat) (h:k<n):(B8 nb n bp f)[k]? =some (a2E (bp k) (f (k/nb) (k % nb))):=by simp[B8,h]
theorem z7 {i j nb:Nat} (hj:j<nb):(i*nb+j)/nb=i/\(i*nb+j) % nb=j:=by
 have hnb:0<nb:=by omega
 exact⟨by rw[Nat.add_comm,Nat.mul_comm,Nat.add_mul_div_left _ _ hnb,Nat.div_eq_of_lt hj,Nat.zero_add],by rw[Nat.add_comm,Nat.add_mul_mod_self_right];exact Nat.mod_eq_of_lt hj⟩
theorem a1O {i j d nb:Nat} (hi:i<d) (hj:j<nb):i*nb+j<d*nb:=by
 have:(i+1)*nb<=d*nb:=Nat.mul_le_mul_right nb hi;rw[Nat.succ_mul]at this;omega
theorem a8E (nb n:Nat) (bp:Nat->Nat) (f:Nat->Nat->NBlock) (i j:Nat) (B:NBlock) (hj:j<nb):(B8 nb n bp f).set (i*nb+j) (a2E (bp (i*nb+j)) B)=B8 nb n bp (λa b=>if a=i/\b=j then B else f a b):=by
 apply List.ext_getElem?;intro k;rw[List.getElem?_set];have hlen:(B8 nb n bp f).length=n:=by simp[B8]
 have hg:∀g k,(B8 nb n bp g)[k]? =if k<n then some (a2E (bp k) (g (k/nb) (k % nb)))else none:=λg k=>by
  by_cases hk:k<n
  ·rw[D6 _ _ _ _ _ hk,if_pos hk]
  ·rw[if_neg hk,List.getElem?_eq_none (by simp[B8];omega)]
 rw[hlen,hg,hg]
 by_cases e:i*nb+j=k
 ·subst e;rw[if_pos rfl]
  by_cases hk:i*nb+j<n
  ·rw[if_pos hk,if_pos hk,(z7 hj).1,(z7 hj).2,if_pos ⟨rfl,rfl⟩]
  ·rw[if_neg hk,if_neg hk]
 ·rw[if_neg e]
  by_cases hk:k<n
  ·rw[if_pos hk,if_pos hk,if_neg];rintro⟨rfl,rfl⟩;apply e;have:=Nat.div_add_mod k nb;rw[Nat.mul_comm]at this;exact this
  ·rw[if_neg hk,if_neg hk]
theorem E7 (l:List UInt8) (h:l.length=16):j8 l=l.map bv:=by
 match l,h with
 | [a0,a1,a2,a3,a4,a5,a6,a7,a8,a9,a10,a11,a12,a13,a14,a15],_=>rfl
theorem t6 (l:List UInt8) (h:l.length=32):p9 l=l.map bv:=by
 match l,h with
 | [a0,a1,a2,a3,a4,a5,a6,a7,a8,a9,a10,a11,a12,a13,a14,a15,a16,a17,a18,a19,a20,a21,a22,a23,a24,a25,a26,a27,a28,a29,a30,a31],_=>rfl
theorem i7:∀(l:List NCell),(m5 l).length=l.length*34
 | []=>rfl
 | c::l=>by
  have:=i7 l;simp only[m5,List.flatMap_cons,List.length_append,List.length_cons]at this ⊢;rw[this,show c.vals.length=34 from rfl];omega
theorem a0l:∀(l:List NCell) (r:List Value) (z:Nat) (c:NCell),l[z]? =some c->((m5 l++r).drop (z*34)).take 34=c.vals
 | [],r,z,c,h=>by simp at h
 | x::l,r,0,c,h=>by
  simp at h;subst h;simp only[m5,List.flatMap_cons,List.append_assoc,Nat.zero_mul,List.drop_zero];have:=List.take_left (l₁:=x.vals) (l₂:=List.flatMap NCell.vals l++r);exact this
 | x::l,r,z+1,c,h=>by
  have:=a0l l r z c (by simpa using h);simp only[m5,List.flatMap_cons,List.append_assoc,Nat.succ_mul]at this ⊢;rw[show z*34+34=x.vals.length+z*34 from by show _=34+_;omega,<- List.drop_drop,List.drop_left];exact this
theorem a5H {l:List NCell} {z:Nat} {c:NCell} (h:l[z]? =some c):((m5 l).drop (z*34)).take 32=p9 c.p:=by
 have h1:=a0l l [] z c h;rw[List.append_nil]at h1;have:=congrArg (List.take 32) h1;rw[List.take_take]at this;exact this
theorem a0F {l:List NCell} {z k:Nat} {c:NCell} (h:l[z]? =some c) (hk:k<34):(m5 l)[z*34+k]? =c.vals[k]?:=by
 have h1:=a0l l [] z c h;rw[List.append_nil]at h1;rw[<- h1,List.getElem?_take,if_pos hk,List.getElem?_drop]
theorem J.closeN {X:Cx} {K:List KI} {E:Env} {L L':List Atom} (p:Nat) (N N':Nand) (Y:NLoc) (i j:Nat) (hj:j<N.blocks) (B:NBlock) (c:Option Nat×Nat) (is:List Nat) (ok:m9 L is=true)
  (hp:l8 L is=[.pt p 94 (N'.mainV Y),s7 Y.r a3v (U0 N.blocks (N.dies*N.blocks) Y.bp),H4 Y.q N'.plan, .pt Y.d 4 (N'.dead.map Value.bool), .hp (HP.of ((B8 N.blocks (N.dies*N.blocks) Y.bp N.blk).set (i*N.blocks+j) .emp)),
   .pt (Y.bp (i*N.blocks+j)) 118 [slv c.1 B.cells.length c.2,iI B.worn, .bool B.fails, .bool B.met],c8 178 34 c.1 B.cells.length c.2 (m5 B.cells)])
  (h1:N'.dies=N.dies) (h2:N'.blocks=N.blocks) (hB:N'.blk=λa b=>if a=i/\b=j then B else N.blk a b) (hL:D0 L is [d8 p N']=some L') (h:J X K E L'):J X K E L:=by
 refine J.turn1 is ok (λh' s=>?_) hL h;rw[hp]at s;have s1:=s.turn1 [5,6] rfl (As:=[a2E (Y.bp (i*N.blocks+j)) B]) (λh2 s2=>⟨λ_=>0,λk A hA=>by
  cases k with
  | zero=>simp at hA;subst hA;exact⟨c,s2.up λb o hb=>res_some.2 ⟨rfl,hb⟩⟩
  | succ k=>simp at hA⟩)
 have s2:=s1.turn1 [4,5] rfl (As:=[.hp (HP.of ((B8 N.blocks (N.dies*N.blocks) Y.bp N.blk).set (i*N.blocks+j) (a2E (Y.bp (i*N.blocks+j)) B)))]) (λh2 s2=>Sep.closeAt s2);rw[a8E _ _ _ _ _ _ _ hj,<- hB]at s2;have s3:=s2.sub [0,1,2,3,4] rfl;refine⟨λ_=>0,λk A hA=>?_⟩;cases k with
 | zero=>
  simp at hA;subst hA;refine⟨Y,?_⟩;have:B1 p N' Y=[.pt p 94 (N'.mainV Y),s7 Y.r a3v (U0 N.blocks (N.dies*N.blocks) Y.bp),H4 Y.q N'.plan, .pt Y.d 4 (N'.dead.map Value.bool), .hp (HP.of (B8 N.blocks (N.dies*N.blocks) Y.bp N'.blk))]:=by rw[B1,h1,h2]
  rw[this];exact s3.up λb o hb=>res_some.2 ⟨rfl,hb⟩
 | succ k=>simp at hA
theorem u7 (f:Nat->Nat->NBlock) (i j:Nat):f=λa b=>if a=i/\b=j then f i j else f a b:=by
 funext a b;split
 ·rename_i h;rw[h.1,h.2]
 ·rfl
theorem Nand.Ok.bd {N:Nand} (h:N.Ok):(3<=N.dies/\N.dies<=6)/\(8<=N.blocks/\N.blocks<=16)/\(2<=N.pages/\N.pages<=8):=by
 have:=h.geo;simp[m7]at this;omega
theorem a0b (p:Nat) (N:Nand) (hN:N.Ok) (x y z:Int):FP 221 [pp p, .agg #[iI x,iI y,iI z]] [d8 p N] (Ps (iI (N.refuses x y z)) [d8 p N]):=by
 have hbd:=hN.bd;refine FE [2,0] Tryz.func221 λX F hX=>?_;refine J.o (α:=NLoc) 1 λY=>?_;refine J.qF λ_=>?_;refine J.qd (λ_ h1=>?_) λ_ h1=>?_
 ·refine J.q λ_=>?_;refine J.cl (B1 p N) (Y) [1,2,3,4,5] ?_;refine J.qr [1] λ_=>?_;exact⟨by simp[Nand.refuses,h1],rfl⟩
 refine J.pq (.of [0,4,8,13,17,22,24,28]) [] [1,2,3,4,5,6] λ_ _=>?_;refine J.ca hX (by kernel_rfl) (a5z _ _ _ x y z (by omega) (by omega) (by omega)) [] 0 rfl rfl rfl rfl rfl rfl (λ_=>rfl) ?_;refine cpq ⟨_,rfl,⟨rfl,rfl,rfl,rfl,rfl,rfl,trivial⟩,?_⟩;refine J.qd (λ_ h2=>?_) λ_ h2=>?_
 ·refine J.q λ_=>?_;refine J.cl (B1 p N) (Y) [1,2,3,4,5] ?_;refine J.qr [1] λ_=>?_;simp only[Bool.not_eq_true']at h2;exact⟨by simp[Nand.refuses,h1,h2],rfl⟩
 simp only[Bool.not_eq_false']at h2;have h3:(0<=x/\x<N.dies):=by simp[x3]at h2;omega
 obtain⟨i,rfl⟩:=Int.eq_ofNat_of_zero_le h3.1;have h4:i<N.dead.length:=by rw[hN.dead];omega
 refine J.pq (.of [0,4,8,13,16,21,24,29,32]) [] [1,2,3,4,5,6] λ_ _=>?_;refine J.vT (.bool N.dead[i]) rfl rfl (λ_ a w he hC=>?_) ?_
 ·exact f9 tk rfl rfl he rfl rfl rfl (hC rfl _ (f0 (i:=4) rfl)) (by simp[h4])
 refine J.qd (λ_ h5=>?_) λ_ h5=>?_
 ·refine J.q λ_=>?_;refine J.cl (B1 p N) (Y) [1,2,3,4,5] ?_;refine J.qr [1] λ_=>?_;exact⟨by simp[Nand.refuses,h1,h2,h4,h5],rfl⟩
 refine J.q λ_=>?_;refine J.cl (B1 p N) (Y) [1,2,3,4,5] ?_;refine J.qr [1] λ_=>?_;exact⟨by simp[Nand.refuses,h1,h2,h4,h5],rfl⟩
theorem M3 (x y:Int):FP 74 [iI x,iI y] [] (Ps (.agg #[iI x,iI y,iI 0]) []):=by
 refine FE [] Tryz.func74 λX F hX=>?_;exact J.qx []
theorem Q1:Tryz.prog.underlying 90=some (.map 33 115):=by kernel_rfl
theorem G9 {N:Nand} {Y:NLoc} {i j:Nat} (hi:i<N.dies) (hj:j<N.blocks):p6 (U0 N.blocks (N.dies*N.blocks) Y.bp) ((i:Int),(j:Int),0)=some (pp (Y.bp (i*N.blocks+j))):=by
 rw[a6F _ _ _ _ hj,if_pos (a1O hi hj)]
theorem a3F {N:Nand} {Y:NLoc} {x y:Int} (hb:0<N.blocks) (h:¬(0<=x/\x<N.dies/\0<=y/\y<N.blocks)):p6 (U0 N.blocks (N.dies*N.blocks) Y.bp) (x,y,0)=none:=by
 refine a2o _ hb _ _ _ λi j hij hj e=>h ?_;simp only[Prod.mk.injEq]at e;have hi:i<N.dies:=by
  rcases Nat.lt_or_ge i N.dies with h | h
  ·exact h
  ·have:=Nat.mul_le_mul_right N.blocks h;omega
 omega
theorem a9Z (p:Nat) (N:Nand) (hN:N.Ok) (x y:Int):FP 124 [pp p,iI x,iI y] [d8 p N] (λv As=>v=iI (N.next x y)/\As=[d8 p N]):=by
 have hbd:=hN.bd
 by_cases hr:0<=x/\x<N.dies/\0<=y/\y<N.blocks
 ·obtain⟨i,rfl⟩:=Int.eq_ofNat_of_zero_le hr.1;obtain⟨j,rfl⟩:=Int.eq_ofNat_of_zero_le hr.2.2.1;have hi:i<N.dies:=by omega
  have hj:j<N.blocks:=by omega
  have hv:((N.next i j:Nat):Int)=((N.blk i j).cells.length:Nat):=by rw[Nand.next,if_pos (by omega)];rfl
  refine FE [2,0,0] Tryz.func124 λX F hX=>?_;refine J.o (α:=NLoc) 1 λY=>?_;refine J.openAt 5 (i*N.blocks+j) rfl rfl (D6 _ _ _ _ _ (a1O hi hj)) rfl ?_;rw[(z7 hj).1,(z7 hj).2];refine J.o (α:=(Option Nat×Nat)) 6 λc=>?_;refine J.p (.of [0,4,8,12,16,20,25,28,32,38,41,44,48]) [] [1,2,3,4,6,7] λ_=>?_;refine J.qp (M3 i j) [] λ_=>?_;refine J.valT hX (pp (Y.bp (i*N.blocks+j))) 7 rfl rfl (λ_ a w he hC=>?_) rfl ?_
  ·refine(i6 (key:=((i:Int),(j:Int),0)) C7 Q1 (z:= .pointer none) (λw=>by kernel_rfl) rfl rfl rfl rfl he rfl rfl (hC rfl _ (f0 (i:=2) rfl))).trans ?_;simp only[G9 hi hj];rfl
  refine J.qF λ_=>?_;refine J.p (.of [0,4,8,13,16,20,26,29,32,36,41,44,48]) [12] [1,2,3,4,6,7] λ_=>?_;refine J.qp (M3 i j) [] λ_=>?_;refine J.valT hX (pp (Y.bp (i*N.blocks+j))) 7 rfl rfl (λ_ a w he hC=>?_) rfl ?_
  ·refine(i6 (key:=((i:Int),(j:Int),0)) C7 Q1 (z:= .pointer none) (λw=>by kernel_rfl) rfl rfl rfl rfl he rfl rfl (hC rfl _ (f0 (i:=2) rfl))).trans ?_;simp only[G9 hi hj];rfl
  refine J.q λ_=>?_;refine J.closeN p N (N) Y i j hj (N.blk i j) _ [1,2,3,4,5,6,7] rfl rfl rfl rfl (u7 _ _ _) rfl ?_;refine J.qr [1] λ_=>?_;exact⟨by rw[hv],rfl⟩
 ·refine FE [2,0,0] Tryz.func124 λX F hX=>?_;refine J.o (α:=NLoc) 1 λY=>?_;refine J.p (.of [0,4,8,12,16,20,25,28,32,38,41,44,48]) [] [1,2,3,4] λ_=>?_;refine J.qp (M3 x y) [] λ_=>?_;refine J.vT (.pointer none) rfl rfl (λ_ a w he hC=>?_) ?_
  ·refine(i6 (key:=(x,y,0)) C7 Q1 (z:= .pointer none) (λw=>by kernel_rfl) rfl rfl rfl rfl he rfl rfl (hC rfl _ (f0 (i:=2) rfl))).trans ?_;simp only[a3F (show 0<N.blocks by omega) hr];rfl
  refine J.qT λ_=>?_;refine J.q λ_=>?_;refine J.cl (B1 p N) (Y) [1,2,3,4,5] ?_;refine J.qr [1] λ_=>?_;exact⟨by simp[Nand.next,hr],rfl⟩
theorem a6l (p:Nat) (N:Nand) (hN:N.Ok) (x y:Int):FP 121 [pp p,iI x,iI y] [d8 p N] (λv As=>v=iI (N.wornAt x y)/\As=[d8 p N]):=by
 have hbd:=hN.bd
 by_cases hr:0<=x/\x<N.dies/\0<=y/\y<N.blocks
 ·obtain⟨i,rfl⟩:=Int.eq_ofNat_of_zero_le hr.1;obtain⟨j,rfl⟩:=Int.eq_ofNat_of_zero_le hr.2.2.1;have hi:i<N.dies:=by omega
  have hj:j<N.blocks:=by omega
  have hv:N.wornAt i j=(N.blk i j).worn:=by rw[Nand.wornAt,if_pos (by omega)];rfl
  refine FE [2,0,0] Tryz.func121 λX F hX=>?_;refine J.o (α:=NLoc) 1 λY=>?_;refine J.openAt 5 (i*N.blocks+j) rfl rfl (D6 _ _ _ _ _ (a1O hi hj)) rfl ?_;rw[(z7 hj).1,(z7 hj).2];refine J.o (α:=(Option Nat×Nat)) 6 λc=>?_;refine J.p (.of [0,4,8,12,16,20,25,28,32,38,41,44,48]) [] [1,2,3,4,6,7] λ_=>?_;refine J.qp (M3 i j) [] λ_=>?_;refine J.valT hX (pp (Y.bp (i*N.blocks+j))) 7 rfl rfl (λ_ a w he hC=>?_) rfl ?_
  ·refine(i6 (key:=((i:Int),(j:Int),0)) C7 Q1 (z:= .pointer none) (λw=>by kernel_rfl) rfl rfl rfl rfl he rfl rfl (hC rfl _ (f0 (i:=2) rfl))).trans ?_;simp only[G9 hi hj];rfl
  refine J.qF λ_=>?_;refine J.p (.of [0,4,8,13,16,20,26,29,32,36,41,44]) [11] [1,2,3,4,6,7] λ_=>?_;refine J.qp (M3 i j) [] λ_=>?_;refine J.valT hX (pp (Y.bp (i*N.blocks+j))) 7 rfl rfl (λ_ a w he hC=>?_) rfl ?_
  ·refine(i6 (key:=((i:Int),(j:Int),0)) C7 Q1 (z:= .pointer none) (λw=>by kernel_rfl) rfl rfl rfl rfl he rfl rfl (hC rfl _ (f0 (i:=2) rfl))).trans ?_;simp only[G9 hi hj];rfl
  refine J.q λ_=>?_;refine J.closeN p N (N) Y i j hj (N.blk i j) _ [1,2,3,4,5,6,7] rfl rfl rfl rfl (u7 _ _ _) rfl ?_;refine J.qr [1] λ_=>?_;exact⟨by rw[hv],rfl⟩
 ·refine FE [2,0,0] Tryz.func121 λX F hX=>?_;refine J.o (α:=NLoc) 1 λY=>?_;refine J.p (.of [0,4,8,12,16,20,25,28,32,38,41,44,48]) [] [1,2,3,4] λ_=>?_;refine J.qp (M3 x y) [] λ_=>?_;refine J.vT (.pointer none) rfl rfl (λ_ a w he hC=>?_) ?_
  ·refine(i6 (key:=(x,y,0)) C7 Q1 (z:= .pointer none) (λw=>by kernel_rfl) rfl rfl rfl rfl he rfl rfl (hC rfl _ (f0 (i:=2) rfl))).trans ?_;simp only[a3F (show 0<N.blocks by omega) hr];rfl
  refine J.qT λ_=>?_;refine J.q λ_=>?_;refine J.cl (B1 p N) (Y) [1,2,3,4,5] ?_;refine J.qr [1] λ_=>?_;exact⟨by simp[Nand.wornAt,hr],rfl⟩
theorem M4 (p:Nat) (N:Nand):FP 24 [pp p] [d8 p N] (λv As=>v= .agg #[iI N.dies,iI N.blocks,iI N.pages]/\As=[d8 p N]):=by
 refine FE [2] Tryz.func24 λX F hX=>?_;refine J.o (α:=NLoc) 1 λY=>?_;refine J.qF λ_=>?_;refine J.q λ_=>?_;refine J.cl (B1 p N) (Y) [1,2,3,4,5] ?_;exact J.qx [1]
theorem U6 (p:Nat) (N:Nand):FP 55 [pp p] [d8 p N] (λv As=>v= .bool (!N.off)/\As=[d8 p N]):=by
 refine FE [2] Tryz.func55 λX F hX=>?_;refine J.o (α:=NLoc) 1 λY=>?_;refine J.q λ_=>?_;refine J.cl (B1 p N) (Y) [1,2,3,4,5] ?_;refine J.qr [1] λ_=>?_;exact⟨by simp,rfl⟩
theorem a9Y (p:Nat) (N:Nand):FP 14 [pp p] [d8 p N] (λv As=>v=iI N.ops/\As=[d8 p N]):=by
 refine FE [2] Tryz.func14 λX F hX=>?_;refine J.o (α:=NLoc) 1 λY=>?_;refine J.qF λ_=>?_;refine J.q λ_=>?_;refine J.cl (B1 p N) (Y) [1,2,3,4,5] ?_;exact J.qx [1]
theorem a5c (p:Nat) (N:Nand):FP 33 [pp p] [d8 p N] (λv As=>v=iI N.broken/\As=[d8 p N]):=by
 refine FE [2] Tryz.func33 λX F hX=>?_;refine J.o (α:=NLoc) 1 λY=>?_;refine J.qF λ_=>?_;refine J.q λ_=>?_;refine J.cl (B1 p N) (Y) [1,2,3,4,5] ?_;exact J.qx [1]
theorem a7W (p:Nat) (N:Nand):FP 40 [pp p] [d8 p N] (λv As=>v= .tuple #[]/\As=[d8 p N.onN]):=by
 refine FE [2] Tryz.func40 λX F hX=>?_;refine J.o (α:=NLoc) 1 λY=>?_;refine J.qT λ_=>?_;refine J.q λ_=>?_;refine J.cl (B1 p N.onN) (Y) [1,2,3,4,5] ?_;refine J.q λ_=>?_;refine J.f [1] ?_;exact⟨rfl,rfl⟩
theorem a3b (p:Nat) (N:Nand) (x k:Int):FP 39 [pp p,iI x,iI k] [d8 p N] (λv As=>v= .tuple #[]/\As=[d8 p (N.setCut x k)]):=by
 refine FE [2,0,0] Tryz.func39 λX F hX=>?_;refine J.o (α:=NLoc) 1 λY=>?_;refine J.qd (λ_ h=>?_) λ_ h=>?_
 ·refine J.q λ_=>?_;refine J.cl (B1 p N) (Y) [1,2,3,4,5] ?_;refine J.qr [1] λ_=>?_;simp only[Bool.false_or]at h;exact⟨rfl,by simp[Nand.setCut,h,l8];rfl⟩
 ·simp only[Bool.false_or]at h;have hs:N.setCut x k={N with cuts:=decide (x>=0),left:=x,keep:=if 32<(if 0>k then 0 else k)then 32 else(if 0>k then 0 else k),off:=decide (x<0)}:=by
   simp only[Nand.setCut,h];have:min (max k 0) 32=if 32<(if 0>k then 0 else k)then 32 else(if 0>k then 0 else k):=by(repeat' split)<;>omega
   rw[this];rfl
  refine J.q λ_=>?_;refine J.cl (B1 p {N with cuts:=decide (x>=0),left:=x,keep:=if 32<(if 0>k then 0 else k)then 32 else(if 0>k then 0 else k),off:=decide (x<0)}) (Y) [1,2,3,4,5] ?_;refine J.q λ_=>?_;refine J.f [1] ?_;exact⟨rfl,by rw[hs];rfl⟩
theorem b3k (p:Nat) (N:Nand) (Y:NLoc) (hN:N.Ok) (hR:N.Room):FP 222 [pp p] [.pt p 94 (N.mainV Y)] (λv As=>v= .bool N.cutB/\As=[.pt p 94 (N.cutN.mainV Y)]):=by
 have h1:=hN.num.1;have h2:=hR.ops;have h3:=hN.lft;have h4:=hN.lf2;refine FE [2] Tryz.func222 λX F hX=>?_;refine J.qd (λ_ h=>?_) λ_ h=>?_
 ·simp only[Bool.not_eq_true']at h;have hs:N.cutN={N with ops:=N.ops+1}:=by simp[Nand.cutN,Nand.cutB,h]
  refine J.qr [1] λ_=>?_;exact⟨by simp[Nand.cutB,h],by rw[hs];rfl⟩
 simp only[Bool.not_eq_false']at h;have h3:=h3 h;refine J.qd (λ_ h5=>?_) λ_ h5=>?_
 ·simp only[decide_eq_true_eq]at h5;have hs:N.cutN={N with ops:=N.ops+1,left:=N.left-1}:=by
   have hcb:N.cutB=false:=by simp[Nand.cutB,h];omega
   simp[Nand.cutN,hcb,h]
  refine J.qr [1] λ_=>?_;exact⟨by congr 1;simp[Nand.cutB,h];omega,by rw[hs];rfl⟩
 simp only[decide_eq_false_iff_not]at h5;have hcb:N.cutB=true:=by simp[Nand.cutB,h];omega
 have hs:N.cutN={N with ops:=N.ops+1,left:=N.left-1,cuts:=false,off:=true}:=by
  simp[Nand.cutN,hcb,h]
 refine J.qr [1] λ_=>?_;exact⟨by rw[hcb],by rw[hs];rfl⟩
theorem a1L (p:Nat) (N:Nand) (hN:N.Ok) (x:Int):FP 63 [pp p,iI x] [d8 p N] (λv As=>v= .bool (N.deadAt x)/\As=[d8 p N]):=by
 have hd:=hN.dead;refine FE [2,0] Tryz.func63 λX F hX=>?_;refine J.o (α:=NLoc) 1 λY=>?_;refine J.q λ_=>?_;refine J.v (.bool (N.dead.getD x.toNat false)) rfl rfl (λhg a w he hs=>?_) ?_
 ·simp only[G.on,Bool.and_eq_true,decide_eq_true_eq]at hg;refine f9 tk rfl rfl he (by simp[G.on,hg]) rfl rfl (hs.get (i:=4) rfl) ?_;have:x.toNat<N.dead.length:=by omega
  simp[this]
 refine J.q λ_=>?_;refine J.cl (B1 p N) (Y) [1,2,3,4,5] ?_;refine J.qr [1] λ_=>?_;refine⟨?_,rfl⟩;congr 1
theorem a1K (p:Nat) (N:Nand) (hN:N.Ok) (x y z:Int):FP 207 [pp p, .agg #[iI x,iI y,iI z]] [d8 p N] (λv As=>v= .tuple #[.agg (p9 (N.readV x y z)).toArray,iI (N.readE x y z)]/\As=[d8 p N]):=by
 have hbd:=hN.bd;refine FE [2,0] Tryz.func207 λX F hX=>?_;refine J.qp (a0b p N hN x y z) [1] λ_=>?_;refine J.qd (λ_ h=>?_) λ_ h=>?_
 ·simp only[bne_iff_ne,ne_eq]at h;refine J.qr [1] λ_=>?_;exact⟨by simp only[Nand.readV,Nand.readE,ne_eq,h,not_false_eq_true,if_pos];rfl,rfl⟩
 simp only[bne_eq_false_iff_eq]at h;obtain⟨hoff,hdd,hr⟩:=Nand.refuses_zero h;obtain⟨i,rfl⟩:=Int.eq_ofNat_of_zero_le hr.1;obtain⟨j,rfl⟩:=Int.eq_ofNat_of_zero_le hr.2.2.1;obtain⟨k,rfl⟩:=Int.eq_ofNat_of_zero_le hr.2.2.2.2.1;have hi:i<N.dies:=by omega
 have hj:j<N.blocks:=by omega
 refine J.o (α:=NLoc) 1 λY=>?_;refine J.openAt 7 (i*N.blocks+j) rfl rfl (D6 _ _ _ _ _ (a1O hi hj)) rfl ?_;rw[(z7 hj).1,(z7 hj).2];refine J.o (α:=(Option Nat×Nat)) 8 λc=>?_;refine J.p (.of [0,4,8,13,16,21,24,29,34,37,40]) [10] [1,2,3,4,5,6,7,8,9] λ_=>?_;refine J.qp (M3 i j) [] λ_=>?_;refine J.valT hX (pp (Y.bp (i*N.blocks+j))) 9 rfl rfl (λ_ a w he hC=>?_) rfl ?_
 ·refine(i6 (key:=((i:Int),(j:Int),0)) C7 Q1 (z:= .pointer none) (λw=>by kernel_rfl) rfl rfl rfl rfl he rfl rfl (hC rfl _ (f0 (i:=4) rfl))).trans ?_;simp only[G9 hi hj];rfl
 refine J.p (.of [0,5,8,12,16,21,24,28,32]) [] [1,2,3,4,5,6,7,8,9] λ_=>?_;refine J.qd (λ_ h5=>?_) λ_ h5=>?_
 ·simp only[ge_iff_le,decide_eq_true_eq,Int.ofNat_le]at h5;have hp:N.pageAt i j k=none:=by simp[Nand.pageAt,h5]
  refine J.q λ_=>?_;refine J.closeN p N (N) Y i j hj (N.blk i j) _ [1,4,5,6,7,8,9] rfl rfl rfl rfl (u7 _ _ _) rfl ?_;refine J.qr [1] λ_=>?_;exact⟨by simp only[Nand.readV,Nand.readE,h,hp,ne_eq,not_true_eq_false,if_false];rfl,rfl⟩
 simp only[ge_iff_le,decide_eq_false_iff_not,Int.ofNat_le,Nat.not_le]at h5;obtain⟨cl,hcl⟩:∃cl,(N.blk i j).cells[k]? =some cl:=⟨_,List.getElem?_eq_getElem h5⟩;have hp:N.pageAt i j k=some cl:=by simp only[Nand.pageAt,Int.toNat_natCast];exact hcl
 refine J.know (λh' s=>f8 (by omega) (s.get (i:=9) rfl)) λhg=>?_;obtain⟨g,hg⟩:=hg;obtain⟨c1,c2⟩:=c;simp only at hg;subst hg;refine J.pq (.of [0,4,8,13,16,21,24,28,33,36]) [] [1,2,3,4,5,6,7,8,9] λ_ _=>?_;refine J.vT (.bool cl.lost) rfl rfl (λ_ a w he hC=>?_) ?_
 ·exact i5 tk rfl rfl he rfl rfl rfl (hC rfl _ (f0 (i:=9) rfl)) (by rw[show 0+((k:Int)).toNat*34+32=k*34+32 from by simp];exact a0F hcl (by omega))
 refine J.qd (λ_ h6=>?_) λ_ h6=>?_
 ·refine J.q λ_=>?_;refine J.closeN p N (N) Y i j hj (N.blk i j) _ [1,4,5,6,7,8,9] rfl rfl rfl rfl (u7 _ _ _) rfl ?_;refine J.qr [1] λ_=>?_;exact⟨by simp only[Nand.readV,Nand.readE,h,hp,h6,ne_eq,not_true_eq_false,if_false,if_true];rfl,rfl⟩
 refine J.pq (.of [0,4,8,13,16,21,24,28,33,39,40]) [9,10] [1,2,4,5,6,7,8,9] λ_ _=>?_;refine J.vT (.agg (p9 cl.p).toArray) rfl rfl (λ_ a w he hC=>?_) ?_
 ·exact j6 tk rfl rfl he rfl rfl rfl (hC rfl _ (f0 (i:=9) rfl)) (by rw[show 0+((k:Int)).toNat*34+0=k*34 from by simp];exact a5H hcl) rfl
 refine J.q λ_=>?_;refine J.closeN p N (N) Y i j hj (N.blk i j) _ [1,4,5,6,7,8,9] rfl rfl rfl rfl (u7 _ _ _) rfl ?_;refine J.qr [1] λ_=>?_;exact⟨by simp only[Nand.readV,Nand.readE,h,hp,h6,ne_eq,not_true_eq_false,if_false,Bool.false_eq_true];rfl,rfl⟩
def T5 (a b:Nat) (p:List UInt8):List UInt8:=p.take a++List.replicate (b-a) 255++p.drop b
theorem a3u (a b:Nat) (p:List UInt8) (h1:a<=b) (h2:b<=p.length):(T5 a b p).length=p.length:=by simp[T5];omega
theorem a6w (a:Nat) (p:List UInt8):T5 a a p=p:=by simp[T5]
theorem a8x (a b:Nat) (p:List UInt8) (h1:a<=b) (h2:b<p.length):(T5 a b p).set b 255=T5 a (b+1) p:=by
 apply List.ext_getElem?;intro j;have hl:=a3u a b p h1 (by omega);rw[List.getElem?_set,hl];simp only[T5,List.append_assoc,List.getElem?_append,List.length_take,List.length_replicate,List.getElem?_take,List.getElem?_replicate,List.getElem?_drop]
 by_cases e:b=j
 ·subst e;rw[if_pos rfl,if_pos h2,if_neg (by omega),if_pos (by omega),if_pos (by omega)]
 ·rw[if_neg e]
  by_cases h3:j<min a p.length
  ·rw[if_pos h3,if_pos h3]
  ·rw[if_neg h3,if_neg h3]
   by_cases h4:j<b
   ·rw[if_pos (by omega),if_pos (by omega),if_pos (by omega),if_pos (by omega)]
   ·rw[if_neg (by omega),if_neg (by omega)];congr 1;omega
theorem a7N (p:List UInt8) (h:p.length=32) (k:Nat) (v:UInt8):(p9 p).set k (bv v)=p9 (p.set k v):=by
 rw[t6 p h,t6 _ (by simpa using h),List.map_set]
theorem a5G (l:List NCell) (c:NCell):m5 (l++[c])=m5 l++c.vals:=by simp[m5]
theorem a8y (K:Nat) (p:List UInt8) (h:K<=32) (hp:p.length=32):T5 K 32 p=Nand.fillP K p:=by
 simp only[T5,Nand.fillP];rw[List.drop_of_length_le (by omega),List.append_nil]
theorem a3M (l:List NCell) (c:NCell):l.length+1=(l++[c]).length:=by simp
theorem a9m {L L2:List Atom} {k e n cap:Nat} {ao:Option Nat} {l:List NCell} {cs:List Value} (c:NCell) (h:cs=c.vals) (hL:r8 L k (c8 e 34 ao n cap (m5 (l++[c])))=some L2):r8 L k (c8 e 34 ao n cap (m5 l++cs))=some L2:=by
 rw[h,<- a5G];exact hL
theorem a7K {N:Nand} {x y z:Int} {pg:List UInt8} (h:N.refuses x y z=0) (h5:z=(N.blk x.toNat y.toNat).cells.length) (h6:N.cutB=true):N.progN x y z pg=N.cutN.push x.toNat y.toNat ⟨Nand.fillP N.keep.toNat pg,false,true⟩:=by
 unfold Nand.progN;rw[if_neg (by simp[h]),if_neg (by simp[h5]),if_pos h6]
theorem a4T {N:Nand} {x y z:Int} {pg:List UInt8} (h:N.refuses x y z=0) (h5:z=(N.blk x.toNat y.toNat).cells.length) (h6:N.cutB=false):N.progN x y z pg=Nand.push {N.cutN with plan:=N.plan.erase (x,y,z)} x.toNat y.toNat ⟨pg,N.fails x y z,false⟩:=by
 unfold Nand.progN;rw[if_neg (by simp[h]),if_neg (by simp[h5]),if_neg (by simp[h6])]
theorem a7L {N:Nand} {x y z:Int} (h:N.refuses x y z=0) (h5:z=(N.blk x.toNat y.toNat).cells.length) (h6:N.cutB=true):N.progE x y z=9:=by
 unfold Nand.progE;rw[if_neg (by simp[h]),if_neg (by simp[h5]),if_pos h6]
theorem a4U {N:Nand} {x y z:Int} (h:N.refuses x y z=0) (h5:z=(N.blk x.toNat y.toNat).cells.length) (h6:N.cutB=false):N.progE x y z=if N.fails x y z then 7 else 0:=by
 unfold Nand.progE;rw[if_neg (by simp[h]),if_neg (by simp[h5]),if_neg (by simp[h6])]
theorem U5 (p:Nat) (N:Nand) (hN:N.Ok) (hR:N.Room) (x y z:Int) (pg:List UInt8) (hpl:pg.length=32):
  FP 205 [pp p, .agg #[iI x,iI y,iI z], .agg (p9 pg).toArray] [d8 p N] (Ps (iI (N.progE x y z)) [d8 p (N.progN x y z pg)]):=by
 have hbd:=hN.bd;have hnum:=hN.num;have hr1:=hR.broken;refine FE [2,0,0] Tryz.func205 λX F hX=>?_;refine J.q λbs=>?_;refine J.cb (a0b p N hN x y z) [1] ?_;refine cpq ⟨_,rfl,trivial,?_⟩;refine J.qd (λ_ h=>?_) λ_ h=>?_
 ·simp only[bne_iff_ne,ne_eq]at h;refine J.qr [1] λ_=>?_;exact⟨by simp only[Nand.progE,ne_eq,h,not_false_eq_true,if_pos],by simp only[Nand.progN,ne_eq,h,not_false_eq_true,if_pos];rfl⟩
 simp only[bne_eq_false_iff_eq]at h;obtain⟨hoff,hdd,hr⟩:=Nand.refuses_zero h;obtain⟨i,rfl⟩:=Int.eq_ofNat_of_zero_le hr.1;obtain⟨j,rfl⟩:=Int.eq_ofNat_of_zero_le hr.2.2.1;obtain⟨k,rfl⟩:=Int.eq_ofNat_of_zero_le hr.2.2.2.2.1;have hi:i<N.dies:=by omega
 have hj:j<N.blocks:=by omega
 have hlen:=(hN.cells i j hi hj).1;refine J.o (α:=NLoc) 1 λY=>?_;refine J.openAt 7 (i*N.blocks+j) rfl rfl (D6 _ _ _ _ _ (a1O hi hj)) rfl ?_;rw[(z7 hj).1,(z7 hj).2];refine J.o (α:=(Option Nat×Nat)) 8 λc=>?_;refine J.p (.of [0,4,8,13,16,21,24,29,34,37,40]) [10] [1,2,3,4,5,6,7,8,9] λ_=>?_;refine J.qp (M3 i j) [] λ_=>?_;refine J.valT hX (pp (Y.bp (i*N.blocks+j))) 9 rfl rfl (λ_ a w he hC=>?_) rfl ?_
 ·refine(i6 (key:=((i:Int),(j:Int),0)) C7 Q1 (z:= .pointer none) (λw=>by kernel_rfl) rfl rfl rfl rfl he rfl rfl (hC rfl _ (f0 (i:=4) rfl))).trans ?_;simp only[G9 hi hj];rfl
 refine J.p (.of [0,5,8,12,16,21,24,28]) [] [1,2,3,4,5,6,7,8,9] λ_=>?_;refine J.qd (λ_ h5=>?_) λ_ h5=>?_
 ·simp only[bne_iff_ne,ne_eq]at h5;refine J.q λ_=>?_;refine J.closeN p N ({N with broken:=N.broken+1}) Y i j hj (N.blk i j) _ [1,4,5,6,7,8,9] rfl rfl rfl rfl (u7 _ _ _) rfl ?_;refine J.qr [1] λ_=>?_;exact⟨by simp[Nand.progE,h,h5],by simp[Nand.progN,h,h5];rfl⟩
 simp only[bne_eq_false_iff_eq,Int.natCast_inj]at h5;refine J.qp (b3k p N Y hN hR) [1] λ_=>?_;refine J.qd (λ_ h6=>?_) λ_ h6=>?_
 ·have hkp:=hN.kp;obtain⟨K,hK⟩:∃K:Nat,N.keep=K:=⟨N.keep.toNat,by omega⟩;have hK2:N.cutN.keep=K:=hK;refine J.q λ_=>?_;rw[hK2];refine J.q λ_=>?_;refine J.lo (α:=Nat) (λm=>K<=m/\m<=32) (λm=>[si 9 m,⟨5,pp (bs (0+1)),4, .tt⟩,⟨8,pp (Y.bp (i*N.blocks+j)),9, .tt⟩]) [3] (λm=>[.pt (bs (0+1)) 176 (p9 (T5 K m pg))]) (λm=>32-m) (K) (⟨Nat.le_refl _,by omega⟩) rfl ?_ (λ_=>rfl) λm hI=>?_
  ·rw[a6w];rfl
  refine J.qd (λ_ h7=>?_) λ_ h7=>?_
  ·simp only[decide_eq_true_eq]at h7;refine J.q λ_=>?_;refine J.s1 3 (p9 (T5 K (m+1) pg)) ?_ ?_ ?_
   ·show 0+(m:Int).toNat*1<32;omega
   ·rw[show 0+(m:Int).toNat*1=m from by omega,<- a8x _ _ _ hI.1 (by omega)];exact a7N _ (by rw[a3u _ _ _ hI.1 (by omega)];exact hpl) m 255
   refine J.q λ_=>?_;refine J.nx (m+1) (⟨by omega,by omega⟩) (by omega) (λ_ s=>s)
  simp only[decide_eq_false_iff_not]at h7;obtain rfl:m=32:=by omega
  refine J.pq (.of [0,4,8,12,17,21,24,30,34,36,40,47]) [9,10,11] [1,2,3,4,5,6,7,8] λ_ _=>?_;rw[a8y _ _ hI.1 hpl];refine J.append hX tk 9 10 0 rfl rfl rfl rfl rfl rfl rfl rfl rfl rfl rfl rfl rfl rfl rfl rfl ?_ ?_ (λ_=>rfl) λa' cap'=>⟨_,a9m ⟨Nand.fillP K pg,false,true⟩ rfl rfl,⟨rfl,rfl,rfl,rfl,rfl,rfl,rfl,rfl,trivial⟩,?_⟩
  ·simp only[maxLen];omega
  ·omega
  refine J.q λ_=>?_;rw[a3M _ ⟨Nand.fillP K pg,false,true⟩];refine J.q λ_=>?_;refine J.closeN p N (N.cutN.push i j ⟨Nand.fillP K pg,false,true⟩) Y i j hj ({N.blk i j with cells:=(N.blk i j).cells++[⟨Nand.fillP K pg,false,true⟩]}) (a',cap') [1,4,5,6,7,8,9] rfl rfl rfl rfl (rfl) rfl ?_;refine J.qr [1] λ_=>?_;subst h5;exact⟨(a7L h rfl h6).symm▸rfl,by rw[a7K h rfl h6,hK];rfl⟩
 ·refine J.p (.of [0,4,8,13,17,22,24,28,32,36,40]) [10] [1,2,3,4,6,7,8,9] λ_=>?_;refine J.qp (b3h Y.q N.plan i j k) [5] λ_=>?_;refine J.p (.of [0,4,8,13,17,22]) [] [1,2,3,4,6,7,8,9] λ_=>?_;refine J.qp (a9q Y.q N.plan i j k) [5] λ_=>?_;refine J.pq (.of [0,4,8,12,17,21,24,28,34,38,40,44,51]) [10,11,12] [1,2,3,4,5,6,7,8] λ_ _=>?_;refine J.append hX tk 9 10 0 rfl rfl rfl rfl rfl rfl rfl rfl rfl rfl rfl rfl rfl rfl rfl rfl ?_ ?_ (λ_=>rfl) λa' cap'=>⟨_,a9m ⟨pg,decide (((i:Int),(j:Int),(k:Int))∈N.plan)||(N.blk i j).met,false⟩ rfl rfl,⟨rfl,rfl,rfl,rfl,rfl,rfl,rfl,rfl,trivial⟩,?_⟩
  ·simp only[maxLen];omega
  ·omega
  refine J.q λ_=>?_;rw[a3M _ ⟨pg,N.fails i j k,false⟩];refine J.q λ_=>?_;refine J.closeN p N (Nand.push {N.cutN with plan:=N.plan.erase ((i:Int),(j:Int),(k:Int))} i j ⟨pg,N.fails i j k,false⟩) Y i j hj ({N.blk i j with cells:=(N.blk i j).cells++[⟨pg,N.fails i j k,false⟩]}) (a',cap') [1,4,5,6,7,8,9] rfl rfl rfl rfl (rfl) rfl ?_;refine J.qd (λ_ h9=>?_) λ_ h9=>?_
  ·refine J.qr [1] λ_=>?_;subst h5;exact⟨by rw[a4U h rfl h6];exact congrArg (Value.int IntKind.i64) (if_pos h9).symm,by rw[a4T h rfl h6];rfl⟩
  ·refine J.qr [1] λ_=>?_;subst h5;exact⟨by rw[a4U h rfl h6];exact congrArg (Value.int IntKind.i64) (if_neg (by rw[show N.fails i j (N.blk i j).cells.length=false from h9];simp)).symm,by rw[a4T h rfl h6];rfl⟩
end Go.Proofs.YtpohajhbfllbbaaGreat
