/- Helpers. No condition. -/
import Derived.Test.YtpohajhbfllbbaaGreatD01
import Derived.Test.YtpohajhbfllbbaaGreatD04
import Derived.Test.YtpohajhbfllbbaaGreatD06
import Derived.Test.YtpohajhbfllbbaaGreatD07
import Derived.Test.YtpohajhbfllbbaaGreatD09
set_option maxRecDepth 20000
set_option linter.all false
namespace Go.Proofs.YtpohajhbfllbbaaGreat
open Go Go.RowKit
theorem a8P (n:Int):FP 262 [iI n] [] (Ps (.bool (decide (n>=1)&&decide (n<=64))) []):=by
 refine FE [0] Tryz.func262 λX F hX=>?_;exact J.qx []
theorem a0I (u j k:Nat) (h:j<=k):(u:Int).fdiv (2^min (j:Int).toNat k)=((u/2^j:Nat):Int):=by
 rw[Int.fdiv_eq_ediv_of_nonneg _ (Int.le_of_lt (Int.pow_pos (by decide))),Int.toNat_natCast,Nat.min_eq_left h];simp
theorem b3p (u j:Nat) (hu:u<18446744073709551616) (h:j<=64):IntKind.u64.wrap (BitVec.ofInt IntKind.u64.bits ((u:Int).fdiv (2^min (j:Int).toNat IntKind.u64.bits))&&& BitVec.ofInt IntKind.u64.bits 1).toNat=((u.testBit j).toNat:Int):=by
 show bits .and .u64 _ 1=_;have hb:u/2^j<=u:=Nat.div_le_self _ _;rw[a0I u j IntKind.u64.bits h,show(1:Int)=((1:Nat):Int)from rfl,u64_and_nat _ _ (by omega) (by omega),nat_mask1,Nat.testBit_eq_decide_div_mod_eq];rcases Nat.mod_two_eq_zero_or_one (u/2^j)with h | h<;>simp[h]
theorem b5d (x j:Nat) (hx:x<256) (h:j<=8):IntKind.u8.wrap (BitVec.ofInt IntKind.u8.bits ((x:Int).fdiv (2^min (j:Int).toNat IntKind.u8.bits))&&& BitVec.ofInt IntKind.u8.bits 1).toNat=((x.testBit j).toNat:Int):=by
 show bits .and .u8 _ 1=_;have hb:x/2^j<=x:=Nat.div_le_self _ _;rw[a0I x j IntKind.u8.bits h,show(1:Int)=((1:Nat):Int)from rfl,u8_and_nat _ _ (by omega) (by omega),nat_mask1,Nat.testBit_eq_decide_div_mod_eq];rcases Nat.mod_two_eq_zero_or_one (x/2^j)with h | h<;>simp[h]
theorem b5n (u n:Nat) (h1:1<=n) (h2:n<=64) (hu:u<2^n):((u:Int).fdiv (2^min ((n:Int)-1).toNat IntKind.u64.bits)).fdiv (2^min (Int.toNat 1) IntKind.u64.bits)=0:=by
 rw[show(n:Int)-1=((n-1:Nat):Int)from by omega,a0I u (n-1) IntKind.u64.bits (show n-1<=64 by omega),show(1:Int)=((1:Nat):Int)from rfl,a0I _ 1 IntKind.u64.bits (by decide),Nat.div_div_eq_div_mul,<- Nat.pow_add,show n-1+1=n from by omega,Nat.div_eq_of_lt hu];rfl
theorem t8 (m:Nat):(m:Int).tdiv 8=((m/8:Nat):Int)/\(m:Int).tmod 8=((m % 8:Nat):Int):=⟨(Int.ofNat_tdiv m 8).symm,(Int.ofNat_tmod m 8).symm⟩
theorem b2R (L:List Bool) (b:Bool) (s:Int) (hs:s=7-((L.length % 8:Nat):Int)):(0<=((b.toNat:Nat):Int)*2^min s.toNat IntKind.u8.bits/\((b.toNat:Nat):Int)*2^min s.toNat IntKind.u8.bits<=255)/\
  bits .or .u8 (Bt.byteAt L (8*(L.length/8)):Int) (((b.toNat:Nat):Int)*2^min s.toNat IntKind.u8.bits)=((Bt.byteAt L (8*(L.length/8))+b.toNat*2^(7-L.length % 8):Nat):Int)/\Bt.byteAt L (8*(L.length/8))+b.toNat*2^(7-L.length % 8)<256:=by
 have hm:min s.toNat IntKind.u8.bits=7-L.length % 8:=by rw[show IntKind.u8.bits=8 from rfl];omega
 have hb:=Bool.toNat_le b;have hp:2^(7-L.length % 8)<=2^7:=Nat.pow_le_pow_right (by omega) (by omega);have hmul:=Nat.mul_le_mul hb hp;have hlt:=Bt.byteAt_lt (L++[b]) (8*(L.length/8));rw[Bt.byteAt_snoc,if_pos (by omega),show L.length-8*(L.length/8)=L.length % 8 from by omega]at hlt;have e:((b.toNat:Nat):Int)*2^(7-L.length % 8)=((b.toNat*2^(7-L.length % 8):Nat):Int):=by simp
 rw[hm,e];exact⟨by omega,by rw[u8_or_nat _ _ (Bt.byteAt_lt _ _) (by omega),Bt.byte_or],hlt⟩
def a6w (q:Nat) (l:List Bool) (x:Option Nat×Nat):List Atom:=[.pt q 294 [slv x.1 ((l.length+7)/8) x.2,iI l.length],c9 5 1 x.1 ((l.length+7)/8) x.2 ((Bt.pack l).map bv)]
def a0R (q:Nat) (l:List Bool):Atom:=exA (a6w q l)
theorem a8Q (q u n:Nat) (l:List Bool) (h1:1<=n) (h2:n<=64) (hu:u<2^n) (hl:l.length+n<=4096):FP 239 [pp q, .int .u64 u,iI n] [a0R q l] (Ps (.bool true) [a0R q (l++Bt.bits u n)]):=by
 have hu64:u<18446744073709551616:=Nat.lt_of_lt_of_le hu (show 2^n<=2^64 from Nat.pow_le_pow_right (by omega) h2);refine FE [2,0,0] Tryz.func239 λX F hX=>?_;refine J.qp (a8P n) [] λ_=>?_;rw[show decide ((n:Int)>=1)=true from decide_eq_true (by omega),show decide ((n:Int)<=64)=true from decide_eq_true (by omega)];have hp:=b5n u n h1 h2 hu;refine J.o (α:=(Option Nat×Nat)) 1 λx=>?_;obtain⟨a,c⟩:=x;refine J.qd (λ_ h=>?_) λ_ h=>?_
 ·simp only[hp]at h;simp at h;omega
 have hn1:(n:Int)-1-(0:Nat)=(n:Int)-1:=by omega
 refine J.cl (a6w q l) (a,c) [1,2] ?_;refine J.turn1 [1] rfl (As:=[a0R q (l++(Bt.bits u n).take 0)]) (λh s=>by rw[List.take_zero,List.append_nil];exact s) rfl ?_;refine J.q λ_=>?_;refine J.l (α:=(Nat×Int)) (λz=>z.1<=n/\z.2=(n:Int)-1-z.1) (λz=>[si 7 z.2,⟨0,pp q,2, .tt⟩,⟨1, .int .u64 u,0, .tt⟩]) [1] (λz=>[a0R q (l++(Bt.bits u n).take z.1)]) (λz=>n-z.1) ((0,(n:Int)-1)) (⟨Nat.zero_le _,by simp⟩) λz hI=>?_;obtain⟨k,i⟩:=z;dsimp only at hI ⊢;obtain⟨hk,hi⟩:=hI;refine J.qd (λ_ h=>?_) λ_ h=>?_
 ·simp only[decide_eq_true_eq]at h;obtain⟨j,rfl⟩:=Int.eq_ofNat_of_zero_le h;have hs:l++(Bt.bits u n).take (k+1)=(l++(Bt.bits u n).take k)++[u.testBit j]:=by
   rw[Bt.take_bits_succ u n k (by omega),List.append_assoc,show n-1-k=j from by omega]
  have hL:(l++(Bt.bits u n).take k).length=l.length+k:=by rw[List.length_append,List.length_take,Bt.length_bits];omega
  generalize l++(Bt.bits u n).take k=L at hs hL ⊢;obtain⟨t1,t2⟩:=t8 L.length;obtain⟨v1,v2,v3⟩:=b2R L (u.testBit j) (7-(L.length:Int).tmod 8) (by rw[t2]);have hbit:=b3p u j hu64 (by omega);rw[<- hbit]at v1 v2;have hbl:=Bool.toNat_le (u.testBit j);have hz:=Bt.length_packZ L;refine J.o (α:=(Option Nat×Nat)) 1 λx=>?_;obtain⟨a,c⟩:=x;refine J.q λ_=>?_;refine J.join (α:=Nat×Nat) (λy=>[si 7 j,⟨0,pp q,2, .tt⟩,⟨1, .int .u64 u,0, .tt⟩]) (λy=>[.hp F, .pt q 294 [slv (some y.1) (L.length/8+1) y.2,iI L.length],c9 5 1 (some y.1) (L.length/8+1) y.2 ((Bt.packZ L).map bv)]) (λhj=>?_) (λy=>?_)
  ·refine J.cond rfl (λh=>?_) (λh=>?_)
   ·rw[t2,beq_iff_eq]at h;have h8:L.length % 8=0:=by omega
    have hm:(L.length+7)/8=L.length/8:=by omega
    rw[hm];have hpz:Bt.packZ L=Bt.pack L++[0]:=by rw[Bt.packZ,if_pos h8]
    refine J.q λ_=>?_;refine J.append hX tk 3 4 0 rfl rfl rfl rfl rfl rfl rfl rfl rfl rfl rfl rfl rfl rfl rfl rfl (by simp only[maxLen];omega) (by omega) (λ_=>rfl) λa' c'=>⟨_,rfl,trivial,?_⟩;refine J.know (λh' s=>i9 (c:=(a',c')) (Nat.succ_pos _) (s.get (i:=3) rfl)) λhg=>?_;obtain⟨ga,rfl⟩:=hg;refine J.qn 4 λ_=>?_;exact J.goto [0,1,3] (hj (ga,c')) ⟨rfl,rfl,rfl,trivial⟩ rfl (by rw[hpz,List.map_append];rfl)
   ·rw[t2,beq_eq_false_iff_ne]at h;have h8:¬L.length % 8=0:=by omega
    have hm:(L.length+7)/8=L.length/8+1:=by omega
    rw[hm];have hpz:Bt.packZ L=Bt.pack L:=by rw[Bt.packZ,if_neg h8]
    refine J.know (λh' s=>i9 (c:=(a,c)) (Nat.succ_pos _) (s.get (i:=3) rfl)) λhg=>?_;obtain⟨ga,rfl⟩:=hg;refine J.qn 1 λ_=>?_;exact J.goto [0,1,3] (hj (ga,c)) ⟨rfl,rfl,rfl,trivial⟩ rfl (by rw[hpz];rfl)
  obtain⟨g,c⟩:=y;refine J.openOwn 2 rfl rfl (λ_=>rfl) λr q1 q2 q3 q4=>?_;refine J.pq (.of [0,4,8,13,16,20,24,29,32,36,41,44,48,52,56,60,64,68,72,77,80,84,88,92,96,103]) [24,25] [1,2] λ_ _=>?_;refine J.vT (bv (UInt8.ofNat (Bt.byteAt L (8*(L.length/8))))) rfl rfl (λhg a w he hC=>?_) ?_
  ·exact j3 tk rfl rfl he hg rfl rfl (hC rfl _ (i7 (i:=2) rfl)) (by
    rw[show 0+((L.length:Int).tdiv 8).toNat*1=L.length/8 from by omega,List.getElem?_append_left (by rw[List.length_map];omega),List.getElem?_map,Bt.packZ_get _ _ (by omega)];rfl)
  refine J.q λ_=>?_;refine J.s1 2 ((Bt.pack (L++[u.testBit j])).map bv++r) ?_ ?_ ?_
  ·rw[List.length_append,List.length_map];omega
  ·rw[show 0+((L.length:Int).tdiv 8).toNat*1=L.length/8 from by omega,List.set_append_left _ _ (by rw[List.length_map];omega),Bt.pack_snoc,List.map_set];congr 2;show Value.int .u8 (bits .or .u8 ((UInt8.ofNat (Bt.byteAt L (8*(L.length/8)))).toNat:Int) _)=_;rw[show(UInt8.ofNat (Bt.byteAt L (8*(L.length/8)))).toNat=_ from Nat.mod_eq_of_lt (Bt.byteAt_lt _ _),v2];simp[bv,Nat.mod_eq_of_lt v3]
  have hpl:(Bt.pack (L++[u.testBit j])).length=L.length/8+1:=by rw[Bt.length_pack,List.length_append];simp only[List.length_singleton];omega
  have hl1:(L++[u.testBit j]).length=L.length+1:=by simp
  refine J.closeOwn (e:=5) (size:=1) (n:=L.length/8+1) (cap:=c) (xs:=(Bt.pack (L++[u.testBit j])).map bv) 2 rfl rfl (by rw[List.length_map,hpl,Nat.mul_one]) q2 q3 (by rw[List.length_append,List.length_map]at*;omega) (by rw[List.take_left' (by rw[List.length_map,hpl,Nat.mul_one])]) rfl ?_;refine J.q λ_=>?_;refine J.turn1 [1,2] rfl (As:=[a0R q (l++(Bt.bits u n).take (k+1))]) (λh s=>Sep.one ⟨(some g,c),by
   rw[hs,a6w,hl1,show(L.length+1+7)/8=L.length/8+1 from by omega];exact s⟩) rfl ?_
  refine J.q λ_=>?_;refine J.n ((k+1,(j:Int)-1)) (⟨by dsimp only;omega,by dsimp only;omega⟩) (by dsimp only;omega) [0,1,2]
 ·simp only[decide_eq_false_iff_not]at h;have hkn:k=n:=by omega
  have ht:(Bt.bits u n).take k=Bt.bits u n:=List.take_of_length_le (by rw[Bt.length_bits];omega);rw[ht];exact J.qx [1]
theorem b0A (a:Option Nat) (n cap:Nat) (l:List Value) (hl:l.length=n) (h1:∀u∈l,u.oneCell'=true) (hn:n<=1000000):FP 263 [slv a n cap] [c9 5 1 a n cap l]
  (λv As=>∃a' c',v=slv a' n c'/\As=[c9 5 1 a n cap l,c9 5 1 a' n c' l]):=by
 refine FE [0] Tryz.func263 λX F hX=>?_;cases a with
 | none=>
  refine J.know (λh' s=>(s.get (i:=1) rfl).2) λhn0=>?_;obtain⟨rfl,rfl⟩:=hn0;have:l=[]:=List.eq_nil_of_length_eq_zero hl;subst this;refine J.qT λ_=>?_;refine J.turn1 [] rfl (As:=[c9 5 1 none 0 0 []]) (λh s=>Sep.one ⟨rfl,rfl,rfl⟩) rfl ?_;refine J.qr [1,2] λ_=>?_;exact⟨none,0,rfl,rfl⟩
 | some g=>
  refine J.qF λ_=>?_;refine J.qn 5 λbb=>?_;refine J.closeOwn (e:=5) (size:=1) (n:=0) (cap:=0) (xs:=[]) 2 rfl rfl rfl (Nat.le_refl _) (Nat.zero_le _) rfl rfl rfl ?_;refine J.q λ_=>?_;refine J.appendR hX tk (a:=some (bb 0)) (n:=0) (cap:=0) (xs:=[]) (oo:=0) (Ay:=c9 5 1 (some g) n cap l) 2 1 0 rfl rfl rfl rfl rfl rfl rfl rfl rfl rfl (C6 _ _ (some g) _ _ _) rfl rfl rfl rfl h1 ?_ ?_ (λ_=>rfl) λa' c'=>⟨_,rfl,trivial,?_⟩
  ·simp only[maxLen];omega
  ·omega
  rw[Nat.zero_add n,List.nil_append];refine J.qr [1,2] λ_=>?_;exact⟨a',c',rfl,rfl⟩
theorem a5Q (q:Nat) (l:List Bool) (hl:l.length<=65536):FP 241 [pp q] [a0R q l]
  (λv As=>∃a' c',v=slv a' ((l.length+7)/8) c'/\As=[a0R q l,c9 5 1 a' ((l.length+7)/8) c' ((Bt.pack l).map bv)]):=by
 refine FE [2] Tryz.func241 λX F hX=>?_;refine J.qF λ_=>?_;refine J.o (α:=(Option Nat×Nat)) 1 λx=>?_;obtain⟨a,c⟩:=x;refine J.q λ_=>?_;refine J.ca hX (by kernel_rfl) (b0A a ((l.length+7)/8) c ((Bt.pack l).map bv) (by rw[List.length_map,Bt.length_pack]) (λu hu=>by obtain⟨b,_,rfl⟩:=List.mem_map.1 hu;rfl) (by omega)) [2] 0 rfl rfl rfl rfl rfl rfl (λ_=>rfl) ?_;rintro v As ⟨a',c',rfl,rfl⟩;refine⟨_,rfl,trivial,?_⟩;refine J.cl (a6w q l) (a,c) [1,2] ?_;refine J.qr [1,3] λ_=>?_;exact⟨a',c',rfl,rfl⟩
theorem b2V (a:Option Addr) (n cap:Nat):FP 244 [.slice a n cap] [] (λv As=>∃g,v=pp g/\As=[.pt g 320 [.slice a n cap,iI 0]]):=by
 refine FE [0] Tryz.func244 λX F hX=>?_;refine J.q λbb=>?_;refine J.ru hX [1] ?_;exact⟨bb 0,rfl,rfl⟩
theorem b5U (q:Nat) (u:Int) (n:Nat) (l:List Bool) (h1:1<=n) (h2:n<=64) (h0:0<=u) (hu:u.toNat<2^n) (hl:l.length+n<=4096):FP 239 [pp q, .int .u64 u,iI n] [a0R q l] (Ps (.bool true) [a0R q (l++Bt.bits u.toNat n)]):=by
 obtain⟨u,rfl⟩:=Int.eq_ofNat_of_zero_le h0;exact a8Q q u n l h1 h2 hu hl
theorem a7T (g:Nat) (a:Option Addr) (n cap:Nat) (k:Nat) (h:k<=8*n) (hn:n<=65536):FP 265 [pp g] [.pt g 320 [.slice a n cap,iI k]]
  (Ps (iI (8*(n:Int)-k)) [.pt g 320 [.slice a n cap,iI k]]):=by
 refine FE [2] Tryz.func265 λX F hX=>?_;refine J.qF λ_=>?_;refine J.p (.of [0,4,8,13,16,20,24,28,32,37,40,44]) [11] [1] λ_=>?_;exact J.qx [1]
theorem b5s (u:Nat) (hu:u*2<18446744073709551616) (y:Bool):IntKind.u64.wrap (BitVec.ofInt IntKind.u64.bits ((u:Int)*2)||| BitVec.ofInt IntKind.u64.bits (y.toNat:Int)).toNat=((2*u+y.toNat:Nat):Int):=by
 have hy:=Bool.toNat_le y;show bits .or .u64 _ _=_;rw[show(u:Int)*2=((2*u:Nat):Int)from by omega,u64_or_nat _ _ (by omega) (by omega),nat_join 1 (2*u) y.toNat (by omega) (by omega)]
theorem b2W (g:Nat) (A:Atom) (a:Option Addr) (n cap:Nat) (l:List UInt8) (hA:Rd A a 1 n (l.map bv)) (hl:l.length=n) (hn:n<=65536) (k w:Nat) (h1:1<=w) (h2:w<=64) (h3:k+w<=8*n):FP 245 [pp g,iI w] [.pt g 320 [.slice a n cap,iI k],A]
  (Ps (.tuple #[.int .u64 (Bt.numAt l k w:Nat), .bool true]) [.pt g 320 [.slice a n cap,iI (k+w:Nat)],A]):=by
 refine FE [2,0] Tryz.func245 λX F hX=>?_;refine J.qp (a8P w) [] λ_=>?_;rw[show decide ((w:Int)>=1)=true from decide_eq_true (by omega),show decide ((w:Int)<=64)=true from decide_eq_true (by omega)];refine J.qp (a7T g a n cap k (by omega) hn) [1] λ_=>?_;refine J.qd (λ_ h=>?_) λ_ h=>?_
 ·simp at h;omega
 refine J.q λ_=>?_;refine J.l (α:=Nat) (λj=>j<=w) (λj=>[⟨6, .int .u64 (Bt.numAt l k j:Nat),0, .tt⟩,si 7 (k+w:Int),⟨0,pp g,2, .tt⟩]) [1] (λj=>[.pt g 320 [.slice a n cap,iI (k+j:Nat)]]) (λj=>w-j) (0) (Nat.zero_le _) λj hI=>?_;refine J.qd (λ_ h=>?_) λ_ h=>?_
 ·simp only[decide_eq_true_eq]at h;refine J.know (p:=∃g o,a=some ⟨g,o,none⟩) (λh' s=>Rd.addr (hA _ (s.get (i:=2) rfl)) (by omega)) λhk=>?_;obtain⟨gm,om,rfl⟩:=hk;obtain⟨t1,t2⟩:=t8 (k+j);have hx:l[(k+j)/8]? =some l[(k+j)/8]:=List.getElem?_eq_getElem (by omega);have hlt:=Nat.lt_of_lt_of_le (Bt.numAt_lt l k j) (show 2^j<=2^63 from Nat.pow_le_pow_right (by omega) (by omega));have hb:Bt.bitAt l (k+j)=l[(k+j)/8].toNat.testBit (7-(k+j) % 8):=by rw[Bt.bitAt,List.getD_eq_getElem?_getD,hx];rfl
  have hs:Bt.numAt l k (j+1)=2*Bt.numAt l k j+(Bt.bitAt l (k+j)).toNat:=rfl;generalize l[(k+j)/8]=x at hx hb;have hbit:=b5d x.toNat (7-(k+j) % 8) x.toNat_lt (by omega);rw[<- hb]at hbit;rw[show((7-(k+j) % 8:Nat):Int)=7-((k+j:Nat):Int).tmod 8 from by omega]at hbit;have hbl:=Bool.toNat_le (Bt.bitAt l (k+j));have h21:((Bt.numAt l k j:Nat):Int)*2^min (Int.toNat 1) IntKind.u64.bits=(Bt.numAt l k j:Nat)*2:=congrArg (_* ·) (by decide);have hor:=b5s (Bt.numAt l k j) (by omega) (Bt.bitAt l (k+j));rw[<- hs,<- hbit]at hor;refine J.pq (.of [0,4,8,12,16,21,24,28,32,37,40,44,49,52,56,60,65,68,72,76,80,84,88,92]) [23] [1,2] λ_ _=>?_;refine J.vT (bv x) rfl rfl (λhg a w he hC=>a5j tk rfl rfl he rfl rfl rfl (hA _ (hC rfl _ (i7 (i:=2) rfl))) (by omega) (j:=(k+j)/8) (by omega) (by rw[List.getElem?_map,hx];rfl)) ?_;refine J.q λ_=>?_;rw[h21,hor];refine J.q λ_=>?_;refine J.n (j+1) (by omega) (by omega) [0,1,2]
 ·simp only[decide_eq_false_iff_not]at h;obtain rfl:j=w:=by omega
  exact J.qx [1,2]
theorem b6L (A:Atom) (a:Option Addr) (n cap:Nat) (l:List UInt8) (hA:Rd A a 1 n (l.map bv)) (hl:l.length=n) (hn:n<=65536):FP 242 [.slice a n cap] [A] (Ps (.int .u32 (K.sum l:Nat)) [A]):=by
 refine FE [0] Tryz.func242 λX F hX=>?_;refine J.q λ_=>?_;refine J.l (α:=Nat) (λk=>k<=n) (λk=>[si 8 k,si 7 n,sv 6 (.slice a n cap),⟨3, .int .u32 (K.sum (l.take k):Nat),0, .tt⟩]) [] (λk=>[]) (λk=>n-k) (0) (Nat.zero_le _) λk hI=>?_;refine J.qd (λ_ h=>?_) λ_ h=>?_
 ·simp only[decide_eq_true_eq,Int.ofNat_lt]at h;refine J.know (p:=∃g o,a=some ⟨g,o,none⟩) (λh' s=>Rd.addr (hA _ (s.get (i:=1) rfl)) (by omega)) λhk=>?_;obtain⟨gm,om,rfl⟩:=hk;obtain⟨x,hx⟩:∃x,l[k]? =some x:=⟨_,List.getElem?_eq_getElem (by omega)⟩;have hs:=K.sum_snoc l k x hx;refine J.q λ_=>?_;refine J.v (bv x) rfl rfl (λhg a w he hw=>a5j tk rfl rfl he rfl rfl rfl (hA _ (hw.get (i:=1) rfl)) (by omega) (j:=k) (by omega) (by rw[List.getElem?_map,hx];rfl)) ?_;refine J.qp ((Fn.of_same (a4x (K.sum (l.take k)) x.toNat (K.sum_lt _) x.toNat_lt))) [] λ_=>?_;rw[<- hs];refine J.q λ_=>?_;refine J.n (k+1) (by omega) (by omega) [0,1]
 simp only[decide_eq_false_iff_not,Int.ofNat_lt]at h;have htk:l.take k=l:=List.take_of_length_le (by omega);rw[htk];exact J.qx [1]
end Go.Proofs.YtpohajhbfllbbaaGreat
namespace Go.Proofs.YtpohajhbfllbbaaGreat
open Go.RowKit

theorem b3Z (role lpn seq:Int):
  bits BinOp.or IntKind.u64 (bits BinOp.or IntKind.u64 (IntKind.u64.wrap (IntKind.u64.wrap role*72057594037927936)) (IntKind.u64.wrap (bits BinOp.and IntKind.u64 (IntKind.u64.wrap lpn) 65535*1099511627776))) (bits BinOp.and IntKind.u64 (IntKind.u64.wrap seq) 1099511627775)=(S.meta_ role lpn seq:Int):=by
 have w64:∀n:Int,IntKind.u64.wrap n=((n % 18446744073709551616).toNat:Int):=λn=>by
  have:IntKind.u64.wrap n=n % 18446744073709551616:=by simp[IntKind.wrap,IntKind.bits,IntKind.signed]
  rw[this];omega
 have hl:bits BinOp.and IntKind.u64 (IntKind.u64.wrap lpn) 65535=((lpn % 65536).toNat:Int):=by
  rw[w64,show(65535:Int)=((65535:Nat):Int)from rfl,u64_and_nat _ _ (by omega) (by omega),nat_mask16];omega
 have hs:bits BinOp.and IntKind.u64 (IntKind.u64.wrap seq) 1099511627775=((seq % 1099511627776).toNat:Int):=by
  rw[w64,show(1099511627775:Int)=((2^40-1:Nat):Int)from rfl,u64_and_nat _ _ (by omega) (by omega),Nat.and_two_pow_sub_one_eq_mod];omega
 have hr:IntKind.u64.wrap (IntKind.u64.wrap role*72057594037927936)=(((role % 256).toNat*72057594037927936:Nat):Int):=by rw[w64 role,w64];omega
 have hl2:IntKind.u64.wrap (((lpn % 65536).toNat:Int)*1099511627776)=(((lpn % 65536).toNat*1099511627776:Nat):Int):=by rw[w64];omega
 rw[hl,hs,hr,hl2,u64_or_nat _ _ (by omega) (by omega),nat_join 56 _ _ (by omega) (by omega),u64_or_nat _ _ (by omega) (by omega),nat_join 40 _ _ (by omega) (by omega)];unfold S.meta_;omega

set_option maxRecDepth 100000 in
set_option maxHeartbeats 400000 in
theorem a2u (role lpn seq:Int) (w:World):
  Calls Tryz.prog 240 #[.int .i64 role, .int .i64 lpn, .int .i64 seq] w λe w'=>e= .returned (.int .u64 (S.meta_ role lpn seq))/\w=w':=by
 have he:=Lib.hid (b3Z role lpn seq)
 go_enter Tryz.func240,Tryz.ntmps240
 go_wp2
 go_ret
 exact⟨b6o he.out,rfl⟩

set_option maxRecDepth 100000 in
set_option maxHeartbeats 400000 in
theorem a6i (m:Nat) (hm:m<18446744073709551616) (w:World):
  Calls Tryz.prog 234 #[.int .u64 m] w λe w'=>e= .returned (.tuple #[.int .i64 (m/72057594037927936:Nat), .int .i64 (m/1099511627776 % 65536:Nat), .int .i64 (m % 1099511627776:Nat)])/\w=w':=by
 have e1:bits BinOp.and IntKind.u64 ((m:Int)/1099511627776) 65535=((m/1099511627776 % 65536:Nat):Int):=by
  rw[show(m:Int)/1099511627776=((m/1099511627776:Nat):Int)from rfl,show(65535:Int)=((65535:Nat):Int)from rfl,u64_and_nat _ _ (by omega) (by omega),nat_mask16]
 have e2:bits BinOp.and IntKind.u64 (m:Int) 1099511627775=((m % 1099511627776:Nat):Int):=by
  rw[show(1099511627775:Int)=((2^40-1:Nat):Int)from rfl,u64_and_nat _ _ (by omega) (by omega),Nat.and_two_pow_sub_one_eq_mod]
 have e3:wrap64 ((m/1099511627776 % 65536:Nat):Int)=((m/1099511627776 % 65536:Nat):Int):=IntWalk.wrap64_in _ (by omega);have e4:wrap64 ((m % 1099511627776:Nat):Int)=((m % 1099511627776:Nat):Int):=IntWalk.wrap64_in _ (by omega);have E1:=Lib.hid e1;have E2:=Lib.hid e2;have E3:=Lib.hid e3;have E4:=Lib.hid e4;clear e1 e2 e3 e4
 go_enter Tryz.func234,Tryz.ntmps234
 go_wp2
 go_ret3
 refine⟨?_,rfl⟩;show Ending.returned (Value.tuple #[.int .i64 ((m:Int)/72057594037927936), .int .i64 (wrap64 (bits BinOp.and IntKind.u64 ((m:Int)/1099511627776) 65535)), .int .i64 (wrap64 (bits BinOp.and IntKind.u64 (m:Int) 1099511627775))])=_;rw[E1.out,E2.out,E3.out,E4.out];rfl

theorem Q9:∀(l m:List UInt8),j7 (l.map bv) (m.map bv)=decide (l=m)
 | [],[]=>rfl
 | x::l,y::m=>by
  simp only[List.map_cons,j7,bv,a0j,Q9 l m]
  by_cases h:x=y
  ·subst h;simp
  ·have:¬x.toNat=y.toNat:=λe=>h (UInt8.toNat_inj.1 e);have h2:((x.toNat:Int)==(y.toNat:Int))=false:=by simp;omega
   simp[h2,h]
 | [],_::_=>by simp[j7]
 | _::_,[]=>by simp[j7]
end Go.Proofs.YtpohajhbfllbbaaGreat
namespace Go.Proofs.YtpohajhbfllbbaaGreat
open Go Go.RowKit
theorem Rd.drop {A:Atom} {b o size n:Nat} {xs:List Value} (h:Rd A (some ⟨b,o,none⟩) size n xs) (k:Nat) (hk:k<=n):Rd A (some ⟨b,o+k*size,none⟩) size (n-k) (xs.drop (k*size)):=by
 intro h' s;obtain⟨h0,h1⟩:=h h' s;have hle:k*size<=n*size:=Nat.mul_le_mul_right _ hk;refine⟨by rw[List.length_drop,h0,Nat.sub_mul],λhk0=>?_⟩;obtain⟨b',o',cs,ty,fr,e1,e2,e3⟩:=h1 (by omega);simp only[Option.some.injEq,Addr.mk.injEq,and_true]at e1;obtain⟨rfl,rfl⟩:=e1;refine⟨b,_,cs,ty,fr,rfl,e2,?_⟩;rw[<- e3,List.drop_take,List.drop_drop,Nat.sub_mul]
section
variable {P : Program} {E : Env} {n : Nat} {a : Act} {w : World}
theorem C2 {lv:List Lk} {o:Oper} {t:TypeId} {x y:Operand} {k1 k2 u1 u2 t2:Nat} {g1 g2:G} {xs ys:List Value} (hop:o.op= .binOp .eql t x y t2) (hx:ev E x=some ⟨k1, .agg xs.toArray,u1,g1⟩) (hy:ev E y=some ⟨k2, .agg ys.toArray,u2,g2⟩) (he:EnvOK n E a) (v1:g1.on=true) (v2:g2.on=true)
  (hl:B3 P 100 t=some lv) (fx:Fits lv xs) (fy:Fits lv ys) (hm:∀zs,mkV P t zs= .agg zs.toArray) (hg:P.eqGuardType P.depth t=false):(execOp a.eval o).run P w= .ok (.value (.bool (j7 xs ys))) w:=by
 have ex:=i6 he hx;have ey:=i6 he hy;simp only[Slot.val,v1,v2]at ex ey;have h:=a2B (w:=w) hl fx fy (hm _) (hm _);simp[execOp,hop,ex,ey,eqGuard,hg,h,Sem.run_bind]
theorem a4q {lv:List Lk} {o:Oper} {t:TypeId} {x y:Operand} {k1 k2 u1 u2 t2:Nat} {g1 g2:G} {xs ys:List Value} (hop:o.op= .binOp .neq t x y t2) (hx:ev E x=some ⟨k1, .agg xs.toArray,u1,g1⟩) (hy:ev E y=some ⟨k2, .agg ys.toArray,u2,g2⟩) (he:EnvOK n E a) (v1:g1.on=true) (v2:g2.on=true)
  (hl:B3 P 100 t=some lv) (fx:Fits lv xs) (fy:Fits lv ys) (hm:∀zs,mkV P t zs= .agg zs.toArray) (hg:P.eqGuardType P.depth t=false):(execOp a.eval o).run P w= .ok (.value (.bool (!j7 xs ys))) w:=by
 have ex:=i6 he hx;have ey:=i6 he hy;simp only[Slot.val,v1,v2]at ex ey;have h:=a2z (w:=w) hl fx fy (hm _) (hm _);simp[execOp,hop,ex,ey,eqGuard,hg,h,Sem.run_bind]
end
def b6y:List Lk:=[.int .u8, .int .u8, .int .u8, .int .u8, .int .u8, .int .u8, .int .u8, .int .u8, .int .u8, .int .u8, .int .u8, .int .u8, .int .u8, .int .u8, .int .u8, .int .u8, .int .u8, .int .u8, .int .u8, .int .u8, .int .u8, .int .u8, .int .u8, .int .u8, .int .u8, .int .u8, .int .u8, .int .u8, .int .u8, .int .u8, .int .u8, .int .u8]
theorem a3b:B3 Tryz.prog 100 176=some b6y:=by kernel_rfl
theorem a1g (p:List UInt8):Fits b6y (x8 p):=⟨rfl,rfl,rfl,rfl,rfl,rfl,rfl,rfl,rfl,rfl,rfl,rfl,rfl,rfl,rfl,rfl,rfl,rfl,rfl,rfl,rfl,rfl,rfl,rfl,rfl,rfl,rfl,rfl,rfl,rfl,rfl,rfl,trivial⟩
theorem b3V (zs:List Value):mkV Tryz.prog 176 zs= .agg zs.toArray:=by simp[mkV,Tryz.underlying176]
theorem b6B:Tryz.prog.eqGuardType Tryz.prog.depth 176=false:=by kernel_rfl
theorem b5K (x y:List UInt8) (hx:x.length=32) (hy:y.length=32):j7 (x8 x) (x8 y)=decide (x=y):=by rw[B2 x hx,B2 y hy,Q9]
def lvD:List Lk:=[.int .u8, .int .u8, .int .u8, .int .u8, .int .u8, .int .u8, .int .u8, .int .u8, .int .u8, .int .u8, .int .u8, .int .u8, .int .u8, .int .u8, .int .u8, .int .u8]
theorem L8 (p:List UInt8):Fits lvD (n6 p):=⟨rfl,rfl,rfl,rfl,rfl,rfl,rfl,rfl,rfl,rfl,rfl,rfl,rfl,rfl,rfl,rfl,trivial⟩
theorem eqD (x y:List UInt8) (hx:x.length=16) (hy:y.length=16):j7 (n6 x) (n6 y)=decide (x=y):=by rw[K4 x hx,K4 y hy,Q9]
theorem U0:B3 Tryz.prog 100 31=some lvD:=by kernel_rfl
theorem mkD (zs:List Value):mkV Tryz.prog 31 zs= .agg zs.toArray:=by simp[mkV,Tryz.underlying31]
theorem gdD:Tryz.prog.eqGuardType Tryz.prog.depth 31=false:=by kernel_rfl
def shL (s:Sh):List Value:=[byC s.data 0,byC s.data 1,byC s.data 2,byC s.data 3,byC s.data 4,byC s.data 5,byC s.data 6,byC s.data 7,byC s.data 8,byC s.data 9,byC s.data 10,byC s.data 11,byC s.data 12,byC s.data 13,byC s.data 14,byC s.data 15,
 iI s.role,iI s.lpn,iI s.seq,iI s.kind,iI s.block,iI s.row,iI s.mask]
abbrev shV (s:Sh):Value:= .agg (shL s).toArray
abbrev pgV (p:List UInt8):Value:= .agg (x8 p).toArray
theorem b2x (role lpn seq:Int):FP 240 [iI role,iI lpn,iI seq] [] (Ps (.int .u64 (S.meta_ role lpn seq)) []):=Fn.of_same (a2u role lpn seq)
theorem b5F (m:Nat) (hm:m<18446744073709551616):FP 234 [.int .u64 m] [] (Ps (.tuple #[iI (m/72057594037927936:Nat),iI (m/1099511627776 % 65536:Nat),iI (m % 1099511627776:Nat)]) []):=Fn.of_same (a6i m hm)
def D2 (s:Sh):List UInt8:=if S.may s then S.put s else T4
theorem W6 (s:Sh) (h:s.data.length=16):(D2 s).length=32:=by
 unfold D2;split
 ·exact S.length_put s h
 ·rfl
theorem b2B (p:List UInt8) (h:p.length=32):(S.getV p).data.length=16:=by
 unfold S.getV S.get;split
 ·simp[S.fields,h]
 ·rfl
section
variable {P : Program} {T : Tab} {E : Env} {w : World} {n0 : Nat} {a : Act}
theorem U1 (hT:TabOK P T) {o:Oper} {ty e len:Nat} {x y:Operand} {k1 k2 t1 t2:Nat} {g1 g2:G} {ik:IntKind} {i:Int} {cs:Array Value} {v:Value} {ti:TI} (hop:o.op= .index ty x y) (hx:ev E x=some ⟨k1, .agg cs,t1,g1⟩) (hy:ev E y=some ⟨k2, .int ik i,t2,g2⟩) (he:EnvOK n0 E a) (v1:g1.on=true) (v2:g2.on=true)
  (hd:P.underlying ty=some (.array len e)) (hti:T.get e=some ti) (h1:ti.d.one=true) (hs:Nat.beq ti.size 1=true) (h0:0<=i) (hl:i<(len:Int)) (hv:cs[i.toNat]? =some v):(execOp a.eval o).run P w= .ok (.value v) w:=by
 have ex:=i6 he hx;have ey:=i6 he hy;simp only[Slot.val,v1,v2]at ex ey;obtain⟨d,f,z,ok⟩:=g7 (hT.get hti);have hsz:f.size=1:=by rw[<- ok.hsize];exact Nat.eq_of_beq_eq_true hs
 have hp:=a2J (P:=P) (w:=w) ok.hd ok.hf cs i.toNat
 rw[ok.one h1,hv]at hp;simp only[execOp,hop,ex,ey,Instr.index,asIntOf,Sem.run_bind,Sem.run_pure,Result.andThen_ok,d7 hd,if_pos (And.intro h0 hl),m6 ok.hf,hsz,Nat.mul_one,hp];simp
end
theorem b2v (n a:Int):FP 257 [iI n,iI a] [] (Ps (.bool (S.inB n a)) []):=by
 refine FE [0,0] Tryz.func257 λX F hX=>?_;exact J.qx []
theorem b4m (s:Sh) (h:s.data.length=16):FP 258 [shV s] [] (Ps (.bool (S.entry s)) []):=by
 refine FE [0] Tryz.func258 λX F hX=>?_;refine J.q λ_=>?_;refine J.v (.bool (decide (s.data=zeros16))) rfl rfl (λhg a w he hs=>?_) ?_
 ·rw[<- eqD s.data zeros16 h rfl];exact C2 (xs:=n6 s.data) (ys:=n6 zeros16) rfl rfl rfl he rfl rfl U0 (L8 _) (L8 _) mkD gdD
 refine J.qd (λ_ h1=>?_) λ_ h1=>?_
 ·rw[beq_iff_eq]at h1;refine J.qr [] λ_=>?_;exact⟨by rw[S.entry,if_pos h1],rfl⟩
 rw[beq_eq_false_iff_ne]at h1;refine J.qd (λ_ h2=>?_) λ_ h2=>?_
 ·rw[h2];rw[beq_iff_eq]at h2;refine J.qT λ_=>?_;refine J.qr [] λ_=>?_;exact⟨by rw[S.entry,if_neg h1,if_pos (.inl h2)],rfl⟩
 rw[beq_eq_false_iff_ne]at h2;refine J.qd (λ_ h4=>?_) λ_ h4=>?_
 ·rw[beq_iff_eq]at h4;refine J.qr [] λ_=>?_;exact⟨by rw[S.entry,if_neg h1,if_pos (.inr h4)],rfl⟩
 rw[beq_eq_false_iff_ne]at h4;refine J.qd (λ_ h3=>?_) λ_ h3=>?_
 ·rw[beq_iff_eq]at h3;refine J.qr [] λ_=>?_;exact⟨by rw[S.entry,if_neg h1,if_neg (by omega),if_pos h3];rfl,rfl⟩
 rw[beq_eq_false_iff_ne]at h3;refine J.qr [] λ_=>?_;exact⟨by rw[S.entry,if_neg h1,if_neg (by omega),if_neg h3],rfl⟩
theorem a4C (s:Sh) (h:s.data.length=16):FP 231 [shV s] [] (Ps (.bool (S.may s)) []):=by
 have hc:=L.count_le s.mask;have e:∀k:Nat,decide ((k:Int)>=2)=decide (2<=k):=λk=>by rw[Bool.eq_iff_iff];simp;omega
 refine FE [0] Tryz.func231 λX F hX=>?_;refine J.qp (b2v s.block 15) [] λ_=>?_;refine J.q λ_=>?_;refine J.cg hX (b2v s.row 7) ?_;refine J.q λ_=>?_;refine J.cg hX (a0A s.mask) ?_;refine J.qp (b2v s.seq 1099511627775) [] λ_=>?_;refine J.q λ_=>?_;refine J.cg hX (b2v s.lpn 65535) ?_;refine J.q λ_=>?_;refine J.cg hX (b2v s.role 255) ?_;refine J.q λ_=>?_;refine J.cg hX (b4m s h) ?_;refine J.run hX tk 400 (λb20=>rfl) (λb20=>?_) (λb20=>?_)
 ·repeat' (first | exact Conj.nil | refine Conj.cons ?_ ?_ | (intros;first | assumption | simp_all))
 refine J.ru hX [] ?_;exact⟨by rw[S.may,S.place,S.numbers,<- e];rfl,rfl⟩
theorem hbv (l:List UInt8):∀u∈l.map bv,u.oneCell'=true:=λu hu=>by
 obtain⟨x,_,rfl⟩:=List.mem_map.1 hu;rfl
theorem b4N (d z q:List UInt8) (hd:d.length=16) (hz:z.length=16) (hq:q.length<=16):(x8 (d++z)).take 16++q.map bv++(x8 (d++z)).drop (16+(q.map bv).length)=x8 (d++(q++z.drop q.length)):=by
 rw[B2 _ (by rw[List.length_append];omega),B2 _ (by simp only[List.length_append,List.length_drop];omega),List.length_map,<- hd,List.map_append,List.take_left' (List.length_map _),List.map_append,List.map_append,List.append_assoc];congr 2;rw[<- List.map_append,<- List.map_drop,List.drop_append,List.map_append,List.drop_eq_nil_of_le (by omega),List.map_nil,List.nil_append,Nat.add_sub_cancel_left]
def hdF (s:Sh):Nat->Int | 0=>s.block | 1=>s.row | 2=>s.mask | _=>s.kind
def hdk (s:Sh):Nat->List Bool | 0=>[]++Bt.bits (S.meta_ s.role s.lpn s.seq) 64 | k+1=>hdk s k++Bt.bits (hdF s k).toNat 8
theorem u4i:Tryz.prog.underlying 297=some (.array 4 3):=by kernel_rfl
theorem b2w (s:Sh) (h:s.data.length=16):FP 204 [shV s] [] (Ps (.tuple #[pgV (D2 s), .bool (S.may s)]) []):=by
 refine FE [0] Tryz.func204 λX F hX=>?_;refine J.q λbb=>?_;refine J.cb (a4C s h) [] ?_;refine cpq ⟨_,rfl,trivial,?_⟩;cases hm:S.may s with
 | false=>
  refine J.qT λ_=>?_;refine J.qr [] λ_=>?_;exact⟨by rw[D2,hm];rfl,rfl⟩
 | true=>
  obtain⟨m1,m2,m3,m4⟩:=S.may_bounds s hm;have hF:∀k,0<=hdF s k/\(hdF s k).toNat<2^8:=λk=>by
   unfold hdF;split<;>constructor<;>first | omega | (rw[show(2:Nat)^8=256 from rfl];omega)
  have hkl:∀k,(hdk s k).length=64+8*k:=λk=>by
   induction k with
   | zero=>simp[hdk,Bt.length_bits]
   | succ k ih=>rw[hdk,List.length_append,ih,Bt.length_bits];omega
  refine J.qF λ_=>?_;refine J.q λcc=>?_;refine J.turn1 [] rfl (As:=[c9 5 1 none 0 0 []]) (λh s=>Sep.one ⟨rfl,rfl,rfl⟩) rfl ?_;refine J.cl (a6w (cc 0) []) (none,0) [4,5] ?_;refine J.qp ((Fn.of_same (a2u s.role s.lpn s.seq))) [] λ_=>?_;refine J.q λ_=>?_;refine J.ca hX (by kernel_rfl) (a8Q (cc 0) _ 64 [] (by decide) (by decide) (S.meta_lt _ _ _) (by decide)) [4] 0 rfl rfl rfl rfl rfl rfl (λ_=>rfl) ?_;refine cpq ⟨_,rfl,trivial,?_⟩;refine J.q λ_=>?_;refine J.l (α:=Nat) (λk=>k<=4) (λk=>[si 32 k,⟨31, .agg #[iI s.block,iI s.row,iI s.mask,iI s.kind],0, .tt⟩,⟨5,pp (cc 0),5, .tt⟩,⟨1,pp (bb 0),2, .tt⟩,⟨2,pp (bb (0+1)),3, .tt⟩,⟨4,pp (bb (0+1+1)),4, .tt⟩]) [4] (λk=>[a0R (cc 0) (hdk s k)]) (λk=>4-k) (0) (Nat.zero_le _) λk hI=>?_;refine J.qd (λ_ h1=>?_) λ_ h1=>?_
  ·simp only[decide_eq_true_eq]at h1;refine J.q λ_=>?_;refine J.v (iI (hdF s k)) rfl rfl (λhg a w he hw=>U1 tk rfl rfl rfl he rfl rfl u4i rfl rfl rfl (by omega) (by omega) (by rcases(by omega:k=0\/k=1\/k=2\/k=3)with rfl | rfl | rfl | rfl<;>rfl)) ?_;have hq:=hF k;have hq2:(hdF s k).toNat<256:=hq.2;have hk2:=hkl k;refine J.qp (b5U (cc 0) (hdF s k) 8 (hdk s k) (by decide) (by decide) hq.1 hq.2 (by omega)) [4] λ_=>?_;refine J.q λ_=>?_;refine J.n (k+1) (by omega) (by omega) [0,1,2,3,4,5]
  simp only[decide_eq_false_iff_not]at h1;obtain rfl:k=4:=by omega
  have hk4:=hkl 4;have hp4:(Bt.pack (hdk s 4)).length=12:=by rw[Bt.length_pack,hk4]
  refine J.pq (.of [0,4,8,14]) [] [1] λ_ _=>?_;refine J.copy hX tk 3 1 rfl rfl rfl rfl rfl rfl rfl rfl rfl rfl ((V3 (bb 0) _ (shL s) 1 23 rfl).take 16 (by decide)) rfl rfl (n6 s.data) rfl (Nat.le_of_ble_eq_true rfl) (by rw[show(shL s).take (16*1)=n6 s.data from rfl,K4 _ h];exact hbv _) (x8 (s.data++zeros16)) (by rw[B2 _ (by rw[List.length_append,h];rfl),List.map_append,K4 _ h,List.length_map,h];rfl) rfl (λ_=>rfl) ⟨⟨rfl,trivial⟩,?_⟩;refine J.p (.of [0,4,10,14]) [] [] λ_=>?_;refine J.qc (a5Q (cc 0) (hdk s 4) (by omega)) [4] λ_=>?_;rintro v As ⟨a,c,rfl,rfl⟩;refine⟨_,rfl,trivial,?_⟩;rw[hk4,show(64+8*4+7)/8=12 from rfl];refine J.know (λh' s=>i9 (c:=(a,c)) (by decide) (s.get (i:=6) rfl)) λhg=>?_;obtain⟨g,rfl⟩:=hg;refine J.q λ_=>?_;refine J.copy hX tk 3 6 rfl rfl rfl rfl rfl rfl rfl rfl rfl rfl (C6 _ _ _ _ _ _) rfl rfl ((Bt.pack (hdk s 4)).map bv) (List.take_of_length_le (by rw[List.length_map,hp4];decide)) (by rw[List.length_map,hp4];exact Nat.le_of_ble_eq_true rfl) (hbv _) _ (b4N s.data zeros16 _ h rfl (by rw[hp4];decide)) rfl (λ_=>rfl) ⟨trivial,?_⟩;rw[hp4];have hQ:(s.data++(Bt.pack (hdk s 4)++zeros16.drop 12)).length=32:=by rw[List.length_append,List.length_append,h,hp4];rfl
  have hQ2:(s.data++(Bt.pack (hdk s 4)++zeros16.drop 12)).take 28=s.data++Bt.pack (hdk s 4):=by rw[<- List.append_assoc];exact List.take_left' (by rw[List.length_append,h,hp4])
  have hR:=(V3 (bb (0+1+1)) 176 (x8 (s.data++(Bt.pack (hdk s 4)++zeros16.drop 12))) 1 32 rfl).take 28 (by decide);rw[B2 _ hQ,Nat.mul_one,<- List.map_take,hQ2,<- B2 _ hQ]at hR;refine J.q λ_=>?_;refine J.ca hX (by kernel_rfl) (b6L _ _ 28 32 _ hR (by rw[List.length_append,h,hp4]) (by decide)) [3] 0 rfl rfl rfl rfl rfl rfl (λ_=>rfl) ?_;refine cpq ⟨_,rfl,trivial,?_⟩;have hsum:=K.sum_lt (s.data++Bt.pack (hdk s 4));refine J.q λ_=>?_;refine J.ca hX (by kernel_rfl) (a8Q (cc 0) _ 32 (hdk s 4) (by decide) (by decide) hsum (by omega)) [4] 0 rfl rfl rfl rfl rfl rfl (λ_=>rfl) ?_;refine cpq ⟨_,rfl,trivial,?_⟩;have hl5:(hdk s 4++Bt.bits (K.sum (s.data++Bt.pack (hdk s 4))) 32).length=128:=by rw[List.length_append,hk4,Bt.length_bits]
  have hput:D2 s=s.data++Bt.pack (hdk s 4++Bt.bits (K.sum (s.data++Bt.pack (hdk s 4))) 32):=by rw[D2,if_pos hm];rfl
  generalize hdk s 4++Bt.bits (K.sum (s.data++Bt.pack (hdk s 4))) 32=L at hl5 hput ⊢;have hp5:(Bt.pack L).length=16:=by rw[Bt.length_pack,hl5]
  refine J.p (.of [0,4,10,14]) [] [] λ_=>?_;refine J.qc (a5Q (cc 0) L (by omega)) [4] λ_=>?_;rintro v As ⟨a,c,rfl,rfl⟩;refine⟨_,rfl,trivial,?_⟩;rw[hl5,show(128+7)/8=16 from rfl];refine J.know (λh' s=>i9 (c:=(a,c)) (by decide) (s.get (i:=7) rfl)) λhg=>?_;obtain⟨g',rfl⟩:=hg;refine J.q λ_=>?_;refine J.copy hX tk 3 7 rfl rfl rfl rfl rfl rfl rfl rfl rfl rfl (C6 _ _ _ _ _ _) rfl rfl ((Bt.pack L).map bv) (List.take_of_length_le (by rw[List.length_map,hp5];decide)) (by rw[List.length_map,hp5];exact Nat.le_of_ble_eq_true rfl) (hbv _) _ (b4N s.data _ _ h (by rw[List.length_append,hp4];rfl) (by rw[hp5];decide)) rfl (λ_=>rfl) ⟨trivial,?_⟩;rw[hp5,show(Bt.pack (hdk s 4)++zeros16.drop 12).drop 16=[]from List.drop_eq_nil_of_le (by rw[List.length_append,hp4];decide),List.append_nil,<- hput];refine J.qr [] λ_=>?_;exact⟨by rw[hm];rfl,rfl⟩
def sel (j k:Nat) (x:Nat):Int:=if j<k then x else 0
theorem u4p:Tryz.prog.underlying 307=some (.array 4 306):=by kernel_rfl
def gof:Nat->Nat | 0=>20 | 1=>21 | 2=>22 | _=>19
def gtk (m:Nat) (b:List UInt8) (k:Nat):List Value:=[iI (m/72057594037927936:Nat),iI (m/1099511627776 % 65536:Nat),iI (m % 1099511627776:Nat),iI (sel 3 k (Bt.numAt b 88 8)),iI (sel 0 k (Bt.numAt b 64 8)),iI (sel 1 k (Bt.numAt b 72 8)),iI (sel 2 k (Bt.numAt b 80 8))]
theorem b2y (p:List UInt8) (h:p.length=32):FP 208 [pgV p] [] (Ps (.tuple #[shV (S.getV p),iI (S.getE p)]) []):=by
 have hpl:(p.take 16).length=16:=by rw[List.length_take,h];rfl
 have hb:(p.drop 16).length=16:=by rw[List.length_drop,h]
 have hpc:(x8 p).take 16=n6 (p.take 16):=by rw[B2 p h,K4 _ hpl,List.map_take]
 have hone:∀u∈x8 p,u.oneCell'=true:=by rw[B2 p h];exact hbv p
 have hm:Bt.numAt (p.drop 16) 0 64<18446744073709551616:=Bt.numAt_lt _ 0 64;have hf:=λk=>Bt.numAt_lt (p.drop 16) k 8;rw[show(2:Nat)^8=256 from rfl]at hf;refine FE [0] Tryz.func208 λX F hX=>?_;refine J.q λbb=>?_;refine J.plan (.of [0,4,8,14]) [] [1] (by rw[hX.hP];kernel_rfl) (by kernel_rfl) ?_;refine J.q λ_=>?_;refine J.copy hX tk 3 1 rfl rfl rfl rfl rfl rfl rfl rfl rfl rfl (V3 (bb 0) _ (x8 p) 1 32 rfl) rfl rfl (n6 (p.take 16)) hpc (Nat.le_of_ble_eq_true rfl) hone (shL ⟨p.take 16,0,0,0,0,0,0,0⟩) rfl rfl (λ_=>rfl) ⟨⟨rfl,trivial⟩,?_⟩;have hR:=(V3 (bb 0) 176 (x8 p) 1 32 rfl).drop 16 (by decide);rw[show(x8 p).drop (16*1)=(p.drop 16).map bv from by rw[B2 p h,List.map_drop]]at hR;refine J.qc (b2V (some ⟨bb 0,0+16*1,none⟩) 16 16) [] λ_=>?_;rintro v As ⟨g,rfl,rfl⟩;refine⟨_,rfl,trivial,?_⟩;refine J.q λ_=>?_;refine J.ca hX (by kernel_rfl) (b2W g _ _ 16 16 _ hR hb (by decide) 0 64 (by decide) (by decide) (by decide)) [4,1] 0 rfl rfl rfl rfl rfl rfl (λ_=>rfl) ?_;refine cpq ⟨_,rfl,trivial,?_⟩;refine J.qp ((Fn.of_same (a6i _ hm))) [] λ_=>?_;refine J.q λ_=>?_;refine J.l (α:=Nat) (λk=>k<=4) (λk=>[si 39 k,⟨38, .agg #[.pointer (some ⟨bb (0+1+1),0+20,none⟩), .pointer (some ⟨bb (0+1+1),0+21,none⟩), .pointer (some ⟨bb (0+1+1),0+22,none⟩), .pointer (some ⟨bb (0+1+1),0+19,none⟩)],0, .tt⟩,⟨1,pp (bb 0),2, .tt⟩,⟨2,pp (bb (0+1)),3, .tt⟩,⟨4,pp (bb (0+1+1)),4, .tt⟩,sp 5 g]) [3,4] (λk=>[.pt (bb (0+1+1)) 219 (n6 (p.take 16)++gtk (Bt.numAt (p.drop 16) 0 64) (p.drop 16) k), .pt g 320 [.slice (some ⟨bb 0,0+16*1,none⟩) 16 16,iI (64+8*k:Nat)]]) (λk=>4-k) (0) (Nat.zero_le _) λk hI=>?_;refine J.qd (λ_ h1=>?_) λ_ h1=>?_
 ·simp only[decide_eq_true_eq]at h1;have hq:=hf (64+8*k);have hk:k=0\/k=1\/k=2\/k=3:=by omega
  refine J.q λ_=>?_;refine J.v (.pointer (some ⟨bb (0+1+1),0+gof k,none⟩)) rfl rfl (λhg a w he hw=>U1 tk rfl rfl rfl he rfl rfl u4p rfl rfl rfl (by omega) (by omega) (by rcases hk with rfl | rfl | rfl | rfl<;>rfl)) ?_;refine J.q λ_=>?_;refine J.ca hX (by kernel_rfl) (b2W g _ _ 16 16 _ hR hb (by decide) (64+8*k) 8 (by decide) (by decide) (by omega)) [4,1] 0 rfl rfl rfl rfl rfl rfl (λ_=>rfl) ?_;refine cpq ⟨_,rfl,trivial,?_⟩;refine J.q λ_=>?_;refine J.s1 3 (n6 (p.take 16)++gtk (Bt.numAt (p.drop 16) 0 64) (p.drop 16) (k+1)) ?_ ?_ ?_
  ·rcases hk with rfl | rfl | rfl | rfl<;>exact Nat.le_of_ble_eq_true rfl
  ·rcases hk with rfl | rfl | rfl | rfl<;>rfl
  refine J.q λ_=>?_;refine J.n (k+1) (by omega) (by omega) [0,1,2,3,4]
 simp only[decide_eq_false_iff_not]at h1;obtain rfl:k=4:=by omega
 rw[show n6 (p.take 16)++gtk (Bt.numAt (p.drop 16) 0 64) (p.drop 16) 4=shL (S.fields p)from rfl];refine J.qp (b2w (S.fields p) hpl) [] λ_=>?_;refine J.q λ_=>?_;refine J.v (.bool (!decide (D2 (S.fields p)=p))) rfl rfl (λhg a w he hs=>?_) ?_
 ·rw[<- b5K _ p (W6 _ hpl) h];exact a4q (xs:=x8 (D2 (S.fields p))) (ys:=x8 p) rfl rfl rfl he hg hg a3b (a1g _) (a1g _) b3V b6B
 have hget:S.get p=if(!S.may (S.fields p)|| !decide (D2 (S.fields p)=p))=true then none else some (S.fields p):=by
  unfold S.get D2;cases S.may (S.fields p)<;>simp
 refine J.qd (λ_ h1=>?_) λ_ h1=>?_
 ·rw[if_pos h1]at hget;refine J.qr [] λ_=>?_;exact⟨by rw[S.getV,S.getE,hget];rfl,rfl⟩
 ·rw[if_neg (by rw[h1];decide)]at hget;refine J.qr [] λ_=>?_;exact⟨by rw[S.getV,S.getE,hget];rfl,rfl⟩
structure En where
 lpn:Int
 seq:Int
 role:Int
 data:List UInt8
def enL (e:En):List Value:=[iI e.lpn,iI e.seq,iI e.role,byC e.data 0,byC e.data 1,byC e.data 2,byC e.data 3,byC e.data 4,byC e.data 5,byC e.data 6,byC e.data 7,byC e.data 8,byC e.data 9,byC e.data 10,byC e.data 11,byC e.data 12,byC e.data 13,byC e.data 14,byC e.data 15]
abbrev enV (e:En):Value:= .agg (enL e).toArray
namespace W
def sh (b r m:Int) (e:En):Sh:=⟨e.data,e.role,e.lpn,e.seq,1,b,r,m⟩
def ok (b r m:Int) (e:En):Bool:=S.may (sh b r m e)
def own (b r m:Int) (e:En):Sh:=if ok b r m e then sh b r m e else Sh.zero
end W
theorem a6b (b r m:Int) (e:En) (h:e.data.length=16):FP 203 [iI b,iI r,iI m,enV e] [] (Ps (.tuple #[shV (W.own b r m e), .bool (W.ok b r m e)]) []):=by
 refine FE [0,0,0,0] Tryz.func203 λX F hX=>?_;refine J.qp (a4C (W.sh b r m e) h) [] λ_=>?_;refine J.qd (λ_ h1=>?_) λ_ h1=>?_
 ·simp only[Bool.not_eq_true']at h1;refine J.qr [] λ_=>?_;exact⟨by rw[W.own,W.ok,h1];rfl,rfl⟩
 ·simp only[Bool.not_eq_false']at h1;refine J.qr [] λ_=>?_;exact⟨by rw[W.own,W.ok,h1];rfl,rfl⟩
namespace W
def mix (x s:List UInt8) (k:Nat):List UInt8:=(List.zipWith (· ^^^ ·) x s).take k++x.drop k
def ovM (m x:Int):Int:=IntKind.u64.wrap ((BitVec.ofInt 64 m ^^^ BitVec.ofInt 64 x).toNat:Int)
def over1 (x:List UInt8×Int) (s:Sh):List UInt8×Int:=(mix x.1 s.data 16,ovM x.2 (S.meta_ s.role s.lpn s.seq))
def over (l:List Sh):List UInt8×Int:=l.foldl over1 (zeros16,0)
end W
def m7 (l:List Sh):List Value:=l.flatMap shL
theorem a8i (s:Sh):(shL s).length=23:=rfl
theorem Z4:∀(l:List Sh) (r:List Value) (k:Nat) (x:Sh),l[k]? =some x->((m7 l++r).drop (k*23)).take 23=shL x
 | [],_,_,_,h=>by simp at h
 | y::l,r,0,x,h=>by
  simp at h;subst h;rw[Nat.zero_mul,List.drop_zero];simp only[m7,List.flatMap_cons,List.append_assoc];exact List.take_left' (a8i y)
 | y::l,r,k+1,x,h=>by
  have:=Z4 l r k x (by simpa using h);rw[show(k+1)*23=23+k*23 from by omega,<- List.drop_drop];simp only[m7,List.flatMap_cons,List.append_assoc]at this ⊢;rw[List.drop_left' (a8i y)];exact this
theorem a5t {x s:List UInt8} (hx:x.length=16) (hs:s.length=16) (k:Nat) (hk:k<=16):(W.mix x s k).length=16:=by simp[W.mix,hx,hs];omega
theorem b3Y {x s:List UInt8} (hx:x.length=16) (hs:s.length=16) {k:Nat} (hk:k<16):(W.mix x s k).getD k 0=x.getD k 0:=by
 have e:(W.mix x s k)[k]? =x[k]?:=by
  rw[W.mix,List.getElem?_append_right (by simp[hx,hs];omega),List.getElem?_drop];congr 1;simp[hx,hs];omega
 rw[List.getD_eq_getElem?_getD,e,List.getD_eq_getElem?_getD]
theorem b3X {x s:List UInt8} (hx:x.length=16) (hs:s.length=16) {k:Nat} (hk:k<16):(W.mix x s k).set k (x.getD k 0 ^^^ s.getD k 0)=W.mix x s (k+1):=by
 apply List.ext_getElem?;intro j;rw[List.getElem?_set,a5t hx hs k (by omega)];simp only[W.mix,List.getElem?_append,List.length_take,List.length_zipWith,hx,hs,Nat.min_self,List.getElem?_take,List.getElem?_drop]
 by_cases e:k=j
 ·subst e;rw[if_pos rfl,if_pos hk,if_pos (by omega),if_pos (by omega)];simp[List.getElem?_zipWith,hx,hs,hk]
 ·rw[if_neg e]
  by_cases h1:j<k
  ·rw[if_pos (show j<min k 16 by omega),if_pos h1,if_pos (show j<min (k+1) 16 by omega),if_pos (show j<k+1 by omega)]
  ·rw[if_neg (show¬j<min k 16 by omega),if_neg (show¬j<min (k+1) 16 by omega),show k+(j-min k 16)=j from by omega,show k+1+(j-min (k+1) 16)=j from by omega]
theorem u81:Tryz.prog.underlying 31=some (.array 16 5):=by kernel_rfl
theorem a4N {x:List UInt8} (h:x.length=16) {k:Nat} (hk:k<16):(n6 x)[k]? =some (bv (x.getD k 0)):=by
 rw[K4 x h,List.getElem?_map];simp[h,hk]
theorem b0i {x:List UInt8} (h:x.length=16) {k:Nat} {b:UInt8}:(n6 x).set k (bv b)=n6 (x.set k b):=by
 rw[K4 x h,K4 _ (by simpa using h),List.map_set]
theorem b3c (b c:UInt8):IntKind.u8.wrap ((BitVec.ofInt IntKind.u8.bits (b.toNat:Int) ^^^ BitVec.ofInt IntKind.u8.bits (c.toNat:Int)).toNat:Int)=((b ^^^ c).toNat:Int):=by
 have h:=b0s b (c.toNat:Int);have h1:((c.toNat:Int) % 256)=c.toNat:=by have:=c.toNat_lt;omega
 have h2:IntKind.u8.wrap (c.toNat:Int)=(c.toNat:Int):=by
  have:IntKind.u8.wrap (c.toNat:Int)=(c.toNat:Int) % 256:=by simp[IntKind.wrap,IntKind.bits,IntKind.signed]
  rw[this,h1]
 rw[h2,h1]at h;simpa using h
theorem R9 {l:List Sh} (hd:∀s∈l,s.data.length=16):∀(x:List UInt8×Int),x.1.length=16->(l.foldl W.over1 x).1.length=16:=by
 induction l with
 | nil=>intro x h;exact h
 | cons s l ih=>intro x h;exact ih (λt ht=>hd t (by simp[ht])) _ (a5t h (hd s (by simp)) 16 (by omega))
theorem M5 (a:Option Nat) (n cap:Nat) (l:List Sh) (hl:l.length=n) (hn:n<=1000) (hd:∀s∈l,s.data.length=16):FP 232 [slv a n cap] [c9 219 23 a n cap (m7 l)]
  (Ps (.tuple #[.agg (n6 (W.over l).1).toArray, .int .u64 (W.over l).2]) [c9 219 23 a n cap (m7 l)]):=by
 refine FE [0] Tryz.func232 λX F hX=>?_;refine J.q λbb=>?_;refine J.l (α:=Nat) (λk=>k<=n) (λk=>[si 12 k,si 11 n,sv 10 (slv a n cap),⟨5, .int .u64 ((l.take k).foldl W.over1 (zeros16,0)).2,0, .tt⟩,⟨4,pp (bb (0+1)),4, .tt⟩,⟨2,pp (bb 0),3, .tt⟩]) [3] (λk=>[.pt (bb (0+1)) 31 (n6 ((l.take k).foldl W.over1 (zeros16,0)).1)]) (λk=>n-k) (0) (Nat.zero_le _) λk hI=>?_;have hxl:((l.take k).foldl W.over1 (zeros16,0)).1.length=16:=R9 (λt ht=>hd t (List.mem_of_mem_take ht)) _ rfl;refine J.qd (λ_ h1=>?_) λ_ h1=>?_
 ·simp only[decide_eq_true_eq,Int.ofNat_lt]at h1;obtain⟨s,hs⟩:∃s,l[k]? =some s:=⟨_,List.getElem?_eq_getElem (by omega)⟩;have hsl:s.data.length=16:=hd s (List.mem_of_getElem? hs);have hnext:(l.take (k+1)).foldl W.over1 (zeros16,0)=W.over1 ((l.take k).foldl W.over1 (zeros16,0)) s:=by
   rw[List.take_add_one,hs];simp
  generalize(l.take k).foldl W.over1 (zeros16,0)=x at hxl hnext;cases a with
  | none=>
   refine J.know (λh' s=>(s.get (i:=1) rfl).2.1) λhn0=>?_;omega
  | some g=>
   refine J.q λ_=>?_;refine J.v (shV s) rfl rfl (λhg a w he hw=>?_) ?_
   ·exact n8 tk rfl rfl he rfl rfl rfl (hw.get (i:=1) rfl) (by rw[show 0+(k:Int).toNat*23=k*23 from by omega];have:=Z4 l [] k s hs;rwa [List.append_nil]at this) rfl
   refine J.q λcc=>?_;refine J.lo (α:=Nat) (λi=>i<=16) (λi=>[si 18 i,⟨17, .agg (n6 s.data).toArray,0, .tt⟩,⟨7,pp (cc 0),5, .tt⟩,si 12 k,si 11 n,sv 10 (slv (some g) n cap),⟨5, .int .u64 x.2,0, .tt⟩,⟨4,pp (bb (0+1)),4, .tt⟩,⟨2,pp (bb 0),3, .tt⟩]) [3] (λi=>[.pt (bb (0+1)) 31 (n6 (W.mix x.1 s.data i))]) (λi=>16-i) (0) (Nat.zero_le _) rfl ?_ (λ_=>rfl) λi hI=>?_
   ·rw[show W.mix x.1 s.data 0=x.1 from by simp[W.mix]];rfl
   have hml:=a5t hxl hsl i hI;refine J.qd (λ_ h2=>?_) λ_ h2=>?_
   ·simp only[decide_eq_true_eq]at h2;have h3:i<16:=by omega
    refine J.q λ_=>?_;refine J.v (bv (s.data.getD i 0)) rfl rfl (λhg a w he hw=>?_) ?_
    ·exact U1 tk rfl rfl rfl he rfl rfl u81 rfl rfl rfl (by omega) (by omega) (by rw[Int.toNat_natCast];have:=a4N hsl h3;simpa using this)
    refine J.q λ_=>?_;refine J.v (bv (x.1.getD i 0)) rfl rfl (λhg a w he hw=>?_) ?_
    ·exact j3 tk rfl rfl he rfl rfl rfl (hw.get (i:=3) rfl) (by rw[show 0+(i:Int).toNat*1=i from by omega,a4N hml h3,b3Y hxl hsl h3])
    refine J.q λ_=>?_;refine J.s1 3 (n6 (W.mix x.1 s.data (i+1))) ?_ ?_ ?_
    ·show 0+(i:Int).toNat*1<16;omega
    ·rw[show 0+(i:Int).toNat*1=i from by omega,b3c,<- b3X hxl hsl h3];exact b0i hml
    refine J.q λ_=>?_;refine J.nx (i+1) (by omega) (by omega) (λ_ s=>s)
   ·simp only[decide_eq_false_iff_not]at h2;obtain rfl:i=16:=by omega
    refine J.qp (b2x s.role s.lpn s.seq) [] λ_=>?_;refine J.q λ_=>?_;have e1:W.mix x.1 s.data 16=((l.take (k+1)).foldl W.over1 (zeros16,0)).1:=by rw[hnext];rfl
    have e2:IntKind.u64.wrap ((BitVec.ofInt IntKind.u64.bits x.2 ^^^ BitVec.ofInt IntKind.u64.bits (S.meta_ s.role s.lpn s.seq)).toNat:Int)=((l.take (k+1)).foldl W.over1 (zeros16,0)).2:=by rw[hnext];rfl
    rw[e1,e2];refine J.q λ_=>?_;refine J.n (k+1) (by omega) (by omega) [0,1,2,3]
 ·simp only[decide_eq_false_iff_not,Int.ofNat_lt]at h1;obtain rfl:k=l.length:=by omega
  rw[List.take_length];exact J.qx [1]
def d6 (l:List En):List Value:=l.flatMap enL
theorem b4u (e:En):(enL e).length=19:=rfl
theorem D4:∀(l:List En) (r:List Value) (k:Nat) (x:En),l[k]? =some x->((d6 l++r).drop (k*19)).take 19=enL x
 | [],_,_,_,h=>by simp at h
 | y::l,r,0,x,h=>by
  simp at h;subst h;rw[Nat.zero_mul,List.drop_zero];simp only[d6,List.flatMap_cons,List.append_assoc];exact List.take_left' rfl
 | y::l,r,k+1,x,h=>by
  have:=D4 l r k x (by simpa using h);rw[show(k+1)*19=19+k*19 from by omega,<- List.drop_drop];simp only[d6,List.flatMap_cons,List.append_assoc]at this ⊢;rw[List.drop_left' (b4u y)];exact this
theorem x6 (l:List Sh) (s:Sh):m7 (l++[s])=m7 l++shL s:=by simp[m7]
namespace W
def parS (b r m:Int) (l:List En):Sh:=
 let x:=over (l.map (sh b r m))
 ⟨x.1,(x.2.toNat/72057594037927936:Nat),(x.2.toNat/1099511627776 % 65536:Nat),(x.2.toNat % 1099511627776:Nat),2,b,r,m⟩
def parB (b r m:Int) (l:List En):Bool:=decide ((l.length:Int)=G.slots m)&& !l.isEmpty&&l.all (ok b r m)
def par (b r m:Int) (l:List En):Sh:=if parB b r m l then parS b r m l else Sh.zero
end W
theorem b5q (m x:Int):0<=W.ovM m x/\W.ovM m x<18446744073709551616:=by
 have:W.ovM m x=((BitVec.ofInt 64 m ^^^ BitVec.ofInt 64 x).toNat:Int) % 18446744073709551616:=by simp[W.ovM,IntKind.wrap,IntKind.bits,IntKind.signed]
 rw[this];omega
theorem a0w:∀(l:List Sh) (x:List UInt8×Int),0<=x.2/\x.2<18446744073709551616->∃k:Nat,(l.foldl W.over1 x).2=k/\k<18446744073709551616
 | [],x,h=>⟨x.2.toNat,by simp only[List.foldl_nil];omega,by omega⟩
 | s::l,x,_=>a0w l _ (b5q _ _)
theorem H4 (m:Int):0<=G.slots m/\G.slots m<=7:=by
 have:=L.count_le m;unfold G.slots;split<;>omega
theorem a6a (b r m:Int) (A:Atom) (a:Option Addr) (n cap:Nat) (l:List En) (hA:Rd A a 19 n (d6 l)) (hl:l.length=n) (hd:∀s∈l,s.data.length=16):FP 202 [iI b,iI r,iI m, .slice a n cap] [A]
  (λv As=>v= .tuple #[shV (W.par b r m l), .bool (W.parB b r m l)]/\As=[A]):=by
 refine FE [0,0,0,0] Tryz.func202 λX F hX=>?_;refine J.q λbb=>?_;refine J.cb (J6 m) [] ?_;refine cpq ⟨_,rfl,trivial,?_⟩;refine J.qd (λ_ h1=>?_) λ_ h1=>?_
 ·refine J.qr [1] λ_=>?_;have:W.parB b r m l=false:=by
   simp only[Bool.or_eq_true,bne_iff_ne,ne_eq,beq_iff_eq]at h1;unfold W.parB;rw[hl];rcases h1 with h1 | h1
   ·simp[h1]
   ·have:l=[]:=List.eq_nil_of_length_eq_zero (by omega);subst this;simp
  exact⟨by rw[W.par,this];rfl,rfl⟩
 simp only[Bool.or_eq_false_iff,bne_eq_false_iff_eq,beq_eq_false_iff_ne,ne_eq]at h1;have hn:n<=1000:=by have:=H4 m;omega
 refine J.turn1 [] rfl (As:=[c9 219 23 none 0 0 (m7 [])]) (λh s=>Sep.one ⟨rfl,rfl,rfl⟩) rfl ?_;refine J.q λ_=>?_;refine J.l (α:=(Nat×Option Nat×Nat)) (λz=>z.1<=n/\(l.take z.1).all (W.ok b r m)=true) (λz=>[si 31 z.1,si 30 n,sv 29 (.slice a n cap),sv 10 (slv z.2.1 z.1 z.2.2),⟨8,pp (bb 0),3, .tt⟩,si 0 b,si 1 r,si 2 m]) [3] (λz=>[c9 219 23 z.2.1 z.1 z.2.2 (m7 ((l.take z.1).map (W.sh b r m)))]) (λz=>n-z.1) ((0,none,0)) (⟨Nat.zero_le _,rfl⟩) λz hI=>?_;obtain⟨k,a',cap'⟩:=z;dsimp only at hI ⊢;refine J.qd (λ_ h2=>?_) λ_ h2=>?_
 ·simp only[decide_eq_true_eq,Int.ofNat_lt]at h2;obtain⟨e,he0⟩:∃e,l[k]? =some e:=⟨_,List.getElem?_eq_getElem (by omega)⟩;have hel:e.data.length=16:=hd e (List.mem_of_getElem? he0);refine J.know (p:=∃g o,a=some ⟨g,o,none⟩) (λh' s=>Rd.addr (hA _ (s.get (i:=1) rfl)) (by omega)) λhk=>?_;obtain⟨g,o,rfl⟩:=hk;refine J.q λ_=>?_;refine J.v (enV e) rfl rfl (λhg a w he hw=>?_) ?_
  ·exact Y3 tk rfl rfl he rfl rfl rfl (hA _ (hw.get (i:=1) rfl)) (by omega) (j:=k*19) (by omega) (by have:=D4 l [] k e he0;rwa [List.append_nil]at this) rfl
  refine J.qp (a6b b r m e hel) [] λ_=>?_;have htk:l.take (k+1)=l.take k++[e]:=by rw[List.take_add_one,he0];rfl
  refine J.qd (λ_ h3=>?_) λ_ h3=>?_
  ·simp only[Bool.not_eq_true']at h3;refine J.qr [1] λ_=>?_;have:W.parB b r m l=false:=by
    unfold W.parB;have:l.all (W.ok b r m)=false:=by
     rw[List.all_eq_false];exact⟨e,List.mem_of_getElem? he0,by simp[h3]⟩
    rw[this];simp
   exact⟨by rw[W.par,this];rfl,rfl⟩
  ·simp only[Bool.not_eq_false']at h3;rw[show W.own b r m e=W.sh b r m e from if_pos h3];refine J.q λ_=>?_;refine J.append hX tk 3 6 0 rfl rfl rfl rfl rfl rfl rfl rfl rfl rfl rfl rfl rfl rfl rfl rfl ?_ ?_ (λ_=>rfl) λa2 cap2=>⟨_,(congrArg (λz=>A4 _ 3 (c9 _ _ _ _ _ z)) (x6 _ (W.sh b r m e)).symm).trans rfl,trivial,?_⟩
   ·simp only[maxLen];omega
   ·omega
   rw[show(l.take k).map (W.sh b r m)++[W.sh b r m e]=(l.take (k+1)).map (W.sh b r m)from by rw[htk,List.map_append];rfl];refine J.q λ_=>?_;refine J.n ((k+1,a2,cap2)) (⟨by dsimp only;omega,by dsimp only;rw[htk,List.all_append,hI.2];simp[h3]⟩) (by dsimp only;omega) [0,1,2,3]
 ·simp only[decide_eq_false_iff_not,Int.ofNat_lt]at h2;obtain rfl:k=n:=by omega
  rw[show l.take k=l from List.take_of_length_le (by omega)]at*;refine J.qp (M5 a' k cap' (l.map (W.sh b r m)) (by rw[List.length_map,hl]) hn (λs hs=>by obtain⟨e,he,rfl⟩:=List.mem_map.1 hs;exact hd e he)) [3] λ_=>?_;obtain⟨mm,hm1,hm2⟩:=a0w (l.map (W.sh b r m)) (zeros16,0) ⟨by decide,by decide⟩;have hm1:(W.over (l.map (W.sh b r m))).2=(mm:Int):=hm1;rw[hm1];refine J.qp (b5F mm hm2) [] λ_=>?_;refine J.qr [1] λ_=>?_;have hB:W.parB b r m l=true:=by
   unfold W.parB;rw[hl,hI.2];have:l.isEmpty=false:=by
    cases l with
    | nil=>simp at hl;omega
    | cons x l=>rfl
   rw[this];simp[h1.1]
  refine⟨?_,rfl⟩;have hx:mm=(W.over (l.map (W.sh b r m))).2.toNat:=by rw[hm1];rfl
  rw[W.par,hB,if_pos rfl,W.parS,<- hx];rfl
end Go.Proofs.YtpohajhbfllbbaaGreat
