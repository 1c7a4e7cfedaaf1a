/- Helpers, proved here. No condition. -/
import Derived.Test.YtdocmcapegcoeaaGreatC04
import Derived.Test.YtdocmcapegcoeaaGreatC06
import Derived.Test.YtdocmcapegcoeaaGreatC11
import Derived.Test.YtdocmcapegcoeaaGreatC12
import Derived.Test.YtdocmcapegcoeaaGreatC14
import Derived.Test.YtdocmcapegcoeaaGreatC15
import Derived.Test.YtdocmcapegcoeaaGreatC17
import Derived.Test.YtdocmcapegcoeaaGreatC19
import Derived.Test.YtdocmcapegcoeaaGreatC22
set_option maxRecDepth 20000
set_option linter.all false
namespace Go.Proofs.YtdocmcapegcoeaaGreat
end Go.Proofs.YtdocmcapegcoeaaGreat
namespace Go.Proofs.YtdocmcapegcoeaaGreat
open Go Go.RowKit
theorem pow_step (k:Nat) (h:k<63):((2^k:Nat):Int)*2=((2^(k+1):Nat):Int)/\0<((2^k:Nat):Int)/\((2^k:Nat):Int)*2<18446744073709551616:=by
 have h1:2^(k+1)<=2^63:=Nat.pow_le_pow_right (by omega) (by omega);have h2:0<2^k:=Nat.two_pow_pos k;have h3:(2:Nat)^(k+1)=2^k*2:=Nat.pow_succ 2 k;omega
theorem f1_pow (n:Nat) (hn:n<=63):Fn Tryz.prog 196 [.int .i64 n] [] (λv As=>v= .int .u64 ((2^n:Nat):Int)/\As=[]):=by
 refine Fn.enter [0] Tryz.func196 rfl rfl rfl λX F hX=>?_;refine J.q hX λ_=>?_;refine J.lo (α:=(Nat×Int)) (λz=>z.1<=n/\z.2=((2^z.1:Nat):Int)) (λz=>[⟨4, .int .i64 z.1,0, .tt⟩,⟨3, .int .u64 z.2,0, .tt⟩,⟨0, .int .i64 n,0, .tt⟩]) [] (λz=>[]) (λz=>n-z.1) ((0,1)) (⟨Nat.zero_le _,rfl⟩) rfl ?_ (λ_=>rfl) λz hI=>?_
 ·rfl
 obtain⟨k,x⟩:=z;dsimp only at hI ⊢;obtain⟨hk,hx⟩:=hI;refine J.q hX λ_=>?_;refine J.cond rfl (λh1=>?_) (λh1=>?_)
 ·simp only[decide_eq_true_eq,Int.ofNat_lt]at h1;have hp:=pow_step k (by omega);rw[<- hx]at hp;refine J.q hX λ_=>?_;refine J.nS ((k+1,x*2)) (⟨by dsimp only;omega,hp.1⟩) (by dsimp only;omega) [0] rfl rfl
 ·simp only[decide_eq_false_iff_not,Int.ofNat_lt]at h1;obtain rfl:k=n:=by omega
  subst hx;refine J.q hX λ_=>?_;exact J.ru hX [] ⟨rfl,rfl⟩
def dsk (m:Int) (k:Nat):List Int:=((List.range k).filter (λd:Nat=>L.has m d)).map (λd:Nat=>(d:Int))
theorem dsk_succ (m:Int) (k:Nat):dsk m (k+1)=dsk m k++(if L.has m k then[(k:Int)]else[]):=by
 unfold dsk;rw[List.range_succ,List.filter_append,List.map_append];cases h:L.has m k<;>simp[h]
theorem dsk_len (m:Int) (k:Nat):(dsk m k).length<=k:=by
 unfold dsk;rw[List.length_map];exact Nat.le_trans (List.length_filter_le _ _) (by simp)
theorem dsk_no (m:Int) (k:Nat) (h:¬(0<=m/\m<256)):dsk m k=[]:=by simp[dsk,L.has_no m _ h]
def dI (m:Int):List Int:=dsk m 8
theorem dI_len (m:Int):(dI m).length<=8:=dsk_len m 8
theorem bit_eq (m d:Nat) (hm:m<256) (hd:d<8):(((m:Int).tdiv ((2^d:Nat):Int)).tmod 2==1)=L.has (m:Int) (d:Int):=by
 rw[<- Int.ofNat_tdiv,show(2:Int)=((2:Nat):Int)from rfl,<- Int.ofNat_tmod];have:L.has (m:Int) (d:Int)=m.testBit d:=by
  simp only[L.has,L.set,Int.toNat_natCast];rw[decide_eq_true (show(0:Int)<=(m:Int)by omega),decide_eq_true (show(m:Int)<256 by omega),decide_eq_true (show(0:Int)<=(d:Int)by omega),decide_eq_true (show(d:Int)<8 by omega)];rfl
 rw[this,Nat.testBit_eq_decide_div_mod_eq]
 by_cases h:m/2^d % 2=1
 ·simp[h]
 ·rw[decide_eq_false h,beq_eq_false_iff_ne];omega
theorem quo_bd (m d:Nat) (hm:m<256):(0<=(m:Int).tdiv ((2^d:Nat):Int)/\(m:Int).tdiv ((2^d:Nat):Int)<256)/\(0<=((m:Int).tdiv ((2^d:Nat):Int)).tmod 2/\((m:Int).tdiv ((2^d:Nat):Int)).tmod 2<2):=by
 rw[<- Int.ofNat_tdiv,show(2:Int)=((2:Nat):Int)from rfl,<- Int.ofNat_tmod];have:=Nat.div_le_self m (2^d);generalize m/2^d=q at this ⊢;omega
theorem f1_Dies (m:Int):Fn Tryz.prog 162 [.int .i64 m] [] (λv As=>∃a c,v=slv a (dI m).length c/\As=[ownA 3 1 a (dI m).length c (cellsI (dI m))]):=by
 refine Fn.enter [0] Tryz.func162 rfl rfl rfl λX F hX=>?_;refine J.turn1 [] rfl (As:=[ownA 3 1 none 0 0 (cellsI (dsk m 0))]) (λh s=>Sep.one ⟨rfl,rfl,rfl⟩) rfl ?_;refine J.q hX λ_=>?_;refine J.lo (α:=(Nat×Option Nat×Nat)) (λz=>z.1<=8) (λz=>[⟨4, .int .i64 z.1,0, .tt⟩,⟨3,slv z.2.1 (dsk m z.1).length z.2.2,0, .tt⟩,⟨0, .int .i64 m,0, .tt⟩]) [1] (λz=>[ownA 3 1 z.2.1 (dsk m z.1).length z.2.2 (cellsI (dsk m z.1))]) (λz=>8-z.1) ((0,none,0)) (Nat.zero_le _) rfl ?_ (λ_=>rfl) λz hI=>?_
 ·rfl
 obtain⟨k,a,c⟩:=z;dsimp only at hI ⊢;have hml:=dsk_len m k;refine J.q hX λ_=>?_;refine J.cond rfl (λh1=>?_) (λh1=>?_)
 ·simp only[Bool.and_eq_true,decide_eq_true_eq]at h1;obtain⟨⟨h1,h2⟩,h3⟩:=h1;obtain⟨m,rfl⟩:=Int.eq_ofNat_of_zero_le h2;have hk:k<8:=by omega
  have hp:=pow_step k (by omega);have hq1:=quo_bd m k (by omega);have hbit:=bit_eq m k (by omega) hk;refine J.q hX λ_=>?_;refine J.cb hX (f1_pow k (by omega)) [] ?_;refine cpq ⟨_,rfl,trivial,?_⟩;refine J.q hX λ_=>?_;refine J.cond rfl (λh4=>?_) (λh4=>?_)
  ·rw[hbit]at h4;have hs:dsk m (k+1)=dsk m k++[(k:Int)]:=by rw[dsk_succ,if_pos h4]
   have hl:(dsk m k).length+1=(dsk m (k+1)).length:=by rw[hs];simp
   refine J.q hX λ_=>?_;refine J.append hX tk 1 2 0 rfl rfl rfl rfl rfl rfl rfl rfl rfl rfl rfl rfl rfl rfl rfl rfl ?_ ?_ (λ_=>rfl) λa4 c4=>⟨_,(congrArg (λz=>lset _ 1 (ownA _ _ _ _ _ z)) ((cellsI_snoc _ _).symm.trans (congrArg cellsI hs.symm))).trans rfl,trivial,?_⟩
   ·simp only[maxLen];omega
   ·omega
   rw[hl];refine J.q hX λ_=>?_;refine J.nS ((k+1,a4,c4)) (by dsimp only;omega) (by dsimp only;omega) [0,1] rfl rfl
  ·rw[hbit]at h4;have hs:dsk m k=dsk m (k+1):=by rw[dsk_succ,h4];simp
   rw[hs];refine J.q hX λ_=>?_;refine J.nS ((k+1,a,c)) (by dsimp only;omega) (by dsimp only;omega) [0,1] rfl rfl
 ·have he:dsk m k=dI m:=by
   by_cases hm:0<=m/\m<256
   ·simp only[Bool.and_eq_false_iff,decide_eq_false_iff_not]at h1;obtain rfl:k=8:=by omega
    rfl
   ·rw[dsk_no m k hm,dI,dsk_no m 8 hm]
  rw[he];refine J.q hX λ_=>?_;refine J.ru hX [1] ?_;exact⟨a,c,rfl,rfl⟩
def spotI:List Int->Int->Int
 | [],_=> -1
 | x::r,d=>if x=d then 0 else if spotI r d<0 then-1 else spotI r d+1
theorem spotI_at:∀(l:List Int) (d:Int) (k:Nat),(∀j,j<k->l[j]?≠some d)->l[k]? =some d->spotI l d=k
 | [],d,k,_,h=>by simp at h
 | x::r,d,0,_,h=>by simp at h;simp[spotI,h]
 | x::r,d,k+1,h1,h=>by
  have h0:x≠d:=λe=>h1 0 (by omega) (by simp[e]);have:=spotI_at r d k (λj hj=>by have:=h1 (j+1) (by omega);simpa using this) (by simpa using h);rw[spotI,if_neg h0,this,if_neg (by omega)];omega
theorem spotI_no:∀(l:List Int) (d:Int),(∀j,j<l.length->l[j]?≠some d)->spotI l d= -1
 | [],_,_=>rfl
 | x::r,d,h=>by
  have h0:x≠d:=λe=>h 0 (by simp) (by simp[e]);have:=spotI_no r d (λj hj=>by have:=h (j+1) (by simpa using hj);simpa using this);rw[spotI,if_neg h0,this,if_pos (by omega)]
theorem f1_Spot (m d:Int):Fn Tryz.prog 165 [.int .i64 m, .int .i64 d] [] (λv As=>v= .int .i64 (spotI (dI m) d)/\As=[]):=by
 have hlen:=dI_len m;refine Fn.enter [0,0] Tryz.func165 rfl rfl rfl λX F hX=>?_;refine J.q hX λ_=>?_;refine J.cb hX (f1_Dies m) [] ?_;rintro v As ⟨a,c,rfl,rfl⟩;refine⟨_,rfl,trivial,?_⟩;refine J.q hX λ_=>?_;refine J.lo (α:=Nat) (λk=>k<=(dI m).length/\∀j,j<k->(dI m)[j]?≠some d) (λk=>[⟨6, .int .i64 k,0, .tt⟩,⟨5,slv a (dI m).length c,0, .tt⟩,⟨1, .int .i64 d,0, .tt⟩]) [] (λk=>[]) (λk=>(dI m).length-k) (0) (⟨Nat.zero_le _,λj hj=>absurd hj (Nat.not_lt_zero j)⟩) rfl ?_ (λ_=>rfl) λk hI=>?_
 ·rfl
 obtain⟨hk,hno⟩:=hI;refine J.q hX λ_=>?_;refine J.cond rfl (λh1=>?_) (λh1=>?_)
 ·simp only[decide_eq_true_eq,Int.ofNat_lt]at h1;refine J.know (λh' s=>own_some (c:=(a,c)) (by omega) (s.get (i:=1) rfl)) λhg=>?_;obtain⟨g1,rfl⟩:=hg;obtain⟨x,hx⟩:∃x,(dI m)[k]? =some x:=⟨_,List.getElem?_eq_getElem h1⟩;refine J.q hX λ_=>?_;refine J.val hX (.int .i64 x) 0 rfl rfl (λhg a w he hs=>?_) rfl trivial ?_
  ·exact own1_run tk rfl rfl he rfl rfl rfl (hs.get (i:=1) rfl) (by rw[show 0+(k:Int).toNat*1=k from by omega];exact cellsI_get hx)
  refine J.q hX λ_=>?_;refine J.cond rfl (λh2=>?_) (λh2=>?_)
  ·simp only[beq_iff_eq]at h2;subst h2;rw[show(k:Int)=spotI (dI m) x from(spotI_at _ _ k hno hx).symm];refine J.q hX λ_=>?_;exact J.ru hX [] ⟨rfl,rfl⟩
  ·simp only[beq_eq_false_iff_ne,ne_eq]at h2;refine J.q hX λ_=>?_;refine J.nS ((k+1)) (⟨by omega,λj hj=>by rcases Nat.lt_succ_iff_lt_or_eq.1 hj with h | rfl;exact hno j h;rw[hx];simpa using h2⟩) (by omega) [0,1] rfl rfl
 ·simp only[decide_eq_false_iff_not,Int.ofNat_lt]at h1;refine J.q hX λ_=>?_;refine J.ru hX [] ?_;exact⟨by rw[spotI_no _ _ (λj hj=>hno j (by omega))],rfl⟩
theorem f6_Slots (m:Int):Fn Tryz.prog 124 [.int .i64 m] [] (λv As=>v= .int .i64 (if 2<=(dI m).length then((dI m).length:Int)-1 else 0)/\As=[]):=by
 have hlen:=dI_len m;refine Fn.enter [0] Tryz.func124 rfl rfl rfl λX F hX=>?_;refine J.q hX λ_=>?_;refine J.cb hX (f1_Dies m) [] ?_;rintro v As ⟨a,c,rfl,rfl⟩;refine⟨_,rfl,trivial,?_⟩;refine J.q hX λ_=>?_;refine J.cond rfl (λh1=>?_) (λh1=>?_)
 ·simp only[decide_eq_true_eq]at h1;refine J.q hX λ_=>?_;refine J.ru hX [] ?_;exact⟨by rw[if_pos (by omega)],rfl⟩
 ·simp only[decide_eq_false_iff_not]at h1;refine J.q hX λ_=>?_;refine J.ru hX [] ?_;exact⟨by rw[if_neg (by omega)],rfl⟩
end Go.Proofs.YtdocmcapegcoeaaGreat
namespace Go.Proofs.YtdocmcapegcoeaaGreat
open Go
namespace K
theorem xor_cancel {a b c:Nat} (h:a ^^^ c=b ^^^ c):a=b:=by
 have:=congrArg (· ^^^ c) h;simpa[Nat.xor_assoc]using this
theorem round_inj {s t:Nat} (hs:s<4294967296) (ht:t<4294967296) (h:round s=round t):s=t:=by
 have odd:∀a:Nat,a % 2=0->(a ^^^ 1947962583) % 2=1:=λa ha=>by
  have h0:(a ^^^ 1947962583).testBit 0=true:=by
   rw[Nat.testBit_xor,Nat.testBit_zero,Nat.testBit_zero,decide_eq_false (by omega)];rfl
  rw[Nat.testBit_zero]at h0;exact of_decide_eq_true h0
 unfold round at h;split at h
 ·split at h
  ·omega
  ·have:=odd (t*2 % 4294967296) (by omega);omega
 ·split at h
  ·have:=odd (s*2 % 4294967296) (by omega);omega
  ·have:=xor_cancel h;omega
theorem rounds_inj:∀(n:Nat) {s t:Nat},s<4294967296->t<4294967296->rounds n s=rounds n t->s=t
 | 0,_,_,_,_,h=>h
 | n+1,s,t,hs,ht,h=>rounds_inj n hs ht (round_inj (rounds_lt n s hs) (rounds_lt n t ht) h)
theorem step_lt0 {s x:Nat} (hs:s<4294967296) (hx:x<256):s ^^^ (x*16777216)<4294967296:=Nat.xor_lt_two_pow (n:=32) (by omega) (by omega)
theorem step_inj {s t x:Nat} (hs:s<4294967296) (ht:t<4294967296) (hx:x<256) (h:step s x=step t x):s=t:=
 xor_cancel (rounds_inj 8 (step_lt0 hs hx) (step_lt0 ht hx) h)
theorem step_inj2 {s x y:Nat} (hs:s<4294967296) (hx:x<256) (hy:y<256) (h:step s x=step s y):x=y:=by
 have h1:=rounds_inj 8 (step_lt0 hs hx) (step_lt0 hs hy) h;rw[Nat.xor_comm s,Nat.xor_comm s]at h1;have:=xor_cancel h1;omega
theorem fold_inj (l:List UInt8):∀s t:Nat,s<4294967296->t<4294967296->l.foldl (λs x=>step s x.toNat) s=l.foldl (λs x=>step s x.toNat) t->s=t:=by
 induction l with
 | nil=>intro s t _ _ h;exact h
 | cons x l ih=>
  intro s t hs ht h;have hx:x.toNat<256:=x.toNat_lt;rw[List.foldl_cons,List.foldl_cons]at h;exact step_inj hs ht hx (ih _ _ (step_lt _ _ hs hx) (step_lt _ _ ht hx) h)
theorem sum_one (a b:List UInt8) (x y:UInt8) (h:sum (a++x::b)=sum (a++y::b)):x=y:=by
 unfold sum at h;rw[List.foldl_append,List.foldl_append,List.foldl_cons,List.foldl_cons]at h;have hs:=foldl_lt a 4294967295 (by omega);have hx:x.toNat<256:=x.toNat_lt;have hy:y.toNat<256:=y.toNat_lt;have:=step_inj2 hs hx hy (fold_inj b _ _ (step_lt _ _ hs hx) (step_lt _ _ hs hy) h);exact UInt8.toNat_inj.1 this
end K
namespace Bt
theorem byteAt_congr {a b:List Bool} {i j:Nat} (h:∀k,k<8->a.getD (i+k) false=b.getD (j+k) false):byteAt a i=byteAt b j:=by
 have h0:=h 0 (by omega);rw[Nat.add_zero,Nat.add_zero]at h0;unfold byteAt;rw[h0,h 1 (by omega),h 2 (by omega),h 3 (by omega),h 4 (by omega),h 5 (by omega),h 6 (by omega),h 7 (by omega)]
theorem pack_append (A C:List Bool) (q:Nat) (hA:A.length=8*q):pack (A++C)=pack A++pack C:=by
 apply List.ext_getElem?;intro j;have hl:(pack A).length=q:=by rw[length_pack,hA];omega
 rw[List.getElem?_append,hl]
 by_cases hj:j<(A.length+C.length+7)/8
 ·rw[pack_get _ _ (by rw[List.length_append];exact hj)];split
  ·rename_i h;rw[pack_get _ _ (by rw[hA];omega)];congr 2;refine byteAt_congr λk hk=>?_;simp only[List.getD_eq_getElem?_getD];rw[List.getElem?_append_left (by omega)]
  ·rename_i h;rw[pack_get _ _ (by omega)];congr 2;refine byteAt_congr λk hk=>?_;simp only[List.getD_eq_getElem?_getD];rw[List.getElem?_append_right (by omega)];congr 2;omega
 ·rw[List.getElem?_eq_none (by rw[length_pack,List.length_append];omega),if_neg (by omega),List.getElem?_eq_none (by rw[length_pack];omega)]
theorem bits_inj {u v:Nat} (hu:u<4294967296) (hv:v<4294967296) (h:pack (bits u 32)=pack (bits v 32)):u=v:=by
 have h1:=numAt_pack [] [] u 32 0 rfl;have h2:=numAt_pack [] [] v 32 0 rfl;simp only[List.nil_append,List.append_nil]at h1 h2;rw[h,h2]at h1;omega
end Bt
namespace S
theorem put_tail (s:Sh) (hs:s.data.length=16):put s=(put s).take 28++Bt.pack (Bt.bits (K.sum ((put s).take 28)) 32):=by
 have hl:(Bt.pack (head s)).length=12:=by rw[Bt.length_pack,length_head]
 have h1:put s=(s.data++Bt.pack (head s))++Bt.pack (Bt.bits (K.sum (s.data++Bt.pack (head s))) 32):=by
  unfold put;rw[Bt.pack_append _ _ 12 (length_head s),List.append_assoc]
 have h2:(put s).take 28=s.data++Bt.pack (head s):=by
  rw[h1];exact List.take_left' (by rw[List.length_append,hs,hl])
 rw[h2];exact h1
theorem turned_none (s:Sh) (hs:s.data.length=16) (N:Nat) (hN:N<32) (y:UInt8) (hy:y≠(put s).getD N 0):get ((put s).set N y)=none:=by
 have hpl:=length_put s hs;unfold get;rw[if_neg];rintro⟨_,h2⟩;have hx:(fields ((put s).set N y)).data.length=16:=by
  show(((put s).set N y).take 16).length=16;rw[List.length_take,List.length_set,hpl];rfl
 have t1:=put_tail s hs;have t2:=put_tail (fields ((put s).set N y)) hx;rw[h2]at t2;have hd:∀l:List UInt8,l.length=32->∀t,l=l.take 28++t->l.drop 28=t:=λl hl t h=>by
  have:=congrArg (List.drop 28) h
  rwa [List.drop_left' (by rw[List.length_take,hl];rfl)]at this
 have d1:=hd _ hpl _ t1;have d2:=hd _ (by rw[List.length_set];exact hpl) _ t2;have hg:(put s).getD N 0=(put s)[N]'(by omega):=by rw[List.getD_eq_getElem?_getD,List.getElem?_eq_getElem (by omega),Option.getD_some]
 rcases Nat.lt_or_ge N 28 with h | h
 ·have e1:((put s).set N y).drop 28=(put s).drop 28:=by rw[List.drop_set,if_pos h]
  rw[e1,d1]at d2;have hsum:=Bt.bits_inj (K.sum_lt _) (K.sum_lt _) d2;have hl28:((put s).take 28).length=28:=by rw[List.length_take,hpl];rfl
  have hN28:N<((put s).take 28).length:=by omega
  have hel:((put s).take 28)[N]=(put s)[N]'(by omega):=List.getElem_take;have ha:(put s).take 28=((put s).take 28).take N++(put s)[N]'(by omega)::((put s).take 28).drop (N+1):=by
   rw[<- hel,<- List.drop_eq_getElem_cons hN28,List.take_append_drop]
  have hb:((put s).set N y).take 28=((put s).take 28).take N++y::((put s).take 28).drop (N+1):=by
   rw[List.take_set,List.set_eq_take_append_cons_drop,if_pos (by omega)]
  rw[hb]at hsum;have hsum:=(congrArg K.sum ha).symm.trans hsum;exact hy ((K.sum_one _ _ _ _ hsum).symm.trans hg.symm)
 ·have e1:((put s).set N y).take 28=(put s).take 28:=by rw[List.take_set,List.set_eq_of_length_le (by rw[List.length_take,hpl];omega)]
  rw[e1]at t2;have e2:(put s).set N y=put s:=t2.trans t1.symm;have:=congrArg (λl:List UInt8=>l.getD N 0) e2;simp only[List.getD_eq_getElem?_getD,List.getElem?_set,hpl,if_pos hN,if_true,Option.getD_some]at this;rw[List.getD_eq_getElem?_getD]at hy;exact hy this
end S
namespace Bt
theorem num_snoc (l:List Bool) (x:Bool):num (l++[x])=num l*2+x.toNat:=by
 unfold num;rw[List.foldl_append];rfl
theorem num_take_succ (l:List Bool) (k:Nat) (x:Bool) (h:l[k]? =some x):num (l.take (k+1))=num (l.take k)*2+x.toNat:=by
 rw[List.take_add_one,h,Option.toList_some,num_snoc]
theorem num_take_lt (l:List Bool):∀k,num (l.take k)<2^k
 | 0=>by simp[num]
 | k+1=>by
  have ih:=num_take_lt l k;rw[Nat.pow_succ];cases h:l[k]? with
  | none=>rw[List.take_add_one,h,Option.toList_none,List.append_nil];omega
  | some x=>rw[num_take_succ l k x h];have:=Bool.toNat_le x;omega
theorem bits_at (u w i:Nat) (h:i<w):(bits u w)[i]? =some (u.testBit (w-1-i)):=by simp[bits,h]
theorem num_bits_take (u w:Nat):∀k,k<=w->num ((bits u w).take k)=u/2^(w-k) % 2^k
 | 0,_=>by simp[num,Nat.mod_one]
 | v+1,hv=>by
  rw[num_take_succ _ _ _ (bits_at u w v (by omega)),num_bits_take u w v (by omega),Nat.testBit_eq_decide_div_mod_eq];have e1:w-v=(w-1-v)+1:=by omega
  have e2:w-(v+1)=w-1-v:=by omega
  rw[e1,e2,Nat.pow_succ,<- Nat.div_div_eq_div_mul,Nat.pow_succ 2 v,Nat.mul_comm (2^v) 2,Nat.mod_mul,Nat.mul_comm _ 2];generalize u/2^(w-1-v)=x;rcases Nat.mod_two_eq_zero_or_one x with hx | hx
  ·rw[hx];simp
  ·rw[hx];simp[Nat.add_comm]
theorem num_bits (u w:Nat) (h:u<2^w):num (bits u w)=u:=by
 have:=num_bits_take u w w (Nat.le_refl _);rw[List.take_of_length_le (by rw[length_bits];exact Nat.le_refl _),Nat.sub_self,Nat.pow_zero,Nat.div_one,Nat.mod_eq_of_lt h]at this;exact this
theorem length_unpack (b:List UInt8):(unpack b).length=8*b.length:=by
 induction b with
 | nil=>rfl
 | cons x b ih=>
  unfold unpack at ih ⊢;rw[List.flatMap_cons,List.length_append,length_bits,ih,List.length_cons];omega
theorem unpack_get:∀(b:List UInt8) (j:Nat),j<8*b.length->(unpack b)[j]? =some (bitAt b j)
 | [],j,h=>by simp at h
 | x::b,j,h=>by
  have ih:=unpack_get b (j-8);unfold unpack at ih ⊢;rw[List.flatMap_cons]
  by_cases h8:j<8
  ·rw[List.getElem?_append_left (by rw[length_bits];exact h8),bits_at _ _ _ h8];unfold bitAt;rw[show j/8=0 from by omega,show j % 8=j from by omega];rfl
  ·rw[List.getElem?_append_right (by rw[length_bits];omega),length_bits,ih (by rw[List.length_cons]at h;omega)];unfold bitAt;rw[show j/8=(j-8)/8+1 from by omega,show(j-8) % 8=j % 8 from by omega];rfl
theorem unpack_snoc (b:List UInt8) (x:UInt8):unpack (b++[x])=unpack b++bits x.toNat 8:=by
 unfold unpack;rw[List.flatMap_append];simp
theorem numAt_num (b:List UInt8) (k:Nat):∀w,k+w<=8*b.length->num (((unpack b).drop k).take w)=numAt b k w
 | 0,_=>by simp[num,numAt]
 | w+1,h=>by
  rw[num_take_succ _ _ (bitAt b (k+w)) (by rw[List.getElem?_drop];exact unpack_get b _ (by omega)),numAt_num b k w (by omega),numAt,Nat.mul_comm]
theorem ext_bits {l m:List Bool} (n:Nat) (h1:l.length=n) (h2:m.length=n) (h:∀i,i<n->l.getD i false=m.getD i false):l=m:=by
 apply List.ext_getElem (by omega);intro i a b;have:=h i (by omega)
 rwa [List.getD_eq_getElem?_getD,List.getD_eq_getElem?_getD,List.getElem?_eq_getElem a,List.getElem?_eq_getElem b,Option.getD_some,Option.getD_some]at this
theorem bits_getD (u w i:Nat) (h:i<w):(bits u w).getD i false=u.testBit (w-1-i):=by
 rw[List.getD_eq_getElem?_getD,bits_at u w i h];rfl
theorem bits_xor (a b w i:Nat) (h:i<w):(bits (a ^^^ b) w).getD i false=((bits a w).getD i false !=(bits b w).getD i false):=by
 rw[bits_getD _ _ _ h,bits_getD _ _ _ h,bits_getD _ _ _ h,Nat.testBit_xor]
theorem bits_shift (a i:Nat) (h:i<32):(bits (a*2 % 4294967296) 32).getD i false=if i=31 then false else(bits a 32).getD (i+1) false:=by
 rw[bits_getD _ _ _ h,show(4294967296:Nat)=2^32 from rfl,Nat.testBit_mod_two_pow,decide_eq_true (by omega),Bool.true_and]
 by_cases e:i=31
 ·subst e;rw[if_pos rfl];simp
 ·rw[if_neg e,bits_getD _ _ _ (by omega),show 32-1-i=(32-1-(i+1))+1 from by omega,Nat.testBit_succ,Nat.mul_div_cancel _ (by omega)]
theorem bits_top (x i:Nat) (hx:x<256) (h:i<32):(bits (x*16777216) 32).getD i false=if i<8 then(bits x 8).getD i false else false:=by
 rw[bits_getD _ _ _ h,show(16777216:Nat)=2^24 from rfl,Nat.testBit_mul_two_pow]
 by_cases e:i<8
 ·rw[if_pos e,bits_getD _ _ _ e,decide_eq_true (by omega),Bool.true_and];congr 1;omega
 ·rw[if_neg e,decide_eq_false (by omega),Bool.false_and]
theorem bits_high (a:Nat) (h:a<4294967296):(bits a 32).getD 0 false=decide (2147483648<=a):=by
 rw[bits_getD _ _ _ (by omega),Nat.testBit_eq_decide_div_mod_eq];show decide (a/2147483648 % 2=1)=_
 by_cases h2:2147483648<=a
 ·rw[decide_eq_true h2,decide_eq_true (by omega)]
 ·rw[decide_eq_false h2,decide_eq_false (by omega)]
theorem unpack_append (a b:List UInt8):unpack (a++b)=unpack a++unpack b:=by unfold unpack;rw[List.flatMap_append]
theorem unpack_take (c:List UInt8) (n:Nat) (h:n<=c.length):unpack (c.take n)=(unpack c).take (8*n):=by
 have h1:=unpack_append (c.take n) (c.drop n);rw[List.take_append_drop]at h1;rw[h1,List.take_left' (by rw[length_unpack,List.length_take,Nat.min_eq_left h])]
theorem unpack_drop (c:List UInt8) (n:Nat) (h:n<=c.length):unpack (c.drop n)=(unpack c).drop (8*n):=by
 have h1:=unpack_append (c.take n) (c.drop n);rw[List.take_append_drop]at h1;rw[h1,List.drop_left' (by rw[length_unpack,List.length_take,Nat.min_eq_left h])]
theorem pack_byte (x:UInt8):pack (bits x.toNat 8)=[x]:=by
 have key:∀n,n<256->pack (bits n 8)=[UInt8.ofNat n]:=by decide+kernel
 rw[key _ x.toNat_lt,UInt8.ofNat_toNat]
theorem pack_unpack (c:List UInt8):pack (unpack c)=c:=by
 induction c with
 | nil=>rfl
 | cons x c ih=>
  have h1:unpack (x::c)=bits x.toNat 8++unpack c:=by unfold unpack;rw[List.flatMap_cons]
  rw[h1,pack_append _ _ 1 (length_bits _ _),pack_byte,ih];rfl
theorem numAt_bit (b:List UInt8) (k:Nat):∀w i,i<w->(numAt b k w).testBit (w-1-i)=bitAt b (k+i)
 | 0,i,h=>by omega
 | w+1,i,h=>by
  rw[numAt];have hb:=Bool.toNat_le (bitAt b (k+w))
  by_cases e:i=w
  ·subst e;rw[show i+1-1-i=0 from by omega,Nat.testBit_zero];cases bitAt b (k+i)<;>simp<;>omega
  ·rw[show w+1-1-i=(w-1-i)+1 from by omega,Nat.testBit_succ,show(2*numAt b k w+(bitAt b (k+w)).toNat)/2=numAt b k w from by omega];exact numAt_bit b k w i (by omega)
theorem bits_numAt (b:List UInt8) (k w:Nat) (h:k+w<=8*b.length):bits (numAt b k w) w=((unpack b).drop k).take w:=by
 refine ext_bits w (length_bits _ _) (by rw[List.length_take,List.length_drop,length_unpack];omega) λi hi=>?_;rw[bits_getD _ _ _ hi,numAt_bit b k w i hi,List.getD_eq_getElem?_getD,List.getElem?_take,if_pos hi,List.getElem?_drop,unpack_get b _ (by omega)];rfl
end Bt
namespace K
theorem round_bits (a:Nat) (h:a<4294967296) (i:Nat) (hi:i<32):(Bt.bits (round a) 32).getD i false=((if i=31 then false else(Bt.bits a 32).getD (i+1) false) !=((Bt.bits a 32).getD 0 false&&(Bt.bits 1947962583 32).getD i false)):=by
 rw[Bt.bits_high a h,<- Bt.bits_shift a i hi];unfold round;split
 ·rename_i h2;rw[decide_eq_false (by omega),Bool.false_and,Bool.bne_false,Nat.mod_eq_of_lt (by omega)]
 ·rename_i h2;rw[decide_eq_true (by omega),Bool.true_and,Bt.bits_xor _ _ _ _ hi]
theorem step_bits (s x:Nat) (hx:x<256) (i:Nat) (hi:i<32):(Bt.bits (s ^^^ (x*16777216)) 32).getD i false=if i<8 then((Bt.bits s 32).getD i false !=(Bt.bits x 8).getD i false)else(Bt.bits s 32).getD i false:=by
 rw[Bt.bits_xor _ _ _ _ hi,Bt.bits_top x i hx hi];split
 ·rfl
 ·rw[Bool.bne_false]
end K
namespace S
theorem head_fields (p:List UInt8) (hp:p.length=32):head (fields p)=Bt.unpack ((p.drop 16).take 12):=by
 have hl:(p.drop 16).length=16:=by rw[List.length_drop,hp]
 rw[Bt.unpack_take _ _ (by omega)];have hm:=Bt.numAt_lt (p.drop 16) 0 64;have hmeta:meta_ (fields p).role (fields p).lpn (fields p).seq=Bt.numAt (p.drop 16) 0 64:=by
  show meta_ ((Bt.numAt (p.drop 16) 0 64/72057594037927936:Nat):Int) ((Bt.numAt (p.drop 16) 0 64/1099511627776 % 65536:Nat):Int) ((Bt.numAt (p.drop 16) 0 64 % 1099511627776:Nat):Int)=_;generalize Bt.numAt (p.drop 16) 0 64=m at hm;have hm2:m<18446744073709551616:=hm;unfold meta_;omega
 unfold head;rw[hmeta];show Bt.bits (Bt.numAt (p.drop 16) 0 64) 64++Bt.bits ((Bt.numAt (p.drop 16) 64 8:Nat):Int).toNat 8++Bt.bits ((Bt.numAt (p.drop 16) 72 8:Nat):Int).toNat 8++Bt.bits ((Bt.numAt (p.drop 16) 80 8:Nat):Int).toNat 8++Bt.bits ((Bt.numAt (p.drop 16) 88 8:Nat):Int).toNat 8=_;rw[Int.toNat_natCast,Int.toNat_natCast,Int.toNat_natCast,Int.toNat_natCast,Bt.bits_numAt _ _ _ (by omega),Bt.bits_numAt _ _ _ (by omega),Bt.bits_numAt _ _ _ (by omega),Bt.bits_numAt _ _ _ (by omega),Bt.bits_numAt _ _ _ (by omega)];generalize Bt.unpack (p.drop 16)=U;rw[show 8*12=64+8+8+8+8 from rfl,List.take_add,List.take_add,List.take_add,List.take_add,List.drop_zero]
theorem put_eq (p:List UInt8) (hp:p.length=32):put (fields p)=p.take 28++Bt.pack (Bt.bits (K.sum (p.take 28)) 32):=by
 have hd:(fields p).data=p.take 16:=rfl;have h28:p.take 16++(p.drop 16).take 12=p.take 28:=by rw[show 28=16+12 from rfl,List.take_add]
 unfold put;rw[head_fields p hp,hd,Bt.pack_append _ _ 12 (by rw[Bt.length_unpack,List.length_take,List.length_drop,hp];rfl),Bt.pack_unpack,<- List.append_assoc,h28]
theorem put_fields (p:List UInt8) (hp:p.length=32):put (fields p)=p↔Bt.numAt p 224 32=K.sum (p.take 28):=by
 rw[put_eq p hp];have h1:Bt.pack (Bt.bits (Bt.numAt p 224 32) 32)=p.drop 28:=by
  rw[Bt.bits_numAt _ _ _ (by omega),List.take_of_length_le (by rw[List.length_drop,Bt.length_unpack,hp];exact Nat.le_refl _),show 224=8*28 from rfl,<- Bt.unpack_drop _ _ (by omega),Bt.pack_unpack]
 constructor
 ·intro h;have h2:p.take 28++Bt.pack (Bt.bits (K.sum (p.take 28)) 32)=p.take 28++p.drop 28:=by rw[h,List.take_append_drop]
  have h3:=List.append_cancel_left h2;exact Bt.bits_inj (Bt.numAt_lt p 224 32) (K.sum_lt _) (h1.trans h3.symm)
 ·intro h;rw[<- h,h1,List.take_append_drop]
theorem get_some (p:List UInt8) (hp:p.length=32):get p=if Bt.numAt p 224 32=K.sum (p.take 28)/\may (fields p)=true then some (fields p)else none:=by
 unfold get
 by_cases h1:Bt.numAt p 224 32=K.sum (p.take 28)
 ·by_cases h2:may (fields p)=true
  ·rw[if_pos ⟨h2,(put_fields p hp).2 h1⟩,if_pos ⟨h1,h2⟩]
  ·rw[if_neg (λh=>h2 h.1),if_neg (λh=>h2 h.2)]
 ·rw[if_neg (λh=>h1 ((put_fields p hp).1 h.2)),if_neg (λh=>h1 h.1)]
theorem field_role (p:List UInt8) (hp:p.length=32):(fields p).role=(Bt.numAt p 128 8:Nat)/\(fields p).lpn=(Bt.numAt p 136 16:Nat)/\(fields p).seq=(Bt.numAt p 152 40:Nat):=by
 have hb:∀j,Bt.bitAt (p.drop 16) j=Bt.bitAt p (128+j):=λj=>by
  unfold Bt.bitAt;rw[show(128+j)/8=16+j/8 from by omega,show(128+j) % 8=j % 8 from by omega];simp[List.getD_eq_getElem?_getD]
 have hs:∀k w,Bt.numAt (p.drop 16) k w=Bt.numAt p (128+k) w:=λk w=>by
  induction w with
  | zero=>rfl
  | succ w ih=>rw[Bt.numAt,Bt.numAt,ih,hb,Nat.add_assoc]
 have hadd:∀k v w,Bt.numAt p k (v+w)=Bt.numAt p k v*2^w+Bt.numAt p (k+v) w:=λk v w=>by
  induction w with
  | zero=>simp[Bt.numAt]
  | succ w ih=>rw[<- Nat.add_assoc,Bt.numAt,Bt.numAt,ih,Nat.pow_succ,Nat.add_assoc k v w];generalize Bt.numAt p k v=x;generalize Bt.numAt p (k+v) w=y;rw[Nat.mul_add,<- Nat.mul_assoc,Nat.mul_comm 2 x,Nat.mul_assoc x 2,Nat.mul_comm 2 (2^w),Nat.add_assoc]
 have e:Bt.numAt (p.drop 16) 0 64=Bt.numAt p 128 8*72057594037927936+(Bt.numAt p 136 16*1099511627776+Bt.numAt p 152 40):=by
  rw[hs,show(64:Nat)=8+(16+40)from rfl,hadd,hadd]
 have h1:=Bt.numAt_lt p 128 8;have h2:=Bt.numAt_lt p 136 16;have h3:=Bt.numAt_lt p 152 40;show((Bt.numAt (p.drop 16) 0 64/72057594037927936:Nat):Int)=_/\((Bt.numAt (p.drop 16) 0 64/1099511627776 % 65536:Nat):Int)=_/\((Bt.numAt (p.drop 16) 0 64 % 1099511627776:Nat):Int)=_;rw[e];generalize Bt.numAt p 128 8=a at*;generalize Bt.numAt p 136 16=b at*;generalize Bt.numAt p 152 40=c at*;have h1:a<256:=h1;have h2:b<65536:=h2;have h3:c<1099511627776:=h3;omega
theorem field_rest (p:List UInt8) (hp:p.length=32):(fields p).block=(Bt.numAt p 192 8:Nat)/\(fields p).row=(Bt.numAt p 200 8:Nat)/\(fields p).mask=(Bt.numAt p 208 8:Nat)/\(fields p).kind=(Bt.numAt p 216 8:Nat):=by
 have hb:∀j,Bt.bitAt (p.drop 16) j=Bt.bitAt p (128+j):=λj=>by
  unfold Bt.bitAt;rw[show(128+j)/8=16+j/8 from by omega,show(128+j) % 8=j % 8 from by omega];simp[List.getD_eq_getElem?_getD]
 have hs:∀k w,Bt.numAt (p.drop 16) k w=Bt.numAt p (128+k) w:=λk w=>by
  induction w with
  | zero=>rfl
  | succ w ih=>rw[Bt.numAt,Bt.numAt,ih,hb,Nat.add_assoc]
 refine⟨?_,?_,?_,?_⟩
 ·show((Bt.numAt (p.drop 16) 64 8:Nat):Int)=_;rw[hs]
 ·show((Bt.numAt (p.drop 16) 72 8:Nat):Int)=_;rw[hs]
 ·show((Bt.numAt (p.drop 16) 80 8:Nat):Int)=_;rw[hs]
 ·show((Bt.numAt (p.drop 16) 88 8:Nat):Int)=_;rw[hs]
end S
end Go.Proofs.YtdocmcapegcoeaaGreat
namespace Go.Proofs.YtdocmcapegcoeaaGreat
open Go Go.RowKit
section
variable {P : Program} {T : Tab} {E : Env} {n : Nat} {ac : Act} {w : World}
end
theorem Rd.drop {A:Atom} {b o size n:Nat} {xs:List Value} (h:Rd A (some ⟨b,o,none⟩) size n xs) (k:Nat) (hk:k<=n):Rd A (some ⟨b,o+k*size,none⟩) size (n-k) (xs.drop (k*size)):=by
 intro h' s;obtain⟨h0,h1⟩:=h h' s;have hle:k*size<=n*size:=Nat.mul_le_mul_right _ hk;refine⟨by rw[List.length_drop,h0,Nat.sub_mul],λhk0=>?_⟩;obtain⟨b',o',cs,ty,fr,e1,e2,e3⟩:=h1 (by omega);simp only[Option.some.injEq,Addr.mk.injEq,and_true]at e1;obtain⟨rfl,rfl⟩:=e1;refine⟨b,_,cs,ty,fr,rfl,e2,?_⟩;rw[<- e3,List.drop_take,List.drop_drop,Nat.sub_mul]
theorem cellsB_at {l:List Bool} (r:List Value) {k:Nat} (h:k<l.length):(cellsB l++r)[k]? =some (.bool (l.getD k false)):=by
 rw[List.getElem?_append_left (by rw[cellsB_len];exact h),cellsB_get (List.getElem?_eq_getElem h),List.getD_eq_getElem?_getD,List.getElem?_eq_getElem h];rfl
theorem cellsB_set {l:List Bool} (r:List Value) {k:Nat} (v:Bool) (h:k<l.length):(cellsB l++r).set k (.bool v)=cellsB (l.set k v)++r:=by
 rw[List.set_append_left _ _ (by rw[cellsB_len];exact h)];unfold cellsB;rw[List.map_set]
theorem cellsB_app (a b:List Bool):cellsB (a++b)=cellsB a++cellsB b:=by simp[cellsB]
theorem cellsB_drop (a:List Bool) (k:Nat):cellsB (a.drop k)=(cellsB a).drop k:=by simp[cellsB,List.map_drop]
theorem cellsB_take (a:List Bool) (k:Nat):cellsB (a.take k)=(cellsB a).take k:=by simp[cellsB,List.map_take]
theorem cellsB_one (l:List Bool):∀u∈cellsB l,u.oneCell'=true:=by
 intro u hu;obtain⟨b,_,rfl⟩:=List.mem_map.1 hu;rfl
theorem bit64 (u j:Nat):((((u:Int).tdiv ((2^j:Nat):Int)).tmod 2)==1)=u.testBit j:=by
 rw[<- Int.ofNat_tdiv,show(2:Int)=((2:Nat):Int)from rfl,<- Int.ofNat_tmod,Nat.testBit_eq_decide_div_mod_eq]
 by_cases h:u/2^j % 2=1
 ·simp[h]
 ·rw[decide_eq_false h,beq_eq_false_iff_ne];omega
theorem f1_Bits (u w:Nat) (hu:u<18446744073709551616) (hw:w<=64):Fn Tryz.prog 242 [.int .u64 u, .int .i64 w] [] (λv As=>∃a c,v=slv a w c/\As=[ownA 4 1 a w c (cellsB (Bt.bits u w))]):=by
 refine Fn.enter [0,0] Tryz.func242 rfl rfl rfl λX F hX=>?_;refine J.turn1 [] rfl (As:=[ownA 4 1 none 0 0 (cellsB ((Bt.bits u w).take 0))]) (λh s=>Sep.one ⟨rfl,rfl,rfl⟩) rfl ?_;refine J.q hX λ_=>?_;refine J.lo (α:=(Nat×Int×Option Nat×Nat)) (λz=>z.1<=w/\z.2.1=(w:Int)-1-z.1) (λz=>[⟨6, .int .i64 z.2.1,0, .tt⟩,⟨5,slv z.2.2.1 z.1 z.2.2.2,0, .tt⟩,⟨0, .int .u64 u,0, .tt⟩]) [1] (λz=>[ownA 4 1 z.2.2.1 z.1 z.2.2.2 (cellsB ((Bt.bits u w).take z.1))]) (λz=>w-z.1) ((0,(w:Int)-1,none,0)) (⟨Nat.zero_le _,by simp⟩) rfl ?_ (λ_=>rfl) λz hI=>?_
 ·rfl
 obtain⟨k,ii,a,c⟩:=z;dsimp only at hI ⊢;obtain⟨hI,hi⟩:=hI;refine J.q hX λ_=>?_;refine J.cond rfl (λh1=>?_) (λh1=>?_)
 ·simp only[decide_eq_true_eq]at h1;obtain⟨j,rfl⟩:=Int.eq_ofNat_of_zero_le h1;have hj:j=w-1-k:=by omega
  have h2:2^j<=2^63:=Nat.pow_le_pow_right (by omega) (by omega);have h3:0<2^j:=Nat.two_pow_pos _;have hq:(0<=(u:Int).tdiv ((2^j:Nat):Int)/\(u:Int).tdiv ((2^j:Nat):Int)<18446744073709551616)/\(0<=((u:Int).tdiv ((2^j:Nat):Int)).tmod 2/\((u:Int).tdiv ((2^j:Nat):Int)).tmod 2<2):=by
   rw[<- Int.ofNat_tdiv,show(2:Int)=((2:Nat):Int)from rfl,<- Int.ofNat_tmod];have:=Nat.div_le_self u (2^j);generalize u/2^j=q at this ⊢;omega
  have hbit:=bit64 u j;have hs:(Bt.bits u w).take (k+1)=(Bt.bits u w).take k++[u.testBit j]:=by
   rw[List.take_add_one,Bt.bits_at u w k (by omega),hj];rfl
  refine J.q hX λ_=>?_;refine J.cb hX (f1_pow j (by omega)) [] ?_;refine cpq ⟨_,rfl,trivial,?_⟩;refine J.q hX λ_=>?_;rw[hbit];refine J.append hX tk 1 2 0 rfl rfl rfl rfl rfl rfl rfl rfl rfl rfl rfl rfl rfl rfl rfl rfl ?_ ?_ (λ_=>rfl) λa4 c4=>⟨_,(congrArg (λz=>lset _ 1 (ownA _ _ _ _ _ z)) ((cellsB_snoc _ _).symm.trans (congrArg cellsB hs.symm))).trans rfl,trivial,?_⟩
  ·simp only[maxLen];omega
  ·omega
  refine J.q hX λ_=>?_;refine J.nS ((k+1,(j:Int)-1,a4,c4)) (⟨by dsimp only;omega,by dsimp only;omega⟩) (by dsimp only;omega) [0,1] rfl rfl
 ·simp only[decide_eq_false_iff_not]at h1;have hkw:k=w:=by omega
  have ht:(Bt.bits u w).take k=Bt.bits u w:=List.take_of_length_le (by rw[Bt.length_bits];omega);rw[ht,hkw];refine J.q hX λ_=>?_;refine J.ru hX [1] ?_;exact⟨a,c,rfl,rfl⟩
theorem f1_Num (A:Atom) (a:Option Addr) (n cap:Nat) (l:List Bool) (hA:Rd A a 1 n (cellsB l)) (hl:l.length=n) (hn:n<=64):Fn Tryz.prog 218 [.slice a n cap] [A] (λv As=>v= .int .u64 (Bt.num l)/\As=[A]):=by
 refine Fn.enter [0] Tryz.func218 rfl rfl rfl λX F hX=>?_;refine J.q hX λ_=>?_;refine J.lo (α:=Nat) (λk=>k<=n) (λk=>[⟨4, .int .i64 k,0, .tt⟩,⟨3, .int .u64 (Bt.num (l.take k)),0, .tt⟩,⟨0, .slice a n cap,0, .tt⟩]) [] (λk=>[]) (λk=>n-k) (0) (Nat.zero_le _) rfl ?_ (λ_=>rfl) λk hI=>?_
 ·rfl
 refine J.q hX λ_=>?_;refine J.cond rfl (λh1=>?_) (λh1=>?_)
 ·simp only[decide_eq_true_eq,Int.ofNat_lt]at h1;obtain⟨x,hx⟩:∃x,l[k]? =some x:=⟨_,List.getElem?_eq_getElem (by omega)⟩;have hs:=Bt.num_take_succ l k x hx;have hlt:=Bt.num_take_lt l (k+1);have hp:2^(k+1)<=2^64:=Nat.pow_le_pow_right (by omega) (by omega);have hlt2:Bt.num (l.take (k+1))<18446744073709551616:=Nat.lt_of_lt_of_le hlt hp;rw[hs]at hlt2;refine J.know (p:=∃g o,a=some ⟨g,o,none⟩) (λh' s=>Rd.addr (hA _ (s.get (i:=1) rfl)) (by omega)) λhk=>?_;obtain⟨gm,om,rfl⟩:=hk;refine J.q hX λ_=>?_;refine J.val hX (.bool x) 0 rfl rfl (λhg a w he hw=>rd1_run tk rfl rfl he rfl rfl rfl (hA _ (hw.get (i:=1) rfl)) (by omega) (j:=k) (by omega) (cellsB_get hx)) rfl trivial ?_;refine J.q hX λ_=>?_;refine J.cond rfl (λh3=>?_) (λh3=>?_)
  ·subst h3;rw[show(true:Bool).toNat=1 from rfl]at hs hlt2;refine J.q hX λ_=>?_;rw[show((Bt.num (l.take k):Nat):Int)*2+1=((Bt.num (l.take (k+1)):Nat):Int)from by omega];refine J.q hX λ_=>?_;refine J.nS (k+1) (by omega) (by omega) [0,1] rfl rfl
  ·subst h3;rw[show(false:Bool).toNat=0 from rfl]at hs hlt2;rw[show((Bt.num (l.take k):Nat):Int)*2=((Bt.num (l.take (k+1)):Nat):Int)from by omega];refine J.q hX λ_=>?_;refine J.nS (k+1) (by omega) (by omega) [0,1] rfl rfl
 simp only[decide_eq_false_iff_not,Int.ofNat_lt]at h1;have htk:l.take k=l:=List.take_of_length_le (by omega);rw[htk];refine J.q hX λ_=>?_;exact J.ru hX [1] ⟨rfl,rfl⟩
theorem f1_Of (A:Atom) (a:Option Addr) (n cap:Nat) (l:List UInt8) (hA:Rd A a 1 n (l.map bv)) (hl:l.length=n) (hn:n<=64):Fn Tryz.prog 219 [.slice a n cap] [A] (λv As=>∃a' c',v=slv a' (n*8) c'/\As=[A,ownA 4 1 a' (n*8) c' (cellsB (Bt.unpack l))]):=by
 refine Fn.enter [0] Tryz.func219 rfl rfl rfl λX F hX=>?_;refine J.turn1 [] rfl (As:=[ownA 4 1 none (0*8) 0 (cellsB (Bt.unpack (l.take 0)))]) (λh s=>Sep.one ⟨rfl,rfl,rfl⟩) rfl ?_;refine J.q hX λ_=>?_;refine J.lo (α:=(Nat×Option Nat×Nat)) (λz=>z.1<=n) (λz=>[⟨4, .int .i64 z.1,0, .tt⟩,⟨3,slv z.2.1 (z.1*8) z.2.2,0, .tt⟩,⟨0, .slice a n cap,0, .tt⟩]) [2] (λz=>[ownA 4 1 z.2.1 (z.1*8) z.2.2 (cellsB (Bt.unpack (l.take z.1)))]) (λz=>n-z.1) ((0,none,0)) (Nat.zero_le _) rfl ?_ (λ_=>rfl) λz hI=>?_
 ·rfl
 obtain⟨k,b,c⟩:=z;dsimp only at hI ⊢;refine J.q hX λ_=>?_;refine J.cond rfl (λh1=>?_) (λh1=>?_)
 ·simp only[decide_eq_true_eq,Int.ofNat_lt]at h1;obtain⟨x,hx⟩:∃x,l[k]? =some x:=⟨_,List.getElem?_eq_getElem (by omega)⟩;have hs:Bt.unpack (l.take (k+1))=Bt.unpack (l.take k)++Bt.bits x.toNat 8:=by
   rw[List.take_add_one,hx,Option.toList_some,Bt.unpack_snoc]
  have hxl:x.toNat<256:=x.toNat_lt;refine J.know (p:=∃g o,a=some ⟨g,o,none⟩) (λh' s=>Rd.addr (hA _ (s.get (i:=1) rfl)) (by omega)) λhk=>?_;obtain⟨gm,om,rfl⟩:=hk;refine J.q hX λ_=>?_;refine J.val hX (bv x) 0 rfl rfl (λhg a w he hw=>rd1_run tk rfl rfl he rfl rfl rfl (hA _ (hw.get (i:=1) rfl)) (by omega) (j:=k) (by omega) (by rw[List.getElem?_map,hx];rfl)) rfl trivial ?_;refine J.q hX λ_=>?_;refine J.cb hX (f1_Bits x.toNat 8 (by omega) (by omega)) [] ?_;rintro v As ⟨a3,c3,rfl,rfl⟩;refine⟨_,rfl,trivial,?_⟩;refine J.know (λh' s=>own_some (c:=(a3,c3)) (by omega) (s.get (i:=3) rfl)) λhg=>?_;obtain⟨g3,rfl⟩:=hg;refine J.q hX λ_=>?_;refine J.appendR hX tk 2 3 0 rfl rfl rfl rfl rfl rfl rfl rfl rfl rfl (own_rd _ _ _ _ _ _) rfl rfl rfl rfl (cellsB_one _) ?_ ?_ (λ_=>rfl) λa4 c4=>⟨_,(congrArg (λz=>lset _ 2 (ownA _ _ _ _ _ z)) ((cellsB_app _ _).symm.trans (congrArg cellsB hs.symm))).trans rfl,trivial,?_⟩
  ·simp only[maxLen];omega
  ·omega
  rw[show k*8+8=(k+1)*8 from by omega];refine J.q hX λ_=>?_;refine J.nS ((k+1,a4,c4)) (by dsimp only;omega) (by dsimp only;omega) [0,1,2] rfl rfl
 ·simp only[decide_eq_false_iff_not,Int.ofNat_lt]at h1;have hkn:k=n:=by omega
  have ht:l.take k=l:=List.take_of_length_le (by omega);rw[ht,hkn];refine J.q hX λ_=>?_;refine J.ru hX [1,2] ?_;exact⟨b,c,rfl,rfl⟩
theorem f1_Step (s x:Nat) (hs:s<4294967296) (hx:x<256):Fn Tryz.prog 220 [.int .u32 s, .int .u8 x] [] (λv As=>v= .int .u32 (K.step s x)/\As=[]):=by
 have hs0:s ^^^ x*16777216<4294967296:=K.step_lt0 hs hx;have hst:K.step s x=K.rounds 8 (s ^^^ x*16777216):=rfl;obtain⟨s0,hs0e⟩:∃s0,s ^^^ x*16777216=s0:=⟨_,rfl⟩;have hsb:=K.step_bits s x hx;rw[hs0e]at hs0 hst hsb;obtain⟨P0,hP0⟩:∃P0,Bt.bits 1947962583 32=P0:=⟨_,rfl⟩;have hP0l:P0.length=32:=by rw[<- hP0,Bt.length_bits]
 refine Fn.enter [0,0] Tryz.func220 rfl rfl rfl λX F hX=>?_;refine J.q hX λ_=>?_;refine J.cb hX (f1_Bits s 32 (by omega) (by omega)) [] ?_;rintro v As ⟨a1,c1,rfl,rfl⟩;refine⟨_,rfl,trivial,?_⟩;refine J.q hX λ_=>?_;refine J.cb hX (f1_Bits x 8 (by omega) (by omega)) [] ?_;rintro v As ⟨a2,c2,rfl,rfl⟩;refine⟨_,rfl,trivial,?_⟩;refine J.q hX λ_=>?_;refine J.cb hX (f1_Bits 1947962583 32 (by omega) (by omega)) [] ?_;rintro v As ⟨a3,c3,rfl,rfl⟩;refine⟨_,rfl,trivial,?_⟩;rw[hP0];refine J.know (λh' s=>own_some (c:=(a1,c1)) (by omega) (s.get (i:=1) rfl)) λhg=>?_;obtain⟨g1,rfl⟩:=hg;refine J.know (λh' s=>own_some (c:=(a2,c2)) (by omega) (s.get (i:=2) rfl)) λhg=>?_;obtain⟨g2,rfl⟩:=hg;refine J.know (λh' s=>own_some (c:=(a3,c3)) (by omega) (s.get (i:=3) rfl)) λhg=>?_;obtain⟨g3,rfl⟩:=hg;refine J.q hX λ_=>?_;refine J.openOwn 1 rfl rfl (λ_=>rfl) λr q1 q2 q3 q4=>?_;refine J.q hX λ_=>?_;refine J.lo (α:=(Nat×List Bool)) (λz=>z.1<=8/\z.2.length=32/\∀i,i<32->z.2.getD i false=if i<z.1 then((Bt.bits s 32).getD i false !=(Bt.bits x 8).getD i false)else(Bt.bits s 32).getD i false) (λz=>[⟨8, .int .i64 z.1,0, .tt⟩,⟨5,slv (some g1) 32 c1,0, .tt⟩,⟨6,slv (some g2) 8 c2,0, .tt⟩,⟨7,slv (some g3) 32 c3,0, .tt⟩]) [1] (λz=>[.pt g1 4 (cellsB z.2++r)]) (λz=>8-z.1) ((0,Bt.bits s 32)) (⟨Nat.zero_le _,Bt.length_bits _ _,λi hi=>by simp⟩) rfl ?_ (λ_=>rfl) λz hI=>?_
 ·rfl
 obtain⟨k,l⟩:=z;dsimp only at hI ⊢;obtain⟨hk,hl,hv⟩:=hI;refine J.q hX λ_=>?_;refine J.cond rfl (λh1=>?_) (λh1=>?_)
 ·simp only[decide_eq_true_eq]at h1;have h1:k<8:=by omega
  refine J.q hX λ_=>?_;refine J.plan (.of [0,4,8,12,16,21,24,28,32,37,40,44,51]) [11,12] [1,2,3] (by rw[hX.hP];kernel_rfl) (by kernel_rfl) ?_;refine J.q hX λ_=>?_;refine J.valT hX (.bool (l.getD k false)) 0 rfl rfl (λhg a w he hC=>?_) rfl ?_
  ·exact load1_run tk rfl rfl he hg rfl rfl (hC rfl _ (cget_mem (i:=1) rfl)) (by rw[show 0+(k:Int).toNat*1=k from by omega];exact cellsB_at r (by omega))
  refine J.q hX λ_=>?_;refine J.valT hX (.bool ((Bt.bits x 8).getD k false)) 0 rfl rfl (λhg a w he hC=>own1_run tk rfl rfl he hg rfl rfl (hC rfl _ (cget_mem (i:=2) rfl)) (by rw[show 0+(k:Int).toNat*1=k from by omega];have:=cellsB_at (l:=Bt.bits x 8) [] (k:=k) (by rw[Bt.length_bits];omega);rwa [List.append_nil]at this)) rfl ?_;refine J.q hX λ_=>?_;refine J.store1 hX tk 1 rfl rfl rfl rfl rfl rfl rfl rfl rfl rfl rfl rfl rfl ?_ (cellsB (l.set k (l.getD k false !=(Bt.bits x 8).getD k false))++r) ?_ rfl (λ_=>rfl) ⟨trivial,?_⟩
  ·rw[show 0+(k:Int).toNat*1=k from by omega,List.length_append,cellsB_len];omega
  ·rw[show 0+(k:Int).toNat*1=k from by omega];exact cellsB_set r _ (by omega)
  refine J.q hX λ_=>?_;refine J.nS ((k+1,l.set k (l.getD k false !=(Bt.bits x 8).getD k false))) (⟨by dsimp only;omega,by rw[List.length_set];exact hl,λi hi=>by
   have hvk:=hv k (by omega);rw[if_neg (by omega)]at hvk;dsimp only;rw[List.getD_eq_getElem?_getD,List.getElem?_set,hl]
   by_cases e:k=i
   ·subst e;rw[if_pos rfl,if_pos (by omega),if_pos (by omega),hvk];rfl
   ·rw[if_neg e,<- List.getD_eq_getElem?_getD,hv i hi]
    by_cases h9:i<k
    ·rw[if_pos h9,if_pos (by omega)]
    ·rw[if_neg h9,if_neg (by omega)]⟩) (by dsimp only;omega) [0,1,2,3] rfl rfl
 simp only[decide_eq_false_iff_not]at h1;obtain rfl:l=Bt.bits s0 32:=Bt.ext_bits 32 hl (Bt.length_bits _ _) λi hi=>by
  rw[hv i hi,hsb i hi]
  by_cases h9:i<8
  ·rw[if_pos h9,if_pos (by omega)]
  ·rw[if_neg h9,if_neg (by omega)]
 refine J.closeOwn (e:=4) (size:=1) (n:=32) (cap:=c1) (xs:=cellsB (Bt.bits s0 32)) 1 rfl rfl (by rw[cellsB_len,hl]) q2 q3 (by rw[List.length_append,cellsB_len,hl];rw[cellsB_len,Bt.length_bits]at q4;exact q4) (List.take_left' (by rw[cellsB_len,hl])) rfl ?_;refine J.q hX λ_=>?_;refine J.lo (α:=(Nat×Option Nat×Nat)) (λz=>z.1<=8) (λz=>[⟨9, .int .i64 z.1,0, .tt⟩,⟨5,slv z.2.1 32 z.2.2,0, .tt⟩,⟨7,slv (some g3) 32 c3,0, .tt⟩]) [1] (λz=>[ownA 4 1 z.2.1 32 z.2.2 (cellsB (Bt.bits (K.rounds z.1 s0) 32))]) (λz=>8-z.1) ((0,some g1,c1)) (Nat.zero_le _) rfl ?_ (λ_=>rfl) λz hI=>?_
 ·rfl
 obtain⟨j,a,c⟩:=z;dsimp only at hI ⊢;refine J.q hX λ_=>?_;refine J.cond rfl (λh2=>?_) (λh2=>?_)
 ·simp only[decide_eq_true_eq]at h2;have h2:j<8:=by omega
  have hr:=K.rounds_lt j s0 hs0;obtain⟨u,hu⟩:∃u,K.rounds j s0=u:=⟨_,rfl⟩;have hn:K.rounds (j+1) s0=K.round u:=by rw[<- hu];rfl
  rw[hu]at hr ⊢;have hrb:=K.round_bits u hr;rw[hP0]at hrb;obtain⟨U,hU⟩:∃U,Bt.bits u 32=U:=⟨_,rfl⟩;have hUl:U.length=32:=by rw[<- hU,Bt.length_bits]
  rw[hU]at hrb ⊢;obtain⟨tb,htb⟩:∃tb,U.getD 0 false=tb:=⟨_,rfl⟩;rw[htb]at hrb;refine J.know (λh' s=>own_some (c:=(a,c)) (by omega) (s.get (i:=1) rfl)) λhg=>?_;obtain⟨g,rfl⟩:=hg;refine J.know (p:=32<=c) (λh' s=>by
   obtain⟨_,cur,h1,h2,_⟩:=s.get (i:=1) rfl;exact h2) λhc=>?_
  refine J.turn1 [] rfl (As:=[ownA 4 1 none 0 0 []]) (λh s=>Sep.one ⟨rfl,rfl,rfl⟩) rfl ?_;refine J.q hX λ_=>?_;refine J.val hX (.bool tb) 0 rfl rfl (λhg a w he hs=>own1_run tk rfl rfl he rfl rfl rfl (hs.get (i:=1) rfl) (by have:=cellsB_at (l:=U) [] (k:=0) (by omega);rw[List.append_nil,htb]at this;exact this)) rfl trivial ?_;refine J.q hX λ_=>?_;have hRd:Rd (ownA 4 1 (some g) 32 c (cellsB U)) (some ⟨g,0+Int.toNat 1*1,none⟩) 1 (32-Int.toNat 1) (cellsB (U.drop 1)):=by
   have:=(own_rd 4 1 (some g) 32 c (cellsB U)).drop 1 (by omega);rw[cellsB_drop];exact this
  refine J.appendR hX tk 4 1 0 rfl rfl rfl rfl rfl rfl rfl rfl rfl rfl hRd rfl rfl rfl rfl (cellsB_one _) ?_ ?_ (λ_=>rfl) λa4 c4=>⟨_,rfl,trivial,?_⟩
  ·decide
  ·decide
  rw[show 0+(32-Int.toNat 1)=31 from rfl,List.nil_append];refine J.q hX λ_=>?_;refine J.append hX tk 4 5 0 rfl rfl rfl rfl rfl rfl rfl rfl rfl rfl rfl rfl rfl rfl rfl rfl ?_ ?_ (λ_=>rfl) λa5 c5=>⟨_,(congrArg (λz=>lset _ 4 (ownA _ _ _ _ _ z)) (cellsB_snoc (U.drop 1) false).symm).trans rfl,trivial,?_⟩
  ·decide
  ·decide
  rw[show 31+1=32 from rfl];have hVl:(U.drop 1++[false]).length=32:=by rw[List.length_append,List.length_drop,hUl];rfl
  have hVg:∀i,i<32->(U.drop 1++[false]).getD i false=if i=31 then false else U.getD (i+1) false:=λi hi=>by
   rw[List.getD_eq_getElem?_getD]
   by_cases e:i=31
   ·subst e;rw[if_pos rfl,List.getElem?_append_right (by rw[List.length_drop,hUl];exact Nat.le_refl _),List.length_drop,hUl];rfl
   ·rw[if_neg e,List.getElem?_append_left (by rw[List.length_drop,hUl];omega),List.getElem?_drop,Nat.add_comm,<- List.getD_eq_getElem?_getD]
  generalize U.drop 1++[false]=V at hVl hVg;refine J.know (λh' s=>own_some (c:=(a5,c5)) (by omega) (s.get (i:=4) rfl)) λhg=>?_;obtain⟨g5,rfl⟩:=hg;refine J.q hX λ_=>?_;refine J.openOwn 4 rfl rfl (λ_=>rfl) λr5 q5 q6 q7 q8=>?_;refine J.q hX λ_=>?_;refine J.lo (α:=(Nat×List Bool)) (λz=>(z.1<=32/\(z.1=0\/tb=true))/\z.2.length=32/\∀i,i<32->z.2.getD i false=if i<z.1 then(V.getD i false !=P0.getD i false)else V.getD i false) (λz=>[⟨11, .int .i64 z.1,0, .tt⟩,⟨5,slv (some g5) 32 c5,0, .tt⟩,⟨7,slv (some g3) 32 c3,0, .tt⟩,⟨9, .int .i64 j,0, .tt⟩,⟨10, .bool tb,0, .tt⟩]) [4] (λz=>[.pt g5 4 (cellsB z.2++r5)]) (λz=>32-z.1) ((0,V)) (⟨⟨Nat.zero_le _, .inl rfl⟩,hVl,λi hi=>by simp⟩) rfl ?_ (λ_=>rfl) λz hI=>?_
  ·rfl
  obtain⟨k,l⟩:=z;dsimp only at hI ⊢;obtain⟨hk,hl,hv⟩:=hI;refine J.q hX λ_=>?_;refine J.cond rfl (λh3=>?_) (λh3=>?_)
  ·simp only[Bool.and_eq_true,decide_eq_true_eq]at h3;have h4:k<32:=by omega
   refine J.q hX λ_=>?_;refine J.plan (.of [0,4,8,12,16,21,24,28,32,37,40,44,51]) [11,12] [1,2,3,4] (by rw[hX.hP];kernel_rfl) (by kernel_rfl) ?_;refine J.q hX λ_=>?_;refine J.valT hX (.bool (l.getD k false)) 0 rfl rfl (λhg a w he hC=>?_) rfl ?_
   ·exact load1_run tk rfl rfl he hg rfl rfl (hC rfl _ (cget_mem (i:=4) rfl)) (by rw[show 0+(k:Int).toNat*1=k from by omega];exact cellsB_at r5 (by omega))
   refine J.q hX λ_=>?_;refine J.valT hX (.bool (P0.getD k false)) 0 rfl rfl (λhg a w he hC=>own1_run tk rfl rfl he hg rfl rfl (hC rfl _ (cget_mem (i:=3) rfl)) (by rw[show 0+(k:Int).toNat*1=k from by omega];have:=cellsB_at (l:=P0) [] (k:=k) (by omega);rwa [List.append_nil]at this)) rfl ?_;refine J.q hX λ_=>?_;refine J.store1 hX tk 4 rfl rfl rfl rfl rfl rfl rfl rfl rfl rfl rfl rfl rfl ?_ (cellsB (l.set k (l.getD k false !=P0.getD k false))++r5) ?_ rfl (λ_=>rfl) ⟨trivial,?_⟩
   ·rw[show 0+(k:Int).toNat*1=k from by omega,List.length_append,cellsB_len];omega
   ·rw[show 0+(k:Int).toNat*1=k from by omega];exact cellsB_set r5 _ (by omega)
   refine J.q hX λ_=>?_;refine J.nS ((k+1,l.set k (l.getD k false !=P0.getD k false))) (⟨⟨by dsimp only;omega, .inr h3.2⟩,by rw[List.length_set];exact hl,λi hi=>by
    have hvk:=hv k (by omega);rw[if_neg (by omega)]at hvk;dsimp only;rw[List.getD_eq_getElem?_getD,List.getElem?_set,hl]
    by_cases e:k=i
    ·subst e;rw[if_pos rfl,if_pos (by omega),if_pos (by omega),hvk];rfl
    ·rw[if_neg e,<- List.getD_eq_getElem?_getD,hv i hi]
     by_cases h9:i<k
     ·rw[if_pos h9,if_pos (by omega)]
     ·rw[if_neg h9,if_neg (by omega)]⟩) (by dsimp only;omega) [0,1,2,3,4,5] rfl rfl
  obtain rfl:l=Bt.bits (K.rounds (j+1) s0) 32:=Bt.ext_bits 32 hl (Bt.length_bits _ _) λi hi=>by
   rw[hv i hi,hn,hrb i hi,hVg i hi];cases tb with
   | true=>
    have hk32:k=32:=by
     simp only[Bool.and_true,decide_eq_false_iff_not]at h3;omega
    rw[if_pos (by omega),Bool.true_and]
   | false=>
    have hk0:k=0:=by
     rcases hk.2 with h | h
     ·exact h
     ·cases h
    rw[if_neg (by omega),Bool.false_and,Bool.bne_false]
  refine J.closeOwn (e:=4) (size:=1) (n:=32) (cap:=c5) (xs:=cellsB (Bt.bits (K.rounds (j+1) s0) 32)) 4 rfl rfl (by rw[cellsB_len,hl]) q6 q7 (by rw[List.length_append,cellsB_len,hl];rw[cellsB_len,hVl]at q8;exact q8) (List.take_left' (by rw[cellsB_len,hl])) rfl ?_;refine J.q hX λ_=>?_;refine J.nS ((j+1,some g5,c5)) (by dsimp only;omega) (by dsimp only;omega) [0,4,2,3] rfl rfl
 simp only[decide_eq_false_iff_not]at h2;obtain rfl:j=8:=by omega
 refine J.know (λh' s=>own_some (c:=(a,c)) (by omega) (s.get (i:=1) rfl)) λhg=>?_;obtain⟨g,rfl⟩:=hg;have hr8:=K.rounds_lt 8 s0 hs0;have hnum:=Bt.num_bits (K.rounds 8 s0) 32 hr8;refine J.q hX λ_=>?_;refine J.ca hX (by kernel_rfl) (f1_Num (ownA 4 1 (some g) 32 c (cellsB (Bt.bits (K.rounds 8 s0) 32))) (some ⟨g,0,none⟩) 32 c (Bt.bits (K.rounds 8 s0) 32) (own_rd _ _ _ _ _ _) (Bt.length_bits _ _) (by decide)) [1] 0 rfl rfl rfl rfl rfl rfl (λ_=>rfl) ?_;refine cpq ⟨_,rfl,trivial,?_⟩;rw[hnum,<- hst];have hlt:K.step s x<4294967296:=K.step_lt s x hs hx;refine J.q hX λ_=>?_;exact J.ru hX [] ⟨rfl,rfl⟩
theorem f1_Sum (A:Atom) (a:Option Addr) (n cap:Nat) (l:List UInt8) (hA:Rd A a 1 n (l.map bv)) (hl:l.length=n) (hn:n<=64):Fn Tryz.prog 198 [.slice a n cap] [A] (λv As=>v= .int .u32 (K.sum l)/\As=[A]):=by
 refine Fn.enter [0] Tryz.func198 rfl rfl rfl λX F hX=>?_;refine J.q hX λ_=>?_;refine J.lo (α:=Nat) (λk=>k<=n) (λk=>[⟨4, .int .i64 k,0, .tt⟩,⟨3, .int .u32 (K.sum (l.take k)),0, .tt⟩,⟨0, .slice a n cap,0, .tt⟩]) [] (λk=>[]) (λk=>n-k) (0) (Nat.zero_le _) rfl ?_ (λ_=>rfl) λk hI=>?_
 ·rfl
 refine J.q hX λ_=>?_;refine J.cond rfl (λh1=>?_) (λh1=>?_)
 ·simp only[decide_eq_true_eq,Int.ofNat_lt]at h1;obtain⟨x,hx⟩:∃x,l[k]? =some x:=⟨_,List.getElem?_eq_getElem (by omega)⟩;have hs:=K.sum_snoc l k x hx;have hlt:=K.sum_lt (l.take k);have hxl:x.toNat<256:=x.toNat_lt;refine J.know (p:=∃g o,a=some ⟨g,o,none⟩) (λh' s=>Rd.addr (hA _ (s.get (i:=1) rfl)) (by omega)) λhk=>?_;obtain⟨gm,om,rfl⟩:=hk;refine J.q hX λ_=>?_;refine J.val hX (bv x) 0 rfl rfl (λhg a w he hw=>rd1_run tk rfl rfl he rfl rfl rfl (hA _ (hw.get (i:=1) rfl)) (by omega) (j:=k) (by omega) (by rw[List.getElem?_map,hx];rfl)) rfl trivial ?_;refine J.q hX λ_=>?_;refine J.cb hX (f1_Step (K.sum (l.take k)) x.toNat hlt hxl) [] ?_;refine cpq ⟨_,rfl,trivial,?_⟩;rw[<- hs];refine J.q hX λ_=>?_;refine J.nS (k+1) (by omega) (by omega) [0,1] rfl rfl
 simp only[decide_eq_false_iff_not,Int.ofNat_lt]at h1;have htk:l.take k=l:=List.take_of_length_le (by omega);rw[htk];refine J.q hX λ_=>?_;exact J.ru hX [1] ⟨rfl,rfl⟩
end Go.Proofs.YtdocmcapegcoeaaGreat
