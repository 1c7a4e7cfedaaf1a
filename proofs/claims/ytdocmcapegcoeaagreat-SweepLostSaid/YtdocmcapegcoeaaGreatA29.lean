/- Helpers, proved here. No condition. -/
import Derived.Test.YtdocmcapegcoeaaGreatA06
import Derived.Test.YtdocmcapegcoeaaGreatA09
import Derived.Test.YtdocmcapegcoeaaGreatA15
import Derived.Test.YtdocmcapegcoeaaGreatA16
import Derived.Test.YtdocmcapegcoeaaGreatA24
import Derived.Test.YtdocmcapegcoeaaGreatA25
import Derived.Test.YtdocmcapegcoeaaGreatA27
set_option maxRecDepth 20000
set_option linter.all false
namespace Go.Proofs.YtdocmcapegcoeaaGreat
open Go Go.RowKit
theorem at_lt8 (m i:Int):L.at_ m i<8:=by
 unfold L.at_;split
 ·cases h:(L.dies m)[i.toNat]? with
  | none=>decide
  | some d=>
   have hm:=List.mem_of_getElem? h;unfold L.dies at hm;split at hm
   ·have:=List.mem_range.1 (List.mem_filter.1 hm).1;show((d:Nat):Int)<8;omega
   ·simp at hm
 ·decide
theorem oth_dec:∀m,m<256->∀p,p<8->(dI ((m:Nat):Int)).filter (λd=>d !=((p:Nat):Int))=dI (L.without ((m:Nat):Int) ((p:Nat):Int)):=by decide+kernel
def othI (m b r:Int):List Int:=if 0<=G.parity m b r then(dI m).filter (λd=>d !=G.parity m b r)else[]
theorem oth_eq {m b r:Int} (h:0<=G.parity m b r):othI m b r=dI (L.without m (G.parity m b r)):=by
 have h8:G.parity m b r<8:=by
  unfold G.parity at h ⊢;split
  ·decide
  ·exact at_lt8 _ _
 have hm:0<=m/\m<256:=by
  by_cases hh:0<=m/\m<256
  ·exact hh
  ·have hc:=L.count_no m hh;unfold G.parity at h;rw[if_pos (by omega)]at h;omega
 unfold othI;rw[if_pos h];obtain⟨p,hp⟩:=Int.eq_ofNat_of_zero_le h;obtain⟨M,rfl⟩:=Int.eq_ofNat_of_zero_le hm.1;rw[hp];exact oth_dec M (by omega) p (by omega)
theorem oth_die (m b r s:Int):(s<0\/((othI m b r).length:Int)<=s->G.die m b r s= -1)/\(∀k:Nat,s=k->k<(othI m b r).length->(othI m b r)[k]? =some (G.die m b r s)):=by
 by_cases h:0<=G.parity m b r
 ·have he:=oth_eq h;have hd:G.die m b r s=L.at_ (L.without m (G.parity m b r)) s:=by unfold G.die;rw[if_neg (by omega)]
  rw[he,hd,dI_count];refine⟨λhs=>L.at_ge _ _ hs,λk hk hlt=>?_⟩;subst hk;exact dI_at _ _ hlt
 ·have he:othI m b r=[]:=by unfold othI;rw[if_neg h]
  have hd:G.die m b r s= -1:=by unfold G.die;rw[if_pos (by omega)]
  rw[he,hd];exact⟨λ_=>rfl,λk _ hlt=>by simp at hlt⟩
theorem f6_Others (m b r:Int):Fn Tryz.prog 121 [.int .i64 m, .int .i64 b, .int .i64 r] [] (λv As=>∃a c,v=slv a (othI m b r).length c/\As=[ownA 3 1 a (othI m b r).length c (cellsI (othI m b r))]):=by
 have hlen:=dI_len m;refine Fn.enter [0,0,0] Tryz.func121 rfl rfl rfl λX F hX=>?_;refine J.turn1 [] rfl (As:=[ownA 3 1 none 0 0 (cellsI (((dI m).take 0).filter λd=>d !=G.parity m b r))]) (λh s=>Sep.one ⟨rfl,rfl,rfl⟩) rfl ?_;refine J.q hX λ_=>?_;refine J.cb hX (f1_Dies m) [] ?_;rintro v As ⟨a,c,rfl,rfl⟩;refine⟨_,rfl,trivial,?_⟩;refine J.q hX λ_=>?_;refine J.cb hX (f6_Parity m b r) [] ?_;refine cpq ⟨_,rfl,trivial,?_⟩;have hoth:othI m b r=if 0<=G.parity m b r then(dI m).filter (λd=>d !=G.parity m b r)else[]:=rfl
 generalize hpp:G.parity m b r=p at hoth;refine J.q hX λ_=>?_;refine J.lo (α:=(Nat×Option Nat×Nat)) (λz=>z.1<=(dI m).length/\(z.1=0\/0<=p)) (λz=>[⟨10, .int .i64 z.1,0, .tt⟩,⟨9, .int .i64 p,0, .tt⟩,⟨8,slv a (dI m).length c,0, .tt⟩,⟨7,slv z.2.1 (((dI m).take z.1).filter λd=>d !=p).length z.2.2,0, .tt⟩]) [1] (λz=>[ownA 3 1 z.2.1 (((dI m).take z.1).filter λd=>d !=p).length z.2.2 (cellsI (((dI m).take z.1).filter λd=>d !=p))]) (λz=>(dI m).length-z.1) ((0,none,0)) (⟨Nat.zero_le _, .inl rfl⟩) rfl ?_ (λ_=>rfl) λz hI=>?_
 ·rfl
 obtain⟨k,o,oc⟩:=z;dsimp only at hI ⊢;obtain⟨hk,hp⟩:=hI;have hfl:=List.length_filter_le (λd=>d !=p) ((dI m).take k);have htl:((dI m).take k).length<=k:=by rw[List.length_take];omega
 refine J.q hX λ_=>?_;refine J.cond rfl (λh1=>?_) (λh1=>?_)
 ·simp only[Bool.and_eq_true,decide_eq_true_eq,Int.ofNat_lt]at h1;obtain⟨h1,h2⟩:=h1;obtain⟨x,hx⟩:∃x,(dI m)[k]? =some x:=⟨_,List.getElem?_eq_getElem h1⟩;have hs:((dI m).take (k+1)).filter (λd=>d !=p)=((dI m).take k).filter (λd=>d !=p)++(if x !=p then[x]else[]):=by
   rw[List.take_add_one,hx,Option.toList_some,List.filter_append];congr 1;cases hxp:x !=p<;>simp[hxp]
  refine J.know (λh' s=>own_some (c:=(a,c)) (by omega) (s.get (i:=2) rfl)) λhg=>?_;obtain⟨g,rfl⟩:=hg;refine J.q hX λ_=>?_;refine J.val hX (.int .i64 x) 0 rfl rfl (λhg a w he hs=>own1_run tk rfl rfl he rfl rfl rfl (hs.get (i:=2) rfl) (by rw[show 0+(k:Int).toNat*1=k from by omega];exact cellsI_get hx)) rfl trivial ?_;refine J.q hX λ_=>?_;refine J.cond rfl (λh3=>?_) (λh3=>?_)
  ·rw[if_pos h3]at hs;have hl:(((dI m).take k).filter λd=>d !=p).length+1=(((dI m).take (k+1)).filter λd=>d !=p).length:=by rw[hs];simp
   refine J.q hX λ_=>?_;refine J.val hX (.int .i64 x) 0 rfl rfl (λhg a w he hs=>own1_run tk rfl rfl he rfl rfl rfl (hs.get (i:=2) rfl) (by rw[show 0+(k:Int).toNat*1=k from by omega];exact cellsI_get hx)) rfl trivial ?_;refine J.q hX λ_=>?_;refine J.append hX tk 1 3 0 rfl rfl rfl rfl rfl rfl rfl rfl rfl rfl rfl rfl rfl rfl rfl rfl ?_ ?_ (λ_=>rfl) λa4 c4=>⟨_,(congrArg (λz=>lset _ 1 (ownA _ _ _ _ _ z)) ((cellsI_snoc _ _).symm.trans (congrArg cellsI hs.symm))).trans rfl,trivial,?_⟩
   ·simp only[maxLen];omega
   ·omega
   rw[hl];refine J.q hX λ_=>?_;refine J.nS ((k+1,a4,c4)) (⟨by dsimp only;omega, .inr h2⟩) (by dsimp only;omega) [0,1,2] rfl rfl
  ·rw[if_neg (by rw[h3];simp),List.append_nil]at hs;rw[<- hs];refine J.q hX λ_=>?_;refine J.nS ((k+1,o,oc)) (⟨by dsimp only;omega, .inr h2⟩) (by dsimp only;omega) [0,1,2] rfl rfl
 ·have he:((dI m).take k).filter (λd=>d !=p)=othI m b r:=by
   rw[hoth]
   by_cases h0:0<=p
   ·rw[if_pos h0];have hkl:(dI m).length<=k:=by
     rcases Nat.lt_or_ge k (dI m).length with h | h
     ·rw[decide_eq_true (by omega),decide_eq_true (by omega)]at h1;cases h1
     ·exact h
    rw[List.take_of_length_le hkl]
   ·rw[if_neg h0];obtain rfl:k=0:=by omega
    simp
  rw[he];refine J.q hX λ_=>?_;refine J.ru hX [1] ?_;exact⟨o,oc,rfl,rfl⟩
theorem f6_Die (m b r s:Int):Fn Tryz.prog 76 [.int .i64 m, .int .i64 b, .int .i64 r, .int .i64 s] [] (λv As=>v= .int .i64 (G.die m b r s)/\As=[]):=by
 obtain⟨d1,d2⟩:=oth_die m b r s;refine Fn.enter [0,0,0,0] Tryz.func76 rfl rfl rfl λX F hX=>?_;refine J.q hX λ_=>?_;refine J.cb hX (f6_Others m b r) [] ?_;rintro v As ⟨a,c,rfl,rfl⟩;refine⟨_,rfl,trivial,?_⟩;refine J.q hX λ_=>?_;refine J.cond rfl (λh1=>?_) (λh1=>?_)
 ·simp only[Bool.or_eq_true,decide_eq_true_eq]at h1;refine J.q hX λ_=>?_;refine J.ru hX [] ?_;rw[d1 h1];exact⟨rfl,rfl⟩
 ·simp only[Bool.or_eq_false_iff,decide_eq_false_iff_not]at h1;obtain⟨k,rfl⟩:=Int.eq_ofNat_of_zero_le (show 0<=s by omega);have hk:k<(othI m b r).length:=by omega
  have hx:=d2 k rfl hk;refine J.know (λh' s=>own_some (c:=(a,c)) (by omega) (s.get (i:=1) rfl)) λhg=>?_;obtain⟨g,rfl⟩:=hg;refine J.q hX λ_=>?_;refine J.val hX (.int .i64 (G.die m b r k)) 0 rfl rfl (λhg a w he hs=>own1_run tk rfl rfl he rfl rfl rfl (hs.get (i:=1) rfl) (by rw[show 0+(k:Int).toNat*1=k from by omega];exact cellsI_get hx)) rfl trivial ?_;refine J.q hX λ_=>?_;exact J.ru hX [] ⟨rfl,rfl⟩
theorem f6_In (d b p x y z:Int):Fn Tryz.prog 77 [.agg #[.int .i64 d, .int .i64 b, .int .i64 p], .agg #[.int .i64 x, .int .i64 y, .int .i64 z]] [] (λv As=>v= .bool (geoIn d b p x y z)/\As=[]):=by
 refine Fn.enter [0,0] Tryz.func77 rfl rfl rfl λX F hX=>?_;refine J.q hX λ_=>?_;refine J.ru hX [] ?_;refine⟨congrArg Value.bool ?_,rfl⟩;unfold geoIn;rw[Bool.eq_iff_iff];simp only[Bool.and_eq_true,decide_eq_true_eq];omega
end Go.Proofs.YtdocmcapegcoeaaGreat
namespace Go.Proofs.YtdocmcapegcoeaaGreat
open Go
theorem xor_mul_add (k:Nat) {a b c d:Nat} (hb:b<2^k) (hd:d<2^k):(2^k*a+b) ^^^ (2^k*c+d)=2^k*(a ^^^ c)+(b ^^^ d):=by
 apply Nat.eq_of_testBit_eq;intro j;have hbd:b ^^^ d<2^k:=Nat.xor_lt_two_pow hb hd;rw[Nat.testBit_xor,Nat.testBit_two_pow_mul_add _ hb,Nat.testBit_two_pow_mul_add _ hd,Nat.testBit_two_pow_mul_add _ hbd];split
 ·rw[Nat.testBit_xor]
 ·rw[Nat.testBit_xor]
theorem xo_nat {a b:Nat} (ha:a<4611686018427387904) (hb:b<4611686018427387904):F9.xo a b=((a ^^^ b:Nat):Int):=by
 have h1:(BitVec.ofInt 64 (a:Int) ^^^ BitVec.ofInt 64 (b:Int)).toNat=a ^^^ b:=by
  rw[BitVec.toNat_xor,BitVec.ofInt_natCast,BitVec.ofInt_natCast,BitVec.toNat_ofNat,BitVec.toNat_ofNat,Nat.mod_eq_of_lt (by omega),Nat.mod_eq_of_lt (by omega)]
 have h2:a ^^^ b<4611686018427387904:=Nat.xor_lt_two_pow (n:=62) ha hb;unfold F9.xo;show IntKind.i64.wrap ((BitVec.ofInt 64 (a:Int) ^^^ BitVec.ofInt 64 (b:Int)).toNat:Int)=_;rw[h1];simp[IntKind.wrap,IntKind.bits,IntKind.signed];omega
structure Num9 (s:Sh):Prop where
 role:0<=s.role/\s.role<=255
 lpn:0<=s.lpn/\s.lpn<=65535
 seq:0<=s.seq/\s.seq<=1099511627775
 data:s.data.length=16
theorem may_num9 {s:Sh} (h:S.may s=true) (hd:s.data.length=16):Num9 s:=by
 simp only[S.may,S.numbers,S.inB,Bool.and_eq_true,decide_eq_true_eq]at h;exact⟨by omega,by omega,by omega,hd⟩
theorem over_num9 {a b:Sh} (ha:Num9 a) (hb:Num9 b):Num9 (F9.over a b)/\Xo.toX (F9.over a b)=Xo.op (Xo.toX a) (Xo.toX b):=by
 obtain⟨r1,e1⟩:=Int.eq_ofNat_of_zero_le ha.role.1;obtain⟨r2,e2⟩:=Int.eq_ofNat_of_zero_le hb.role.1;obtain⟨l1,e3⟩:=Int.eq_ofNat_of_zero_le ha.lpn.1;obtain⟨l2,e4⟩:=Int.eq_ofNat_of_zero_le hb.lpn.1;obtain⟨s1,e5⟩:=Int.eq_ofNat_of_zero_le ha.seq.1;obtain⟨s2,e6⟩:=Int.eq_ofNat_of_zero_le hb.seq.1;have i1:=ha.role;have i2:=hb.role;have i3:=ha.lpn;have i4:=hb.lpn;have i5:=ha.seq;have i6:=hb.seq;have x1:F9.xo a.role b.role=((r1 ^^^ r2:Nat):Int):=by rw[e1,e2];exact xo_nat (by omega) (by omega)
 have x2:F9.xo a.lpn b.lpn=((l1 ^^^ l2:Nat):Int):=by rw[e3,e4];exact xo_nat (by omega) (by omega)
 have x3:F9.xo a.seq b.seq=((s1 ^^^ s2:Nat):Int):=by rw[e5,e6];exact xo_nat (by omega) (by omega)
 have b1:r1 ^^^ r2<256:=Nat.xor_lt_two_pow (n:=8) (by omega) (by omega);have b2:l1 ^^^ l2<65536:=Nat.xor_lt_two_pow (n:=16) (by omega) (by omega);have b3:s1 ^^^ s2<1099511627776:=Nat.xor_lt_two_pow (n:=40) (by omega) (by omega);refine⟨⟨?_,?_,?_,?_⟩,?_⟩
 ·show 0<=F9.xo a.role b.role/\F9.xo a.role b.role<=255;rw[x1];omega
 ·show 0<=F9.xo a.lpn b.lpn/\F9.xo a.lpn b.lpn<=65535;rw[x2];omega
 ·show 0<=F9.xo a.seq b.seq/\F9.xo a.seq b.seq<=1099511627775;rw[x3];omega
 ·exact mix_len ha.data hb.data 16 (by omega)
 ·unfold Xo.toX Xo.op;refine Prod.ext ?_ ?_
  ·exact Xo.mix_all ha.data hb.data
  ·show S.meta_ (F9.xo a.role b.role) (F9.xo a.lpn b.lpn) (F9.xo a.seq b.seq)=S.meta_ a.role a.lpn a.seq ^^^ S.meta_ b.role b.lpn b.seq;rw[x1,x2,x3,e1,e2,e3,e4,e5,e6];have hm:∀r l s:Nat,r<256->l<65536->s<1099511627776->S.meta_ (r:Nat) (l:Nat) (s:Nat)=2^40*(2^16*r+l)+s:=λr l s h1 h2 h3=>by
    unfold S.meta_;omega
   rw[hm _ _ _ b1 b2 b3,hm r1 l1 s1 (by omega) (by omega) (by omega),hm r2 l2 s2 (by omega) (by omega) (by omega),xor_mul_add 40 (by omega) (by omega),xor_mul_add 16 (by omega) (by omega)]
theorem fold_num9:∀(l:List Sh) (p:Sh),Num9 p->(∀s∈l,Num9 s)->Num9 (l.foldl F9.over p)/\Xo.toX (l.foldl F9.over p)=(l.map Xo.toX).foldl Xo.op (Xo.toX p)
 | [],p,h,_=>⟨h,rfl⟩
 | s::l,p,h,hl=>by
  obtain⟨h1,h2⟩:=over_num9 h (hl s (by simp));obtain⟨h3,h4⟩:=fold_num9 l (F9.over p s) h1 (λt ht=>hl t (by simp[ht]));rw[List.foldl_cons,List.map_cons,List.foldl_cons,<- h2];exact⟨h3,h4⟩
theorem fold_back (p:Sh) (l:List Sh) (hp:Num9 p) (hl:∀s∈l,Num9 s):(l.foldl F9.over p).en=W.backS p l:=by
 obtain⟨h1,h2⟩:=fold_num9 l p hp hl;generalize l.foldl F9.over p=S9 at h1 h2;have hd:∀s∈l++[p],s.data.length=16:=λs hs=>by
  rcases List.mem_append.1 hs with h | h
  ·exact(hl s h).data
  ·rw[List.mem_singleton.1 h];exact hp.data
 obtain⟨o1,o2⟩:=Xo.over_all (l++[p]) Xo.z hd Xo.z_ok (by decide);have hok:∀x∈l.map Xo.toX,Xo.Ok x:=λx hx=>by
  obtain⟨s,hs,rfl⟩:=List.mem_map.1 hx;exact(hl s hs).data
 have hpx:Xo.Ok (Xo.toX p):=hp.data;have e:((l++[p]).map Xo.toX).foldl Xo.op Xo.z=Xo.toX S9:=by
  rw[h2,List.map_append,List.foldl_append,Xo.fold_from (l.map Xo.toX) hok _ hpx];exact Xo.op_comm _ _
 rw[e]at o1 o2;obtain⟨m1,m2,m3⟩:=S.meta_back S9.role S9.lpn S9.seq h1.role h1.lpn h1.seq;have ho:W.over (l++[p])=((Xo.toX S9).1,(((Xo.toX S9).2:Nat):Int)):=o1;unfold W.backS;simp only[ho,Int.toNat_natCast];show(⟨S9.lpn,S9.seq,S9.role,S9.data⟩:En)=⟨((S.meta_ S9.role S9.lpn S9.seq/1099511627776 % 65536:Nat):Int),((S.meta_ S9.role S9.lpn S9.seq % 1099511627776:Nat):Int),((S.meta_ S9.role S9.lpn S9.seq/72057594037927936:Nat):Int),S9.data⟩;rw[m1,m2,m3]
end Go.Proofs.YtdocmcapegcoeaaGreat
namespace Go.Proofs.YtdocmcapegcoeaaGreat
open Go Go.RowKit
theorem f6_SlotsG (m:Int):Fn Tryz.prog 124 [.int .i64 m] [] (λv As=>v= .int .i64 (G.slots m)/\As=[]):=by
 rw[<- slots_dI m];exact f6_Slots m
def b9out (p:Sh) (n:Nat):Bool:=(!S.may p||p.kind !=2)||((n:Int) !=G.slots p.mask-1)
theorem b9out_back {p:Sh} {l:List Sh} {n:Nat} (hl:l.length=n) (h:b9out p n=true):W.backB p l=false:=by
 unfold W.backB;simp only[b9out,Bool.or_eq_true,Bool.not_eq_true',bne_iff_ne,ne_eq]at h;rcases h with(h | h) | h
 ·rw[h];simp
 ·rw[beq_eq_false_iff_ne.2 h];simp
 ·rw[decide_eq_false (by rw[hl];exact h)];simp
def alien9 (p o:Sh):Bool:=(((!S.may o||o.kind !=1)||o.block !=p.block)||o.row !=p.row)||o.mask !=p.mask
theorem alien9_eq (p o:Sh):alien9 p o=W.alien p o:=by
 unfold alien9 W.alien;cases S.may o<;>cases o.kind !=1<;>simp
theorem back_no {p:Sh} {l:List Sh} (h:W.backB p l=false):W.back p l=En.zero:=by unfold W.back;rw[h];rfl
theorem f9_Back (p:Sh) (hp:p.data.length=16) (a:Option Nat) (n c:Nat) (l:List Sh) (hl:l.length=n) (hd:∀s∈l,s.data.length=16):Fn Tryz.prog 125 [shV p,slv a n c] [ownA 132 23 a n c (cellsS l)]
  (λv As=>v= .tuple #[enV (W.back p l), .bool (W.backB p l)]/\As=[ownA 132 23 a n c (cellsS l)]):=by
 refine Fn.enter [0,0] Tryz.func125 rfl rfl rfl λX F hX=>?_;refine J.q hX λbb=>?_;refine J.cb hX (f9_May p hp) [] ?_;refine cpq ⟨_,rfl,trivial,?_⟩;have hG:=gslots_bd p.mask;refine J.q hX λ_=>?_;refine J.join (α:=Unit) (λ_=>[⟨28, .bool (b9out p n),0, .tt⟩,⟨1,slv a n c,0, .tt⟩,⟨2, .pointer (some ⟨bb 0,0,none⟩),3, .tt⟩,⟨4, .pointer (some ⟨bb (0+1),0,none⟩),4, .tt⟩]) (λ_=>[.hp F,ownA 132 23 a n c (cellsS l), .pt (bb 0) 132 (shL p), .pt (bb (0+1)) 38 (enL En.zero)]) (λhj=>?_) (λ_=>?_)
 ·refine J.gcase hX rfl rfl rfl trivial (λhb=>?_) (λhb=>?_)
  ·have hb2:(!S.may p||p.kind !=2)=false:=by rwa [Bool.not_eq_true']at hb
   have hC:b9out p n=(false||((n:Int) !=G.slots p.mask-1)):=by unfold b9out;rw[hb2]
   rw[hb2];refine J.q hX λ_=>?_;refine J.cb hX (f6_SlotsG p.mask) [] ?_;refine cpq ⟨_,rfl,trivial,?_⟩;refine J.q hX λ_=>?_;exact J.goto [0,1,2,3] (hj ()) ⟨congrArg (λb=>some (Value.bool b)) hC.symm,rfl,rfl,rfl,trivial⟩ rfl rfl
  ·have hb2:(!S.may p||p.kind !=2)=true:=by rwa [Bool.not_eq_false']at hb
   have hC:b9out p n=true:=by unfold b9out;rw[hb2];rfl
   rw[hb2];refine J.q hX λb5=>?_;refine J.val hX (.int .i64 0) 0 rfl rfl (λhg a w he hw=>by simp[G.on]at hg) rfl trivial ?_;refine J.q hX λ_=>?_;exact J.goto [0,1,2,3] (hj ()) ⟨congrArg (λb=>some (Value.bool b)) (show _=b9out p n from by rw[hC];rfl),rfl,rfl,rfl,trivial⟩ rfl rfl
 refine J.q hX λ_=>?_;refine J.cond rfl (λh1=>?_) (λh1=>?_)
 ·have hB:=b9out_back hl h1;refine J.q hX λ_=>?_;refine J.ru hX [1] ?_;rw[back_no hB,hB];exact⟨rfl,rfl⟩
 simp only[b9out,Bool.or_eq_false_iff,Bool.not_eq_false',bne_eq_false_iff_eq]at h1;obtain⟨⟨hmp,hkp⟩,hln⟩:=h1;refine J.q hX λb5=>?_;refine J.lo (α:=Nat) (λk=>k<=n/\∀o∈l.take k,alien9 p o=false) (λk=>[⟨7, .int .i64 k,0, .tt⟩,⟨6, .pointer (some ⟨b5 0,0,none⟩),5, .tt⟩,⟨1,slv a n c,0, .tt⟩,⟨2, .pointer (some ⟨bb 0,0,none⟩),3, .tt⟩,⟨4, .pointer (some ⟨bb (0+1),0,none⟩),4, .tt⟩]) [4] (λk=>[.pt (b5 0) 132 (shL ((l.take k).foldl F9.over p))]) (λk=>n-k) (0) (⟨Nat.zero_le _,by simp⟩) rfl ?_ (λ_=>rfl) λk hI=>?_
 ·rfl
 obtain⟨hk,hal⟩:=hI;refine J.q hX λ_=>?_;refine J.cond rfl (λh2=>?_) (λh2=>?_)
 ·simp only[decide_eq_true_eq,Int.ofNat_lt]at h2;obtain⟨o,ho⟩:∃o,l[k]? =some o:=⟨_,List.getElem?_eq_getElem (by omega)⟩;have hod:=hd o (List.mem_of_getElem? ho);refine J.know (λh' s=>own_some (c:=(a,c)) (by omega) (s.get (i:=1) rfl)) λhg=>?_;obtain⟨g,rfl⟩:=hg;have hts:l.take (k+1)=l.take k++[o]:=by rw[List.take_add_one,ho];rfl
  have hfold:(l.take (k+1)).foldl F9.over p=F9.over ((l.take k).foldl F9.over p) o:=by rw[hts,List.foldl_append];rfl
  have hfl:((l.take k).foldl F9.over p).data.length=16:=by
   have:∀(l:List Sh) (q:Sh),(∀s∈l,s.data.length=16)->q.data.length=16->(l.foldl F9.over q).data.length=16:=by
    intro l
    induction l with
    | nil=>intro q _ h;exact h
    | cons x l ih=>intro q hd h;exact ih _ (λt ht=>hd t (by simp[ht])) (mix_len h (hd x (by simp)) 16 (by omega))
   exact this _ _ (λs hs=>hd s (List.mem_of_mem_take hs)) hp
  generalize(l.take k).foldl F9.over p=q at hfold hfl;refine J.q hX λ_=>?_;refine J.val hX (shV o) 0 rfl rfl (λhg a w he hw=>?_) rfl trivial ?_
  ·exact ownN_run tk rfl rfl he rfl rfl rfl (hw.get (i:=1) rfl) (by rw[show 0+(k:Int).toNat*23=k*23 from by omega];exact cellsS_get ho) rfl
  refine J.q hX λ_=>?_;refine J.cb hX (f9_May o hod) [] ?_;refine cpq ⟨_,rfl,trivial,?_⟩;refine J.q hX λ_=>?_;refine J.cond rfl (λh3=>?_) (λh3=>?_)
  ·have hB:W.backB p l=false:=by
    have ha:W.alien p o=true:=by rw[<- alien9_eq];exact h3
    unfold W.backB;rw[List.any_eq_true.2 ⟨o,List.mem_of_getElem? ho,ha⟩];simp
   refine J.q hX λ_=>?_;refine J.ru hX [1] ?_;rw[back_no hB,hB];exact⟨rfl,rfl⟩
  ·have h3:alien9 p o=false:=h3;refine J.q hX λ_=>?_;refine J.cb hX (f9_over q o hfl hod) [] ?_;refine cpq ⟨_,rfl,trivial,?_⟩;rw[<- hfold];refine J.q hX λ_=>?_;refine J.nS (k+1) (⟨by omega,λt ht=>by
    rw[hts]at ht;rcases List.mem_append.1 ht with h | h
    ·exact hal t h
    ·rw[List.mem_singleton.1 h];exact h3⟩) (by omega) [0,1,2,3,4] rfl rfl
 simp only[decide_eq_false_iff_not,Int.ofNat_lt]at h2;have htk:l.take k=l:=List.take_of_length_le (by omega);rw[htk]at hal ⊢;have hnum:∀s∈l,Num9 s:=λs hs=>may_num9 (by
  have h:=hal s hs;simp only[alien9,Bool.or_eq_false_iff,Bool.not_eq_false']at h;exact h.1.1.1.1) (hd s hs)
 have hq:=fold_back p l (may_num9 hmp hp) hnum;have hqd:=(fold_num9 l p (may_num9 hmp hp) hnum).1.data;have hany:l.any (W.alien p)=false:=by
  rw[List.any_eq_false];intro o ho;rw[<- alien9_eq,hal o ho];decide
 have hB:W.backB p l=W.ok p.block p.row p.mask (l.foldl F9.over p).en:=by
  unfold W.backB;rw[hkp,hmp,hany,decide_eq_true (by rw[hl];exact hln),hq];simp
 generalize l.foldl F9.over p=q at hq hqd hB;refine J.q hX λ_=>?_;refine J.cb hX (f9_Own p.block p.row p.mask q.en hqd) [] ?_;refine cpq ⟨_,rfl,trivial,?_⟩;rw[<- hB];refine J.q hX λ_=>?_;refine J.cond rfl (λh4=>?_) (λh4=>?_)
 ·have h4:W.backB p l=false:=by simpa using h4
  refine J.q hX λ_=>?_;refine J.ru hX [1] ?_;rw[back_no h4,h4];exact⟨rfl,rfl⟩
 ·have h4:W.backB p l=true:=by simpa using h4
  have hbk:W.back p l=q.en:=by unfold W.back;rw[if_pos h4,hq]
  refine J.q hX λ_=>?_;refine J.ru hX [1] ?_;rw[hbk,h4];exact⟨rfl,rfl⟩
theorem look_slot (N:Nand) (b r m:Int) {i:Nat} (h:i<(G.slots m).toNat):(R.look N b r m).slots[i]? =some (R.one N b r m (G.die m b r i)).1/\(R.look N b r m).good.getD i false=(R.one N b r m (G.die m b r i)).2:=by
 unfold R.look R.ones;simp[List.getD_eq_getElem?_getD,h]
theorem f9_mended (p:Nat) (N:Nand) (hN:N.Ok) (hR:N.Room) (b r m:Int) (k:Nat) (hk:k<1000000):Fn Tryz.prog 80 [.pointer (some ⟨p,0,none⟩), .int .i64 b, .int .i64 r, .int .i64 m, .int .i64 k] [NandA p N]
  (λv As=>v= .tuple #[enV (R.mend (R.look N b r m) k), .bool (R.mendB (R.look N b r m) k)]/\As=[NandA p N]):=by
 have hG:=gslots_bd m;obtain⟨hsl,hgl⟩:=look_len N b r m;obtain⟨hsd,hpd⟩:=look_data hN b r m;have hslot:=λi (h:i<(G.slots m).toNat)=>look_slot N b r m h;have hwh:(R.one N b r m (G.parity m b r))=((R.look N b r m).parity,(R.look N b r m).whole):=rfl;obtain⟨f,hf⟩:∃f,R.look N b r m=f:=⟨_,rfl⟩;rw[hf]at hsl hgl hsd hpd hslot hwh ⊢;obtain⟨n,hn⟩:=Int.eq_ofNat_of_zero_le hG.1;have hnt:(G.slots m).toNat=n:=by omega
 rw[hnt]at hsl hgl hslot;refine Fn.enter [2,0,0,0,0] Tryz.func80 rfl rfl rfl λX F hX=>?_;refine J.turn1 [] rfl (As:=[ownA 132 23 none 0 0 (cellsS (othN f.slots k 0))]) (λh s=>Sep.one ⟨rfl,rfl,rfl⟩) rfl ?_;refine J.q hX λbb=>?_;refine J.cb hX (f6_Parity m b r) [] ?_;refine cpq ⟨_,rfl,trivial,?_⟩;refine J.q hX λ_=>?_;refine J.cb hX (f9_one p N hN hR b r m (G.parity m b r)) [1] ?_;refine cpq ⟨_,rfl,trivial,?_⟩;rw[hwh];refine J.q hX λb12=>?_;refine J.lo (α:=(Nat×Bool×Option Nat×Nat)) (λz=>z.1<=n/\z.2.1=(f.whole&&(List.range z.1).all λi=>i==k||f.good.getD i false)) (λz=>[⟨15, .int .i64 z.1,0, .tt⟩,⟨14,slv z.2.2.1 (othN f.slots k z.1).length z.2.2.2,0, .tt⟩,⟨13, .bool z.2.1,0, .tt⟩,⟨12, .pointer (some ⟨b12 0,0,none⟩),5, .tt⟩,⟨10, .pointer (some ⟨bb 0,0,none⟩),4, .tt⟩,⟨11, .bool false,0, .tt⟩,⟨0, .pointer (some ⟨p,0,none⟩),2, .tt⟩,⟨1, .int .i64 b,0, .tt⟩,⟨2, .int .i64 r,0, .tt⟩,⟨3, .int .i64 m,0, .tt⟩,⟨4, .int .i64 k,0, .tt⟩]) [2] (λz=>[ownA 132 23 z.2.2.1 (othN f.slots k z.1).length z.2.2.2 (cellsS (othN f.slots k z.1))]) (λz=>n-z.1) ((0,f.whole,none,0)) (⟨Nat.zero_le _,by simp⟩) rfl ?_ (λ_=>rfl) λz hI=>?_
 ·rfl
 obtain⟨i,ob,a,c⟩:=z;dsimp only at hI ⊢;obtain⟨hi,hob⟩:=hI;have hol:=othN_len f.slots k i;refine J.q hX λ_=>?_;refine J.cb hX (f6_SlotsG m) [] ?_;refine cpq ⟨_,rfl,trivial,?_⟩;rw[hn];refine J.q hX λ_=>?_;refine J.cond rfl (λh1=>?_) (λh1=>?_)
 ·simp only[decide_eq_true_eq,Int.ofNat_lt]at h1;obtain⟨q1,q2⟩:=hslot i h1;refine J.q hX λ_=>?_;refine J.cb hX (f6_Die m b r i) [] ?_;refine cpq ⟨_,rfl,trivial,?_⟩;refine J.q hX λ_=>?_;refine J.cb hX (f9_one p N hN hR b r m (G.die m b r i)) [1] ?_;refine cpq ⟨_,rfl,trivial,?_⟩;generalize R.one N b r m (G.die m b r i)=x at q1 q2;obtain⟨s,g⟩:=x;refine J.q hX λb12=>?_;refine J.cond rfl (λh2=>?_) (λh2=>?_)
  ·simp only[bne_iff_ne,ne_eq,Int.natCast_inj]at h2;have hsn:=othN_ne f.slots k i s q1 h2;have hob2:(ob&&g)=(f.whole&&(List.range (i+1)).all λi=>i==k||f.good.getD i false):=by
    rw[List.range_succ,List.all_append,<- Bool.and_assoc,<- hob];congr 1;rw[List.all_cons,List.all_nil,Bool.and_true,beq_eq_false_iff_ne.2 h2,Bool.false_or,q2]
   refine J.q hX λ_=>?_;refine J.append hX tk 2 6 0 rfl rfl rfl rfl rfl rfl rfl rfl rfl rfl rfl rfl rfl rfl rfl rfl ?_ ?_ (λ_=>rfl) λa4 c4=>⟨_,(congrArg (λz=>lset _ 2 (ownA _ _ _ _ _ z)) ((cellsS_snoc _ _).symm.trans (congrArg cellsS hsn.symm))).trans rfl,trivial,?_⟩
   ·simp only[maxLen];omega
   ·omega
   rw[show(othN f.slots k i).length+1=(othN f.slots k (i+1)).length from by rw[hsn];simp];refine J.q hX λ_=>?_;refine J.nS ((i+1,ob&&g,a4,c4)) (⟨by dsimp only;omega,hob2⟩) (by dsimp only;omega) [0,1,2,3,4] rfl rfl
  ·simp only[bne_eq_false_iff_eq,Int.natCast_inj]at h2;have hsn:othN f.slots k (i+1)=othN f.slots k i:=by rw[<- h2];exact othN_eq f.slots i (by omega)
   have hob2:ob=(f.whole&&(List.range (i+1)).all λi=>i==k||f.good.getD i false):=by
    rw[List.range_succ,List.all_append,<- Bool.and_assoc,<- hob,List.all_cons,List.all_nil,Bool.and_true,h2];simp
   rw[<- hsn];refine J.q hX λ_=>?_;refine J.nS ((i+1,ob,a,c)) (⟨by dsimp only;omega,hob2⟩) (by dsimp only;omega) [0,1,2,3,4] rfl rfl
 simp only[decide_eq_false_iff_not,Int.ofNat_lt]at h1;obtain rfl:i=n:=by omega
 have hoe:othN f.slots k i=f.slots.eraseIdx k:=by unfold othN;rw[List.take_of_length_le (by omega)]
 have hrest:ob=(R.rest f k&&f.whole):=by rw[hob,Bool.and_comm];unfold R.rest;rw[hsl]
 rw[hoe];refine J.q hX λ_=>?_;refine J.cond rfl (λh3=>?_) (λh3=>?_)
 ·have h3:ob=false:=by simpa using h3
  rw[h3]at hrest;have m1:R.mendB f k=false:=by unfold R.mendB;rw[<- hrest];rfl
  have m2:R.mend f k=En.zero:=by unfold R.mend;rw[<- hrest];rfl
  refine J.q hX λ_=>?_;refine J.ru hX [1] ?_;rw[m1,m2];exact⟨rfl,rfl⟩
 ·have h3:ob=true:=by simpa using h3
  rw[h3]at hrest;have m1:R.mendB f k=W.backB f.parity (f.slots.eraseIdx k):=by unfold R.mendB;rw[<- hrest];rfl
  have m2:R.mend f k=W.back f.parity (f.slots.eraseIdx k):=by unfold R.mend;rw[<- hrest];rfl
  refine J.q hX λ_=>?_;refine J.cb hX (f9_Back f.parity hpd a (f.slots.eraseIdx k).length c (f.slots.eraseIdx k) rfl (λs hs=>hsd s (List.mem_of_mem_eraseIdx hs))) [2] ?_;refine cpq ⟨_,rfl,trivial,?_⟩;rw[<- m1,<- m2];refine J.q hX λ_=>?_;exact J.ru hX [1] ⟨rfl,rfl⟩
theorem f9_Read (p:Nat) (N:Nand) (hN:N.Ok) (hR:N.Room) (hoff:N.off=false) (b r s m:Int):Fn Tryz.prog 34 [.pointer (some ⟨p,0,none⟩), .agg #[.int .i64 b, .int .i64 r, .int .i64 s], .int .i64 m] [NandA p N]
  (λv As=>v= .tuple #[enV (R.read N b r s m).1, .int .i64 (R.read N b r s m).2]/\As=[NandA p N]):=by
 refine Fn.enter [2,0,0] Tryz.func34 rfl rfl rfl λX F hX=>?_;refine J.q hX λ_=>?_;refine J.cb hX (f6_Die m b r s) [] ?_;refine cpq ⟨_,rfl,trivial,?_⟩;refine J.q hX λ_=>?_;refine J.plan (.of [0,4,8,12,20,25,28,33,36,18,42,44,48]) [] [2] (by rw[hX.hP];kernel_rfl) (by kernel_rfl) ?_;refine J.q hX λ_=>?_;refine J.gcase hX rfl rfl rfl ⟨rfl,trivial⟩ (λhb=>?_) (λhb=>?_)
 ·have hb2:decide (G.die m b r s<0)=false:=by rwa [Bool.not_eq_true']at hb
  rw[hb2];refine J.q hX λ_=>?_;refine J.cb hX (n_Geo p N) [1] ?_;refine cpq ⟨_,rfl,⟨rfl,trivial⟩,?_⟩;refine J.q hX λ_=>?_;refine J.cb hX (f6_In N.dies N.blocks N.pages 0 b r) [] ?_;refine cpq ⟨_,rfl,⟨rfl,trivial⟩,?_⟩;refine J.q hX λ_=>?_;refine J.cond rfl (λh2=>?_) (λh2=>?_)
  ·refine J.q hX λ_=>?_;refine J.ru hX [1] ?_;have:G.die m b r s<0\/geoIn N.dies N.blocks N.pages 0 b r=false:= .inr (by simpa using h2);rw[R.read,if_pos this];exact⟨rfl,rfl⟩
  have hd0:¬G.die m b r s<0:=of_decide_eq_false hb2;have hc:¬(G.die m b r s<0\/geoIn N.dies N.blocks N.pages 0 b r=false):=by
   rintro(h | h)
   ·exact hd0 h
   ·rw[h]at h2;simp at h2
  have hd:=die_lt (m:=m) (b:=b) (r:=r) (s:=s) (by omega);have hsb:=gslots_bd m;obtain⟨k,rfl⟩:=Int.eq_ofNat_of_zero_le hd.1;have hk:k<(G.slots m).toNat:=by omega
  obtain⟨q1,q2⟩:=look_slot N b r m hk;have hsl:(R.look N b r m).slots.getD k Sh.zero=(R.one N b r m (G.die m b r k)).1:=by rw[List.getD_eq_getElem?_getD,q1];rfl
  have hrd:R.read N b r k m=if(R.one N b r m (G.die m b r k)).2 then((R.one N b r m (G.die m b r k)).1.en,0)else if R.mendB (R.look N b r m) k then(R.mend (R.look N b r m) k,0)else(En.zero,10):=by
   unfold R.read;rw[if_neg hc,hoff,if_neg (by decide),Int.toNat_natCast,q2,hsl]
  refine J.q hX λ_=>?_;refine J.cb hX (f9_one p N hN hR b r m (G.die m b r k)) [1] ?_;refine cpq ⟨_,rfl,trivial,?_⟩;generalize R.one N b r m (G.die m b r k)=x at hrd;obtain⟨sx,gx⟩:=x;refine J.q hX λ_=>?_;refine J.cond rfl (λh3=>?_) (λh3=>?_)
  ·have h3:gx=true:=h3;refine J.q hX λ_=>?_;refine J.cb hX (f9_entry sx) [] ?_;refine cpq ⟨_,rfl,trivial,?_⟩;refine J.q hX λ_=>?_;refine J.ru hX [1] ?_;rw[hrd,h3];exact⟨rfl,rfl⟩
  have h3:gx=false:=h3;subst h3;rw[if_neg (by simp)]at hrd;refine J.q hX λ_=>?_;refine J.cb hX (f9_mended p N hN hR b r m k (by omega)) [1] ?_;refine cpq ⟨_,rfl,trivial,?_⟩;generalize R.mendB (R.look N b r m) k=mb at hrd;generalize R.mend (R.look N b r m) k=me at hrd;refine J.q hX λ_=>?_;refine J.cond rfl (λh4=>?_) (λh4=>?_)
  ·have h4:mb=false:=by simpa using h4
   subst h4;refine J.q hX λ_=>?_;refine J.ru hX [1] ?_;rw[hrd];exact⟨rfl,rfl⟩
  ·have h4:mb=true:=by simpa using h4
   subst h4;refine J.q hX λ_=>?_;refine J.ru hX [1] ?_;rw[hrd];exact⟨rfl,rfl⟩
 ·have hb2:decide (G.die m b r s<0)=true:=by rwa [Bool.not_eq_false']at hb
  rw[hb2];refine J.q hX λ_=>?_;refine J.gcase hX rfl rfl rfl ⟨rfl,trivial⟩ (λhb=>by simp at hb) (λhb=>?_);refine J.q hX λ_=>?_;refine J.valT hX (.bool false) 0 rfl rfl (λhg a w he hw=>by simp[G.on]at hg) rfl ?_;refine J.q hX λ_=>?_;refine J.cond rfl (λh2=>?_) (λh2=>?_)
  ·refine J.q hX λ_=>?_;refine J.ru hX [1] ?_;have:G.die m b r s<0\/geoIn N.dies N.blocks N.pages 0 b r=false:= .inl (of_decide_eq_true hb2);rw[R.read,if_pos this];exact⟨rfl,rfl⟩
  ·simp at h2
theorem l18_alike (l s1 s2 r:Int) (d:List UInt8) (hd:d.length=16):Fn Tryz.prog 35 [enV ⟨l,s1,r,d⟩,enV ⟨l,s2,r,d⟩] [] (λv As=>v= .bool true/\As=[]):=by
 refine Fn.enter [0,0] Tryz.func35 rfl rfl rfl λX F hX=>?_;refine J.qn hX 13 λ_=>?_;rw[beqI l];refine J.qn hX 6 λ_=>?_;rw[beqI r];refine J.qn hX 6 λ_=>?_;refine J.val hX (.bool true) 0 rfl rfl (λhg a w he hw=>(eqAgg_run (xs:=dataC d) (ys:=dataC d) rfl rfl rfl he rfl rfl leavesD (fitsD _) (fitsD _) mkD gdD).trans (by rw[eqD _ _ hd hd,decide_eq_true rfl])) rfl trivial ?_;refine J.q hX λ_=>?_;exact J.ru hX [] ⟨rfl,rfl⟩
theorem umapE:Tryz.prog.underlying 60=some (.map 3 38):=by kernel_rfl
def wM (l:List (Int×En)):List (Int×Value):=l.map λx=>(x.1,enV x.2)
theorem aput_wM (l:List (Int×En)) (k:Int) (v:En):aput (wM l) k (enV v)=wM (Tb.put1 l k v):=aput_map enV k v l
theorem wM_get {l:List (Int×En)} {j:Nat} {y:Int×Value} (h:(wM l)[j]? =some y):∃x∈l,y=(x.1,enV x.2):=by
 unfold wM at h;rw[List.getElem?_map]at h;cases hx:l[j]? with
 | none=>rw[hx]at h;cases h
 | some x=>rw[hx]at h;injection h with h;exact⟨x,List.mem_of_getElem? hx,h.symm⟩
structure Sts (N:Nand) (T:Tb) (W:List (Int×En)):Prop where
 each:∀x∈W,∃a y,Tb.look T.at_ x.1=some a/\R.read N a.block a.row a.slot a.mask=(y,0)/\y.lpn=x.2.lpn/\y.role=x.2.role/\y.data=x.2.data/\y.seq=a.seq/\y.data.length=16
 len:T.at_.length=W.length
theorem l18_stands (n l b:Nat) (N:Nand) (hN:N.Ok) (hR:N.Room) (hoff:N.off=false) (T:Tb) (W:List (Int×En)) (h:Sts N T W):Fn Tryz.prog 31 [.pointer (some ⟨n,0,none⟩), .pointer (some ⟨l,0,none⟩), .map (some b)] [NandA n N,TbA l T,mapA b kI (wM W)]
  (λv As=>v= .bool true/\As=[NandA n N,TbA l T,mapA b kI (wM W)]):=by
 have hlen:(wM W).length=W.length:=by unfold wM;rw[List.length_map]
 refine Fn.enter [2,3,4] Tryz.func31 rfl rfl rfl λX F hX=>?_;refine J.q hX λ_=>?_;refine J.rangeMap hX 3 umapE rfl rfl rfl rfl rfl rfl rfl (λ_=>rfl) (λ_=>rfl) λr=>⟨trivial,?_⟩;refine J.q hX λ_=>?_;refine J.lo (α:=(List Nat)) (λz=>True) (λz=>[⟨14, .pointer (some ⟨r,0,none⟩),0, .tt⟩,⟨0, .pointer (some ⟨n,0,none⟩),2, .tt⟩,⟨1, .pointer (some ⟨l,0,none⟩),3, .tt⟩,⟨2, .map (some b),4, .tt⟩]) [3] (λz=>[itA b r kI (wM W) z]) (λz=>W.length-z.length) ([]) (trivial) rfl ?_ (λ_=>rfl) λz hI=>?_
 ·rfl
 refine J.q hX λ_=>?_;refine J.know (p:=z.Nodup/\∀i∈z,i<W.length) (λh s=>?_) λhk=>?_
 ·obtain⟨_,_,_,_,_,_,_,_,h1,h2,_⟩:=s.get (i:=3) rfl;exact⟨h1,λi hi=>by have:=h2 i hi;omega⟩
 have hle:=nodup_le _ _ hk.1 hk.2;refine J.rangeNext hX 3 rfl rfl rfl rfl rfl rfl rfl (λ_=>rfl) (λ_=>rfl) (λhp=>⟨trivial,?_⟩) (λj y hj hy=>⟨trivial,?_⟩)
 ·refine J.q hX λ_=>?_;refine J.cF ?_;refine J.turn1 [3] rfl (As:=[mapA b kI (wM W)]) (λh s=>it_map s) rfl ?_;refine J.q hX λ_=>?_;refine J.cb hX (tb_Len l T) [2] ?_;refine cpq ⟨_,rfl,trivial,?_⟩;rw[h.len];refine J.q hX λ_=>?_;refine J.val hX (.int .i64 W.length) 0 rfl rfl (λhg a w he hs=>?_) rfl trivial ?_
  ·refine(len_map_run umapE rfl rfl he rfl (hs.get (i:=3) rfl)).trans ?_;rw[hlen]
  refine J.qn hX 2 λ_=>?_;rw[beqI];refine J.q hX λ_=>?_;exact J.ru hX [1,2,3] ⟨rfl,rfl⟩
 ·obtain⟨x,hx,rfl⟩:=wM_get hy;obtain⟨a,e,e1,e2,e3,e4,e5,e6,e7⟩:=h.each x hx;obtain⟨kx,lx,sx,rx,dx⟩:=x;obtain⟨le,se,re,de⟩:=e;dsimp only at e3 e4 e5 e6 e7;subst e3 e4 e5 e6;have hjl:j<W.length:=by have:=(List.getElem?_eq_some_iff.1 hy).1;omega
  refine J.q hX λ_=>?_;refine J.cT ?_;refine J.q hX λ_=>?_;have hlt:(z++[j]).length<=W.length:=nodup_le _ _ (by
   rw[List.nodup_append];exact⟨hk.1,by simp,λa ha b hb=>by simp at hb;subst hb;rintro rfl;exact hj ha⟩) (λi hi=>by
   rw[List.mem_append]at hi;rcases hi with hi | hi
   ·exact hk.2 i hi
   ·simp at hi;subst hi;exact hjl)
  rw[List.length_append,List.length_singleton]at hlt;refine J.rangeEntry hX 3 rfl rfl rfl rfl rfl rfl rfl hy rfl ⟨trivial,?_⟩;refine J.q hX λ_=>?_;refine J.cb hX (tb_Get l T kx) [2] ?_;refine cpq ⟨_,rfl,trivial,?_⟩;rw[e1,Option.getD_some,Option.isSome_some];refine J.q hX λ_=>?_;refine J.cF ?_;refine J.q hX λ_=>?_;refine J.cb hX (f9_Read n N hN hR hoff a.block a.row a.slot a.mask) [1] ?_;refine cpq ⟨_,rfl,trivial,?_⟩;rw[e2];dsimp only;refine J.q hX λ_=>?_;refine J.cb hX (l18_alike le a.seq sx re de e7) [] ?_;refine cpq ⟨_,rfl,trivial,?_⟩;refine J.qn hX 8 λ_=>?_;rw[ne_selfI a.seq];refine J.q hX λ_=>?_;refine J.cF ?_;refine J.q hX λ_=>?_;refine J.nS ((z++[j])) (trivial) (by simp only[List.length_append,List.length_singleton];omega) [0,1,2,3] rfl rfl
theorem Hd.sts {S:Dv} {W:List (Int×En)} (h:Hd S W) (hT:S.T.Ok):Sts S.N S.T W:=by
 have hnd:(W.map (·.1)).Nodup:=by rw[<- h.keys];exact hT.keys
 refine⟨λx hx=>?_,?_⟩
 ·obtain⟨h1,a,h2,h3⟩:=h.each x.1 x.2 (look_in hnd x hx);exact⟨a,_,h2,h3,rfl,rfl,rfl,rfl,h1⟩
 ·have:=congrArg List.length h.keys;simpa using this
end Go.Proofs.YtdocmcapegcoeaaGreat
