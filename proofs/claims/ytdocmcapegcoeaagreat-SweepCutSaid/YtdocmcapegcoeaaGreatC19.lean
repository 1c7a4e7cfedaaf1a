/- Helpers, proved here. No condition. -/
import Derived.Test.YtdocmcapegcoeaaGreatC06
import Derived.Test.YtdocmcapegcoeaaGreatC09
import Derived.Test.YtdocmcapegcoeaaGreatC10
import Derived.Test.YtdocmcapegcoeaaGreatC15
import Derived.Test.YtdocmcapegcoeaaGreatC16
set_option maxRecDepth 20000
set_option linter.all false
namespace Go.Proofs.YtdocmcapegcoeaaGreat
namespace Bt
theorem byte_bit:∀b0 b1 b2 b3 b4 b5 b6 b7:Bool,∀i:Fin 8,(b0.toNat*128+b1.toNat*64+b2.toNat*32+b3.toNat*16+b4.toNat*8+b5.toNat*4+b6.toNat*2+b7.toNat).testBit (7-i.1)=[b0,b1,b2,b3,b4,b5,b6,b7].getD i.1 false:=by decide+kernel
theorem byte_bit2 (b0 b1 b2 b3 b4 b5 b6 b7:Bool) (i:Nat) (hi:i<8):(b0.toNat*128+b1.toNat*64+b2.toNat*32+b3.toNat*16+b4.toNat*8+b5.toNat*4+b6.toNat*2+b7.toNat).testBit (7-i)=[b0,b1,b2,b3,b4,b5,b6,b7].getD i false:=byte_bit b0 b1 b2 b3 b4 b5 b6 b7 ⟨i,hi⟩
theorem byteAt_bit (l:List Bool) (q i:Nat) (hi:i<8):(byteAt l q).testBit (7-i)=l.getD (q+i) false:=by
 unfold byteAt;rw[byte_bit2 _ _ _ _ _ _ _ _ i hi]
 match i,hi with
 | 0,_=>rfl
 | 1,_=>rfl
 | 2,_=>rfl
 | 3,_=>rfl
 | 4,_=>rfl
 | 5,_=>rfl
 | 6,_=>rfl
 | 7,_=>rfl
theorem bitAt_pack (l:List Bool) (j:Nat) (h:j<l.length):bitAt (pack l) j=l.getD j false:=by
 have h1:(pack l).getD (j/8) 0=UInt8.ofNat (byteAt l (8*(j/8))):=by
  rw[List.getD_eq_getElem?_getD,pack_get l (j/8) (by omega)];rfl
 have h2:(UInt8.ofNat (byteAt l (8*(j/8)))).toNat=byteAt l (8*(j/8)):=by
  rw[UInt8.toNat_ofNat',Nat.mod_eq_of_lt (byteAt_lt l _)]
 unfold bitAt;rw[h1,h2,byteAt_bit l _ _ (Nat.mod_lt _ (by omega)),Nat.div_add_mod]
theorem numAt_eq (b:List UInt8) (k w u:Nat) (h:∀i<w,bitAt b (k+i)=u.testBit (w-1-i)):∀v,v<=w->numAt b k v=u/2^(w-v) % 2^v
 | 0,_=>by simp[numAt,Nat.mod_one]
 | v+1,hv=>by
  rw[numAt,numAt_eq b k w u h v (by omega),h v (by omega),Nat.testBit_eq_decide_div_mod_eq];have e1:w-v=(w-1-v)+1:=by omega
  have e2:w-(v+1)=w-1-v:=by omega
  rw[e1,e2,Nat.pow_succ,<- Nat.div_div_eq_div_mul,Nat.pow_succ 2 v,Nat.mul_comm (2^v) 2,Nat.mod_mul];generalize u/2^(w-1-v)=x;rcases Nat.mod_two_eq_zero_or_one x with hx | hx
  ·rw[hx];simp
  ·rw[hx];simp[Nat.add_comm]
theorem numAt_pack (A B:List Bool) (u w k:Nat) (hk:A.length=k):numAt (pack (A++(bits u w++B))) k w=u % 2^w:=by
 have:=numAt_eq (pack (A++(bits u w++B))) k w u (λi hi=>by
  have hb:(bits u w).length=w:=length_bits u w;rw[bitAt_pack _ _ (by simp[hb];omega),List.getD_eq_getElem?_getD,List.getElem?_append_right (by omega),hk,Nat.add_sub_cancel_left,List.getElem?_append_left (by omega)];simp[bits,hi]) w (Nat.le_refl _)
 rw[this,Nat.sub_self,Nat.pow_zero,Nat.div_one]
end Bt
namespace S
def hdL (M b r m k c:Nat):List Bool:=Bt.bits M 64++(Bt.bits b 8++(Bt.bits r 8++(Bt.bits m 8++(Bt.bits k 8++Bt.bits c 32))))
theorem hdL_eq (s:Sh) (c:Nat):head s++Bt.bits c 32=hdL (meta_ s.role s.lpn s.seq) s.block.toNat s.row.toNat s.mask.toNat s.kind.toNat c:=by
 unfold head hdL;generalize meta_ s.role s.lpn s.seq=M;simp only[List.append_assoc]
theorem hd1 (M b r m k c:Nat):Bt.numAt (Bt.pack (hdL M b r m k c)) 0 64=M % 2^64:=Bt.numAt_pack [] _ M 64 0 rfl
theorem hd2 (M b r m k c:Nat):Bt.numAt (Bt.pack (hdL M b r m k c)) 64 8=b % 2^8:=Bt.numAt_pack (Bt.bits M 64) _ b 8 64 (Bt.length_bits _ _)
theorem hd3 (M b r m k c:Nat):Bt.numAt (Bt.pack (hdL M b r m k c)) 72 8=r % 2^8:=by
 have:=Bt.numAt_pack (Bt.bits M 64++Bt.bits b 8) (Bt.bits m 8++(Bt.bits k 8++Bt.bits c 32)) r 8 72 (by rw[List.length_append,Bt.length_bits,Bt.length_bits]);rw[<- this,List.append_assoc];rfl
theorem hd4 (M b r m k c:Nat):Bt.numAt (Bt.pack (hdL M b r m k c)) 80 8=m % 2^8:=by
 have:=Bt.numAt_pack (Bt.bits M 64++(Bt.bits b 8++Bt.bits r 8)) (Bt.bits k 8++Bt.bits c 32) m 8 80 (by rw[List.length_append,List.length_append,Bt.length_bits,Bt.length_bits,Bt.length_bits]);rw[<- this,List.append_assoc,List.append_assoc];rfl
theorem hd5 (M b r m k c:Nat):Bt.numAt (Bt.pack (hdL M b r m k c)) 88 8=k % 2^8:=by
 have:=Bt.numAt_pack (Bt.bits M 64++(Bt.bits b 8++(Bt.bits r 8++Bt.bits m 8))) (Bt.bits c 32) k 8 88 (by rw[List.length_append,List.length_append,List.length_append,Bt.length_bits,Bt.length_bits,Bt.length_bits,Bt.length_bits]);rw[<- this,List.append_assoc,List.append_assoc,List.append_assoc];rfl
theorem meta_back (role lpn seq:Int) (h1:0<=role/\role<=255) (h2:0<=lpn/\lpn<=65535) (h3:0<=seq/\seq<=1099511627775):((meta_ role lpn seq/72057594037927936:Nat):Int)=role/\((meta_ role lpn seq/1099511627776 % 65536:Nat):Int)=lpn/\((meta_ role lpn seq % 1099511627776:Nat):Int)=seq:=by
 unfold meta_;refine⟨?_,?_,?_⟩<;>omega
theorem fields_put (s:Sh) (hd:s.data.length=16) (h:may s=true):fields (put s)=s:=by
 obtain⟨hb,hr,hm,hk⟩:=may_bounds s h;have hn:(0<=s.seq/\s.seq<=1099511627775)/\(0<=s.lpn/\s.lpn<=65535)/\(0<=s.role/\s.role<=255):=by
  simp only[may,numbers,inB,Bool.and_eq_true,decide_eq_true_eq]at h;omega
 obtain⟨k1,k2,k3⟩:=meta_back s.role s.lpn s.seq hn.2.2 hn.2.1 hn.1;have hM:=meta_lt s.role s.lpn s.seq;obtain⟨M,hMe⟩:∃M,meta_ s.role s.lpn s.seq=M:=⟨_,rfl⟩;obtain⟨c,hc⟩:∃c,K.sum (s.data++Bt.pack (head s))=c:=⟨_,rfl⟩;have hp:put s=s.data++Bt.pack (hdL M s.block.toNat s.row.toNat s.mask.toNat s.kind.toNat c):=by rw[put,hc,hdL_eq,hMe]
 rw[hMe]at k1 k2 k3 hM;have e1:(put s).take 16=s.data:=by rw[hp,<- hd,List.take_left]
 have e2:(put s).drop 16=Bt.pack (hdL M s.block.toNat s.row.toNat s.mask.toNat s.kind.toNat c):=by rw[hp,<- hd,List.drop_left]
 have m1:=hd1 M s.block.toNat s.row.toNat s.mask.toNat s.kind.toNat c;have m2:=hd2 M s.block.toNat s.row.toNat s.mask.toNat s.kind.toNat c;have m3:=hd3 M s.block.toNat s.row.toNat s.mask.toNat s.kind.toNat c;have m4:=hd4 M s.block.toNat s.row.toNat s.mask.toNat s.kind.toNat c;have m5:=hd5 M s.block.toNat s.row.toNat s.mask.toNat s.kind.toNat c;have f:∀x:Int,0<=x/\x<=255->((x.toNat % 2^8:Nat):Int)=x:=λx hx=>by
  rw[Nat.mod_eq_of_lt (by omega)];omega
 rw[Nat.mod_eq_of_lt (show M<2^64 from hM)]at m1;have f1:=f s.block ⟨hb.1,by omega⟩;have f2:=f s.row ⟨hr.1,by omega⟩;have f3:=f s.mask hm;have f4:=f s.kind ⟨by omega,by omega⟩;unfold fields;simp only[e1,e2,m1,m2,m3,m4,m5,k1,k2,k3,f1,f2,f3,f4]
theorem get_put (s:Sh) (hd:s.data.length=16) (h:may s=true):get (put s)=some s:=by
 unfold get;rw[fields_put s hd h,if_pos ⟨h,rfl⟩]
theorem getV_put (s:Sh) (hd:s.data.length=16) (h:may s=true):getV (put s)=s/\getE (put s)=0:=by
 unfold getV getE;rw[get_put s hd h];exact⟨rfl,rfl⟩
end S
end Go.Proofs.YtdocmcapegcoeaaGreat
namespace Go.Proofs.YtdocmcapegcoeaaGreat
open Go
def dieChk (M q:Nat):Bool:=
 let p:=L.at_ M q
 if q<L.count M then
  L.has M p&&decide (0<=p)&&decide (p<6)&&
  ((List.range (L.count M-1)).all λk=>let d:=L.at_ (L.without M p) (k:Nat);L.has M d&&d !=p&&decide (0<=d)&&decide (d<6)&&(List.range k).all λk'=>L.at_ (L.without M p) (k':Nat) !=d)&&
  ((List.range 6).all λd=>!L.has M (d:Nat)||((d:Nat):Int)==p||(List.range (L.count M-1)).any λk=>L.at_ (L.without M p) (k:Nat)==((d:Nat):Int))
 else true
theorem dieChk_all:∀M,M<64->∀q,q<6->dieChk M q=true:=by decide+kernel
theorem count_six:∀M,M<64->L.count (M:Nat)<=6:=by decide+kernel
structure DieFacts (m b r:Int):Prop where
 par:L.has m (G.parity m b r)=true/\0<=G.parity m b r/\G.parity m b r<6
 die:∀k:Nat,(k:Int)<G.slots m->L.has m (G.die m b r k)=true/\G.die m b r k≠G.parity m b r/\0<=G.die m b r k/\G.die m b r k<6
 inj:∀k k':Nat,(k:Int)<G.slots m->k'<k->G.die m b r k'≠G.die m b r k
 all:∀d:Nat,d<6->L.has m (d:Nat)=true->(d:Int)=G.parity m b r\/∃k:Nat,(k:Int)<G.slots m/\G.die m b r k=d
theorem dieFacts (m b r:Int) (h0:0<=m) (h1:m<64) (hc:2<=L.count m) (hb:0<=b) (hr:0<=r):DieFacts m b r:=by
 obtain⟨M,rfl⟩:=Int.eq_ofNat_of_zero_le h0;have hM:M<64:=by omega
 have hp:G.parity M b r=L.at_ M ((b+r) % L.count (M:Int)):=by unfold G.parity;rw[if_neg (by omega)]
 have hs:G.slots M=(L.count (M:Int):Int)-1:=by unfold G.slots;rw[if_neg (by omega)]
 have hq:0<=(b+r) % (L.count (M:Int):Int)/\(b+r) % (L.count (M:Int):Int)<L.count (M:Int):=⟨Int.emod_nonneg _ (by omega),Int.emod_lt_of_pos _ (by omega)⟩;obtain⟨q,hq2⟩:=Int.eq_ofNat_of_zero_le hq.1;have h6:=count_six M hM;have hchk:=dieChk_all M hM q (by omega);rw[hq2]at hp hq;unfold dieChk at hchk;rw[if_pos (by omega)]at hchk;simp only[<- hp]at hchk;simp only[Bool.and_eq_true,decide_eq_true_eq,List.all_eq_true,List.mem_range,bne_iff_ne,ne_eq,Bool.or_eq_true,List.any_eq_true,Bool.not_eq_true',beq_iff_eq]at hchk;obtain⟨⟨⟨⟨c1,c2⟩,c3⟩,c4⟩,c5⟩:=hchk;have hd:∀k:Nat,G.die M b r k=L.at_ (L.without M (G.parity M b r)) (k:Nat):=λk=>by unfold G.die;rw[if_neg (by omega)]
 refine⟨⟨c1,c2,c3⟩,λk hk=>?_,λk k' hk hkk=>?_,λd hd6 hh=>?_⟩
 ·obtain⟨⟨⟨⟨a1,a2⟩,a3⟩,a4⟩,_⟩:=c4 k (by omega);rw[hd];exact⟨a1,a2,a3,a4⟩
 ·obtain⟨_,a5⟩:=c4 k (by omega);rw[hd,hd];exact a5 k' hkk
 ·rcases c5 d hd6 with(h | h) | ⟨k,h,h'⟩
  ·rw[hh]at h;cases h
  ·exact .inl h
  ·exact .inr ⟨k,by omega,by rw[hd];exact h'⟩
theorem has_lt_pow {m:Int} {D d:Nat} (h:m<2^D) (hh:L.has m (d:Nat)=true):d<D:=by
 obtain⟨h1,h2,h3,h4⟩:=L.has_lt m d hh;obtain⟨M,rfl⟩:=Int.eq_ofNat_of_zero_le h3;simp only[L.has,Bool.and_eq_true,Int.toNat_natCast]at hh;rcases Nat.lt_or_ge d D with hlt | hge
 ·exact hlt
 ·have hM:M<2^D:=by
   have e:((2^D:Nat):Int)=2^D:=by simp
   omega
  have:M<2^d:=Nat.lt_of_lt_of_le hM (Nat.pow_le_pow_right (by omega) hge);rw[Nat.testBit_lt_two_pow this]at hh;simp at hh
namespace Nand
variable {N : Nand}
theorem geoIn_of {d b p x y z:Int} (h1:0<=x/\x<d) (h2:0<=y/\y<b) (h3:0<=z/\z<p):geoIn d b p x y z=true:=by
 simp[geoIn,h1,h2,h3]
end Nand
theorem nodup_map_range {α:Type} (n:Nat) (f:Nat->α) (h:∀k k',k<n->k'<k->f k'≠f k):((List.range n).map f).Nodup:=by
 rw[List.nodup_iff_pairwise_ne,List.pairwise_map,List.pairwise_iff_getElem];intro i j hi hj hij;simp only[List.getElem_range];exact h j i (by simpa using hj) hij
theorem mem_job {b r m:Int} {l:List En} {x:Int×Sh}:x∈R.job b r m l↔(∃k,k<l.length/\x=(G.die m b r (k:Nat),W.sh b r m (l.getD k En.zero)))\/x=(G.parity m b r,W.parS b r m l):=by
 simp only[R.job,List.mem_append,List.mem_map,List.mem_range,List.mem_singleton];constructor
 ·rintro(⟨k,h,rfl⟩ | rfl)
  ·exact .inl ⟨k,h,rfl⟩
  ·exact .inr rfl
 ·rintro(⟨k,h,rfl⟩ | rfl)
  ·exact .inl ⟨k,h,rfl⟩
  ·exact .inr rfl
theorem job_nodup {b r m:Int} {l:List En} (F:DieFacts m b r) (hl:(l.length:Int)=G.slots m):((R.job b r m l).map (·.1)).Nodup:=by
 rw[R.job,List.map_append,List.map_map];rw[List.nodup_append];refine⟨nodup_map_range _ _ λk k' hk hkk=>F.inj k k' (by omega) hkk,by simp,λx hx y hy=>?_⟩;simp only[List.mem_map,List.mem_range]at hx;obtain⟨k,hk,rfl⟩:=hx;simp only[List.map_cons,List.map_nil,List.mem_singleton]at hy;subst hy;exact(F.die k (by omega)).2.1
theorem parS_may {b r m:Int} {l:List En} (hB:W.parB b r m l=true):S.may (W.parS b r m l)=true:=by
 obtain⟨h1,h2,h3,h4⟩:=parB_len hB;obtain⟨e,he⟩:∃e,e∈l:=by
  cases l with
  | nil=>simp at h2
  | cons x l=>exact⟨x,by simp⟩
 have hok:=h4 e he;simp only[W.ok,S.may,Bool.and_eq_true]at hok;have hpl:S.place (W.parS b r m l)=true:=hok.1.1;have hov:∃M:Nat,(W.over (l.map (W.sh b r m))).2=M/\M<18446744073709551616:=over_nat (l.map (W.sh b r m)) (zeros16,0) ⟨by decide,by decide⟩;obtain⟨M,hM,hM2⟩:=hov;simp only[S.may,hpl,Bool.true_and,Bool.and_eq_true];refine⟨?_,by simp[W.parS]⟩;simp only[S.numbers,S.inB,W.parS,hM,Int.toNat_natCast,Bool.and_eq_true,decide_eq_true_eq];omega
theorem parS_len {b r m:Int} {l:List En} (hd:∀s∈l,s.data.length=16):(W.parS b r m l).data.length=16:=
 fold_len (λt ht=>by obtain⟨e,he,rfl⟩:=List.mem_map.1 ht;exact hd e he) _ rfl
theorem filterMap_same {α β:Type} {f g:α->Option β}:∀{l:List α},(∀x∈l,f x=g x)->l.filterMap f=l.filterMap g
 | [],_=>rfl
 | x::l,h=>by rw[List.filterMap_cons,List.filterMap_cons,h x (by simp),filterMap_same λy hy=>h y (by simp[hy])]
end Go.Proofs.YtdocmcapegcoeaaGreat
namespace Go.Proofs.YtdocmcapegcoeaaGreat
open Go.RowKit
set_option maxRecDepth 100000 in
theorem zig_1 (w:World):Calls Tryz.prog 299 #[.int .i64 (-1)] w λe w'=>e= .returned (.int .u64 1)/\w=w':=by
 go_enter Tryz.func299,Tryz.ntmps299
 go_wp2
 go_ret
 exact⟨by kernel_rfl,rfl⟩
set_option maxRecDepth 100000 in
theorem zag_1 (w:World):Calls Tryz.prog 300 #[.int .u64 1] w λe w'=>e= .returned (.int .i64 (-1))/\w=w':=by
 go_enter Tryz.func300,Tryz.ntmps300
 go_wp2
 go_ret
 exact⟨by kernel_rfl,rfl⟩
set_option maxRecDepth 100000 in
theorem narrow_1 (w:World):Calls Tryz.prog 301 #[.int .i64 255, .int .i64 8] w λe w'=>e= .returned (.int .i64 (-1))/\w=w':=by
 go_enter Tryz.func301,Tryz.ntmps301
 go_wp2
 go_ret
 exact⟨by kernel_rfl,rfl⟩
set_option maxRecDepth 100000 in
theorem narrow_2 (w:World):Calls Tryz.prog 301 #[.int .i64 1, .int .i64 0] w λe w'=>e= .returned (.int .i64 0)/\w=w':=by
 go_enter Tryz.func301,Tryz.ntmps301
 go_wp2
 go_ret
 exact⟨by kernel_rfl,rfl⟩
end Go.Proofs.YtdocmcapegcoeaaGreat
namespace Go.Proofs.YtdocmcapegcoeaaGreat
open Go Go.RowKit
def nk (k:Nat):Nat:=match k with | 0=>0 | _+1=>1
def vb (k:Nat):Int:=match k with | 0=>0 | 1=>128 | 2=>128 | _=>160
def vq (k:Nat):Int:=match k with | 0=>0 | _=>128
def vl (k:Nat):List Value:=match k with | 0=>[] | k+1=>[.int .u8 (vb (k+1))]
theorem b_may (n:Int):Fn Tryz.prog 190 [.int .i64 n] [] (λv As=>v= .bool (decide (n>=1)&&decide (n<=64))/\As=[]):=by
 refine Fn.enter [0] Tryz.func190 rfl rfl rfl λX F hX=>?_;refine J.q hX λ_=>?_;exact J.ru hX [] ⟨rfl,rfl⟩
theorem b_Put1 (g:Nat):Fn Tryz.prog 150 [.pointer (some ⟨g,0,none⟩), .int .u64 5, .int .i64 3] [.pt g 196 [.slice none 0 0, .int .i64 0]]
  (λv As=>v= .bool true/\∃a cap,As=[.pt g 196 [slv a 1 cap, .int .i64 3],ownA 5 1 a 1 cap [.int .u8 160]]):=by
 refine Fn.enter [2,0,0] Tryz.func150 rfl rfl rfl λX F hX=>?_;refine J.q hX λ_=>?_;refine J.cb hX (b_may 3) [] ?_;refine cpq ⟨_,rfl,trivial,?_⟩;refine J.q hX λ_=>?_;refine J.cF ?_;refine J.turn1 [] rfl (As:=[ownA 5 1 none 0 0 (vl 0)]) (λh s=>Sep.one ⟨rfl,rfl,rfl⟩) rfl ?_;refine J.q hX λ_=>?_;refine J.lo (α:=(Nat×Option Nat×Nat)) (λz=>z.1<=3) (λz=>[⟨7, .int .i64 (2-z.1),0, .tt⟩,⟨0, .pointer (some ⟨g,0,none⟩),2, .tt⟩,⟨1, .int .u64 5,0, .tt⟩]) [1,2] (λz=>[.pt g 196 [slv z.2.1 (nk z.1) z.2.2, .int .i64 z.1],ownA 5 1 z.2.1 (nk z.1) z.2.2 (vl z.1)]) (λz=>3-z.1) ((0,none,0)) (Nat.zero_le _) rfl ?_ (λ_=>rfl) λz hI=>?_
 ·rfl
 obtain⟨k,a,cap⟩:=z;dsimp only at hI ⊢;rcases(by omega:k=0\/k=1\/k=2\/k=3)with rfl | rfl | rfl | rfl
 ·
  refine J.q hX λ_=>?_;refine J.cT ?_;refine J.q hX λ_=>?_;refine J.cT ?_;refine J.q hX λ_=>?_;refine J.append hX tk 2 3 0 rfl rfl rfl rfl rfl rfl rfl rfl rfl rfl rfl rfl rfl rfl rfl rfl (by decide) (by decide) (λ_=>rfl) λa cap=>⟨_,rfl,trivial,?_⟩;refine J.know (λh' s=>own_some (c:=(a,cap)) (by decide) (s.get (i:=2) rfl)) λhg=>?_;obtain⟨ga,rfl⟩:=hg;refine J.openOwn 2 rfl rfl (λ_=>rfl) λr q1 q2 q3 q4=>?_;refine J.q hX λ_=>?_;refine J.plan (.of [0,4,8,13,16,20,24,29,32,36,41,44,48,52,56,60,64,68,72,77,80,84,88,92,96,103]) [24,25] [1,2] (by rw[hX.hP];kernel_rfl) (by kernel_rfl) ?_;refine J.q hX λ_=>?_;refine J.valT hX (.int .u8 (vq 0)) 0 rfl rfl (λhg a w he hC=>?_) rfl ?_
  ·exact load1_run tk rfl rfl he hg rfl rfl (hC rfl _ (cget_mem (i:=2) rfl)) rfl
  refine J.q hX λ_=>?_;refine J.store1 hX tk 2 rfl rfl rfl rfl rfl rfl rfl rfl rfl rfl rfl rfl rfl ?_ (.int .u8 (vb 1)::r) ?_ rfl (λ_=>rfl) ⟨trivial,?_⟩
  ·exact Nat.succ_pos _
  ·rfl
  refine J.closeOwn (e:=5) (size:=1) (n:=1) (cap:=cap) (xs:=[.int .u8 (vb 1)]) 2 rfl rfl rfl q2 q3 (by rw[List.length_cons,Nat.add_comm];exact q4) rfl rfl ?_;refine J.q hX λ_=>?_;refine J.nS ((1,some ga,cap)) (by dsimp only;omega) (by dsimp only;omega) [0,1,2] rfl rfl
 ·
  refine J.q hX λ_=>?_;refine J.cT ?_;refine J.q hX λ_=>?_;refine J.cF ?_;refine J.know (λh' s=>own_some (c:=(a,cap)) (by decide) (s.get (i:=2) rfl)) λhg=>?_;obtain⟨ga,rfl⟩:=hg;refine J.openOwn 2 rfl rfl (λ_=>rfl) λr q1 q2 q3 q4=>?_;refine J.q hX λ_=>?_;refine J.plan (.of [0,4,8,13,16,20,24,29,32,36,41,44,48,52,56,60,64,68,72,77,80,84,88,92,96,103]) [24,25] [1,2] (by rw[hX.hP];kernel_rfl) (by kernel_rfl) ?_;refine J.q hX λ_=>?_;refine J.valT hX (.int .u8 (vq 1)) 0 rfl rfl (λhg a w he hC=>?_) rfl ?_
  ·exact load1_run tk rfl rfl he hg rfl rfl (hC rfl _ (cget_mem (i:=2) rfl)) rfl
  refine J.q hX λ_=>?_;refine J.store1 hX tk 2 rfl rfl rfl rfl rfl rfl rfl rfl rfl rfl rfl rfl rfl ?_ (.int .u8 (vb 2)::r) ?_ rfl (λ_=>rfl) ⟨trivial,?_⟩
  ·exact Nat.succ_pos _
  ·rfl
  refine J.closeOwn (e:=5) (size:=1) (n:=1) (cap:=cap) (xs:=[.int .u8 (vb 2)]) 2 rfl rfl rfl q2 q3 (by rw[List.length_cons,Nat.add_comm];exact q4) rfl rfl ?_;refine J.q hX λ_=>?_;refine J.nS ((2,some ga,cap)) (by dsimp only;omega) (by dsimp only;omega) [0,1,2] rfl rfl
 ·
  refine J.q hX λ_=>?_;refine J.cT ?_;refine J.q hX λ_=>?_;refine J.cF ?_;refine J.know (λh' s=>own_some (c:=(a,cap)) (by decide) (s.get (i:=2) rfl)) λhg=>?_;obtain⟨ga,rfl⟩:=hg;refine J.openOwn 2 rfl rfl (λ_=>rfl) λr q1 q2 q3 q4=>?_;refine J.q hX λ_=>?_;refine J.plan (.of [0,4,8,13,16,20,24,29,32,36,41,44,48,52,56,60,64,68,72,77,80,84,88,92,96,103]) [24,25] [1,2] (by rw[hX.hP];kernel_rfl) (by kernel_rfl) ?_;refine J.q hX λ_=>?_;refine J.valT hX (.int .u8 (vq 2)) 0 rfl rfl (λhg a w he hC=>?_) rfl ?_
  ·exact load1_run tk rfl rfl he hg rfl rfl (hC rfl _ (cget_mem (i:=2) rfl)) rfl
  refine J.q hX λ_=>?_;refine J.store1 hX tk 2 rfl rfl rfl rfl rfl rfl rfl rfl rfl rfl rfl rfl rfl ?_ (.int .u8 (vb 3)::r) ?_ rfl (λ_=>rfl) ⟨trivial,?_⟩
  ·exact Nat.succ_pos _
  ·rfl
  refine J.closeOwn (e:=5) (size:=1) (n:=1) (cap:=cap) (xs:=[.int .u8 (vb 3)]) 2 rfl rfl rfl q2 q3 (by rw[List.length_cons,Nat.add_comm];exact q4) rfl rfl ?_;refine J.q hX λ_=>?_;refine J.nS ((3,some ga,cap)) (by dsimp only;omega) (by dsimp only;omega) [0,1,2] rfl rfl
 ·refine J.q hX λ_=>?_;refine J.cF ?_;refine J.q hX λ_=>?_;refine J.ru hX [1,2] ?_;exact⟨rfl,a,cap,rfl⟩
theorem b_Put2 (g:Nat) (a:Option Nat) (cap:Nat):Fn Tryz.prog 150 [.pointer (some ⟨g,0,none⟩), .int .u64 2, .int .i64 1] [.pt g 196 [slv a 1 cap, .int .i64 3]]
  (λv As=>v= .bool false/\As=[.pt g 196 [slv a 1 cap, .int .i64 3]]):=by
 refine Fn.enter [2,0,0] Tryz.func150 rfl rfl rfl λX F hX=>?_;refine J.q hX λ_=>?_;refine J.cb hX (b_may 1) [] ?_;refine cpq ⟨_,rfl,trivial,?_⟩;refine J.q hX λ_=>?_;refine J.cT ?_;refine J.q hX λ_=>?_;exact J.ru hX [1] ⟨rfl,rfl⟩
theorem o_Len (g:Nat) (a:Option Nat) (m cap:Nat) (k:Int):Fn Tryz.prog 303 [.pointer (some ⟨g,0,none⟩)] [.pt g 196 [slv a m cap, .int .i64 k]]
  (λv As=>v= .int .i64 k/\As=[.pt g 196 [slv a m cap, .int .i64 k]]):=by
 refine Fn.enter [2] Tryz.func303 rfl rfl rfl λX F hX=>?_;refine J.q hX λ_=>?_;refine J.cF ?_;refine J.q hX λ_=>?_;exact J.ru hX [1] ⟨rfl,rfl⟩
theorem x_CloneB (a:Option Nat) (n cap:Nat) (l:List Value) (hl:l.length=n) (h1:∀u∈l,u.oneCell'=true) (hn:n<=1000000):Fn Tryz.prog 191 [slv a n cap] [ownA 5 1 a n cap l]
  (λv As=>∃a' c',v=slv a' n c'/\As=[ownA 5 1 a n cap l,ownA 5 1 a' n c' l]):=by
 refine Fn.enter [0] Tryz.func191 rfl rfl rfl λX F hX=>?_;cases a with
 | none=>
  refine J.know (λh' s=>(s.get (i:=1) rfl).2) λhn0=>?_;obtain⟨rfl,rfl⟩:=hn0;have:l=[]:=List.eq_nil_of_length_eq_zero hl;subst this;refine J.q hX λ_=>?_;refine J.cT ?_;refine J.turn1 [] rfl (As:=[ownA 5 1 none 0 0 []]) (λh s=>Sep.one ⟨rfl,rfl,rfl⟩) rfl ?_;refine J.q hX λ_=>?_;refine J.ru hX [1,2] ?_;exact⟨none,0,rfl,rfl⟩
 | some g=>
  refine J.q hX λ_=>?_;refine J.cF ?_;refine J.qn hX 5 λbb=>?_;refine J.closeOwn (e:=5) (size:=1) (n:=0) (cap:=0) (xs:=[]) 2 rfl rfl rfl (Nat.le_refl _) (Nat.zero_le _) rfl rfl rfl ?_;refine J.q hX λ_=>?_;refine J.appendR hX tk (a:=some (bb 0)) (n:=0) (cap:=0) (xs:=[]) (oo:=0) (Ay:=ownA 5 1 (some g) n cap l) 2 1 0 rfl rfl rfl rfl rfl rfl rfl rfl rfl rfl (own_rd _ _ (some g) _ _ _) rfl rfl rfl rfl h1 ?_ ?_ (λ_=>rfl) λa' c'=>⟨_,rfl,trivial,?_⟩
  ·simp only[maxLen];omega
  ·omega
  rw[Nat.zero_add n,List.nil_append];refine J.q hX λ_=>?_;refine J.ru hX [1,2] ?_;exact⟨a',c',rfl,rfl⟩
theorem b_Bytes (g:Nat) (a:Option Nat) (m cap:Nat) (k:Int) (l:List Value) (hl:l.length=m) (h1:∀u∈l,u.oneCell'=true) (hn:m<=1000000):Fn Tryz.prog 152 [.pointer (some ⟨g,0,none⟩)] [.pt g 196 [slv a m cap, .int .i64 k],ownA 5 1 a m cap l]
  (λv As=>∃a' c',v=slv a' m c'/\As=[.pt g 196 [slv a m cap, .int .i64 k],ownA 5 1 a m cap l,ownA 5 1 a' m c' l]):=by
 refine Fn.enter [2] Tryz.func152 rfl rfl rfl λX F hX=>?_;refine J.q hX λ_=>?_;refine J.cF ?_;refine J.q hX λ_=>?_;refine J.cb hX (x_CloneB a m cap l hl h1 hn) [2] ?_;rintro v As ⟨a',c',rfl,rfl⟩;refine⟨_,rfl,trivial,?_⟩;refine J.q hX λ_=>?_;refine J.ru hX [1,2,3] ?_;exact⟨a',c',rfl,rfl⟩
theorem b_Read (a:Option Addr) (n cap:Nat):Fn Tryz.prog 239 [.slice a n cap] [] (λv As=>∃g,v= .pointer (some ⟨g,0,none⟩)/\As=[.pt g 287 [.slice a n cap, .int .i64 0]]):=by
 refine Fn.enter [0] Tryz.func239 rfl rfl rfl λX F hX=>?_;refine J.q hX λbb=>?_;refine J.ru hX [1] ?_;exact⟨bb 0,rfl,rfl⟩
theorem b_Left (g b:Nat) (k:Int) (h0:0<=k) (h1:k<=8):Fn Tryz.prog 257 [.pointer (some ⟨g,0,none⟩)] [.pt g 287 [.slice (some ⟨b,0,none⟩) 1 1, .int .i64 k]]
  (λv As=>v= .int .i64 (8-k)/\As=[.pt g 287 [.slice (some ⟨b,0,none⟩) 1 1, .int .i64 k]]):=by
 refine Fn.enter [2] Tryz.func257 rfl rfl rfl λX F hX=>?_;refine J.q hX λ_=>?_;refine J.cF ?_;refine J.q hX λ_=>?_;refine J.plan (.of [0,4,8,13,16,20,24,28,32,37,40,44]) [11] [1] (by rw[hX.hP];kernel_rfl) (by kernel_rfl) ?_;refine J.q hX λ_=>?_;exact J.ru hX [1] ⟨rfl,rfl⟩
theorem b_Get9 (g b:Nat):Fn Tryz.prog 240 [.pointer (some ⟨g,0,none⟩), .int .i64 9] [.pt g 287 [.slice (some ⟨b,0,none⟩) 1 1, .int .i64 4]]
  (λv As=>v= .tuple #[.int .u64 0, .bool false]/\As=[.pt g 287 [.slice (some ⟨b,0,none⟩) 1 1, .int .i64 4]]):=by
 refine Fn.enter [2,0] Tryz.func240 rfl rfl rfl λX F hX=>?_;refine J.q hX λ_=>?_;refine J.cb hX (b_may 9) [] ?_;refine cpq ⟨_,rfl,trivial,?_⟩;refine J.q hX λ_=>?_;refine J.cb hX (b_Left g b 4 (by decide) (by decide)) [1] ?_;refine cpq ⟨_,rfl,trivial,?_⟩;refine J.q hX λ_=>?_;refine J.cT ?_;refine J.q hX λ_=>?_;exact J.ru hX [1] ⟨rfl,rfl⟩
def vg (k:Nat):Int:=match k with | 0=>0 | 1=>1 | 2=>2 | 3=>5 | _=>10
theorem b_Get4 (g b:Nat):Fn Tryz.prog 240 [.pointer (some ⟨g,0,none⟩), .int .i64 4] [.pt g 287 [.slice (some ⟨b,0,none⟩) 1 1, .int .i64 0], .pt b 5 [.int .u8 165]]
  (λv As=>v= .tuple #[.int .u64 10, .bool true]/\As=[.pt g 287 [.slice (some ⟨b,0,none⟩) 1 1, .int .i64 4], .pt b 5 [.int .u8 165]]):=by
 refine Fn.enter [2,0] Tryz.func240 rfl rfl rfl λX F hX=>?_;refine J.q hX λ_=>?_;refine J.cb hX (b_may 4) [] ?_;refine cpq ⟨_,rfl,trivial,?_⟩;refine J.q hX λ_=>?_;refine J.cb hX (b_Left g b 0 (by decide) (by decide)) [1] ?_;refine cpq ⟨_,rfl,trivial,?_⟩;refine J.q hX λ_=>?_;refine J.cF ?_;refine J.q hX λ_=>?_;refine J.lo (α:=Nat) (λk=>k<=4) (λk=>[⟨6, .int .u64 (vg k),0, .tt⟩,⟨7, .int .i64 4,0, .tt⟩,⟨0, .pointer (some ⟨g,0,none⟩),2, .tt⟩]) [1] (λk=>[.pt g 287 [.slice (some ⟨b,0,none⟩) 1 1, .int .i64 k]]) (λk=>4-k) (0) (Nat.zero_le _) rfl ?_ (λ_=>rfl) λk hI=>?_
 ·rfl
 rcases(by omega:k=0\/k=1\/k=2\/k=3\/k=4)with rfl | rfl | rfl | rfl | rfl
 ·refine J.q hX λ_=>?_;refine J.cT ?_;refine J.q hX λ_=>?_;refine J.plan (.of [0,4,8,12,16,21,24,28,32,37,40,44,49,52,56,60,65,68,72,76,80,84,88,92]) [23] [1,2] (by rw[hX.hP];kernel_rfl) (by kernel_rfl) ?_;refine J.q hX λ_=>?_;refine J.valT hX (.int .u8 165) 0 rfl rfl (λhg a w he hC=>?_) rfl ?_
  ·exact load1_run tk rfl rfl he hg rfl rfl (hC rfl _ (cget_mem (i:=2) rfl)) rfl
  refine J.q hX λ_=>?_;refine J.nS (1) (by omega) (by omega) [0,1,2] rfl rfl
 ·refine J.q hX λ_=>?_;refine J.cT ?_;refine J.q hX λ_=>?_;refine J.plan (.of [0,4,8,12,16,21,24,28,32,37,40,44,49,52,56,60,65,68,72,76,80,84,88,92]) [23] [1,2] (by rw[hX.hP];kernel_rfl) (by kernel_rfl) ?_;refine J.q hX λ_=>?_;refine J.valT hX (.int .u8 165) 0 rfl rfl (λhg a w he hC=>?_) rfl ?_
  ·exact load1_run tk rfl rfl he hg rfl rfl (hC rfl _ (cget_mem (i:=2) rfl)) rfl
  refine J.q hX λ_=>?_;refine J.nS (2) (by omega) (by omega) [0,1,2] rfl rfl
 ·refine J.q hX λ_=>?_;refine J.cT ?_;refine J.q hX λ_=>?_;refine J.plan (.of [0,4,8,12,16,21,24,28,32,37,40,44,49,52,56,60,65,68,72,76,80,84,88,92]) [23] [1,2] (by rw[hX.hP];kernel_rfl) (by kernel_rfl) ?_;refine J.q hX λ_=>?_;refine J.valT hX (.int .u8 165) 0 rfl rfl (λhg a w he hC=>?_) rfl ?_
  ·exact load1_run tk rfl rfl he hg rfl rfl (hC rfl _ (cget_mem (i:=2) rfl)) rfl
  refine J.q hX λ_=>?_;refine J.nS (3) (by omega) (by omega) [0,1,2] rfl rfl
 ·refine J.q hX λ_=>?_;refine J.cT ?_;refine J.q hX λ_=>?_;refine J.plan (.of [0,4,8,12,16,21,24,28,32,37,40,44,49,52,56,60,65,68,72,76,80,84,88,92]) [23] [1,2] (by rw[hX.hP];kernel_rfl) (by kernel_rfl) ?_;refine J.q hX λ_=>?_;refine J.valT hX (.int .u8 165) 0 rfl rfl (λhg a w he hC=>?_) rfl ?_
  ·exact load1_run tk rfl rfl he hg rfl rfl (hC rfl _ (cget_mem (i:=2) rfl)) rfl
  refine J.q hX λ_=>?_;refine J.nS (4) (by omega) (by omega) [0,1,2] rfl rfl
 ·refine J.q hX λ_=>?_;refine J.cF ?_;refine J.q hX λ_=>?_;exact J.ru hX [1,2] ⟨rfl,rfl⟩
theorem k_nil:Fn Tryz.prog 153 [.slice none 0 0] [] (λv As=>v= .int .u32 4294967295/\As=[]):=by
 refine Fn.enter [0] Tryz.func153 rfl rfl rfl λX F hX=>?_;refine J.q hX λ_=>?_;refine J.lo (α:=Nat) (λk=>k<=0) (λk=>[⟨8, .int .i64 0,0, .tt⟩,⟨7, .int .i64 0,0, .tt⟩,⟨3, .int .u32 4294967295,0, .tt⟩]) [] (λk=>[]) (λk=>0) (0) (Nat.zero_le _) rfl ?_ (λ_=>rfl) λk hI=>?_
 ·rfl
 refine J.q hX λ_=>?_;refine J.cF ?_;refine J.q hX λ_=>?_;exact J.ru hX [] ⟨rfl,rfl⟩
theorem k_step:Fn Tryz.prog 192 [.int .u32 0, .int .u8 128] [] (λv As=>v= .int .u32 (K.step 0 128:Nat)/\As=[]):=Fn.of_same (koop_Step 0 128 (by decide) (by decide))
theorem z_Zig:Fn Tryz.prog 299 [.int .i64 (-1)] [] (λv As=>v= .int .u64 1/\As=[]):=Fn.of_same zig_1
theorem z_Zag:Fn Tryz.prog 300 [.int .u64 1] [] (λv As=>v= .int .i64 (-1)/\As=[]):=Fn.of_same zag_1
theorem z_Narrow1:Fn Tryz.prog 301 [.int .i64 255, .int .i64 8] [] (λv As=>v= .int .i64 (-1)/\As=[]):=Fn.of_same narrow_1
theorem z_Narrow2:Fn Tryz.prog 301 [.int .i64 1, .int .i64 0] [] (λv As=>v= .int .i64 0/\As=[]):=Fn.of_same narrow_2
theorem z_Turn:Fn Tryz.prog 302 [.int .u32 1, .int .i64 33] [] (λv As=>v= .int .u32 2/\As=[]):=by
 refine Fn.enter [0,0] Tryz.func302 rfl rfl rfl λX F hX=>?_;refine J.q hX λ_=>?_;refine J.plan (.of [0,4,8,12,16,20,24,28,32]) [7,8] [] (by rw[hX.hP];kernel_rfl) (by kernel_rfl) ?_;refine J.q hX λ_=>?_;exact J.ru hX [] ⟨rfl,rfl⟩
theorem l1_begun:Fn Tryz.prog 296 [] [] (λv As=>v= .bool true/\As=[]):=by
 refine Fn.enter [] Tryz.func296 rfl rfl rfl λX F hX=>?_;refine J.q hX λb1=>?_;refine J.cb hX (b_Put1 (b1 0)) [1] ?_;rintro v As ⟨rfl,a,cap,rfl⟩;refine⟨_,rfl,trivial,?_⟩;refine J.q hX λ_=>?_;refine J.cb hX (b_Put2 (b1 0) a cap) [1] ?_;refine cpq ⟨_,rfl,trivial,?_⟩;refine J.q hX λb2=>?_;refine J.cb hX (b_Read (some ⟨b2 0,0,none⟩) 1 1) [] ?_;rintro v As ⟨g,rfl,rfl⟩;refine⟨_,rfl,trivial,?_⟩;refine J.q hX λ_=>?_;refine J.cb hX (b_Get4 g (b2 0)) [4,3] ?_;refine cpq ⟨_,rfl,trivial,?_⟩;refine J.q hX λ_=>?_;refine J.cb hX (b_Get9 g (b2 0)) [4] ?_;refine cpq ⟨_,rfl,trivial,?_⟩;refine J.q hX λ_=>?_;refine J.cb hX (b_Bytes (b1 0) a 1 cap 3 [.int .u8 160] rfl (by decide) (by decide)) [1,2] ?_;rintro v As ⟨a2,c2,rfl,rfl⟩;refine⟨_,rfl,trivial,?_⟩;refine J.know (λh' s=>own_some (c:=(a2,c2)) (by decide) (s.get (i:=5) rfl)) λhg=>?_;obtain⟨g2,rfl⟩:=hg;refine J.q hX λ_=>?_;refine J.cb hX (z_Zig) [] ?_;refine cpq ⟨_,rfl,trivial,?_⟩;refine J.q hX λ_=>?_;refine J.cb hX (z_Zag) [] ?_;refine cpq ⟨_,rfl,trivial,?_⟩;refine J.q hX λ_=>?_;refine J.cb hX (z_Narrow1) [] ?_;refine cpq ⟨_,rfl,trivial,?_⟩;refine J.q hX λ_=>?_;refine J.cb hX (z_Narrow2) [] ?_;refine cpq ⟨_,rfl,trivial,?_⟩;refine J.q hX λ_=>?_;refine J.cb hX (z_Turn) [] ?_;refine cpq ⟨_,rfl,trivial,?_⟩;refine J.q hX λ_=>?_;refine J.cb hX (o_Len (b1 0) a 1 cap 3) [1] ?_;refine cpq ⟨_,rfl,trivial,?_⟩;refine J.q hX λ_=>?_;refine J.val hX (.int .u8 160) 0 rfl rfl (λhg a w he hw=>?_) rfl trivial ?_
 ·exact own1_run tk rfl rfl he hg rfl rfl (hw.get (i:=5) rfl) rfl
 refine J.q hX λ_=>?_;refine J.cb hX (b_Left g (b2 0) 4 (by decide) (by decide)) [4] ?_;refine cpq ⟨_,rfl,trivial,?_⟩;refine J.q hX λ_=>?_;refine J.cb hX (k_nil) [] ?_;refine cpq ⟨_,rfl,trivial,?_⟩;refine J.q hX λ_=>?_;refine J.cb hX (k_step) [] ?_;refine cpq ⟨_,rfl,trivial,?_⟩;refine J.q hX λ_=>?_;refine J.cb hX (l_All 3) [] ?_;refine cpq ⟨_,rfl,trivial,?_⟩;refine J.q hX λ_=>?_;refine J.cb hX (l_At 6 0 (by decide) (by decide)) [] ?_;refine cpq ⟨_,rfl,trivial,?_⟩;refine J.q hX λ_=>?_;refine J.cb hX (l_Spot 6 2) [] ?_;refine cpq ⟨_,rfl,trivial,?_⟩;refine J.q hX λ_=>?_;refine J.cb hX (l_Count 6) [] ?_;refine cpq ⟨_,rfl,trivial,?_⟩;refine J.q hX λ_=>?_;refine J.ru hX [] ?_;exact⟨by kernel_rfl,rfl⟩
theorem l1_Begun:Fn Tryz.prog 287 [] [] (λv As=>v= .bool true/\As=[]):=by
 refine Fn.enter [] Tryz.func287 rfl rfl rfl λX F hX=>?_;refine J.q hX λ_=>?_;refine J.cb hX (l1_begun) [] ?_;refine cpq ⟨_,rfl,trivial,?_⟩;refine J.q hX λ_=>?_;exact J.ru hX [] ⟨rfl,rfl⟩
theorem g_Logical (d b p:Nat) (h:geoMay d b p=true):Fn Tryz.prog 289 [.agg #[.int .i64 d, .int .i64 b, .int .i64 p]] [] (λv As=>v= .int .i64 ((((b:Int)-5)*p*((d:Int)-2)+1).tdiv 2)/\As=[]):=by
 have hbd:(3<=d/\d<=6)/\(8<=b/\b<=16)/\(2<=p/\p<=8):=by simp[geoMay]at h;omega
 have h1:0<=((b:Int)-5)*p/\((b:Int)-5)*p<=88:=by
  refine⟨Int.mul_nonneg (by omega) (by omega),?_⟩;have:((b:Int)-5)*p<=11*8:=Int.mul_le_mul (by omega) (by omega) (by omega) (by omega);omega
 have h2:0<=((b:Int)-5)*p*((d:Int)-2)/\((b:Int)-5)*p*((d:Int)-2)<=352:=by
  refine⟨Int.mul_nonneg h1.1 (by omega),?_⟩;have:((b:Int)-5)*p*((d:Int)-2)<=88*4:=Int.mul_le_mul h1.2 (by omega) (by omega) (by omega);omega
 have h3: -1<=(((b:Int)-5)*p*((d:Int)-2)+1).tdiv 2/\(((b:Int)-5)*p*((d:Int)-2)+1).tdiv 2<=1000:=by
  generalize((b:Int)-5)*p*((d:Int)-2)=x at h2;rw[Int.tdiv_eq_ediv_of_nonneg (by omega)];omega
 refine Fn.enter [0] Tryz.func289 rfl rfl rfl λX F hX=>?_;refine J.q hX λ_=>?_;refine J.cb hX (f_May d b p) [] ?_;refine cpq ⟨_,rfl,trivial,?_⟩;rw[h];refine J.q hX λ_=>?_;refine J.cF ?_;refine J.q hX λ_=>?_;exact J.ru hX [] ⟨rfl,rfl⟩
theorem l6_begun:Fn Tryz.prog 271 [] [] (λv As=>v= .bool true/\As=[]):=by
 refine Fn.enter [] Tryz.func271 rfl rfl rfl λX F hX=>?_;refine J.q hX λ_=>?_;refine J.cb hX (l1_Begun) [] ?_;refine cpq ⟨_,rfl,trivial,?_⟩;refine J.q hX λ_=>?_;refine J.cb hX (f_May 3 8 2) [] ?_;refine cpq ⟨_,rfl,trivial,?_⟩;rw[show geoMay 3 8 2=true from rfl];refine J.q hX λ_=>?_;refine J.cb hX (f_May 0 0 0) [] ?_;refine cpq ⟨_,rfl,trivial,?_⟩;rw[show geoMay 0 0 0=false from rfl];refine J.q hX λ_=>?_;refine J.cb hX (f_In 3 8 2 2 7 1 (by decide) (by decide) (by decide)) [] ?_;refine cpq ⟨_,rfl,trivial,?_⟩;rw[show geoIn 3 8 2 2 7 1=true from rfl];refine J.q hX λ_=>?_;refine J.cb hX (f_In 3 8 2 3 0 0 (by decide) (by decide) (by decide)) [] ?_;refine cpq ⟨_,rfl,trivial,?_⟩;rw[show geoIn 3 8 2 3 0 0=false from rfl];refine J.q hX λ_=>?_;refine J.cb hX (g_Parity 7 1 1) [] ?_;refine cpq ⟨_,rfl,trivial,?_⟩;rw[show G.parity 7 1 1=2 from by kernel_rfl];refine J.q hX λ_=>?_;refine J.cb hX (g_Slots 7) [] ?_;refine cpq ⟨_,rfl,trivial,?_⟩;rw[show G.slots 7=2 from by kernel_rfl];refine J.q hX λ_=>?_;refine J.cb hX (g_Die 7 0 0 0 (by decide) (by decide)) [] ?_;refine cpq ⟨_,rfl,trivial,?_⟩;rw[show G.die 7 0 0 0=1 from by kernel_rfl];refine J.q hX λ_=>?_;refine J.cb hX (g_Slot 7 0 0 2) [] ?_;refine cpq ⟨_,rfl,trivial,?_⟩;rw[show G.slot 7 0 0 2=1 from by kernel_rfl];refine J.q hX λ_=>?_;refine J.cb hX (g_Slot 7 0 0 0) [] ?_;refine cpq ⟨_,rfl,trivial,?_⟩;rw[show G.slot 7 0 0 0= -1 from by kernel_rfl];refine J.q hX λ_=>?_;refine J.cb hX (g_Logical 3 8 2 rfl) [] ?_;refine cpq ⟨_,rfl,trivial,?_⟩;refine J.q hX λ_=>?_;refine J.ru hX [] ?_;exact⟨by kernel_rfl,rfl⟩
theorem l6_Begun:Fn Tryz.prog 251 [] [] (λv As=>v= .bool true/\As=[]):=by
 refine Fn.enter [] Tryz.func251 rfl rfl rfl λX F hX=>?_;refine J.q hX λ_=>?_;refine J.cb hX (l6_begun) [] ?_;refine cpq ⟨_,rfl,trivial,?_⟩;refine J.q hX λ_=>?_;exact J.ru hX [] ⟨rfl,rfl⟩
def ft (a k d n x:Int):List Value:=[.int .i64 a, .int .i64 k, .int .i64 d, .int .i64 0, .int .i64 0, .int .i64 n, .int .i64 x]
theorem q_May0:Fn Tryz.prog 267 [.agg #[.int .i64 3, .int .i64 8, .int .i64 2], .agg (ft 3 4 2 0 0).toArray] [] (λv As=>v= .bool true/\As=[]):=by
 refine Fn.enter [0,0] Tryz.func267 rfl rfl rfl λX F hX=>?_;refine J.q hX λ_=>?_;refine J.cT ?_;refine J.q hX λ_=>?_;refine J.cb hX (f_In 3 8 2 2 0 0 (by decide) (by decide) (by decide)) [] ?_;refine cpq ⟨_,rfl,trivial,?_⟩;refine J.q hX λ_=>?_;exact J.ru hX [] ⟨rfl,rfl⟩
theorem q_May1:Fn Tryz.prog 267 [.agg #[.int .i64 3, .int .i64 8, .int .i64 2], .agg (ft (-1) 0 0 0 0).toArray] [] (λv As=>v= .bool false/\As=[]):=by
 refine Fn.enter [0,0] Tryz.func267 rfl rfl rfl λX F hX=>?_;refine J.q hX λ_=>?_;refine J.cT ?_;refine J.q hX λ_=>?_;refine J.val hX (.bool false) 0 rfl rfl (λhg a w he hw=>absurd hg (by decide)) rfl trivial ?_;refine J.q hX λ_=>?_;exact J.ru hX [] ⟨rfl,rfl⟩
theorem q_Sort1 (a:Option Addr) (c:Nat) (d:Value):Fn Tryz.prog 293 [.slice a 1 c, .int .i64 0, .int .i64 1,d] [] (λv As=>v= .tuple #[]/\As=[]):=by
 refine Fn.enter [0,0,0,0] Tryz.func293 rfl rfl rfl λX F hX=>?_;refine J.q hX λ_=>?_;refine J.lo (α:=Nat) (λk=>True) (λk=>[⟨8, .int .i64 1,0, .tt⟩,⟨2, .int .i64 1,0, .tt⟩]) [] (λk=>[]) (λk=>0) (0) (trivial) rfl ?_ (λ_=>rfl) λk hI=>?_
 ·rfl
 refine J.q hX λ_=>?_;refine J.cF ?_;refine J.q hX λ_=>?_;refine J.fi hX tk [] rfl rfl rfl ?_;exact⟨rfl,rfl⟩
theorem q_Stable (a:Option Addr) (c:Nat) (d:Value):Fn Tryz.prog 278 [.slice a 1 c, .int .i64 1,d] [] (λv As=>v= .tuple #[]/\As=[]):=by
 refine Fn.enter [0,0,0] Tryz.func278 rfl rfl rfl λX F hX=>?_;refine J.q hX λ_=>?_;refine J.lo (α:=Nat) (λk=>True) (λk=>[⟨8, .int .i64 20,0, .tt⟩,⟨6, .int .i64 20,0, .tt⟩,⟨7, .int .i64 0,0, .tt⟩,⟨0, .slice a 1 c,0, .tt⟩,⟨1, .int .i64 1,0, .tt⟩,⟨2,d,0, .tt⟩]) [] (λk=>[]) (λk=>0) (0) (trivial) rfl ?_ (λ_=>rfl) λk hI=>?_
 ·rfl
 refine J.q hX λ_=>?_;refine J.cF ?_;refine J.q hX λ_=>?_;refine J.cb hX (q_Sort1 a c d) [] ?_;refine cpq ⟨_,rfl,trivial,?_⟩;refine J.q hX λ_=>?_;refine J.lo (α:=Nat) (λk=>True) (λk=>[⟨6, .int .i64 20,0, .tt⟩,⟨1, .int .i64 1,0, .tt⟩]) [] (λk=>[]) (λk=>0) (0) (trivial) rfl ?_ (λ_=>rfl) λk hI=>?_
 ·rfl
 refine J.q hX λ_=>?_;refine J.cF ?_;refine J.q hX λ_=>?_;refine J.fi hX tk [] rfl rfl rfl ?_;exact⟨rfl,rfl⟩
theorem q_SortStable (a:Option Addr) (c:Nat) (d:Value):Fn Tryz.prog 268 [.slice a 1 c,d] [] (λv As=>v= .tuple #[]/\As=[]):=by
 refine Fn.enter [0,0] Tryz.func268 rfl rfl rfl λX F hX=>?_;refine J.q hX λ_=>?_;refine J.cb hX (q_Stable a c d) [] ?_;refine cpq ⟨_,rfl,trivial,?_⟩;refine J.q hX λ_=>?_;refine J.fi hX tk [] rfl rfl rfl ?_;exact⟨rfl,rfl⟩
def fk (k:Nat):List Value:=match k with | 0=>[] | _=>ft 3 4 2 0 0
theorem q_New (g:Nat):Fn Tryz.prog 249 [.agg #[.int .i64 3, .int .i64 8, .int .i64 2], .slice (some ⟨g,0,none⟩) 2 2] [.pt g 55 (ft 3 4 2 0 0++ft (-1) 0 0 0 0)]
  (λv As=>∃p a c,v= .pointer (some ⟨p,0,none⟩)/\As=[.pt p 297 [slv a 1 c],ownA 55 7 a 1 c (ft 3 4 2 0 0)]):=by
 refine Fn.enter [0,2] Tryz.func249 rfl rfl rfl λX F hX=>?_;refine J.q hX λbb=>?_;refine J.turn1 [] rfl (As:=[ownA 55 7 none 0 0 (fk 0)]) (λh s=>Sep.one ⟨rfl,rfl,rfl⟩) rfl ?_;refine J.q hX λ_=>?_;refine J.lo (α:=(Nat×Option Nat×Nat)) (λz=>z.1<=2) (λz=>[⟨12, .int .i64 z.1,0, .tt⟩,⟨11, .int .i64 2,0, .tt⟩,⟨10, .slice (some ⟨g,0,none⟩) 2 2,2, .tt⟩,⟨2, .pointer (some ⟨bb 0,0,none⟩),3, .tt⟩,⟨5, .pointer (some ⟨bb 1,0,none⟩),4, .tt⟩]) [3,4] (λz=>[.pt (bb 1) 297 [slv z.2.1 (nk z.1) z.2.2],ownA 55 7 z.2.1 (nk z.1) z.2.2 (fk z.1)]) (λz=>2-z.1) ((0,none,0)) (Nat.zero_le _) rfl ?_ (λ_=>rfl) λz hI=>?_
 ·rfl
 obtain⟨k,a,c⟩:=z;dsimp only at hI ⊢;rcases(by omega:k=0\/k=1\/k=2)with rfl | rfl | rfl
 ·refine J.q hX λ_=>?_;refine J.cT ?_;refine J.q hX λ_=>?_;refine J.val hX (.agg (ft 3 4 2 0 0).toArray) 0 rfl rfl (λhg a w he hw=>loadN_run tk rfl rfl he rfl rfl rfl (hw.get (i:=1) rfl) rfl rfl) rfl trivial ?_;refine J.q hX λ_=>?_;refine J.cb hX (q_May0) [] ?_;refine cpq ⟨_,rfl,trivial,?_⟩;refine J.q hX λ_=>?_;refine J.cT ?_;refine J.q hX λ_=>?_;refine J.plan (.of [0,4,8,12,17,21,26,30,32,36,43]) [8,9,10] [3,5] (by rw[hX.hP];kernel_rfl) (by kernel_rfl) ?_;refine J.q hX λ_=>?_;refine J.append hX tk 4 6 0 rfl rfl rfl rfl rfl rfl rfl rfl rfl rfl rfl rfl rfl rfl rfl rfl (by decide) (by decide) (λ_=>rfl) λa2 c2=>⟨_,rfl,⟨rfl,rfl,trivial⟩,?_⟩;refine J.q hX λ_=>?_;refine J.nS ((1,a2,c2)) (by dsimp only;omega) (by dsimp only;omega) [0,1,2,3,4] rfl rfl
 ·refine J.q hX λ_=>?_;refine J.cT ?_;refine J.q hX λ_=>?_;refine J.val hX (.agg (ft (-1) 0 0 0 0).toArray) 0 rfl rfl (λhg a w he hw=>loadN_run tk rfl rfl he rfl rfl rfl (hw.get (i:=1) rfl) rfl rfl) rfl trivial ?_;refine J.q hX λ_=>?_;refine J.cb hX (q_May1) [] ?_;refine cpq ⟨_,rfl,trivial,?_⟩;refine J.q hX λ_=>?_;refine J.cF ?_;refine J.q hX λ_=>?_;refine J.nS ((2,a,c)) (by dsimp only;omega) (by dsimp only;omega) [0,1,2,3,4] rfl rfl
 ·refine J.q hX λ_=>?_;refine J.cF ?_;refine J.q hX λ_=>?_;refine J.cb hX (q_SortStable (oad a) c (.func (.func 269) #[] #[])) [] ?_;refine cpq ⟨_,rfl,trivial,?_⟩;refine J.q hX λ_=>?_;refine J.ru hX [3,4] ?_;exact⟨bb 1,a,c,rfl,rfl⟩
theorem q_Left (p:Nat) (a:Option Addr) (n c:Nat):Fn Tryz.prog 253 [.pointer (some ⟨p,0,none⟩)] [.pt p 297 [.slice a n c]] (λv As=>v= .int .i64 n/\As=[.pt p 297 [.slice a n c]]):=by
 refine Fn.enter [2] Tryz.func253 rfl rfl rfl λX F hX=>?_;refine J.q hX λ_=>?_;refine J.cF ?_;refine J.q hX λ_=>?_;exact J.ru hX [1] ⟨rfl,rfl⟩
theorem q_Dies (g:Nat):Fn Tryz.prog 255 [.slice (some ⟨g,0,none⟩) 1 1] [.pt g 55 (ft 0 0 2 0 0)] (λv As=>v= .int .i64 4/\As=[]):=by
 refine Fn.enter [2] Tryz.func255 rfl rfl rfl λX F hX=>?_;refine J.q hX λ_=>?_;refine J.lo (α:=Nat) (λk=>k<=1) (λk=>[⟨8, .int .i64 k,0, .tt⟩,⟨7, .int .i64 1,0, .tt⟩,⟨6, .slice (some ⟨g,0,none⟩) 1 1,2, .tt⟩,⟨3, .int .i64 (4*k),0, .tt⟩]) [] (λk=>[]) (λk=>1-k) (0) (Nat.zero_le _) rfl ?_ (λ_=>rfl) λk hI=>?_
 ·rfl
 rcases(by omega:k=0\/k=1)with rfl | rfl
 ·refine J.q hX λ_=>?_;refine J.cT ?_;refine J.q hX λ_=>?_;refine J.val hX (.agg (ft 0 0 2 0 0).toArray) 0 rfl rfl (λhg a w he hw=>loadN_run tk rfl rfl he rfl rfl rfl (hw.get (i:=1) rfl) rfl rfl) rfl trivial ?_;refine J.q hX λ_=>?_;refine J.cb hX (l_With 0 2) [] ?_;refine cpq ⟨_,rfl,trivial,?_⟩;refine J.q hX λ_=>?_;refine J.nS (1) (by omega) (by omega) [0,1] rfl rfl
 ·refine J.q hX λ_=>?_;refine J.cF ?_;refine J.q hX λ_=>?_;exact J.ru hX [] ⟨rfl,rfl⟩
theorem q_Clone (g c:Nat):Fn Tryz.prog 290 [slv (some g) 1 c] [ownA 55 7 (some g) 1 c (ft 3 4 2 0 0)]
  (λv As=>∃a' c',v=slv a' 1 c'/\As=[ownA 55 7 (some g) 1 c (ft 3 4 2 0 0),ownA 55 7 a' 1 c' (ft 3 4 2 0 0)]):=by
 refine Fn.enter [0] Tryz.func290 rfl rfl rfl λX F hX=>?_;refine J.q hX λ_=>?_;refine J.cF ?_;refine J.qn hX 5 λbb=>?_;refine J.closeOwn (e:=55) (size:=7) (n:=0) (cap:=0) (xs:=[]) 2 rfl rfl rfl (Nat.le_refl _) (Nat.zero_le _) rfl rfl rfl ?_;refine J.q hX λ_=>?_;refine J.appendR hX tk (a:=some (bb 0)) (n:=0) (cap:=0) (xs:=[]) (oo:=0) (Ay:=ownA 55 7 (some g) 1 c (ft 3 4 2 0 0)) 2 1 0 rfl rfl rfl rfl rfl rfl rfl rfl rfl rfl (own_rd _ _ (some g) _ _ _) rfl rfl rfl rfl (by decide) (by decide) (by decide) (λ_=>rfl) λa' c'=>⟨_,rfl,trivial,?_⟩;refine J.q hX λ_=>?_;refine J.ru hX [1,2] ?_;exact⟨a',c',rfl,rfl⟩
theorem q_Due (p g c:Nat):Fn Tryz.prog 272 [.pointer (some ⟨p,0,none⟩), .int .i64 3] [.pt p 297 [slv (some g) 1 c],ownA 55 7 (some g) 1 c (ft 3 4 2 0 0)]
  (λv As=>∃x a' c',v=slv a' 1 c'/\As=[.pt p 297 [x],ownA 55 7 (some g) 1 c (ft 3 4 2 0 0),ownA 55 7 a' 1 c' (ft 3 4 2 0 0)]):=by
 refine Fn.enter [2,0] Tryz.func272 rfl rfl rfl λX F hX=>?_;refine J.know (p:=1<=c) (λh' s=>by obtain⟨_,cur,h1,h2,_⟩:=s.get (i:=2) rfl;exact h2) λhc=>?_;refine J.q hX λ_=>?_;refine J.cF ?_;refine J.q hX λ_=>?_;refine J.lo (α:=Nat) (λk=>k<=1) (λk=>[⟨5, .int .i64 k,0, .tt⟩,⟨0, .pointer (some ⟨p,0,none⟩),2, .tt⟩,⟨1, .int .i64 3,0, .tt⟩]) [] (λk=>[]) (λk=>1-k) (0) (Nat.zero_le _) rfl ?_ (λ_=>rfl) λk hI=>?_
 ·rfl
 rcases(by omega:k=0\/k=1)with rfl | rfl
 ·refine J.q hX λ_=>?_;refine J.val hX (.int .i64 3) 0 rfl rfl (λhg a w he hw=>own1_run tk rfl rfl he hg rfl rfl (hw.get (i:=2) rfl) rfl) rfl trivial ?_;refine J.q hX λ_=>?_;refine J.cT ?_;refine J.q hX λ_=>?_;refine J.nS (1) (by omega) (by omega) [0,1,2] rfl rfl
 ·refine J.q hX λ_=>?_;refine J.val hX (.int .i64 3) 0 rfl rfl (λhg a w he hw=>absurd hg (by decide)) rfl trivial ?_;refine J.q hX λ_=>?_;refine J.cF ?_;refine J.q hX λ_=>?_;refine J.cb hX (q_Clone g c) [2] ?_;rintro v As ⟨a',c',rfl,rfl⟩;refine⟨_,rfl,trivial,?_⟩;refine J.qn hX 10 λ_=>?_;refine J.val hX (.slice (if c=1 then some ⟨g,0,none⟩else some ⟨g,7,none⟩) 0 (c-1)) 0 rfl rfl (λhg a w he hw=>?_) rfl trivial ?_
  ·have e1:=ev_spec he (x:= .tmp 41) (s:=⟨41,slv (some g) 1 c,0, .tt⟩) rfl;have e2:=ev_spec he (x:= .tmp 42) (s:=⟨42, .int .i64 ((1:Nat):Int),0, .tt⟩) rfl;simp only[Slot.val,G.on]at e1 e2;obtain⟨d,f,zv,ok⟩:=tiOf_spec (tk.get (t:=284) rfl);obtain⟨fe,rfl,g1,g2⟩:=ok.slice rfl;simp only[execOp,Option.map_some,Option.map_none,e1,e2,slv,Instr.sliceAt,Instr.slice,Instr.sliceBounds,Instr.sliceBound,asIntOf,Sem.run_bind,Sem.run_pure,Result.andThen_ok,underlying_run ok.hd,sizeOf_run g1,g2]
   by_cases h:c=1
   ·subst h;simp
   ·simp[h,Addr.add_none]
  refine J.q hX λ_=>?_;refine J.ru hX [1,2,3] ?_;exact⟨_,a',c',rfl,rfl⟩
theorem q_Run (p g c q:Nat) (N:Nand) (hN:N.Ok) (ho:N.ops=3):Fn Tryz.prog 254 [.pointer (some ⟨p,0,none⟩), .pointer (some ⟨q,0,none⟩)] [.pt p 297 [slv (some g) 1 c],ownA 55 7 (some g) 1 c (ft 3 4 2 0 0),NandA q N]
  (λv As=>v= .int .i64 1/\As=[.emp, .emp,NandA q (N.fault 4 2 0 0 0 0).2]):=by
 refine Fn.enter [2,0] Tryz.func254 rfl rfl rfl λX F hX=>?_;refine J.q hX λ_=>?_;refine J.cb hX (n_Ops q N) [3] ?_;refine cpq ⟨_,rfl,trivial,?_⟩;rw[ho];refine J.q hX λ_=>?_;refine J.cb hX (q_Due p g c) [1,2] ?_;rintro v As ⟨x,a',c',rfl,rfl⟩;refine⟨_,rfl,trivial,?_⟩;refine J.know (λh' s=>own_some (c:=(a',c')) (by decide) (s.get (i:=4) rfl)) λhg=>?_;obtain⟨g',rfl⟩:=hg;refine J.q hX λ_=>?_;refine J.lo (α:=Nat) (λk=>k<=1) (λk=>[⟨14, .int .i64 k,0, .tt⟩,⟨13, .int .i64 1,0, .tt⟩,⟨12,slv (some g') 1 c',0, .tt⟩,⟨5,slv (some g') 1 c',0, .tt⟩,⟨1, .pointer (some ⟨q,0,none⟩),0, .tt⟩]) [3] (λk=>[NandA q (if k=0 then N else(N.fault 4 2 0 0 0 0).2)]) (λk=>1-k) (0) (Nat.zero_le _) rfl ?_ (λ_=>rfl) λk hI=>?_
 ·rfl
 rcases(by omega:k=0\/k=1)with rfl | rfl
 ·refine J.q hX λ_=>?_;refine J.cT ?_;refine J.q hX λ_=>?_;refine J.val hX (.agg (ft 3 4 2 0 0).toArray) 0 rfl rfl (λhg a w he hw=>ownN_run tk rfl rfl he rfl rfl rfl (hw.get (i:=4) rfl) rfl rfl) rfl trivial ?_;refine J.q hX λ_=>?_;refine J.cb hX (n_Fault q N hN 3 4 2 0 0 0 0) [3] ?_;refine cpq ⟨_,rfl,trivial,?_⟩;refine J.q hX λ_=>?_;refine J.nS (1) (by omega) (by omega) [0,1,2,3,4] rfl rfl
 ·refine J.q hX λ_=>?_;refine J.cF ?_;refine J.turn1 [1,2] rfl (As:=[.emp, .emp]) (λh s=>⟨λ_=>0,λi A hA=>by
   match i,hA with
   | 0,hA=>simp at hA;subst hA;trivial
   | 1,hA=>simp at hA;subst hA;trivial
   | k+2,hA=>simp at hA⟩) rfl ?_
  refine J.q hX λ_=>?_;exact J.ru hX [1,2,3] ⟨rfl,rfl⟩
end Go.Proofs.YtdocmcapegcoeaaGreat
