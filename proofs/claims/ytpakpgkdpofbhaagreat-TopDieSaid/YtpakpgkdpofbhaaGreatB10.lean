/- Helpers. No condition. -/
import Derived.Test.YtpakpgkdpofbhaaGreatB00
import Derived.Test.YtpakpgkdpofbhaaGreatB03
import Derived.Test.YtpakpgkdpofbhaaGreatB04
import Derived.Test.YtpakpgkdpofbhaaGreatB07
import Derived.Test.YtpakpgkdpofbhaaGreatB08
import Derived.Test.YtpakpgkdpofbhaaGreatB09
import Derived.Shelf.Sort.Plain
set_option maxRecDepth 20000
set_option linter.all false
namespace Go.Proofs.YtpakpgkdpofbhaaGreat
namespace L
theorem with_dec:∀f,f<256->∀d,d<8->set (with_ (f:Nat) (d:Nat))=true/\∀e,e<8->has (with_ (f:Nat) (d:Nat)) (e:Nat)=(has (f:Nat) (e:Nat)||decide (e=d)):=by decide+kernel
theorem without_dec:∀f,f<256->∀d,d<8->set (without (f:Nat) (d:Nat))=true/\∀e,e<8->has (without (f:Nat) (d:Nat)) (e:Nat)=(has (f:Nat) (e:Nat)&& !decide (e=d)):=by decide+kernel
theorem all_dec:∀n,n<=8->set (all (n:Nat))=true/\∀e,e<8->has (all (n:Nat)) (e:Nat)=decide (e<n):=by decide+kernel
theorem set_has {m:Int} (h:set m=true):∃k:Nat,m=k/\k<256:=by
 rw[set_iff]at h;exact⟨m.toNat,by omega,by omega⟩
theorem has_rng {m d:Int} (h:has m d=true):∃k:Nat,d=k/\k<8:=by
 have:=has_lt m d h;exact⟨d.toNat,by omega,by omega⟩
theorem has_out {m d:Int} (h:¬(0<=d/\d<8)):has m d=false:=by
 cases hh:has m d with
 | false=>rfl
 | true=>have:=has_lt m d hh;omega
theorem set_with {f d:Int} (hf:set f=true) (hd:0<=d/\d<8):set (with_ f d)=true:=by
 obtain⟨F,rfl,hF⟩:=set_has hf;obtain⟨D,rfl⟩:=j8 hd.1;exact(with_dec F hF D (by omega)).1
theorem with_has {f d:Int} (hf:set f=true) (hd:0<=d/\d<8) (e:Int):has (with_ f d) e=(has f e||decide (e=d)):=by
 obtain⟨F,rfl,hF⟩:=set_has hf;obtain⟨D,rfl⟩:=j8 hd.1
 by_cases he:0<=e/\e<8
 ·obtain⟨E,rfl⟩:=j8 he.1;rw[(with_dec F hF D (by omega)).2 E (by omega)];have e2:decide (E=D)=decide ((E:Int)=(D:Int)):=by rw[a1J];omega
  rw[e2]
 ·rw[has_out he,has_out he,y8 (by omega)];rfl
theorem set_without {f d:Int} (hf:set f=true) (hd:0<=d/\d<8):set (without f d)=true:=by
 obtain⟨F,rfl,hF⟩:=set_has hf;obtain⟨D,rfl⟩:=j8 hd.1;exact(without_dec F hF D (by omega)).1
theorem without_has {f d:Int} (hf:set f=true) (hd:0<=d/\d<8) (e:Int):has (without f d) e=(has f e&& !decide (e=d)):=by
 obtain⟨F,rfl,hF⟩:=set_has hf;obtain⟨D,rfl⟩:=j8 hd.1
 by_cases he:0<=e/\e<8
 ·obtain⟨E,rfl⟩:=j8 he.1;rw[(without_dec F hF D (by omega)).2 E (by omega)];have e2:decide (E=D)=decide ((E:Int)=(D:Int)):=by rw[a1J];omega
  rw[e2]
 ·rw[has_out he,has_out he];rfl
theorem set_all (n:Nat) (h:n<=8):set (all n)=true:=(all_dec n h).1
theorem all_has (n:Nat) (h:n<=8) (e:Int):has (all n) e=(decide (0<=e)&&decide (e<n)):=by
 by_cases he:0<=e/\e<8
 ·obtain⟨E,rfl⟩:=j8 he.1;rw[(all_dec n h).2 E (by omega),l8 he.1,x7,a1J];omega
 ·rw[has_out he]
  by_cases h0:0<=e
  ·rw[y8 (p:=e<n) (by omega)];simp
  ·rw[y8 h0];rfl
theorem ext {m k:Int} (hm:set m=true) (hk:set k=true) (h:∀d:Nat,d<8->has m (d:Nat)=has k (d:Nat)):m=k:=by
 obtain⟨M,rfl,hM⟩:=set_has hm;obtain⟨K,rfl,hK⟩:=set_has hk;refine congrArg (Nat.cast:Nat->Int) (Nat.eq_of_testBit_eq λi=>?_)
 by_cases hi:i<8
 ·have:=h i hi;simp only[has,hm,hk,x7,l9]at this;have e1:decide ((0:Int)<=(i:Int))=true:=l8 (by omega);have e2:decide ((i:Int)<8)=true:=l8 (by omega)
  rwa [e1,e2,x7,x7,x7]at this
 ·have h8:∀M,M<256->M.testBit i=false:=λM hM=>Nat.testBit_lt_two_pow (a5I hM (by
   have:(2:Nat)^8<=2^i:=a0c (by omega) (by omega);omega))
  rw[h8 M hM,h8 K hK]
theorem count_has (m:Int):count m=((List.range 8).filter λd=>has m (d:Nat)).length:=by
 rw[<- below_eight];unfold below;refine congrArg List.length (List.filter_congr λd hd=>?_);have:=List.mem_range.1 hd;rw[l8 this,x7]
theorem has_zero (d:Int):has 0 d=false:=by
 unfold has;simp
end L
theorem b2L (x:Nat) (h:x<1000000):Go.IntKind.i64.wrap (x:Int)=x:=by
 show(if((true&&decide ((x:Int) % 18446744073709551616>=9223372036854775808))=true)then(x:Int) % 18446744073709551616-18446744073709551616 else(x:Int) % 18446744073709551616)=x;rw[i7 (by rw[x7,g7];omega)];omega
theorem b2I {a b:Int} (ha:L.set a=true) (hb:L.set b=true):L.set (Tl.andN a b)=true/\∀e:Int,L.has (Tl.andN a b) e=(L.has a e&& !L.has b e):=by
 obtain⟨A,rfl,hA⟩:=L.set_has ha;obtain⟨B,rfl,hB⟩:=L.set_has hb;have e1:((BitVec.ofInt 64 (A:Int)&&& ~~~BitVec.ofInt 64 (B:Int)).toNat)<256:=by
  rw[BitVec.toNat_and];refine Nat.lt_of_le_of_lt Nat.and_le_left ?_;rw[BitVec.toNat_ofInt];simp;omega
 have e2:∀i,i<8->(BitVec.ofInt 64 (A:Int)&&& ~~~BitVec.ofInt 64 (B:Int)).toNat.testBit i=(A.testBit i&& !B.testBit i):=λi hi=>by
  rw[BitVec.testBit_toNat,BitVec.getLsbD_and,BitVec.getLsbD_not];have h1:∀C:Nat,C<256->(BitVec.ofInt 64 (C:Int)).getLsbD i=C.testBit i:=λC hC=>by
   rw[<- BitVec.testBit_toNat,BitVec.toNat_ofInt];have:((C:Int) % (((2^64:Nat)):Int)).toNat=C:=by omega
   rw[this]
  rw[h1 A hA,h1 B hB,l8 (by omega),x7]
 have e3:Tl.andN (A:Int) (B:Int)=((BitVec.ofInt 64 (A:Int)&&& ~~~BitVec.ofInt 64 (B:Int)).toNat:Int):=by
  unfold Tl.andN;show IntKind.i64.wrap (((BitVec.ofInt 64 (A:Int)&&& ~~~BitVec.ofInt 64 (B:Int)).toNat:Nat):Int)=_;generalize(BitVec.ofInt 64 (A:Int)&&& ~~~BitVec.ofInt 64 (B:Int)).toNat=x at e1;exact b2L x (by omega)
 generalize hx:(BitVec.ofInt 64 (A:Int)&&& ~~~BitVec.ofInt 64 (B:Int)).toNat=x at e1 e2 e3;rw[e3];have hs:L.set (x:Int)=true:=by rw[L.set_iff];omega
 refine⟨hs,λe=>?_⟩
 by_cases he:0<=e/\e<8
 ·obtain⟨E,rfl⟩:=j8 he.1;simp only[L.has,hs,ha,hb,x7,l9];rw[l8 (p:=(0:Int)<=(E:Int)) (by omega),l8 (p:=(E:Int)<8) (by omega),e2 E (by omega)];rfl
 ·rw[L.has_out he,L.has_out he];rfl
theorem a4j {N:Nand} {b r:Int}:∀(q:List (Int×Sh)) (f:Int),L.set f=true->(∀x∈q,0<=x.1/\x.1<8)->L.set (Z6 N b r q f)=true/\∀d:Int,L.has (Z6 N b r q f) d=(L.has f d||q.any λx=>decide (x.1=d)&&N.failB b r x.1)
 | [],f,hf,_=>⟨hf,λd=>by simp[Z6]⟩
 | x::q,f,hf,hq=>by
  have hx:=hq x (by simp);rw[Z6];cases hb:N.failB b r x.1 with
  | false=>
   rw[i7 n8];have ih:=a4j (N:=N) (b:=b) (r:=r) q f hf λy hy=>hq y (by simp[hy]);refine⟨ih.1,λd=>?_⟩;rw[ih.2,List.any_cons,hb,Bool.and_false,D4]
  | true=>
   rw[i9 rfl];have ih:=a4j (N:=N) (b:=b) (r:=r) q (L.with_ f x.1) (L.set_with hf hx) λy hy=>hq y (by simp[hy]);refine⟨ih.1,λd=>?_⟩;rw[ih.2,L.with_has hf hx,List.any_cons,hb,Bool.and_true,Bool.or_assoc];congr 2;rw[a1J];omega
namespace Tl
theorem at_set {t:Tl} (hl:t.l.length=t.b) {k j:Int} (s:Sb) (hk:t.has k=true) (hj:t.has j=true):(t.set k s).at_ j=if j=k then s else t.at_ j:=by
 unfold set;rw[i9 hk];simp only[has,j5,g7]at hk hj;unfold at_;dsimp only
 by_cases e:j=k
 ·subst e;rw[i9 rfl,d7,List.getElem?_set_self (by omega)];rfl
 ·rw[i7 e,d7,List.getElem?_set_ne (by omega),<- d7]
theorem has_set (t:Tl) (k j:Int) (s:Sb):(t.set k s).has j=t.has j:=by unfold has;rw[set_b]
theorem has_iff {t:Tl} {k:Int}:t.has k=true↔0<=k/\k<t.b:=by simp[has]
theorem set_no {t:Tl} {k:Int} (s:Sb) (h:t.has k=false):t.set k s=t:=by unfold set;rw[h];rfl
end Tl
end Go.Proofs.YtpakpgkdpofbhaaGreat
namespace Go.Proofs.YtpakpgkdpofbhaaGreat
open Go Go.RowKit
structure FitR (e:En):Prop where
 lpn:0<=e.lpn/\e.lpn<=65535
 role:e.role=1\/((e.role=2\/e.role=4)/\e.data=zeros16)
 len:e.data.length=16
theorem b3X {b r m:Int} {e:En} (hb:0<=b/\b<=15) (hr:0<=r/\r<=7) (hm:2<=L.count m) (hs:0<=e.seq/\e.seq<=1099511627775) (h:FitR e\/e=En.pad):W.ok b r m e=true:=by
 have h5:S.entry (W.sh b r m e)=true:=by
  rcases h with h | h
  ·unfold S.entry;have e1:(W.sh b r m e).role=e.role:=rfl;have e2:(W.sh b r m e).data=e.data:=rfl;rw[e1,e2];rcases h.role with h3 | ⟨h3 | h3,h4⟩
   ·rw[i9 h3]
   ·rw[i7 (by omega),i9 (.inl h3),l8 h4]
   ·rw[i7 (by omega),i9 (.inr h3),l8 h4]
  ·rw[h];rfl
 have h6:(0<=e.role/\e.role<=255)/\(0<=e.lpn/\e.lpn<=65535):=by
  rcases h with h | h
  ·have:=h.lpn;rcases h.role with h3 | ⟨h3 | h3,h4⟩<;>omega
  ·rw[h];decide
 have h7:S.place (W.sh b r m e)=true:=by
  unfold S.place S.inB;rw[l8 (show 2<=L.count (W.sh b r m e).mask from hm),l8 (show 0<=(W.sh b r m e).block from hb.1),l8 (show(W.sh b r m e).block<=15 from hb.2),l8 (show 0<=(W.sh b r m e).row from hr.1),l8 (show(W.sh b r m e).row<=7 from hr.2)];rfl
 have h8:S.numbers (W.sh b r m e)=true:=by
  unfold S.numbers S.inB;rw[l8 (show 0<=(W.sh b r m e).seq from hs.1),l8 (show(W.sh b r m e).seq<=1099511627775 from hs.2),l8 (show 0<=(W.sh b r m e).lpn from h6.2.1),l8 (show(W.sh b r m e).lpn<=65535 from h6.2.2),l8 (show 0<=(W.sh b r m e).role from h6.1.1),l8 (show(W.sh b r m e).role<=255 from h6.1.2)];rfl
 unfold W.ok S.may;rw[h5,h7,h8];rfl
structure Msk (D:Nat) (fd m:Int):Prop where
 set:L.set m=true
 lt:∀d:Int,L.has m d=true->d<D
 all:∀d:Nat,d<D->(d:Int)≠fd->L.has m (d:Nat)=true
theorem a2K:∀D,D<7->3<=D->G.slots (L.all (D:Nat))=(D:Int)-1/\L.count (L.all (D:Nat))=D/\L.all (D:Nat)<2^D:=by decide+kernel
theorem b6C:∀D,D<7->3<=D->∀d,d<D->G.slots (L.without (L.all (D:Nat)) (d:Nat))=(D:Int)-2/\L.count (L.without (L.all (D:Nat)) (d:Nat))=D-1/\L.without (L.all (D:Nat)) (d:Nat)<2^D:=by decide+kernel
namespace Msk
variable {D : Nat} {fd m : Int}
theorem eq (h:Msk D fd m) (hD:3<=D/\D<=6):(m=L.all (D:Nat)/\(0<=fd/\fd<D->L.has m fd=true))\/(0<=fd/\fd<D/\L.has m fd=false/\m=L.without (L.all (D:Nat)) fd):=by
 have hs:=L.set_all D (by omega)
 by_cases hf:(0<=fd/\fd<D)/\L.has m fd=false
 ·right;refine⟨hf.1.1,hf.1.2,hf.2,L.ext h.set (L.set_without hs (by omega)) λd hd=>?_⟩;rw[L.without_has hs (by omega),L.all_has D (by omega),l8 (p:=(0:Int)<=(d:Int)) (by omega),x7]
  by_cases hlt:d<D
  ·rw[l8 (p:=(d:Int)<D) (by omega),x7]
   by_cases e:(d:Int)=fd
   ·rw[e,hf.2];simp
   ·rw[h.all d hlt e,y8 e];rfl
  ·rw[y8 (p:=(d:Int)<D) (by omega),a0y];cases hh:L.has m (d:Nat)with
   | false=>rfl
   | true=>have:=h.lt _ hh;omega
 ·left;have hff:0<=fd/\fd<D->L.has m fd=true:=λhr=>by
   cases hh:L.has m fd with
   | true=>rfl
   | false=>exact absurd ⟨hr,hh⟩ hf
  refine⟨L.ext h.set hs λd hd=>?_,hff⟩;rw[L.all_has D (by omega),l8 (p:=(0:Int)<=(d:Int)) (by omega),x7]
  by_cases hlt:d<D
  ·rw[l8 (p:=(d:Int)<D) (by omega)]
   by_cases e:(d:Int)=fd
   ·rw[e];exact hff (by omega)
   ·exact h.all d hlt e
  ·rw[y8 (p:=(d:Int)<D) (by omega)];cases hh:L.has m (d:Nat)with
   | false=>rfl
   | true=>have:=h.lt _ hh;omega
def full (D:Nat) (fd m:Int):Bool:=!(decide (0<=fd)&&decide (fd<D))||L.has m fd
theorem slots (h:Msk D fd m) (hD:3<=D/\D<=6):G.slots m=(if full D fd m then(D:Int)-1 else(D:Int)-2)/\2<=L.count m/\0<=m/\m<2^D:=by
 have hm0:0<=m:=by have:=(L.set_iff m).1 h.set;omega
 rcases h.eq hD with⟨e,hf⟩ | ⟨h1,h2,h3,e⟩
 ·have hfull:full D fd m=true:=by
   unfold full
   by_cases hr:0<=fd/\fd<D
   ·rw[hf hr];simp
   ·by_cases h0:0<=fd
    ·rw[y8 (p:=fd<D) (by omega)];simp
    ·rw[y8 h0];simp
  obtain⟨a1,a2,a3⟩:=a2K D (by omega) hD.1;rw[hfull,i9 rfl];rw[e]at hm0 ⊢;exact⟨a1,by omega,hm0,a3⟩
 ·have hfull:full D fd m=false:=by
   unfold full;rw[l8 h1,l8 h2,h3];rfl
  obtain⟨d,hd⟩:=j8 h1;obtain⟨a1,a2,a3⟩:=b6C D (by omega) hD.1 d (by omega);rw[hfull,i7 n8];rw[e,hd]at hm0 ⊢;exact⟨a1,by omega,hm0,a3⟩
theorem pos (h:Msk D fd m) (hD:3<=D/\D<=6):1<=G.slots m/\(D:Int)-2<=G.slots m/\G.slots m<=(D:Int)-1:=by
 have:=(h.slots hD).1;split at this<;>omega
end Msk
structure Full (fd:Int) (N:Nand) (b r m:Int) (l:List En):Prop where
 is:RowIs N b r m l
 good:∀x∈R.job b r m l,x.1≠fd->∃t,N.pageAt x.1 b r=some ⟨W5 x.2,false,t⟩
 inn:RowIn N b r m l
namespace Full
variable {fd : Int} {N : Nand} {b r m : Int} {l : List En}
theorem keep (h:Full fd N b r m l) {N':Nand} (like:N.Like N') (hp:∀x∈R.job b r m l,N'.pageAt x.1 b r=N.pageAt x.1 b r):Full fd N' b r m l:=
 ⟨h.is.like like,λx hx hne=>by rw[hp x hx];exact h.good x hx hne,λx hx c hc=>h.inn x hx c (by rw[<- hp x hx];exact hc)⟩
theorem okAll2 (h:Full fd N b r m l) (hoff:N.off=false) (hdead:∀x∈R.job b r m l,x.1≠fd->N.dead.getD x.1.toNat false=false) {i:Nat} (hi:i<l.length):okG (gOf N b r m l) l.length i=true:=by
 have hjl:(R.job b r m l).length=l.length+1:=by simp[R.job]
 have hg:∀k x,(R.job b r m l)[k]? =some x->x.1≠fd->gOf N b r m l k=true:=λk x hk hne=>by
  have hx:=x9 hk;obtain⟨t,ht⟩:=h.good x hx hne;obtain⟨n1,n2,n3⟩:=h.is.inn x hx;have hr:N.refuses x.1 b r=0:=by
   unfold Nand.refuses;rw[hoff,i7 (by decide),Nand.geoIn_of ⟨n1,n2⟩ h.is.blk h.is.row,i7 (by decide),hdead x hx hne];rfl
  unfold gOf;rw[hk];show((M.look N x.1 b r).2==1)=true;rw[b4h (h.is.sh x hx).1 hr ht];rfl
 have hat:∀k,k<=l.length->∃x,(R.job b r m l)[k]? =some x:=λk hk=>⟨_,d6 (by omega)⟩;unfold okG;rw[n5];obtain⟨x,hx⟩:=hat i (by omega)
 by_cases hne:x.1=fd
 ·right;unfold b1T;rw[H4];intro k hk;have hk:=List.mem_range.1 hk
  by_cases e:k=i
  ·simp[e]
  ·obtain⟨y,hy⟩:=hat k (by omega);have:y.1≠fd:=λe2=>e (by
    have hnd:=h.is.nodup;have e3:((R.job b r m l).map (·.1))[k]? =((R.job b r m l).map (·.1))[i]?:=by rw[m6,m6,hx,hy];simp[e2,hne]
    exact(U0 (by rw[q9];omega) hnd).1 e3)
   rw[hg k y hy this];simp
 ·exact .inl (hg i x hx hne)
theorem okAll (h:Full fd N b r m l) (hoff:N.off=false) (hdead:∀i:Nat,(i:Int)≠fd->N.dead.getD i false=false) {i:Nat} (hi:i<l.length):okG (gOf N b r m l) l.length i=true:=
 h.okAll2 hoff (λx hx hne=>hdead _ (by have:=h.is.inn x hx;omega)) hi
theorem read2 (h:Full fd N b r m l) (hoff:N.off=false) (hdead:∀x∈R.job b r m l,x.1≠fd->N.dead.getD x.1.toNat false=false) {i:Nat} (hi:i<l.length):R.read N b r (i:Nat) m=(l.getD i En.zero,0):=by
 rw[(h.inn.part h.is).read h.is hoff hi,h.okAll2 hoff hdead hi,i9 rfl]
theorem read (h:Full fd N b r m l) (hoff:N.off=false) (hdead:∀i:Nat,(i:Int)≠fd->N.dead.getD i false=false) {i:Nat} (hi:i<l.length):R.read N b r (i:Nat) m=(l.getD i En.zero,0):=by
 rw[(h.inn.part h.is).read h.is hoff hi,h.okAll hoff hdead hi,i9 rfl]
end Full
theorem WroteR.page {N N':Nand} {b r:Int} {q:List (Int×Sh)} (h:WroteR N N' b r q) (hq:RdyR N b r q) {d b0 r0:Int} (hd:0<=d) (hb:0<=b0) (hr:0<=r0) (hne:b0=b->r0≠r):N'.pageAt d b0 r0=N.pageAt d b0 r0:=by
 unfold Nand.pageAt
 by_cases e:b0=b
 ·by_cases hx:∀x∈q,x.1.toNat≠d.toNat
  ·rw[h.rest _ _ (.inr hx)]
  ·simp only[Classical.not_forall,not_imp,a3f]at hx;obtain⟨x,hx,hxd⟩:=hx;have hc:=h.cells x hx;rw[hxd,<- e]at hc;rw[hc];split
   ·rfl
   ·rename_i ha;have ha:N.dead.getD d.toNat false=false:=by simpa using ha
    have hl:=hq.cells x hx (by rw[hxd];exact ha);rw[hxd,<- e]at hl;have:=hne e;have:=hq.row;rw[K5];split
    ·rfl
    ·rw[n4 (by simp only[o0,a0V];omega),n4 (by omega)]
 ·rw[h.rest _ _ (.inl (by have:=hq.blk;omega))]
structure Std (fd:Int) (S:Dv) (i:Int) (a:AtV):Prop where
 row:∃l,Full fd S.N a.block a.row a.mask l/\0<=a.slot/\a.slot.toNat<l.length/\(l.getD a.slot.toNat En.zero).lpn=i/\(l.getD a.slot.toNat En.zero).seq=a.seq/\(l.getD a.slot.toNat En.zero).role=a.role
 used:(S.t.at_ a.block).used=true
 below:a.block=S.op->a.row<S.row
 seq:1<=a.seq/\a.seq<S.next
structure Opn (fd:Int) (S:Dv):Prop where
 blk:0<=S.op/\S.op<S.N.blocks
 used:(S.t.at_ S.op).used=true
 row:0<=S.row/\S.row<=S.N.pages
 mask:Msk S.N.dies fd S.mask
 cells:∀d:Nat,L.has S.mask (d:Nat)=true->((S.N.blk d S.op.toNat).cells.length:Int)<=S.row/\(S.N.dead.getD d false=false->((S.N.blk d S.op.toNat).cells.length:Int)=S.row)
structure Inv (fd:Int) (S:Dv):Prop where
 lit:S.N.Lit
 dead:∀i:Nat,(i:Int)≠fd->S.N.dead.getD i false=false
 plan:∀a∈S.N.plan,a.1=fd
 flags:∀i j:Nat,(i:Int)≠fd->(S.N.blk i j).met=false/\(S.N.blk i j).fails=false
 tdead:L.set S.t.dead=true/\∀d:Int,L.has S.t.dead d=true->d=fd
 tbad:∀b,S.t.has b=true->L.set (S.t.at_ b).bad=true/\∀d:Int,L.has (S.t.at_ b).bad d=true->d=fd
 op:S.op= -1\/Opn fd S
 blank:∀b,S.t.has b=true->(S.t.at_ b).used=false->∀d:Nat,L.has (S.t.mask b) (d:Nat)=true->(S.N.blk d b.toNat).cells=[]
 st:∀i a,Tb.look S.T.at_ i=some a->Std fd S i a
theorem T5 {t:Tl} {b:Int} (hd:t.d<=8) (hb:t.has b=true) (h1:L.set t.dead=true) (h2:L.set (t.at_ b).bad=true):L.set (t.mask b)=true/\∀e:Int,L.has (t.mask b) e=((decide (0<=e)&&decide (e<t.d))&& !L.has t.dead e&& !L.has (t.at_ b).bad e):=by
 have ha:=L.set_all t.d hd;have x1:=b2I ha h1;have x2:=b2I x1.1 h2;unfold Tl.mask;rw[i9 hb];exact⟨x2.1,λe=>by rw[Tl.alive,x2.2,x1.2,L.all_has _ hd]⟩
namespace Inv
variable {fd : Int} {S : Dv} {k m : Nat}
theorem msk (h:Inv fd S) (hO:S.Ok k m) {b:Int} (hb:S.t.has b=true):Msk S.N.dies fd (S.t.mask b):=by
 have hg:=hO.gd.ok.bd16;have hd:=hO.t.d;obtain⟨m1,m2⟩:=T5 (by omega) hb h.tdead.1 (h.tbad b hb).1;refine⟨m1,λd hh=>?_,λd hlt hne=>?_⟩
 ·rw[m2]at hh;simp only[j5,g7]at hh;omega
 ·rw[m2,l8 (p:=(0:Int)<=(d:Int)) (by omega),l8 (p:=(d:Int)<S.t.d) (by omega)];have e1:L.has S.t.dead (d:Nat)=false:=by
   cases hh:L.has S.t.dead (d:Nat)with
   | false=>rfl
   | true=>exact absurd (h.tdead.2 _ hh) hne
  have e2:L.has (S.t.at_ b).bad (d:Nat)=false:=by
   cases hh:L.has (S.t.at_ b).bad (d:Nat)with
   | false=>rfl
   | true=>exact absurd ((h.tbad b hb).2 _ hh) hne
  rw[e1,e2];rfl
theorem usable (h:Inv fd S) (hO:S.Ok k m) {b:Int} (hb:S.t.has b=true):S.t.usable b=true:=by
 have hg:=hO.gd.ok.bd16;have:=((h.msk hO hb).pos hg.1).1;unfold Tl.usable;exact l8 (by omega)
theorem read (h:Inv fd S) {i:Int} {a:AtV} (ha:Tb.look S.T.at_ i=some a):∃e,R.read S.N a.block a.row a.slot a.mask=(e,0)/\e.lpn=i/\e.seq=a.seq/\e.role=a.role:=by
 obtain⟨l,h1,h2,h3,h4,h5,h6⟩:=(h.st i a ha).row;refine⟨_,?_,h4,h5,h6⟩;have:=h1.read h.lit.off h.dead h3
 rwa [show((a.slot.toNat:Nat):Int)=a.slot from by omega]at this
end Inv
def a6p (e:En):Prop:=(0<=e.lpn/\e.lpn<=65535)/\(0<=e.seq/\e.seq<=1099511627775)
theorem b7r {s:Sh} (h:S.may s=true):a6p s.en:=by
 simp only[S.may,S.numbers,S.inB,j5,g7]at h;exact⟨h.1.2.1.2,h.1.2.1.1⟩
theorem b9W {p:List UInt8} {s:Sh} (h:S.get p=some s):S.may s=true:=by
 unfold S.get at h;split at h
 ·rename_i hh;injection h with h;subst h;exact hh.1
 ·cases h
theorem b7t {N:Nand} {x y z:Int} (h:(M.look N x y z).2=1):S.may (M.look N x y z).1=true:=by
 unfold M.look at h ⊢;dsimp only at h ⊢;split
 ·rename_i h0;rw[i9 h0]at h;split
  ·rename_i h1;rw[i9 h1]at h;simp at h
  ·rename_i h1;simp only[not_or]at h1;have hg:S.getE (N.readV x y z)=0:=by simpa using h1.1
   unfold S.getE at hg;cases hs:S.get (N.readV x y z)with
   | none=>rw[hs]at hg;simp at hg
   | some s=>simp only[S.getV,hs,m7];exact b9W hs
 ·rename_i h0;rw[i7 h0]at h;split at h
  ·simp at h
  ·split at h<;>simp at h
theorem c2b {b r m:Int} {e:En} (h:W.ok b r m e=true):a6p e:=b7r (s:=W.sh b r m e) h
theorem a8n {N:Nand} {b r:Int} {f:Fnd} (h:f∈R.all N b r):f.block=b/\f.row=r/\a6p f.en:=by
 unfold R.all at h;rw[M2]at h;obtain⟨m,_,h⟩:=h;unfold R.allM at h;rw[List.mem_filterMap]at h;obtain⟨k,hk,h⟩:=h;rw[K0]at hk;unfold R.fnd at h;split at h
 ·rename_i hc;injection h with h;subst h;refine⟨rfl,rfl,?_⟩;simp only[j5]at hc;obtain⟨h1,_⟩:=hc;dsimp only;unfold R.enAt;unfold R.okAt at h1;split
  ·rename_i hg;have hlen:k<(R.ones N b r m (G.slots m).toNat).length:=by simpa[R.look]using hk
   have e1:(R.look N b r m).good.getD k false=((R.ones N b r m (G.slots m).toNat)[k]).2:=by simp[R.look,hlen]
   have e2:(R.look N b r m).slots.getD k Sh.zero=((R.ones N b r m (G.slots m).toNat)[k]).1:=by simp[R.look,hlen]
   rw[e1]at hg;rw[e2];simp only[R.ones,X9,R.one,j5,A8]at hg ⊢;exact b7r (b7t hg.1)
  ·rename_i hg;rw[Bool.not_eq_true]at hg;rw[hg,D4]at h1;unfold R.mendB at h1;simp only[j5]at h1;have hb:=h1.2;unfold R.mend;rw[i9 (by rw[j5];exact h1.1),W.back,i9 hb];unfold W.backB at hb;simp only[j5]at hb;exact c2b hb.2
 ·cases h
theorem b4u (N:Nand) (hN:N.Ok):(V.all N).length<=6000:=by
 have hbd:=hN.bd;have h0:∀b r,(R.all N b r).length<=42:=λb r=>by
  have:=a7W N b r (M.masks N b r).length (by omega);unfold a5f at this
  rwa [V5]at this
 have h1:∀(l:List Nat) (b:Int),(l.flatMap λr=>R.all N b (r:Nat)).length<=42*l.length:=by
  intro l b
  induction l with
  | nil=>simp
  | cons x l ih=>rw[y9,j6,o0];have:=h0 b x;omega
 have h2:∀l:List Nat,(l.flatMap λb=>(List.range N.pages).flatMap λr=>R.all N (b:Nat) (r:Nat)).length<=336*l.length:=by
  intro l
  induction l with
  | nil=>simp
  | cons x l ih=>
   rw[y9,j6,o0];have:=h1 (List.range N.pages) x;rw[K4]at this;omega
 have:=h2 (List.range N.blocks);rw[K4]at this;unfold V.all;omega
theorem b3F {N:Nand} {f:Fnd} (h:f∈V.all N):(∃r:Nat,f.row=(r:Int)/\r<N.pages)/\a6p f.en:=by
 unfold V.all at h;rw[M2]at h;obtain⟨b,_,h⟩:=h;rw[M2]at h;obtain⟨r,hr,h⟩:=h;have:=a8n h;exact⟨⟨r,this.2.1,List.mem_range.1 hr⟩,this.2.2⟩
abbrev fdV (x:Fnd):Value:= .agg (fnL x).toArray
def Fnd.zero:Fnd:=⟨En.zero,0,0,0,0,false,false⟩
theorem b1u (a b:Fnd):FP 258 [fdV a,fdV b] [] (Ps (.bool (V.behind a b)) []):=by
 refine FE [0,0] Tryz.func258 λX F hX=>?_;refine J.qd (λ_ h1=>?_) λ_ h1=>?_
 ·refine J.qr [] λ_=>?_;simp only[H0,I2]at h1;exact⟨by rw[V.behind,i9 h1],rfl⟩
 ·simp only[A7]at h1;refine J.run hX tk 400 (λb3=>rfl) (λb3=>?_) (λb3=>?_)
  ·(repeat' (first | exact Conj.nil | refine Conj.cons ?_ ?_ | exact rfl | exact hq | (rw[hq];rfl) | (rw[(j7 _).mp hq]) | intro hq | omega | (simp;done) | (simp_all;done)))
  refine J.qr [] λ_=>?_;exact⟨by rw[V.behind,i7 (by simp[h1])],rfl⟩
theorem a5R {l:List Fnd} {k:Nat} {x:Fnd} (h:l[k]? =some x):V.tops (l.take (k+1))=V.topsStep (V.tops (l.take k)) x:=by
 unfold V.tops;rw[D6,h,K6,C3];rfl
theorem b0n (o:List Fnd) (x:Fnd):(V.topsStep o x).length<=o.length+1:=by
 cases o with
 | nil=>simp[V.topsStep]
 | cons h t=>
  simp only[V.topsStep];split
  ·simp
  ·split<;>simp
theorem a7w (l:List Fnd):(V.tops l).length<=l.length:=by
 have:∀k,k<=l.length->(V.tops (l.take k)).length<=k:=by
  intro k
  induction k with
  | zero=>intro _;simp[V.tops]
  | succ k ih=>
   intro hk;rw[a5R (d6 (by omega))];have:=b0n (V.tops (l.take k)) l[k];have:=ih (by omega);omega
 have:=this l.length (m9 _)
 rwa [V5]at this
theorem b6e (a:Option Nat) (n cap:Nat) (l:List Fnd) (hl:l.length=n) (hn:n<=100000):FP 197 [slv a n cap] [t7 191 25 a n cap (H7 l)]
  (λv As=>∃a' c',v=slv a' (V.tops l).length c'/\As=[t7 191 25 a n cap (H7 l),t7 191 25 a' (V.tops l).length c' (H7 (V.tops l))]):=by
 refine FE [0] Tryz.func197 λX F hX=>?_;refine J.turn1 [] rfl (As:=[t7 191 25 none 0 0 (H7 [])]) (λh s=>Sep.one ⟨rfl,rfl,rfl⟩) rfl ?_;refine J.q λ_=>?_;refine J.l (α:=(Nat×Option Nat×Nat×List Fnd)) (λz=>z.1<=n/\V.tops (l.take z.1)=z.2.2.2) (λz=>[si 8 z.1,si 7 n,sv 6 (slv a n cap),sv 3 (slv z.2.1 z.2.2.2.length z.2.2.1)]) [2] (λz=>[t7 191 25 z.2.1 z.2.2.2.length z.2.2.1 (H7 z.2.2.2)]) (λz=>n-z.1) ((0,none,0,[])) (⟨n7 _,rfl⟩) λz hI=>?_;obtain⟨k,a1,c1,out⟩:=z;dsimp only at hI ⊢;obtain⟨hI,hto⟩:=hI;refine J.qd (λ_ h1=>?_) λ_ h1=>?_
 ·simp only[g7,j9]at h1;cases a with
  | none=>
   refine J.know (λh' s=>(s.get (i:=1) rfl).2.1) λhn0=>?_;omega
  | some g=>
  obtain⟨x,hx⟩:∃x,l[k]? =some x:=⟨_,d6 (by omega)⟩;have hts:=a5R hx;have hlen:=a7w (l.take k);rw[n9,hto]at hlen;rw[hto]at hts;refine J.q λ_=>?_;refine J.v (fdV x) rfl rfl (λhg a w he hs=>?_) ?_
  ·exact L8 tk rfl rfl he rfl rfl rfl (hs.get (i:=1) rfl) (by rw[show 0+(k:Int).toNat*25=k*25 from by omega];exact a2i hx) rfl
  rcases out with _ | ⟨y,o⟩
  ·skip
   refine J.pn 5 (.of [0,4,8,12,16,20,25,29,34,36,40]) [] [1,2,3] λ_ _=>?_;refine J.vT (pp g) rfl rfl (λhg a w he hC=>absurd hg (by simp[G.on])) ?_;refine J.q λ_=>?_;refine J.vT (fdV x) rfl rfl (λhg a w he hC=>absurd hg (by simp[G.on])) ?_;refine J.q λ_=>?_;refine J.val hX (.bool true) 0 rfl rfl (λhg a w he hC=>absurd hg (by simp[G.on])) rfl stq ?_;refine J.qT λ_=>?_;refine J.q λbs=>?_;refine J.cO 191 25 1 1 (H7 [x]) 4 ?_;have hs:V.tops (l.take (k+1))=[x]:=by rw[hts];rfl
   refine J.slot (k:=3) (s':=⟨3,slv (some (bs 0)) [x].length 1,0, .tt⟩) rfl rfl rfl ?_;refine J.q λ_=>?_;refine J.n ((k+1,some (bs 0),1,[x])) (⟨by dsimp only;omega,hs⟩) (by dsimp only;omega) [0,1,4]
  ·refine J.know (λh' s=>D7 (c:=(a1,c1)) (by simp) (s.get (i:=2) rfl)) λhg=>?_;obtain⟨ga,rfl⟩:=hg;refine J.pq (.of [0,4,8,12,16,20,25,29,34,36,40]) [] [1,2,3] λ_ _=>?_;refine J.vT (fdV y) rfl rfl (λhg a w he hC=>?_) ?_
   ·exact L8 tk rfl rfl he hg rfl rfl (hC rfl _ (C4 (i:=2) rfl)) rfl rfl
   have hnz:(((y::o).length:Int)==0)=false:=by rw[r9,o0];omega
   rw[hnz];refine J.qp (b1u y x) [] λ_=>?_;refine J.qd (λ_ h2=>?_) λ_ h2=>?_
   ·refine J.q λbs=>?_;refine J.cO 191 25 1 1 (H7 [x]) 4 ?_;have hs:V.tops (l.take (k+1))=[x]:=by rw[hts];rw[V.topsStep,i9 (by simpa using h2)]
    refine J.slot (k:=3) (s':=⟨3,slv (some (bs 0)) [x].length 1,0, .tt⟩) rfl rfl rfl ?_;refine J.q λ_=>?_;refine J.n ((k+1,some (bs 0),1,[x])) (⟨by dsimp only;omega,hs⟩) (by dsimp only;omega) [0,1,4]
   ·refine J.pq (.of [1,4,8,13,19,20,24]) [4,5,6] [1,2,3] λ_ _=>?_;refine J.vT (fdV y) rfl rfl (λhg a w he hC=>?_) ?_
    ·exact L8 tk rfl rfl he hg rfl rfl (hC rfl _ (C4 (i:=2) rfl)) rfl rfl
    refine J.qp (b1u x y) [] λ_=>?_;refine J.qd (λ_ h3=>?_) λ_ h3=>?_
    ·refine J.q λ_=>?_;have hs:V.tops (l.take (k+1))=y::o++[x]:=by rw[hts,V.topsStep,i7 (by simpa using h2),i7 (by simpa using h3)]
     refine J.append hX tk 2 4 0 rfl rfl rfl rfl rfl rfl rfl rfl rfl rfl rfl rfl rfl rfl rfl rfl ?_ ?_ (λ_=>rfl) λa3 c3=>⟨_,(congrArg (λz=>V3 _ 2 (t7 _ _ _ _ _ z)) (a3X (y::o) x).symm).trans rfl,trivial,?_⟩
     ·simp only[maxLen];omega
     ·omega
     rw[show(y::o).length+1=(y::o++[x]).length from by simp];refine J.q λ_=>?_;refine J.n ((k+1,a3,c3,y::o++[x])) (⟨by dsimp only;omega,hs⟩) (by dsimp only;omega) [0,1,2]
    ·have hs:V.tops (l.take (k+1))=y::o:=by rw[hts,V.topsStep,i7 (by simpa using h2),i9 (by simpa using h3)]
     refine J.q λ_=>?_;refine J.n ((k+1,some ga,c1,y::o)) (⟨by dsimp only;omega,hs⟩) (by dsimp only;omega) [0,1,2]
 ·simp only[c9,j9]at h1;obtain rfl:k=n:=by omega
  rw[B5 (by omega)]at hto;subst hto;refine J.qr [1,2] λ_=>?_;exact⟨a1,c1,rfl,rfl⟩
def b0l (x:Int):Bool:=x !=2&&x !=4
theorem b8Q (A:Atom) (x:Int):FP 200 [iI x] [A] (Ps (.bool (b0l x)) [A]):=by
 refine FE [0] Tryz.func200 λX F hX=>?_;exact J.qx [1]
theorem b1e (N:Nand) (b r:Int):V.blankRow N b r= !(((M.rowN N b r N.dies).map (·.2)).any b0l):=by
 unfold V.blankRow;rw[List.any_map,List.not_any_eq_all_not];congr 1;funext x;show(x.2==2||x.2==4)= !(!(x.2==2)&& !(x.2==4));cases(x.2==2)<;>cases(x.2==4)<;>rfl
def V.upto (N:Nand) (f:Fnd) (k:Nat):Bool:=(List.range k).all λr:Nat=>decide ((r:Int)<=f.row)||V.blankRow N f.block r
theorem V.upto_succ (N:Nand) (f:Fnd) (k:Nat):V.upto N f (k+1)=(V.upto N f k&&(decide ((k:Int)<=f.row)||V.blankRow N f.block k)):=by
 unfold V.upto;rw[A9,List.all_append];simp
theorem V.upto_le (N:Nand) (f:Fnd) (k r0:Nat) (hr:f.row=(r0:Int)) (h:k<=r0+1):V.upto N f k=true:=by
 unfold V.upto;rw[H4];intro r hr2;rw[K0]at hr2;rw[l8 (by omega)];rfl
theorem c0F (p:Nat) (N:Nand) (hN:N.Ok) (hR:N.Room) (sp:Nat) (H:Value) (f:Fnd) (r0:Nat) (hr:f.row=(r0:Int)) (hr2:r0<=1000):FP 132 [pp sp,fdV f] [C1 p N, .pt sp 187 [pp p,H]]
  (Ps (.bool (V.last N f)) [C1 p N, .pt sp 187 [pp p,H]]):=by
 have hbd:=hN.bd;refine FE [3,0] Tryz.func132 λX F hX=>?_;refine J.q λbb=>?_;rw[hr];refine J.q λ_=>?_;refine J.l (α:=Nat) (λk=>r0+1<=k/\V.upto N f k=true/\(k=r0+1\/k<=N.pages)) (λk=>[si 5 k,⟨0,pp sp,3, .tt⟩,⟨3,pp (bb 0),4, .tt⟩]) [] (λk=>[]) (λk=>N.pages-k) (r0+1) (⟨m9 _,V.upto_le N f _ r0 hr (m9 _), .inl rfl⟩) λk hI=>?_;refine J.qp (a1s p N) [1] λ_=>?_;refine J.qd (λ_ h1=>?_) λ_ h1=>?_
 ·simp only[g7,j9]at h1;refine J.p (.of [0,4,8,13,16,20,25,28,34,36,40,44,48,52]) [13] [1,2,3] λ_=>?_;refine J.qc (c0z p N hN hR f.block k) [1] λ_=>?_;rintro v As ⟨a1,c1,a2,c2,rfl,rfl⟩;refine⟨_,rfl,stq,?_⟩;refine J.q λ_=>?_;refine J.ca hX (by kernel_rfl) (a6q 200 [] b0l (C1 p N) (by kernel_rfl) ((M.rowN N f.block k N.dies).map (·.2)) (λx _=>b8Q (C1 p N) x) a2 N.dies c2 (by simp[M.rowN]) (by omega)) [5,1] 0 rfl rfl rfl rfl rfl rfl (λ_=>rfl) ?_;refine cpq ⟨_,rfl,trivial,?_⟩;have hbl:=b1e N f.block k;have hk:=V.upto_succ N f k;have hlt:decide ((k:Int)<=f.row)=false:=by rw[c9];omega
  rw[hI.2.1,hlt]at hk;refine J.qd (λ_ h2=>?_) λ_ h2=>?_
  ·rw[h2]at hbl;refine J.qr [1,2] λ_=>?_;refine⟨?_,rfl⟩;have:V.last N f=false:=by
    unfold V.last;rw[Bool.and_eq_false_iff];left;rw[List.all_eq_false];exact⟨k,List.mem_range.2 h1,by rw[hlt,hbl];simp⟩
   rw[this]
  ·rw[h2]at hbl;rw[hbl]at hk;refine J.q λ_=>?_;refine J.n (k+1) (⟨by omega,hk,by omega⟩) (by omega) [0,1,2,3]
 ·simp only[c9,j9]at h1;have hup:V.upto N f N.pages=true:=by
   rcases hI.2.2 with h | h
   ·exact V.upto_le N f _ r0 hr (by omega)
   ·rw[show N.pages=k by omega];exact hI.2.1
  refine J.qp (a1v f.mask f.block f.row) [] λ_=>?_;have hv:V.last N f=((M.look N (G.parity f.mask f.block f.row) f.block f.row).2 !=4):=by
   unfold V.last;have:((List.range N.pages).all λr:Nat=>decide ((r:Int)<=f.row)||V.blankRow N f.block r)=true:=hup;rw[this,x7]
  refine J.pq (.take true 0 (.take true 1 (.take true 2 (.take false 3 (.take true 4 (.take true 5 (.take true 6 (.take false 7 (.take true 8 (.take true 9 (.take false 10 (.take true 11 (.alt false 12 ((.of [52,56,60,66,70,72])) (.alt false 16 ((.of [50,52,56,60,70,72])) .non)))))))))))))) [18] [1,2,3] λ_ _=>?_;refine J.alts ?_ ?_
  ·skip
   refine J.qp (a5X p N hN hR (G.parity f.mask f.block f.row) f.block f.row) [1] λ_=>?_;refine J.qr [1,2] λ_=>?_;exact⟨by rw[hv],rfl⟩
  ·skip
   refine J.qn 1 λ_=>?_;refine J.qp (a5X p N hN hR (G.parity f.mask f.block f.row) f.block f.row) [1] λ_=>?_;refine J.qr [1,2] λ_=>?_;exact⟨by rw[hv],rfl⟩
theorem b0a (l:List Fnd) (r:List Value) (k:Nat) (x:Fnd) (h:l[k]? =some x):((H7 l++r).drop (k*25)).take 25=fnL x:=by
 have hk:k<l.length:=(List.getElem?_eq_some_iff.1 h).1;rw[List.drop_append_of_le_length (by rw[X8];omega),List.take_append_of_le_length (by rw[B6,X8];omega)];exact a2i h
theorem a8A:∀(l:List Fnd) (r:List Value) (k:Nat) (x:Fnd),k<l.length->(H7 l++r).take (k*25)++fnL x++(H7 l++r).drop (k*25+25)=H7 (l.set k x)++r
 | [],_,_,_,h=>by simp at h
 | y::l,r,0,x,h=>by simp[H7,fnL]
 | y::l,r,k+1,x,h=>by
  have:=a8A l r k x (by simpa using h);have hy:(fnL y).length=25:=rfl;have e1:H7 (y::l)++r=fnL y++(H7 l++r):=by simp[H7]
  have e2:H7 ((y::l).set (k+1) x)++r=fnL y++(H7 (l.set k x)++r):=by simp[H7]
  rw[e1,e2,<- this,show(k+1)*25=(fnL y).length+k*25 from by omega,T8,show(fnL y).length+k*25+25=(fnL y).length+(k*25+25)from by omega,<- C0,U7 rfl];simp only[s8]
def b9R (p:Fnd->Bool) (l:List Fnd):Int:=match l.findIdx? p with
 | some k=>k
 | none=> -1
theorem b5t {p:Fnd->Bool} {l:List Fnd} {k:Nat} {x:Fnd} (h:l[k]? =some x) (h0:∀i<k,p (l.getD i Fnd.zero)=false) (hp:p x=true):l.findIdx? p=some k:=by
 rw[x6];obtain⟨h1,h2⟩:=List.getElem?_eq_some_iff.1 h;refine⟨h1,by rw[h2];exact hp,λj hj=>?_⟩;have:=h0 j hj;rw[d7,d6 (by omega),m7]at this;simp[this]
theorem b5u {p:Fnd->Bool} {l:List Fnd} (h0:∀i<l.length,p (l.getD i Fnd.zero)=false):l.findIdx? p=none:=by
 rw[D0];intro x hx;obtain⟨i,hi,rfl⟩:=List.mem_iff_getElem.1 hx;have:=h0 i hi
 rwa [d7,d6 hi,m7]at this
theorem b5X (c:Nat) (cs:List Value) (p:Fnd->Bool) (A:Atom) (hcal:J7 Tryz.prog c=true) (l:List Fnd) (hf:∀x∈l,Fn Tryz.prog c (fdV x::cs) [A] (λv As=>v= .bool (p x)/\As=[A]))
  (a:Option Nat) (n cap:Nat) (hl:l.length=n) (hn:n<=4611686018427387904):FP 262 [slv a n cap,fnC c cs] [t7 191 25 a n cap (H7 l),A]
  (λv As=>v=iI (b9R p l)/\As=[t7 191 25 a n cap (H7 l),A]):=by
 refine FE [0,0] Tryz.func262 λX F hX=>?_;refine J.q λ_=>?_;refine J.l (α:=Nat) (λk=>k<=n/\∀i<k,p (l.getD i Fnd.zero)=false) (λk=>[si 8 k,si 7 n,sv 0 (slv a n cap),⟨1,fnC c cs,0, .tt⟩]) [] (λk=>[]) (λk=>n-k) (0) (⟨by omega,by omega⟩) λk hI=>?_;refine J.qd (λ_ h1=>?_) λ_ h1=>?_
 ·simp only[g7,j9]at h1;cases a with
  | none=>
   refine J.know (λh' s=>(s.get (i:=1) rfl).2.1) λhn0=>?_;omega
  | some g=>
   have hk:l[k]? =some (l.getD k Fnd.zero):=by rw[d7,d6 (by omega),m7]
   refine J.q λ_=>?_;refine J.v (fdV (l.getD k Fnd.zero)) rfl rfl (λhg a w he hs=>?_) ?_
   ·exact L8 tk rfl rfl he rfl rfl rfl (hs.get (i:=1) rfl) (by rw[show 0+(k:Int).toNat*25=k*25 from by omega];have:=b0a l [] k _ hk;rwa [B4]at this) rfl
   refine J.q λ_=>?_;refine J.call hX hcal (hf (l.getD k Fnd.zero) (x9 hk)) [2] 0 rfl rfl rfl rfl (by(repeat' (first | exact Conj.nil | refine Conj.cons ?_ ?_ | omega | exact hq0 | (simpa using hq0) | (exactλh=>h) | exact rfl | (intro hq;have hq0:=hq;try simp only[j5,n5,g7,j7,c9]at hq) | (simp;done) | (simp;omega) | decide))) rfl rfl (λ_=>rfl) ?_;refine cpq ⟨_,rfl,trivial,?_⟩;refine J.qd (λ_ h2=>?_) λ_ h2=>?_
   ·refine J.qr [1,2] λ_=>?_;exact⟨by rw[b9R,b5t hk hI.2 h2],rfl⟩
   ·refine J.q λ_=>?_;refine J.nx (k+1) (⟨by omega,λi hi=>by
     rcases Nat.lt_succ_iff_lt_or_eq.1 hi with h3 | h3
     ·exact hI.2 i h3
     ·rw[h3];exact h2⟩) (by omega) (λ_ s=>s)
 ·simp only[c9,j9]at h1;refine J.qr [1,2] λ_=>?_;exact⟨by rw[b9R,b5u (λi hi=>hI.2 i (by omega))],rfl⟩
theorem b3z (l:List Fnd):∀u∈H7 l,u.oneCell'=true:=by
 intro u hu;simp only[H7,M2]at hu;obtain⟨s,_,hu⟩:=hu;simp only[fnL,J0,V6,a5G]at hu;rcases hu with rfl | rfl | rfl | rfl | rfl | rfl | rfl | rfl | rfl | rfl | rfl | rfl | rfl | rfl | rfl | rfl | rfl | rfl | rfl | rfl | rfl | rfl | rfl | rfl | rfl<;>rfl
theorem b6a (a:Option Nat) (n cap:Nat) (l:List Fnd) (hl:l.length=n) (hn:n<=1000000):FP 203 [slv a n cap] [t7 191 25 a n cap (H7 l)]
  (λv As=>∃a' c',v=slv a' n c'/\As=[t7 191 25 a n cap (H7 l),t7 191 25 a' n c' (H7 l)]):=by
 refine FE [0] Tryz.func203 λX F hX=>?_;cases a with
 | none=>
  refine J.know (λh' s=>(s.get (i:=1) rfl).2) λhn0=>?_;obtain⟨rfl,rfl⟩:=hn0;have:l=[]:=p6 hl;subst this;refine J.qT λ_=>?_;refine J.turn1 [] rfl (As:=[t7 191 25 none 0 0 (H7 [])]) (λh s=>Sep.one ⟨rfl,rfl,rfl⟩) rfl ?_;refine J.qr [1,2] λ_=>?_;exact⟨none,0,rfl,rfl⟩
 | some g=>
  refine J.qF λ_=>?_;refine J.qn 5 λbb=>?_;refine J.closeOwn (e:=191) (size:=25) (n:=0) (cap:=0) (xs:=[]) 2 rfl rfl rfl (m9 _) (n7 _) rfl rfl rfl ?_;refine J.q λ_=>?_;refine J.appendR hX tk (a:=some (bb 0)) (n:=0) (cap:=0) (xs:=[]) (oo:=0) (Ay:=t7 191 25 (some g) n cap (H7 l)) 2 1 0 rfl rfl rfl rfl rfl rfl rfl rfl rfl rfl (Z5 _ _ (some g) _ _ _) rfl rfl rfl rfl (b3z l) ?_ ?_ (λ_=>rfl) λa' c'=>⟨_,rfl,trivial,?_⟩
  ·simp only[maxLen];omega
  ·omega
  rw[I3 n,R6];refine J.qr [1,2] λ_=>?_;exact⟨a',c',rfl,rfl⟩
def DelF (p:Fnd->Bool) (l m:List Fnd) (i j:Nat):Prop:=m.length=l.length/\i<j/\j<=l.length/\m.drop j=l.drop j/\m.take i++(l.drop j).filter (λx=>!p x)=l.filter (λx=>!p x)
theorem DelF.start {p:Fnd->Bool} {l:List Fnd} {k:Nat} (h:l.findIdx? p=some k):DelF p l l k (k+1):=by
 rw[x6]at h;obtain⟨h1,h2,h3⟩:=h;refine⟨rfl,by omega,by omega,rfl,?_⟩;have e:l=l.take k++l[k]::l.drop (k+1):=by rw[<- y7 h1,D5]
 have e2:(l.take k).filter (λx=>!p x)=l.take k:=by
  rw[U3];intro x hx;obtain⟨i,hi,rfl⟩:=List.mem_iff_getElem.1 hx;rw[a0e];have:=h3 i (by simp at hi;omega);simpa using this
 conv=>rhs;rw[e]
 rw[S8,e2,T7 (by simp[h2])]
theorem DelF.skip {p:Fnd->Bool} {l m:List Fnd} {i j:Nat} (h:DelF p l m i j) (hj:j<l.length) (hp:p (m.getD j Fnd.zero)=true):DelF p l m i (j+1):=by
 obtain⟨h1,h2,h3,h4,h5⟩:=h;have e1:m[j]? =l[j]?:=by have:=congrArg (λz=>z[0]?) h4;simpa using this
 have hx:l[j]=m.getD j Fnd.zero:=by rw[d7,e1,d6 hj,m7]
 refine⟨h1,by omega,by omega,?_,?_⟩
 ·have:=congrArg (List.drop 1) h4;simpa[C0]using this
 ·rw[<- h5,y7 hj,T7 (by rw[hx,hp];simp)]
theorem DelF.keep {p:Fnd->Bool} {l m:List Fnd} {i j:Nat} (h:DelF p l m i j) (hj:j<l.length) (hp:p (m.getD j Fnd.zero)=false):DelF p l (m.set i (m.getD j Fnd.zero)) (i+1) (j+1):=by
 obtain⟨h1,h2,h3,h4,h5⟩:=h;have e1:m[j]? =l[j]?:=by have:=congrArg (λz=>z[0]?) h4;simpa using this
 have hx:l[j]=m.getD j Fnd.zero:=by rw[d7,e1,d6 hj,m7]
 refine⟨by simp[h1],by omega,by omega,?_,?_⟩
 ·rw[List.drop_set_of_lt (by omega)];have:=congrArg (List.drop 1) h4;simpa[C0]using this
 ·rw[<- h5,y7 hj,a2I (by rw[hx,hp];simp),hx,a3Z,D6,d6 (by omega)];rw[R1 _ _ (by simp;omega)];simp[n9,O1 (show i<=m.length by omega)]
theorem b4y (c:Nat) (cs:List Value) (p:Fnd->Bool) (A:Atom) (hcal:J7 Tryz.prog c=true) (hf:∀x,Fn Tryz.prog c (fdV x::cs) [A] (λv As=>v= .bool (p x)/\As=[A]))
  (a:Option Nat) (n cap:Nat) (l:List Fnd) (hl:l.length=n) (hn:n<=4611686018427387904):FP 202 [slv a n cap,fnC c cs] [t7 191 25 a n cap (H7 l),A]
  (λv As=>∃l',l'=l.filter (λx=>!p x)/\v=slv a l'.length cap/\As=[t7 191 25 a l'.length cap (H7 l'),A]):=by
 refine FE [0,0] Tryz.func202 λX F hX=>?_;refine J.qp (b5X c cs p A hcal l (λx _=>hf x) a n cap hl hn) [1,2] λ_=>?_;rw[b9R];cases hx:l.findIdx? p with
 | none=>
  dsimp only;refine J.qT λ_=>?_;refine J.qr [1,2] λ_=>?_;have:l.filter (λx=>!p x)=l:=by
   rw[U3];intro x hm;rw[D0]at hx;simp[hx x hm]
  exact⟨l,this.symm,by rw[hl],by rw[hl];rfl⟩
 | some k=>
  dsimp only;refine J.qd (λ_ h0=>?_) λ_ h0=>?_
  ·simp only[A8]at h0;omega
  have hk:k<n:=by rw[x6]at hx;obtain⟨h1,_⟩:=hx;omega
  cases a with
  | none=>
   refine J.know (λh' s=>(s.get (i:=1) rfl).2.1) λhn0=>?_;omega
  | some g=>
   refine J.openOwn 1 rfl rfl (λ_=>rfl) λr q1 q2 q3 q4=>?_;refine J.q λ_=>?_;rw[show(k:Int)+1=((k+1:Nat):Int)from by omega];refine J.q λ_=>?_;refine J.l (α:=(Nat×Nat×List Fnd)) (λx=>DelF p l x.2.2 x.1 x.2.1) (λx=>[si 6 x.2.1,si 5 x.1,sv 0 (slv (some g) n cap),⟨1,fnC c cs,0, .tt⟩]) [1] (λx=>[.pt g 191 (H7 x.2.2++r)]) (λx=>n-x.2.1) ((k,k+1,l)) (DelF.start hx) λx hI=>?_;obtain⟨i,j,m⟩:=x;dsimp only at hI ⊢;have hml:m.length=n:=hI.1.trans hl;have hij:i<j:=hI.2.1;have hjn:j<=n:=by have:=hI.2.2.1;omega
   refine J.qd (λ_ h1=>?_) λ_ h1=>?_
   ·simp only[g7,j9]at h1;have hget:m[j]? =some (m.getD j Fnd.zero):=by rw[d7,d6 (by omega),m7]
    refine J.q λ_=>?_;refine J.v (fdV (m.getD j Fnd.zero)) rfl rfl (λhg a w he hs=>?_) ?_
    ·exact I6 tk rfl rfl he rfl rfl rfl (hs.get (i:=1) rfl) (by rw[show 0+(j:Int).toNat*25=j*25 from by omega];exact b0a m r _ _ hget) rfl
    refine J.q λ_=>?_;refine J.call hX hcal (hf (m.getD j Fnd.zero)) [2] 0 rfl rfl rfl rfl (by(repeat' (first | exact Conj.nil | refine Conj.cons ?_ ?_ | omega | exact hq0 | (simpa using hq0) | (exactλh=>h) | exact rfl | (intro hq;have hq0:=hq;try simp only[j5,n5,g7,j7,c9]at hq) | (simp;done) | (simp;omega) | decide))) rfl rfl (λ_=>rfl) ?_;refine cpq ⟨_,rfl,trivial,?_⟩;refine J.qd (λ_ h2=>?_) λ_ h2=>?_
    ·simp only[j7]at h2;refine J.q λ_=>?_;refine J.storeN hX tk 1 rfl rfl rfl rfl rfl rfl rfl rfl rfl rfl rfl rfl rfl ?_ (H7 (m.set i (m.getD j Fnd.zero))++r) ?_ rfl (λ_=>rfl) ⟨trivial,?_⟩
     ·rw[j6,X8];show 0+(i:Int).toNat*25+25<=_;omega
     ·rw[show 0+(i:Int).toNat*25=i*25 from by omega];exact a8A m r i _ (by omega)
     refine J.q λ_=>?_;refine J.n ((i+1,j+1,m.set i (m.getD j Fnd.zero))) (hI.keep (by omega) h2) (by dsimp only;omega) [0,1,2]
    ·simp only[B2]at h2;refine J.q λ_=>?_;refine J.n ((i,j+1,m)) (hI.skip (by omega) h2) (by dsimp only;omega) [0,1,2]
   ·simp only[c9,j9]at h1;obtain rfl:j=n:=by omega
    have hfil:m.take i=l.filter (λx=>!p x):=by
     have h5:=hI.2.2.2.2;rw[H2 (by omega)]at h5;simpa using h5
    refine J.q λ_=>?_;refine J.clear hX tk 1 rfl rfl rfl rfl rfl rfl rfl rfl rfl rfl rfl ?_ (λ_=>rfl) (λ_=>rfl) λcs' z1 z2=>⟨trivial,?_⟩
    ·rw[j6,X8];rw[X8]at q4;show 0+(i:Int).toNat*25+(j-(i:Int).toNat)*25<=_;have:(i:Int).toNat=i:=by omega
     rw[this];omega
    have hilen:(l.filter (λx=>!p x)).length=i:=by rw[<- hfil,n9];omega
    refine J.closeOwn (e:=191) (size:=25) (n:=i) (cap:=cap) (xs:=H7 (l.filter (λx=>!p x))) 1 rfl rfl (by rw[X8,hilen]) (by omega) q3 (by rw[z1,j6,X8,hml];rw[X8,hl]at q4;exact q4) ?_ rfl ?_
    ·have z3:(0+(i:Int).toNat*25)=i*25:=by omega
     rw[z3]at z2;rw[z2,<- hfil];have e:H7 m=H7 (m.take i)++H7 (m.drop i):=by
      conv=>lhs;rw[<- D5 i m]
      simp only[H7,J8]
     rw[e,s8,E7 (by rw[X8,n9,O1 (by omega)])]
    refine J.qr [1,2] λ_=>?_;exact⟨_,rfl,by rw[hilen];rfl,by rw[hilen];rfl⟩
structure FSlot where
 a:Option Nat
 cap:Nat
 l:List Fnd
def FSlot.hdr (z:FSlot):Value:=slv z.a z.l.length z.cap
def FSlot.atom (z:FSlot):Atom:=t7 191 25 z.a z.l.length z.cap (H7 z.l)
def a3S (Z:List FSlot):List Value:=Z.map FSlot.hdr
def a5y (Z:List FSlot):List Atom:=Z.map FSlot.atom
theorem b2n {Z:List FSlot} {k:Nat} {z:FSlot} (h:Z[k]? =some z):(a3S Z)[0+(k:Int).toNat*1]? =some z.hdr:=by
 rw[show 0+(k:Int).toNat*1=k from by omega,a3S,m6,h];rfl
theorem a5x {Z:List FSlot} {k:Nat} {z:FSlot} (h:Z[k]? =some z):(a5y Z)[k]? =some z.atom:=by
 rw[a5y,m6,h];rfl
theorem a6h {Z:List FSlot} {k:Nat} {z:FSlot} (h:Z[k]? =some z):(a5y Z).set k z.atom=a5y Z:=by
 apply y6;intro i;rw[u0];split
 ·rename_i e;subst e;split
  ·exact(a5x h).symm
  ·rename_i e2;rw[n4 (by omega)]
 ·rfl
theorem b8n (Z:List FSlot) (k:Nat) (z:FSlot):(a5y Z).set k z.atom=a5y (Z.set k z):=by rw[a5y,a5y,K1]
theorem b7X (Z:List FSlot) (k:Nat) (z:FSlot):(a3S Z).set k z.hdr=a3S (Z.set k z):=by rw[a3S,a3S,K1]
def V.standOf (l:List Fnd):Fnd×Bool:=match V.tops l with
 | []=>(Fnd.zero,false)
 | f::_=>(f,true)
def ScP (sp p g:Nat) (Z:List FSlot):List Atom:=[.pt sp 187 [pp p, .slice (some ⟨g,0,none⟩) Z.length Z.length], .pt g 188 (a3S Z), .hp (HP.of (a5y Z))]
theorem b6f (sp p g:Nat) (Z:List FSlot) (k:Nat) (z:FSlot) (hz:Z[k]? =some z) (hn:Z.length<=100000) (hl:z.l.length<=100000):FP 130 [pp sp,iI k] (ScP sp p g Z)
  (Ps (.tuple #[fdV (V.standOf z.l).1, .bool (V.standOf z.l).2]) (ScP sp p g Z)):=by
 have hk:k<Z.length:=(List.getElem?_eq_some_iff.1 hz).1;refine FE [2,0] Tryz.func130 λX F hX=>?_;refine J.q λ_=>?_;refine J.v z.hdr rfl rfl (λhg a w he hs=>?_) ?_
 ·exact D8 tk rfl rfl he rfl rfl rfl (hs.get (i:=2) rfl) (b2n hz)
 refine J.openAt 3 k rfl rfl (a5x hz) rfl ?_;refine J.qc (b6e z.a z.l.length z.cap z.l rfl hl) [5] λ_=>?_;rintro v As ⟨a',c',rfl,rfl⟩;refine⟨_,rfl,trivial,?_⟩;have hv:V.standOf z.l=match V.tops z.l with
  | []=>(Fnd.zero,false)
  | f::_=>(f,true):=rfl
 rcases ht:V.tops z.l with _ | ⟨f,o⟩
 ·rw[ht]at hv;refine J.qT λ_=>?_;refine J.q λ_=>?_;refine J.closeAt (A:=z.atom) 3 5 k rfl rfl rfl ?_;rw[a6h hz];refine J.qr [1,2,3] λ_=>?_;exact⟨by rw[hv];rfl,rfl⟩
 ·rw[ht]at hv;refine J.know (λh' s=>D7 (c:=(a',c')) (by simp) (s.get (i:=6) rfl)) λhg=>?_;obtain⟨ga,rfl⟩:=hg;refine J.qd (λ_ h1=>?_) λ_ h1=>?_
  ·simp only[A8,o0]at h1;omega
  refine J.q λ_=>?_;refine J.v (fdV f) rfl rfl (λhg a w he hs=>?_) ?_
  ·exact L8 tk rfl rfl he rfl rfl rfl (hs.get (i:=6) rfl) rfl rfl
  refine J.q λ_=>?_;refine J.closeAt (A:=z.atom) 3 5 k rfl rfl rfl ?_;rw[a6h hz];refine J.qr [1,2,3] λ_=>?_;exact⟨by rw[hv];rfl,rfl⟩
theorem b6g (A:Atom) (x:Fnd):FP 204 [fdV x] [A] (Ps (.bool (!x.whole)) [A]):=by
 refine FE [0] Tryz.func204 λX F hX=>?_;exact J.qx [1]
theorem b8R (sp p g:Nat) (Z:List FSlot) (k:Nat) (z:FSlot) (hz:Z[k]? =some z) (hn:Z.length<=100000) (hl:z.l.length<=100000):FP 133 [pp sp,iI k] (ScP sp p g Z)
  (λv As=>∃a c,v=slv a (V.holds z.l).length c/\As=ScP sp p g Z++[t7 3 1 a (V.holds z.l).length c (A4 (V.holds z.l))]):=by
 have hk:k<Z.length:=(List.getElem?_eq_some_iff.1 hz).1;refine FE [2,0] Tryz.func133 λX F hX=>?_;refine J.q λ_=>?_;refine J.v z.hdr rfl rfl (λhg a w he hs=>?_) ?_
 ·exact D8 tk rfl rfl he rfl rfl rfl (hs.get (i:=2) rfl) (b2n hz)
 refine J.openAt 3 k rfl rfl (a5x hz) rfl ?_;refine J.qc (b6a z.a z.l.length z.cap z.l rfl (by omega)) [4] λ_=>?_;rintro v As ⟨a1,c1,rfl,rfl⟩;refine⟨_,rfl,trivial,?_⟩;refine J.closeAt (A:=z.atom) 3 4 k rfl rfl rfl ?_;rw[a6h hz];refine J.q λ_=>?_;refine J.ca hX (by kernel_rfl) (b4y 204 [] (λx=>!x.whole) (.pt sp 187 [pp p, .slice (some ⟨g,0,none⟩) Z.length Z.length]) (by kernel_rfl) (λx=>b6g _ x) a1 z.l.length c1 z.l rfl (by omega)) [5,1] 0 rfl rfl rfl rfl rfl rfl (λ_=>rfl) ?_;rintro v As ⟨l',hl',rfl,rfl⟩;refine⟨_,rfl,trivial,?_⟩;have hl2:l'=z.l.filter λf=>f.whole:=by rw[hl'];congr 1;funext x;simp
 have hll:l'.length<=z.l.length:=by rw[hl'];exact I5 _ _
 have htl:=a7w l';have hh:V.holds z.l=(V.tops l').map (·.block):=by rw[hl2];rfl
 refine J.qc (b6e a1 l'.length c1 l' rfl (by omega)) [5] λ_=>?_;rintro v As ⟨a2,c2,rfl,rfl⟩;refine⟨_,rfl,trivial,?_⟩;refine J.turn1 [] rfl (As:=[t7 3 1 none 0 0 (A4 [])]) (λh s=>Sep.one ⟨rfl,rfl,rfl⟩) rfl ?_;refine J.q λ_=>?_;refine J.l (α:=(Nat×Option Nat×Nat)) (λw=>w.1<=(V.tops l').length) (λw=>[si 21 w.1,⟨20,iI (V.tops l').length,0, .tt⟩,sv 19 (slv a2 (V.tops l').length c2),sv 6 (slv w.2.1 w.1 w.2.2)]) [7] (λw=>[t7 3 1 w.2.1 w.1 w.2.2 (A4 (((V.tops l').take w.1).map (·.block)))]) (λw=>(V.tops l').length-w.1) ((0,none,0)) (n7 _) λw hI=>?_;obtain⟨j,a3,c3⟩:=w;dsimp only at hI ⊢;refine J.qd (λ_ h1=>?_) λ_ h1=>?_
 ·simp only[g7,j9]at h1;obtain⟨x,hx⟩:∃x,(V.tops l')[j]? =some x:=⟨_,d6 h1⟩;have htk:((V.tops l').take (j+1)).map (·.block)=((V.tops l').take j).map (·.block)++[x.block]:=by rw[D6,hx];simp
  refine J.know (λh' s=>D7 (c:=(a2,c2)) (by omega) (s.get (i:=6) rfl)) λhg=>?_;obtain⟨ga,rfl⟩:=hg;refine J.q λ_=>?_;refine J.v (fdV x) rfl rfl (λhg a w he hs=>?_) ?_
  ·exact L8 tk rfl rfl he rfl rfl rfl (hs.get (i:=6) rfl) (by rw[show 0+(j:Int).toNat*25=j*25 from by omega];exact a2i hx) rfl
  refine J.q λ_=>?_;refine J.ap 7 9 0 ((a1A _ x.block).symm.trans (congrArg A4 htk.symm)) λa4 c4=>?_;refine J.q λ_=>?_;refine J.n ((j+1,a4,c4)) (by dsimp only;omega) (by dsimp only;omega) [0,1,2,3,4,5,6,7]
 ·simp only[c9,j9]at h1;obtain rfl:j=(V.tops l').length:=by omega
  rw[V5,<- hh];refine J.qr [1,2,3,7] λ_=>?_;have hlen:(V.tops l').length=(V.holds z.l).length:=by rw[hh,q9]
  rw[hlen];exact⟨a3,c3,rfl,rfl⟩
end Go.Proofs.YtpakpgkdpofbhaaGreat
namespace Go.Proofs.YtpakpgkdpofbhaaGreat
open Go Go.Shelf
def b9k:Ren:=⟨λn=>if n=125 then 206 else if n=128 then 272 else if n=129 then 273 else if n=189 then 134 else if n=215 then 245 else if n=216 then 269 else if n=257 then 205 else if n=294 then 263 else if n=295 then 264 else if n=296 then 265 else if n=297 then 266 else if n=298 then 267 else if n=299 then 268 else if n=300 then 270 else if n=301 then 271 else if n=328 then 301 else if n=329 then 302 else if n=330 then 303 else if n=331 then 304 else if n=332 then 305 else if n=343 then 325 else 0,λn=>if n=0 then 0 else if n=3 then 3 else if n=4 then 4 else if n=5 then 5 else if n=9 then 9 else if n=28 then 35 else if n=46 then 175 else if n=51 then 303 else if n=53 then 289 else if n=131 then 318 else if n=182 then 313 else if n=183 then 314 else if n=218 then 341 else if n=222 then 339 else if n=228 then 356 else if n=229 then 357 else 0,λn=>n⟩
theorem b7y:Lays.n189 Tryz.prog b9k where
 mixed:=by kernel_rfl
 f125:=by kernel_rfl
 f128:=by kernel_rfl
 f129:=by kernel_rfl
 f189:=by kernel_rfl
 f215:=by kernel_rfl
 f216:=by kernel_rfl
 f257:=by kernel_rfl
 f294:=by kernel_rfl
 f295:=by kernel_rfl
 f296:=by kernel_rfl
 f297:=by kernel_rfl
 f298:=by kernel_rfl
 f299:=by kernel_rfl
 f300:=by kernel_rfl
 f301:=by kernel_rfl
 f328:=by kernel_rfl
 f329:=by kernel_rfl
 f330:=by kernel_rfl
 f331:=by kernel_rfl
 f332:=by kernel_rfl
 f343:=by kernel_rfl
 t0:=by kernel_rfl
 a0:=λw=>by kernel_rfl
 z0:=λw=>by kernel_rfl
 v0:=λw=>by kernel_rfl
 t3:=by kernel_rfl
 a3:=λw=>by kernel_rfl
 z3:=λw=>by kernel_rfl
 v3:=λw=>by kernel_rfl
 t4:=by kernel_rfl
 a4:=λw=>by kernel_rfl
 z4:=λw=>by kernel_rfl
 v4:=λw=>by kernel_rfl
 t5:=by kernel_rfl
 a5:=λw=>by kernel_rfl
 z5:=λw=>by kernel_rfl
 v5:=λw=>by kernel_rfl
 t9:=by kernel_rfl
 a9:=λw=>by kernel_rfl
 z9:=λw=>by kernel_rfl
 v9:=λw=>by kernel_rfl
 t28:=by kernel_rfl
 a28:=λw=>by kernel_rfl
 z28:=λw=>by kernel_rfl
 v28:=λw=>by kernel_rfl
 t46:=by kernel_rfl
 a46:=λw=>by kernel_rfl
 z46:=λw=>by kernel_rfl
 v46:=λw=>by kernel_rfl
 t51:=by kernel_rfl
 a51:=λw=>by kernel_rfl
 z51:=λw=>by kernel_rfl
 v51:=λw=>by kernel_rfl
 t53:=by kernel_rfl
 a53:=λw=>by kernel_rfl
 z53:=λw=>by kernel_rfl
 v53:=λw=>by kernel_rfl
 t131:=by kernel_rfl
 a131:=λw=>by kernel_rfl
 z131:=λw=>by kernel_rfl
 v131:=λw=>by kernel_rfl
 t182:=by kernel_rfl
 a182:=λw=>by kernel_rfl
 z182:=λw=>by kernel_rfl
 v182:=λw=>by kernel_rfl
 t183:=by kernel_rfl
 a183:=λw=>by kernel_rfl
 z183:=λw=>by kernel_rfl
 v183:=λw=>by kernel_rfl
 t218:=by kernel_rfl
 a218:=λw=>by kernel_rfl
 z218:=λw=>by kernel_rfl
 v218:=λw=>by kernel_rfl
 t222:=by kernel_rfl
 a222:=λw=>by kernel_rfl
 z222:=λw=>by kernel_rfl
 v222:=λw=>by kernel_rfl
 t228:=by kernel_rfl
 a228:=λw=>by kernel_rfl
 z228:=λw=>by kernel_rfl
 v228:=λw=>by kernel_rfl
 t229:=by kernel_rfl
 a229:=λw=>by kernel_rfl
 z229:=λw=>by kernel_rfl
 v229:=λw=>by kernel_rfl
end Go.Proofs.YtpakpgkdpofbhaaGreat
namespace Go.Proofs.YtpakpgkdpofbhaaGreat
open Go Go.RowKit
def leI (x y:Int):Bool:=decide (x<=y)
def a0P (l:List Int):List Int:=l.mergeSort leI
theorem a2J (l:List Int):(a0P l).length=l.length:=by rw[a0P,List.length_mergeSort]
theorem b5w {g n cap:Nat} {l:List Int} {w:World} (hl':l.length=n) (h:a1d 3 1 (some g) n cap (A4 l) (hl w)):Go.Sort.Holds (Value.int .i64) w g 0 l.toArray:=by
 obtain⟨h0,cur,h1,h2,h3,h4,h5⟩:=h;have h1':w.heap[g]? =some (.cells cur 3 (0,0)):=h1;intro j hj;have hj':j<l.length:=by simpa using hj
 have hc:cur.toList[j]? =some (.int .i64 l[j]):=by
  have:(cur.toList.take (n*1))[j]? =(A4 l)[j]?:=by rw[h5]
  rw[List.getElem?_take_of_lt (by omega)]at this;rw[this,A4,m6,d6 hj'];rfl
 have hg:l.toArray[j]! =l[j]:=by simp[hj']
 rw[hg];refine⟨?_,?_⟩
 ·simp only[World.cell?,I3,h1'];rw[E5]at hc;simp[hc]
 ·simp[World.frozen?,h1']
theorem b8L (a:Option Nat) (n cap:Nat) (l:List Int) (hl':l.length=n) (hn:n<=1000000):Fn Tryz.prog 134 [slv a n cap] [t7 3 1 a n cap (A4 l)]
  (λv As=>v= .tuple #[]/\As=[t7 3 1 a n cap (A4 (a0P l))]):=by
 cases a with
 | none=>
  intro F w s;have h0:n=0:=(s.get (i:=1) rfl).2.1;subst h0;have:l=[]:=p6 hl';subst this;have e:a0P []=a2E []:=by rw[a0P,List.mergeSort_nil];rfl
  rw[e];exact a7H none 0 cap [] rfl (by omega) F w s
 | some g=>
  intro F w s;have ho:a1d 3 1 (some g) n cap (A4 l) (hl w):=s.get (i:=1) rfl;have hH:=b5w hl' ho;obtain⟨h0,cur,h1,h2,h3,h4,h5⟩:=ho;have h1':w.heap[g]? =some (.cells cur 3 (0,0)):=h1;have hlt:g<w.heap.size:=(Array.getElem?_eq_some_iff.1 h1').1;have hc:=Any.slices_Sort_int b7y g 0 cap l w hH hlt (by omega);subst hl';refine Calls.mono hc λe w' ⟨e1,m,os,e2⟩=>?_;subst e1;have hsz:w.heap.size<=w'.heap.size:=by rw[e2];simp[Go.Sort.grow]
  have hother:∀k,k<w.heap.size->some k≠some g->w'.heap[k]? =w.heap[k]?:=λk hk hne=>by
   rw[e2];have:g≠k:=λe=>hne (by rw[e]);show(w.heap.modify g (Go.Sort.onCells (Go.Sort.putCells (Value.int .i64) 0 (a0P l).toArray))++os)[k]? =_;rw[Array.getElem?_append_left (by rw[Array.size_modify];exact hk),Y6,i7 this]
  have hthis:w'.heap[g]? =some (.cells (Go.Sort.putCells (Value.int .i64) 0 (a0P l).toArray cur) 3 (0,0)):=by
   rw[e2];show(w.heap.modify g (Go.Sort.onCells (Go.Sort.putCells (Value.int .i64) 0 (a0P l).toArray))++os)[g]? =_;rw[Array.getElem?_append_left (by rw[Array.size_modify];exact hlt),Y6,i9 rfl,h1'];rfl
  have hgr:w.grownBy w' (some g):=⟨by rw[e2];rfl,by rw[e2];rfl,by rw[e2];rfl,hsz,hother⟩;refine⟨.tuple #[],_,rfl,⟨rfl,rfl⟩,?_,⟨hgr.os,hgr.tape,hgr.output,hsz⟩⟩;refine Sep.step s (i:=1) (A:=t7 3 1 (some g) l.length cap (A4 l)) rfl (x:=some g) (x':=some g) (λh g' hs e=>?_) hgr (.inl rfl) (λh hh=>?_)
  ·injection e with e;subst e;obtain⟨_,cur',q,_⟩:=hs;exact⟨_,q⟩
  ·refine⟨by rw[A4,q9,a2J,U6],_,(hh g rfl).trans hthis,h2,h3,?_,?_⟩
   ·rw[Go.Sort.putCells,Array.size_mapIdx];exact h4
   ·apply y6;intro i;rw[U6,D2];split
    ·rename_i hi;have hi2:i<(a0P l).length:=by rw[a2J];exact hi
     rw[E5,Go.Sort.putCells,Array.getElem?_mapIdx,M7 (by omega),C9,i9 ⟨n7 _,by simpa using hi2⟩,A4,m6,d6 hi2];simp[hi2]
    ·rw[n4 (by rw[A4,q9,a2J];omega)]
end Go.Proofs.YtpakpgkdpofbhaaGreat
namespace Go.Proofs.YtpakpgkdpofbhaaGreat
structure Scd where
 tb:Tb
 torn:List En
 first:Nat
 held:List Int
 next:Int
 pages:Nat
structure Sst where
 tb:Tb
 torn:List En
 held:List Int
 others:List En
namespace V
def nextOf (l:List Fnd):Int:=l.foldl (λm f=>max m (f.en.seq+1)) 1
def step (N:Nand) (L:List Fnd) (s:Sst) (k:Nat):Sst:=
 if(standOf (of L k)).2=true then
  if(standOf (of L k)).1.whole=true then {s with tb:=s.tb.put (standOf (of L k)).1.en (standOf (of L k)).1.block (standOf (of L k)).1.row (standOf (of L k)).1.slot (standOf (of L k)).1.mask}
  else if last N (standOf (of L k)).1=true then⟨s.tb.put (standOf (of L k)).1.en (standOf (of L k)).1.block (standOf (of L k)).1.row (standOf (of L k)).1.slot (standOf (of L k)).1.mask,s.torn++[(standOf (of L k)).1.en],s.held++holds (of L k),s.others⟩
  else⟨s.tb.put (standOf (of L k)).1.en (standOf (of L k)).1.block (standOf (of L k)).1.row (standOf (of L k)).1.slot (standOf (of L k)).1.mask,s.torn,s.held,s.others++[(standOf (of L k)).1.en]⟩
 else s
def goS (N:Nand) (L:List Fnd) (n:Int) (k:Nat):Sst:=(List.range k).foldl (step N L) ⟨Tb.new n,[],[],[]⟩
def size (n:Int):Nat:=(min (max n 0) 65536).toNat
def scanOf (N:Nand) (L:List Fnd) (n:Int):Scd:=⟨(goS N L n (size n)).tb,(goS N L n (size n)).torn++(goS N L n (size n)).others,(goS N L n (size n)).torn.length,K9 (a0P (goS N L n (size n)).held),nextOf L,L.length⟩
def scan (N:Nand) (n:Int):Scd:=scanOf N (all N) n
theorem goS_succ (N:Nand) (L:List Fnd) (n:Int) (k:Nat):goS N L n (k+1)=step N L (goS N L n k) k:=by unfold goS;rw[A9,C3];rfl
theorem step_tb (N:Nand) (L:List Fnd) (s:Sst) (k:Nat):(step N L s k).tb=s.tb\/(standOf (of L k)).2=true/\(step N L s k).tb=s.tb.put (standOf (of L k)).1.en (standOf (of L k)).1.block (standOf (of L k)).1.row (standOf (of L k)).1.slot (standOf (of L k)).1.mask:=by
 unfold step;split
 ·right;rename_i h;refine⟨h,?_⟩;split
  ·rfl
  ·split<;>rfl
 ·left;rfl
theorem goS_ok (N:Nand) (L:List Fnd) (n:Int):∀k,(goS N L n k).tb.Ok
 | 0=>Tb.Ok.new n
 | k+1=>by
  rw[goS_succ];rcases step_tb N L (goS N L n k) k with h | ⟨_,h⟩
  ·rw[h];exact goS_ok N L n k
  ·rw[h];exact(goS_ok N L n k).put _ _ _ _ _
theorem goS_log (N:Nand) (L:List Fnd) (n:Int):∀k,(goS N L n k).tb.logical=min (max n 0) 65536
 | 0=>rfl
 | k+1=>by
  rw[goS_succ];rcases step_tb N L (goS N L n k) k with h | ⟨_,h⟩
  ·rw[h];exact goS_log N L n k
  ·rw[h,Tb.put_logical];exact goS_log N L n k
theorem tops_mem {l:List Fnd} {f:Fnd}:f∈tops l->f∈l:=by
 have:∀k,k<=l.length->∀f∈tops (l.take k),f∈l:=by
  intro k
  induction k with
  | zero=>intro _ f hf;simp[tops]at hf
  | succ k ih=>
   intro hk f hf;rw[a5R (d6 (by omega))]at hf;have ih:=ih (by omega);have hx:l[k]∈l:=H9 _
   revert hf ih
   generalize tops (l.take k)=o;intro hf ih;cases o with
   | nil=>simp[topsStep]at hf;rw[hf];exact hx
   | cons h t=>
    simp only[topsStep]at hf;split at hf
    ·simp at hf;rw[hf];exact hx
    ·split at hf
     ·exact ih f hf
     ·rw[L9]at hf;rcases hf with hf | hf
      ·exact ih f hf
      ·simp at hf;rw[hf];exact hx
 intro h;refine this l.length (m9 _) f ?_
 rwa [V5]
theorem standOf_mem {l:List Fnd} (h:(standOf l).2=true):(standOf l).1∈l:=by
 have hm:∀f,f∈tops l->f∈l:=λf=>tops_mem
 revert h
 unfold standOf;cases ht:tops l with
 | nil=>intro h;cases h
 | cons f o=>intro _;exact hm f (by rw[ht];exact H8 ..)
theorem of_len (L:List Fnd) (k:Int):(of L k).length<=L.length:=I5 _ _
theorem holds_len (l:List Fnd):(holds l).length<=l.length:=by
 unfold holds;rw[q9];exact E6 (a7w _) (I5 _ _)
theorem of_sum (L:List Fnd):∀k,((List.range k).map λi:Nat=>(of L (i:Int)).length).sum<=L.length:=by
 intro k
 induction L with
 | nil=>
  have:∀k:Nat,((List.range k).map λi:Nat=>(of [] (i:Int)).length).sum=0:=λk=>by
   induction k with
   | zero=>rfl
   | succ k ih=>rw[A9,A6,List.sum_append,ih];rfl
  rw[this];exact n7 _
 | cons x L ih=>
  have h1:∀i:Nat,(of (x::L) (i:Int)).length=(of L (i:Int)).length+(if x.en.lpn=(i:Int)then 1 else 0):=by
   intro i;unfold of;rw[V7];split
   ·rename_i h;simp only[A8]at h;rw[i9 h,o0]
   ·rename_i h;simp only[A8]at h;rw[i7 h];rfl
  have h2:∀k,((List.range k).map λi:Nat=>(of (x::L) (i:Int)).length).sum<=((List.range k).map λi:Nat=>(of L (i:Int)).length).sum+(if 0<=x.en.lpn/\x.en.lpn<(k:Int)then 1 else 0):=by
   intro k
   induction k with
   | zero=>simp
   | succ k ih=>
    rw[A9,A6,List.sum_append,A6,List.sum_append];simp only[s9,R7,a0k,List.sum_nil,P8];rw[h1];split at ih<;>split<;>split<;>omega
  have:=h2 k;rw[o0];split at this<;>omega
theorem goS_len (N:Nand) (L:List Fnd) (n:Int):∀k,(goS N L n k).torn.length<=k/\(goS N L n k).others.length<=k/\(goS N L n k).held.length<=((List.range k).map λi:Nat=>(of L (i:Int)).length).sum
 | 0=>by simp[goS]
 | k+1=>by
  have ih:=goS_len N L n k;have hh:=holds_len (of L k);rw[goS_succ,A9,A6,List.sum_append];simp only[s9,R7,a0k,List.sum_nil,P8];unfold step;split
  ·split
   ·dsimp only;omega
   ·split
    ·simp only[j6,o0,a0V];omega
    ·simp only[j6,o0,a0V];omega
  ·omega
theorem goS_held (N:Nand) (L:List Fnd) (n:Int) (k:Nat):(goS N L n k).held.length<=L.length:=E6 (goS_len N L n k).2.2 (of_sum L k)
theorem nextOf_snoc (l:List Fnd) (f:Fnd):nextOf (l++[f])=max (nextOf l) (f.en.seq+1):=by unfold nextOf;rw[C3];rfl
theorem of_snoc (l:List Fnd) (f:Fnd) (k:Int):of (l++[f]) k=if f.en.lpn=k then of l k++[f]else of l k:=by
 unfold of;rw[S8,V7]
 by_cases h:f.en.lpn=k
 ·rw[i9 h,i9 (by simpa using h)];rfl
 ·rw[i7 h,i7 (by simpa using h)];simp
def upB (N:Nand) (b:Nat):List Fnd:=(List.range b).flatMap λb=>(List.range N.pages).flatMap λr=>R.all N (b:Nat) (r:Nat)
def upR (N:Nand) (b r:Nat):List Fnd:=upB N b++(List.range r).flatMap λr=>R.all N (b:Nat) (r:Nat)
def upI (N:Nand) (b r i:Nat):List Fnd:=upR N b r++(R.all N (b:Nat) (r:Nat)).take i
theorem upR_zero (N:Nand) (b:Nat):upR N b 0=upB N b:=by simp[upR]
theorem upI_zero (N:Nand) (b r:Nat):upI N b r 0=upR N b r:=by simp[upI]
theorem upR_succ (N:Nand) (b r:Nat):upR N b (r+1)=upI N b r (R.all N (b:Nat) (r:Nat)).length:=by
 unfold upI upR;rw[V5,A9,J8,s8];simp
theorem upB_succ (N:Nand) (b:Nat):upB N (b+1)=upR N b N.pages:=by
 unfold upR upB;rw[A9,J8];simp
theorem upB_all (N:Nand):upB N N.blocks=all N:=rfl
theorem upI_succ {N:Nand} {b r i:Nat} {x:Fnd} (h:(R.all N (b:Nat) (r:Nat))[i]? =some x):upI N b r (i+1)=upI N b r i++[x]:=by
 unfold upI;rw[D6,h,K6,s8]
theorem nextOf_bd {l:List Fnd} (h:∀f∈l,a6p f.en):1<=nextOf l/\nextOf l<=1099511627776:=by
 have:∀(l:List Fnd) (m:Int),(∀f∈l,a6p f.en)->1<=m->m<=1099511627776->1<=l.foldl (λm f=>max m (f.en.seq+1)) m/\l.foldl (λm f=>max m (f.en.seq+1)) m<=1099511627776:=by
  intro l
  induction l with
  | nil=>intro m _ h1 h2;exact⟨h1,h2⟩
  | cons x l ih=>
   intro m hl h1 h2;have:=hl x (H8 ..);unfold a6p at this;exact ih (max m (x.en.seq+1)) (λf hf=>hl f (H6 _ hf)) (by omega) (by omega)
 exact this l 1 h (by omega) (by omega)
end V
end Go.Proofs.YtpakpgkdpofbhaaGreat
namespace Go.Proofs.YtpakpgkdpofbhaaGreat
def a9w (l:List Int):List Int:=K9 (a0P l)
theorem a3p:∀(l:List Int) (p:Int),(p::l).Pairwise (· <= ·)->(O9 p l).Pairwise (· < ·)/\(∀c∈O9 p l,p<c)/\∀c,c∈O9 p l\/c=p↔c∈l\/c=p
 | [],p,_=>by simp[O9]
 | x::l,p,h=>by
  have h1:=List.pairwise_cons.1 h;simp only[O9]
  by_cases e:x=p
  ·subst e;obtain⟨a,b,c⟩:=a3p l x h1.2;rw[i9 rfl];refine⟨a,b,λd=>?_⟩;rw[c d,J0];constructor
   ·rintro(h | h)<;>simp[h]
   ·rintro((h | h) | h)<;>simp[h]
  ·obtain⟨a,b,c⟩:=a3p l x h1.2;have hx:p<x:=by have:=h1.1 x (H8 ..);omega
   rw[i7 e];refine⟨List.pairwise_cons.2 ⟨b,a⟩,λd hd=>?_,λd=>?_⟩
   ·rcases List.mem_cons.1 hd with rfl | hd
    ·exact hx
    ·have:=b d hd;omega
   ·have:=c d;rw[J0,J0];constructor
    ·rintro((h | h) | h)
     ·simp[h]
     ·rcases this.1 (.inl h)with h | h<;>simp[h]
     ·simp[h]
    ·rintro((h | h) | h)
     ·simp[h]
     ·rcases this.2 (.inl h)with h | h<;>simp[h]
     ·simp[h]
theorem b0p (l:List Int):(a0P l).Pairwise (· <= ·):=by
 have:=List.pairwise_mergeSort (le:=leI) (λa b c h1 h2=>by simp only[leI,g7]at*;omega) (λa b=>by simp only[leI,n5,g7];omega) l;exact this.imp (λh=>by simpa[leI]using h)
theorem b4J (l:List Int) (c:Int):c∈a0P l↔c∈l:=List.mem_mergeSort
theorem b3d (l:List Int):(a9w l).Pairwise (· < ·)/\∀c,c∈a9w l↔c∈l:=by
 have hs:=b0p l;have hm:=b4J l;unfold a9w
 revert hs hm
 cases a0P l with
 | nil=>intro _ hm;exact⟨by simp[K9],λc=>by rw[<- hm c];simp[K9]⟩
 | cons x m=>
  intro hs hm;obtain⟨a,b,c⟩:=a3p m x hs;refine⟨List.pairwise_cons.2 ⟨b,a⟩,λd=>?_⟩;rw[<- hm d];show d∈x::O9 x m↔_;rw[J0,J0];have:=c d;constructor
  ·rintro(h | h)
   ·simp[h]
   ·rcases this.1 (.inl h)with h | h<;>simp[h]
  ·rintro(h | h)
   ·simp[h]
   ·rcases this.2 (.inl h)with h | h<;>simp[h]
theorem a9v:a9w []=[]:=by have:=(b3d []).2;exact List.eq_nil_iff_forall_not_mem.2 (λc hc=>by simpa using(this c).1 hc)
theorem b5a (l:List Int):(a9w l).length<=l.length:=by
 have h:∀(l:List Int),(K9 l).length<=l.length:=λl=>by
  have:∀(l:List Int) (p:Int),(O9 p l).length<=l.length:=λl=>by
   induction l with
   | nil=>intro p;simp[O9]
   | cons x l ih=>intro p;simp only[O9];split<;>simp only[o0]<;>have:=ih x<;>have:=ih p<;>omega
  cases l with
  | nil=>simp[K9]
  | cons x l=>have:=this l x;simp only[K9,o0];omega
 have:=h (a0P l);rw[a2J]at this;exact this
namespace V
theorem standOf_nil:standOf []=(Fnd.zero,false):=rfl
end V
end Go.Proofs.YtpakpgkdpofbhaaGreat
namespace Go.Proofs.YtpakpgkdpofbhaaGreat
open Go
theorem b3i {N:Nand} {d b r:Int} (h:(N.blk d.toNat b.toNat).cells.length<=r.toNat):(M.look N d b r).2=2\/(M.look N d b r).2=4:=by
 have hp:N.pageAt d b r=none:=n4 h;have hr:N.refuses d b r=0\/N.refuses d b r=9\/N.refuses d b r=3\/N.refuses d b r=8:=by
  unfold Nand.refuses;split
  ·simp
  ·split
   ·simp
   ·split<;>simp
 have he:N.readE d b r=5\/N.readE d b r=9\/N.readE d b r=3\/N.readE d b r=8:=by
  unfold Nand.readE;rw[hp];rcases hr with e | e | e | e<;>rw[e]<;>simp
 unfold M.look;simp only;rcases he with e | e | e | e<;>rw[e]<;>simp
theorem b5O {N:Nand} {b r:Int} (h:∀d:Nat,(M.look N (d:Nat) b r).2≠1):R.all N b r=[]:=by
 have:(M.rowN N b r N.dies).filterMap M.maskOf=[]:=by
  refine List.filterMap_eq_nil_iff.2 λx hx=>?_;unfold M.rowN at hx;obtain⟨d,_,rfl⟩:=List.mem_map.1 hx;unfold M.maskOf;rw[i7 (h d)]
 unfold R.all M.masks;rw[this];rfl
def u8 (x:Int):UInt8:=UInt8.ofNat (x % 256).toNat
namespace V
theorem look_put (t:Tb) (e:En) (b r s m:Int) (i:Int):Tb.look (t.put e b r s m).at_ i=if t.putB e=true/\i=e.lpn then some ⟨b,r,s,m,e.seq,e.role⟩else Tb.look t.at_ i:=by
 unfold Tb.put
 by_cases h:t.putB e=true
 ·rw[i9 h];show Tb.look (Tb.put1 t.at_ e.lpn _) i=_;rw[Tb.look_put1]
  by_cases hi:i=e.lpn
  ·rw[i9 hi,i9 ⟨h,hi⟩]
  ·rw[i7 hi,i7 (λh=>hi h.2)]
 ·rw[i7 h,i7 (λh'=>h h'.1)]
end V
theorem b0E {l:List En} {next:Int} {n:Nat} {e:En} (h:e∈Dv.num l next n):(∃i,i<l.length/\i<n/\e={l.getD i En.zero with seq:=next+i})\/e=En.pad:=by
 simp only[Dv.num,O8,K0]at h;obtain⟨i,hi,rfl⟩:=h;unfold Dv.numAt;split
 ·rename_i h;exact .inl ⟨i,h,hi,rfl⟩
 ·exact .inr rfl
theorem b9D {l:List En} {next:Int} {n k:Nat} (hk:k<n):(Dv.num l next n).getD k En.zero=Dv.numAt l next k:=by
 unfold Dv.num;rw[d7,m6,L7 hk];rfl
theorem a0p {l:List En} {i:Nat} (h:i<l.length):l.getD i En.zero∈l:=by
 rw[d7,d6 h];exact H9 _
namespace Inv
variable {fd : Int} {S : Dv} {k m : Nat} {l : List En}
theorem opn (h:Inv fd S) (hl:S.left=true):Opn fd S:=by
 rcases h.op with e | e
 ·have:=Dv.left_spec hl;omega
 ·exact e
theorem rowIs (h:Inv fd S) (hO:S.Ok k m) (hl:S.left=true) (hf:∀e∈l,FitR e) (hn:¬S.next>1099511627775-(S.fit l:Int)+1):RowIs S.N S.op S.row S.mask (S.es l):=by
 have ho:=h.opn hl;have hs:=Dv.left_spec hl;have hg:=hO.gd.ok.bd16;have hx:=hO.next;obtain⟨m1,m2,m3,m4⟩:=ho.mask.slots hg.1;have hrow:=ho.row;have hblk:=ho.blk;refine⟨hg.1.2,ho.blk,⟨hrow.1,hs.2.1⟩,⟨m3,m4⟩,Dv.num_data (λe he=>(hf e he).len) _ _,?_⟩;unfold W.parB;have h1:decide (((S.es l).length:Int)=G.slots S.mask)=true:=by rw[Dv.es_len];exact l8 (by omega)
 have h2:(!(S.es l).isEmpty)=true:=by
  cases he:S.es l with
  | nil=>have:=Dv.es_len S l;rw[he]at this;simp at this;omega
  | cons x y=>rfl
 rw[h1,h2,x7,x7,H4];intro e he;rcases b0E he with⟨i,hi,hin,rfl⟩ | rfl
 ·have hfe:=hf _ (a0p hi);refine b3X ⟨hblk.1,by omega⟩ ⟨hrow.1,by omega⟩ m2 ⟨?_,?_⟩ (.inl ⟨hfe.lpn,hfe.role,hfe.len⟩)
  ·show 0<=S.next+(i:Int);omega
  ·show S.next+(i:Int)<=1099511627775;have:i<S.fit l:=by unfold Dv.fit;omega
   omega
 ·exact b3X ⟨hblk.1,by omega⟩ ⟨hrow.1,by omega⟩ m2 ⟨by decide,by decide⟩ (.inr rfl)
theorem fails_no (h:Inv fd S) {b r:Int} {d:Nat} (hd:(d:Int)≠fd):S.N.failB b r d=false/\S.N.fails d b r=false:=by
 have e1:=h.dead d hd;have e2:=(h.flags d b.toNat hd).1;have e3:S.N.fails d b r=false:=by
  unfold Nand.fails;rw[l9,e2,Bool.or_false];refine y8 λhm=>?_;exact hd (h.plan _ hm)
 refine⟨?_,e3⟩;unfold Nand.failB;rw[e3,Bool.or_false,l9,e1]
structure Turn (fd:Int) (S:Dv) (l:List En):Prop where
 inv:Inv fd (S.wrote l)
 full:Full fd (S.wrote l).N S.op S.row S.mask (S.es l)
 err:(S.wr l).2.2=if(S.wr l).2.1=0 then 0 else 7
 set:L.set (S.wr l).2.1=true
 only:∀d:Int,L.has (S.wr l).2.1 d=true->d=fd/\L.has S.mask fd=true
 fail:∀d:Nat,L.has S.mask (d:Nat)=true->L.has (S.wr l).2.1 (d:Nat)=S.N.failB S.op S.row d
 dead:(S.wrote l).N.dead=S.N.dead
 broken:(S.wrote l).N.broken=S.N.broken
 like:S.N.Like (S.wrote l).N
 plan:∀a∈(S.wrote l).N.plan,a∈S.N.plan
 rest:∀i j,j≠S.op.toNat->(S.wrote l).N.blk i j=S.N.blk i j
 flags:∀i j,((S.wrote l).N.blk i j).met=(S.N.blk i j).met/\((S.wrote l).N.blk i j).fails=(S.N.blk i j).fails/\((S.wrote l).N.blk i j).worn=(S.N.blk i j).worn
 ops:(S.wrote l).N.ops=S.N.ops+(((R.job S.op S.row S.mask (S.es l)).filter λx=>!S.N.dead.getD x.1.toNat false).length:Int)
theorem turn (h:Inv fd S) (hO:S.Ok k m) (hl:S.left=true) (hf:∀e∈l,FitR e) (hn:¬S.next>1099511627775-(S.fit l:Int)+1):Turn fd S l:=by
 have ho:=h.opn hl;have hs:=Dv.left_spec hl;have hg:=hO.gd.ok.bd16;have hR:=h.rowIs hO hl hf hn;have hrdy:RdyW S.N S.op S.row S.mask:=⟨h.lit,λd hd ha=>(ho.cells d hd).2 ha⟩;have hq:=hrdy.rdy hR;obtain⟨w1,w2,w3⟩:=a7b hrdy hR;have hin:=hR.inn;have hq8:∀x∈R.job S.op S.row S.mask (S.es l),0<=x.1/\x.1<8:=λx hx=>by have:=hin x hx;omega
 obtain⟨f1,f2⟩:=a4j (N:=S.N) (b:=S.op) (r:=S.row) _ 0 (by decide) hq8;have w3:WroteR S.N (S.wrote l).N S.op S.row (R.job S.op S.row S.mask (S.es l)):=w3;have w1:(S.wr l).2.1=Z6 S.N S.op S.row (R.job S.op S.row S.mask (S.es l)) 0:=w1;have w2:(S.wr l).2.2=if Z6 S.N S.op S.row (R.job S.op S.row S.mask (S.es l)) 0=0 then 0 else 7:=w2
 have hfail:∀d:Nat,L.has S.mask (d:Nat)=true->L.has (S.wr l).2.1 (d:Nat)=S.N.failB S.op S.row d:=λd hd=>by
  rw[w1,f2,L.has_zero,D4,a2q,Y0];constructor
  ·rintro⟨x,hx,hh⟩;simp only[j5,g7]at hh;rw[<- hh.1];exact hh.2
  ·intro hh;obtain⟨x,hx,hxd⟩:=hR.on hd;exact⟨x,hx,by rw[hxd,hh];simp⟩
 have honly:∀d:Int,L.has (S.wr l).2.1 d=true->d=fd/\L.has S.mask fd=true:=λd hd=>by
  rw[w1,f2,L.has_zero,D4,Y0]at hd;obtain⟨x,hx,hh⟩:=hd;simp only[j5,g7]at hh;have hxi:=hin x hx;obtain⟨e,he⟩:=j8 hxi.1
  by_cases hne:(e:Int)=fd
  ·rw[<- hne,<- he];exact⟨hh.1.symm,hxi.2.2⟩
  ·have:=(h.fails_no (b:=S.op) (r:=S.row) hne).1;rw[<- he,hh.2]at this;cases this
 have hrow:=ho.row;have hblk:=ho.blk;have hcells:∀d:Nat,L.has S.mask (d:Nat)=true->(((S.wrote l).N.blk d S.op.toNat).cells.length:Int)<=S.row+1/\(S.N.dead.getD d false=false->(((S.wrote l).N.blk d S.op.toNat).cells.length:Int)=S.row+1):=λd hd=>by
  obtain⟨x,hx,hxd⟩:=hR.on hd;have hc:=w3.cells x hx;have ho2:=ho.cells d hd;rw[hxd,l9]at hc;rw[hc];cases hdd:S.N.dead.getD d false with
  | true=>rw[i9 rfl];exact⟨by omega,λe=>by cases e⟩
  | false=>
   rw[i7 n8,j6];have:=ho2.2 hdd;simp only[o0,a0V];exact⟨by omega,λ_=>by omega⟩
 have hfull:Full fd (S.wrote l).N S.op S.row S.mask (S.es l):=by
  refine⟨hR.like w3.like,λx hx hne=>?_,λx hx c hc=>?_⟩
  ·have hxi:=hin x hx;obtain⟨e,he⟩:=j8 hxi.1;have hc:=w3.cells x hx;have hne':(e:Int)≠fd:=by rw[<- he];exact hne
   have hxm:=hxi.2.2;rw[he]at hxm;have hlen:=(ho.cells e hxm).2 (h.dead e hne');rw[he,l9,h.dead e hne',i7 n8,(h.fails_no (b:=S.op) (r:=S.row) hne').2]at hc;refine⟨false,?_⟩;unfold Nand.pageAt;rw[he,l9,hc,D3 (by omega),show S.row.toNat-(S.N.blk e S.op.toNat).cells.length=0 from by omega];rfl
  ·have hxi:=hin x hx;obtain⟨e,he⟩:=j8 hxi.1;have hxm:=hxi.2.2;have hcc:=w3.cells x hx;unfold Nand.pageAt at hc;rw[hcc]at hc;rw[he]at hxm;have hlen:=ho.cells e hxm;rw[he,l9]at hc;cases hdd:S.N.dead.getD e false with
   | true=>
    rw[hdd,i9 rfl,n4 (by omega)]at hc;cases hc
   | false=>
    have:=hlen.2 hdd;rw[hdd,i7 n8,D3 (by omega),show S.row.toNat-(S.N.blk e S.op.toNat).cells.length=0 from by omega]at hc;simp only[T6,p9]at hc;subst hc;exact .inr (.inl rfl)
 refine⟨⟨w3.lit,λi hi=>by rw[w3.dead];exact h.dead i hi,λa ha=>h.plan a (w3.plan a ha),λi j hi=>by have:=w3.flags i j;rw[this.1,this.2.1];exact h.flags i j hi,h.tdead,h.tbad, .inr ⟨by rw[show(S.wrote l).N.blocks=S.N.blocks from w3.like.blocks];exact ho.blk,ho.used,by rw[show(S.wrote l).N.pages=S.N.pages from w3.like.pages];show 0<=S.row+1/\S.row+1<=_;omega,by rw[show(S.wrote l).N.dies=S.N.dies from w3.like.dies];exact ho.mask,λd hd=>by rw[w3.dead];exact hcells d hd⟩,λb hb hu d hd=>?_,λi a ha=>?_⟩,hfull,by rw[w2,w1],by rw[w1];exact f1,honly,hfail,w3.dead,w3.broken,w3.like,w3.plan,λi j hj=>w3.rest i j (.inl hj),w3.flags,w3.ops⟩
 ·have hbi:=Tl.has_iff.1 hb;have hne:b≠S.op:=λe=>by rw[e]at hu;have:=ho.used;rw[show(S.wrote l).t=S.t from rfl]at hu;rw[hu]at this;cases this
  rw[w3.rest _ _ (.inl (by omega))];exact h.blank b hb hu d hd
 ·have hst:=h.st i a ha;obtain⟨lr,g1,g2,g3,g4,g5,g6⟩:=hst.row;refine⟨⟨lr,g1.keep w3.like λx hx=>w3.page hq (g1.is.inn x hx).1 g1.is.blk.1 g1.is.row.1 (λe=>by have:=hst.below e;omega),g2,g3,g4,g5,g6⟩,hst.used,λe=>by have:=hst.below e;show a.row<S.row+1;omega,?_⟩;have:=hst.seq;show 1<=a.seq/\a.seq<S.next+(S.fit l:Int);omega
theorem put (h:Inv fd S) {b r mk:Int} {es:List En} (hfull:Full fd S.N b r mk es) (hu:(S.t.at_ b).used=true) (hbel:b=S.op->r<S.row) {n:Nat} (hn:n<es.length) (hs:1<=(es.getD n En.zero).seq/\(es.getD n En.zero).seq<S.next):Inv fd {S with T:=S.T.put (es.getD n En.zero) b r n mk}:=by
 refine⟨h.lit,h.dead,h.plan,h.flags,h.tdead,h.tbad,?_,h.blank,λi a ha=>?_⟩
 ·rcases h.op with e | e
  ·exact .inl e
  ·exact .inr ⟨e.blk,e.used,e.row,e.mask,e.cells⟩
 ·have ha:Tb.look (S.T.put (es.getD n En.zero) b r n mk).at_ i=some a:=ha;rw[V.look_put]at ha;split at ha
  ·rename_i hc;injection ha with ha;subst ha;refine⟨⟨es,hfull,a0N n,by show((n:Nat):Int).toNat<_;omega,by show(es.getD ((n:Nat):Int).toNat En.zero).lpn=i;rw[l9];exact hc.2.symm,by show(es.getD ((n:Nat):Int).toNat En.zero).seq=_;rw[l9],by show(es.getD ((n:Nat):Int).toNat En.zero).role=_;rw[l9]⟩,hu,hbel,hs⟩
  ·have:=h.st i a ha;exact⟨this.row,this.used,this.below,this.seq⟩
theorem puts (h:Inv fd S) {b r mk:Int} {es:List En} (hfull:Full fd S.N b r mk es) (hu:(S.t.at_ b).used=true) (hbel:b=S.op->r<S.row) (T:Tb) (hT:S.T=T):∀n,n<=es.length->(∀i,i<n->1<=(es.getD i En.zero).seq/\(es.getD i En.zero).seq<S.next)->Inv fd {S with T:=Dv.puts T b r mk es n}
 | 0,_,_=>by subst hT;exact h
 | n+1,hn,hs=>by
  have ih:=h.puts hfull hu hbel T hT n (by omega) λi hi=>hs i (by omega);rw[Dv.puts_succ];exact put (S:={S with T:=Dv.puts T b r mk es n}) ih hfull hu hbel (by omega) (hs n (by omega))
theorem lose (h:Inv fd S) (hF:S.t.Fit S.N) (hD:S.N.dies<=6) {f:Int} {d:Nat} (hd:d<8) (hf:L.has f (d:Nat)=true->(d:Int)=fd):Inv fd (Dv.lose f S d):=by
 unfold Dv.lose;split
 ·rename_i hh;have hfd:=hf hh;obtain⟨e1,e2,e3⟩:∃t',(if S.N.deadAt d then S.t.die d else S.t.bad d S.op)=t'/\True:=⟨_,rfl,trivial⟩;have key:∀t':Tl,(t'=S.t.die d\/t'=S.t.bad d S.op)->(∀b,t'.has b=S.t.has b)/\t'.d=S.t.d/\(∀b,S.t.has b=true->(t'.at_ b).used=(S.t.at_ b).used)/\(L.set t'.dead=true/\∀d:Int,L.has t'.dead d=true->d=fd)/\(∀b,S.t.has b=true->L.set (t'.at_ b).bad=true/\∀d:Int,L.has (t'.at_ b).bad d=true->d=fd)/\(∀b,S.t.has b=true->∀e:Int,L.has (t'.mask b) e=true->L.has (S.t.mask b) e=true):=by
   intro t' ht;have hSd:S.t.d<=8:=by have:=hF.d;omega
   have h0:∀b,S.t.has b=true->L.set (S.t.mask b)=true/\∀e:Int,L.has (S.t.mask b) e=((decide (0<=e)&&decide (e<S.t.d))&& !L.has S.t.dead e&& !L.has (S.t.at_ b).bad e):=λb hb=>T5 hSd hb h.tdead.1 (h.tbad b hb).1;rcases ht with rfl | rfl
   ·unfold Tl.die;split
    ·have hw:=L.set_with h.tdead.1 (d:=(d:Int)) (by omega);have hwh:=L.with_has h.tdead.1 (d:=(d:Int)) (by omega);refine⟨λb=>rfl,rfl,λb hb=>rfl,⟨hw,λe he=>?_⟩,h.tbad,λb hb e he=>?_⟩
     ·have he:L.has (L.with_ S.t.dead (d:Int)) e=true:=he;rw[hwh]at he;rcases n5 _ _▸he with he | he
      ·exact h.tdead.2 e he
      ·simp only[g7]at he;omega
     ·have hm:=(T5 (t:=⟨S.t.d,S.t.b,S.t.p,S.t.l,L.with_ S.t.dead d⟩) (b:=b) hSd hb hw (h.tbad b hb).1).2 e;rw[hm]at he;rw[(h0 b hb).2 e];simp only[j5,j7]at he ⊢;refine⟨⟨he.1.1,?_⟩,he.2⟩;have he2:=he.1.2;rw[hwh]at he2;exact(Bool.or_eq_false_iff.1 he2).1
    ·exact⟨λb=>rfl,rfl,λb hb=>rfl,h.tdead,h.tbad,λb hb e he=>he⟩
   ·unfold Tl.bad;split
    ·cases hop:S.t.has S.op with
     | false=>
      rw[Tl.set_no _ hop];exact⟨λb=>rfl,rfl,λb hb=>rfl,h.tdead,h.tbad,λb hb e he=>he⟩
     | true=>
      have hb0:=h.tbad S.op hop;have hw:=L.set_with hb0.1 (d:=(d:Int)) (by omega);have hwh:=L.with_has hb0.1 (d:=(d:Int)) (by omega);have hbad:∀b,S.t.has b=true->L.set ((S.t.set S.op {S.t.at_ S.op with bad:=L.with_ (S.t.at_ S.op).bad d}).at_ b).bad=true/\(∀e:Int,L.has ((S.t.set S.op {S.t.at_ S.op with bad:=L.with_ (S.t.at_ S.op).bad d}).at_ b).bad e=true->e=fd)/\(∀e:Int,L.has (S.t.at_ b).bad e=true->L.has ((S.t.set S.op {S.t.at_ S.op with bad:=L.with_ (S.t.at_ S.op).bad d}).at_ b).bad e=true):=λb hb=>by
       rw[Tl.at_set hF.len _ hop hb];split
       ·rename_i e;subst e;dsimp only;refine⟨hw,λe he=>?_,λe he=>?_⟩
        ·rw[hwh]at he;rcases n5 _ _▸he with he | he
         ·exact hb0.2 e he
         ·simp only[g7]at he;omega
        ·rw[hwh,he];rfl
       ·exact⟨(h.tbad b hb).1,(h.tbad b hb).2,λe he=>he⟩
      refine⟨λb=>Tl.has_set _ _ _ _,Tl.set_d _ _ _,λb hb=>?_,by rw[Tl.set_dead];exact h.tdead,λb hb=>⟨(hbad b hb).1,(hbad b hb).2.1⟩,λb hb e he=>?_⟩
      ·rw[Tl.at_set hF.len _ hop hb];split
       ·rename_i e;rw[e]
       ·rfl
      ·have hm:=(T5 (t:=S.t.set S.op {S.t.at_ S.op with bad:=L.with_ (S.t.at_ S.op).bad d}) (b:=b) (by rw[Tl.set_d];exact hSd) (by rw[Tl.has_set];exact hb) (by rw[Tl.set_dead];exact h.tdead.1) (hbad b hb).1).2 e;rw[hm,Tl.set_d,Tl.set_dead]at he;rw[(h0 b hb).2 e];simp only[j5,j7]at he ⊢;refine⟨he.1,?_⟩;cases hx:L.has (S.t.at_ b).bad e with
       | false=>rfl
       | true=>rw[(hbad b hb).2.2 e hx]at he;exact absurd he.2 (by decide)
    ·exact⟨λb=>rfl,rfl,λb hb=>rfl,h.tdead,h.tbad,λb hb e he=>he⟩
  have ht':(if S.N.deadAt d then S.t.die d else S.t.bad d S.op)=S.t.die d\/(if S.N.deadAt d then S.t.die d else S.t.bad d S.op)=S.t.bad d S.op:=by split<;>simp
  obtain⟨k1,k2,k3,k4,k5,k6⟩:=key _ ht';refine⟨h.lit,h.dead,h.plan,h.flags,k4,λb hb=>k5 b (by rw[<- k1];exact hb),?_,λb hb hu e he=>?_,λi a ha=>?_⟩
  ·rcases h.op with e | e
   ·exact .inl e
   ·right;have hhas:S.t.has S.op=true:=Tl.has_iff.2 (by have:=e.blk;have:=hF.b;omega);have hms:=e.mask;have hwo:=L.without_has hms.set (d:=(d:Int)) (by omega);refine⟨e.blk,by show(Tl.at_ _ S.op).used=true;rw[k3 _ hhas];exact e.used,e.row,⟨L.set_without hms.set (by omega),λx hx=>?_,λx hx hne=>?_⟩,λx hx=>?_⟩
    ·rw[hwo]at hx;simp only[j5]at hx;exact hms.lt x hx.1
    ·rw[hwo,hms.all x hx hne];simp;omega
    ·have hx:L.has (L.without S.mask (d:Int)) (x:Nat)=true:=hx;rw[hwo]at hx;simp only[j5]at hx;exact e.cells x hx.1
  ·have hb':S.t.has b=true:=by rw[<- k1];exact hb
   exact h.blank b hb' (by rw[<- k3 b hb'];exact hu) e (k6 b hb' _ he)
  ·have hst:=h.st i a ha;have hhas:S.t.has a.block=true:=by
    obtain⟨lr,g1,_⟩:=hst.row;have:=g1.is.blk;have:=hF.b;exact Tl.has_iff.2 (by omega)
   exact⟨hst.row,by show(Tl.at_ _ a.block).used=true;rw[k3 _ hhas];exact hst.used,hst.below,hst.seq⟩
 ·exact h
theorem loses_q {f:Int} (hf:∀d:Nat,L.has f (d:Nat)=true->(d:Int)=fd):∀(q:List Nat) (S:Dv),Inv fd S->S.t.Fit S.N->S.N.dies<=6->(∀d∈q,d<8)->Inv fd (q.foldl (Dv.lose f) S)
 | [],S,h,_,_,_=>h
 | d::q,S,h,hF,hD,hq=>by
  rw[y5];have hN:=(Dv.lose_N f S d).1;exact loses_q hf q _ (h.lose hF hD (hq d (by simp)) (hf d)) (by rw[hN];exact(Dv.lose_t f S d hF).1) (by rw[hN];exact hD) λe he=>hq e (by simp[he])
theorem loses (h:Inv fd S) (hO:S.Ok k m) {f:Int} (hf:∀d:Nat,L.has f (d:Nat)=true->(d:Int)=fd):Inv fd (S.loses f):=by
 have hg:=hO.gd.ok.bd16;exact loses_q hf _ S h hO.t hg.1.2 λd hd=>by have:=List.mem_range.1 hd;omega
end Inv
end Go.Proofs.YtpakpgkdpofbhaaGreat
