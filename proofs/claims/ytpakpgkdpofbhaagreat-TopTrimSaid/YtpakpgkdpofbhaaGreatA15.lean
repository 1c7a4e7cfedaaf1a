/- Helpers. No condition. -/
import Derived.Test.YtpakpgkdpofbhaaGreatA00
import Derived.Test.YtpakpgkdpofbhaaGreatA10
import Derived.Test.YtpakpgkdpofbhaaGreatA12
import Derived.Test.YtpakpgkdpofbhaaGreatA14
set_option maxRecDepth 20000
set_option linter.all false
namespace Go.Proofs.YtpakpgkdpofbhaaGreat
open Go
namespace Nand
def failB (N:Nand) (b r d:Int):Bool:=N.dead.getD d.toNat false||N.fails d b r
variable {N : Nand}
theorem Lit.refuses (h:N.Lit) {x y z:Int} (hx:0<=x/\x<N.dies) (hy:0<=y/\y<N.blocks) (hz:0<=z/\z<N.pages):N.refuses x y z=if N.dead.getD x.toNat false then 8 else 0:=by
 unfold Nand.refuses;rw[h.off,f9 (by decide),geoIn_of hx hy hz,f9 (by decide)]
end Nand
structure RdyR (N:Nand) (b r:Int) (q:List (Int×Sh)):Prop where
 lit:N.Lit
 nodup:(q.map (·.1)).Nodup
 inn:∀x∈q,0<=x.1/\x.1<N.dies
 blk:0<=b/\b<N.blocks
 row:0<=r/\r<N.pages
 cells:∀x∈q,N.dead.getD x.1.toNat false=false->((N.blk x.1.toNat b.toNat).cells.length:Int)=r
structure WroteR (N N':Nand) (b r:Int) (q:List (Int×Sh)):Prop where
 lit:N'.Lit
 like:N.Like N'
 dead:N'.dead=N.dead
 broken:N'.broken=N.broken
 cells:∀x∈q,(N'.blk x.1.toNat b.toNat).cells=if N.dead.getD x.1.toNat false then(N.blk x.1.toNat b.toNat).cells else(N.blk x.1.toNat b.toNat).cells++[⟨Y8 x.2,N.fails x.1 b r,false⟩]
 rest:∀i j,(j≠b.toNat\/∀x∈q,x.1.toNat≠i)->N'.blk i j=N.blk i j
 flags:∀i j,(N'.blk i j).met=(N.blk i j).met/\(N'.blk i j).fails=(N.blk i j).fails/\(N'.blk i j).worn=(N.blk i j).worn
 plan:∀a∈N'.plan,a∈N.plan
 ops:N'.ops=N.ops+((q.filter λx=>!N.dead.getD x.1.toNat false).length:Int)
def a0A (N:Nand) (b r:Int):List (Int×Sh)->Int->Int
 | [],f=>f
 | x::q,f=>a0A N b r q (if N.failB b r x.1 then L.with_ f x.1 else f)
theorem a8O {N N':Nand} {b r:Int}:∀(q:List (Int×Sh)) (f:Int),(∀x∈q,N'.failB b r x.1=N.failB b r x.1)->a0A N' b r q f=a0A N b r q f
 | [],f,_=>rfl
 | x::q,f,h=>by rw[a0A,a0A,h x (by simp),a8O q _ λy hy=>h y (by simp[hy])]
theorem c0J (b r:Int):∀(q:List (Int×Sh)) (N:Nand) (f:Int),RdyR N b r q->(R.go b r q N f).2.1=a0A N b r q f/\(R.go b r q N f).2.2=(if a0A N b r q f=0 then 0 else 7)/\WroteR N (R.go b r q N f).1 b r q
 | [],N,f,h=>⟨rfl,rfl,h.lit,Nand.Like.refl N,rfl,rfl,by simp,λ_ _ _=>rfl,λ_ _=>⟨rfl,rfl,rfl⟩,λ_ h=>h,by simp[R.go]⟩
 | (d,s)::q,N,f,h=>by
  have hx:=h.inn (d,s) (by simp);have hc:=h.cells (d,s) (by simp);dsimp only at hx hc;have hr:=h.lit.refuses hx h.blk h.row;have hnd:=List.nodup_cons.1 h.nodup;have hne:∀x∈q,x.1≠d:=λx hxq e=>hnd.1 (List.mem_map.2 ⟨x,hxq,e⟩);have hne2:∀x∈q,x.1.toNat≠d.toNat:=λx hxq e=>by
   have:=h.inn x (by simp[hxq]);exact hne x hxq (by omega)
  by_cases hdd:N.dead.getD d.toNat false=true
  ·rw[hdd,g7 rfl]at hr;have e1:N.progE d b r=8:=by unfold Nand.progE;rw[g7 (by rw[hr];decide),hr]
   have e2:N.progN d b r (Y8 s)=N:=by unfold Nand.progN;rw[g7 (by rw[hr];decide)]
   have ef:N.failB b r d=true:=by unfold Nand.failB;rw[hdd];rfl
   have eg:R.go b r ((d,s)::q) N f=R.go b r q N (L.with_ f d):=by rw[R.go,f9 (by rw[e1];decide),f9 (by rw[e1];decide),e2]
   obtain⟨g1,g2,g3⟩:=c0J b r q N (L.with_ f d) ⟨h.lit,hnd.2,λx hxq=>h.inn x (by simp[hxq]),h.blk,h.row,λx hxq=>h.cells x (by simp[hxq])⟩;have em:a0A N b r ((d,s)::q) f=a0A N b r q (L.with_ f d):=by rw[a0A];dsimp only;rw[ef,g7 rfl]
   rw[eg,em];refine⟨g1,g2,g3.lit,g3.like,g3.dead,g3.broken,λx hxq=>?_,λi j hij=>g3.rest i j (hij.imp id λh' x hxq=>h' x (by simp[hxq])),g3.flags,g3.plan,?_⟩
   ·rcases List.mem_cons.1 hxq with rfl | hxq
    ·dsimp only;rw[g3.rest _ _ (.inr λy hy=>hne2 y hy),hdd,g7 rfl]
    ·exact g3.cells x hxq
   ·rw[g3.ops,Y7,f9 (by dsimp only;rw[hdd];decide)]
  ·have hdd:N.dead.getD d.toNat false=false:=by simpa using hdd
   have hc:=hc hdd;rw[hdd,f9 (by decide)]at hr;have e1:=a5t hr hc.symm h.lit.cutB;have e2:=a5s (pg:=Y8 s) hr hc.symm h.lit.cutB;have ef:N.failB b r d=N.fails d b r:=by unfold Nand.failB;rw[hdd];rfl
   obtain⟨N1,hN1⟩:∃N1,N.progN d b r (Y8 s)=N1:=⟨_,rfl⟩;rw[hN1]at e2;have hb:∀i j,N1.blk i j=if i=d.toNat/\j=b.toNat then {N.blk d.toNat b.toNat with cells:=(N.blk d.toNat b.toNat).cells++[⟨Y8 s,N.fails d b r,false⟩]}else N.blk i j:=λi j=>by rw[e2];rfl
   have hlike:N.Like N1:=by rw[e2];exact⟨rfl,rfl,rfl⟩
   have hlit:N1.Lit:=by rw[<- hN1];exact h.lit.prog _ _ _ _
   have hbr:N1.broken=N.broken:=by rw[e2];rfl
   have hdead:N1.dead=N.dead:=by rw[e2];rfl
   have hops:N1.ops=N.ops+1:=by rw[e2];rfl
   have hplan:N1.plan=N.plan.erase (d,b,r):=by rw[e2];rfl
   have hq:∀x∈q,N1.blk x.1.toNat b.toNat=N.blk x.1.toNat b.toNat:=λx hxq=>by rw[hb,f9 (by have:=hne2 x hxq;omega)]
   have hfl:∀x∈q,N1.fails x.1 b r=N.fails x.1 b r:=λx hxq=>by
    unfold Nand.fails;rw[hq x hxq,hplan];congr 1;rw[a3S];exact List.mem_erase_of_ne (λe=>hne x hxq (by injection e))
   have hfb:∀x∈q,N1.failB b r x.1=N.failB b r x.1:=λx hxq=>by unfold Nand.failB;rw[hdead,hfl x hxq]
   obtain⟨f1,hf1⟩:∃f1,(if N.fails d b r then L.with_ f d else f)=f1:=⟨_,rfl⟩;have eg:R.go b r ((d,s)::q) N f=R.go b r q N1 f1:=by
    rw[R.go,e1,hN1,<- hf1];cases N.fails d b r with
    | true=>rw[g7 rfl,f9 (by decide),f9 (by decide),g7 rfl]
    | false=>rw[f9 l9,g7 rfl,f9 l9]
   have em:a0A N b r ((d,s)::q) f=a0A N b r q f1:=by rw[a0A];dsimp only;rw[ef,hf1]
   obtain⟨g1,g2,g3⟩:=c0J b r q N1 f1 ⟨hlit,hnd.2,λx hxq=>by rw[hlike.dies];exact h.inn x (by simp[hxq]),by rw[hlike.blocks];exact h.blk,by rw[hlike.pages];exact h.row,λx hxq hd=>by rw[hq x hxq];exact h.cells x (by simp[hxq]) (by rw[<- hdead];exact hd)⟩;rw[a8O q f1 hfb]at g1 g2;rw[eg,em];refine⟨g1,g2,g3.lit,hlike.trans g3.like,g3.dead.trans hdead,g3.broken.trans hbr,λx hxq=>?_,λi j hij=>?_,λi j=>?_,λa ha=>?_,?_⟩
   ·rcases List.mem_cons.1 hxq with rfl | hxq
    ·dsimp only;rw[g3.rest _ _ (.inr λy hy=>hne2 y hy),hb,g7 ⟨rfl,rfl⟩,hdd,f9 (by decide)]
    ·rw[g3.cells x hxq,hdead,hq x hxq,hfl x hxq]
   ·rw[g3.rest i j (hij.imp id λh' x hxq=>h' x (by simp[hxq])),hb,f9];rintro⟨rfl,rfl⟩;rcases hij with h' | h'
    ·exact h' rfl
    ·exact h' (d,s) (by simp) rfl
   ·have:=g3.flags i j;rw[this.1,this.2.1,this.2.2,hb];split
    ·rename_i h';rw[h'.1,h'.2];exact⟨rfl,rfl,rfl⟩
    ·exact⟨rfl,rfl,rfl⟩
   ·have:=g3.plan a ha;rw[hplan]at this;exact List.mem_of_mem_erase this
   ·rw[g3.ops,hops,hdead,Y7,g7 (by dsimp only;rw[hdd];decide),n8];omega
structure RdyW (N:Nand) (b r m:Int):Prop where
 lit:N.Lit
 cells:∀d:Nat,L.has m (d:Nat)=true->N.dead.getD d false=false->((N.blk d b.toNat).cells.length:Int)=r
theorem RdyW.rdy {N:Nand} {b r m:Int} {l:List En} (h:RdyW N b r m) (hR:RowIs N b r m l):RdyR N b r (R.job b r m l):=by
 refine⟨h.lit,hR.nodup,λx hx=>⟨(hR.inn x hx).1,(hR.inn x hx).2.1⟩,hR.blk,hR.row,λx hx hd=>?_⟩;obtain⟨h1,h2,h3⟩:=hR.inn x hx;refine h.cells x.1.toNat ?_ hd
 rwa [show((x.1.toNat:Nat):Int)=x.1 from by omega]
theorem b0J {N:Nand} {b r m:Int} {l:List En} (h:RdyW N b r m) (hR:RowIs N b r m l):(R.write N b r m l).2.1=a0A N b r (R.job b r m l) 0/\(R.write N b r m l).2.2=(if a0A N b r (R.job b r m l) 0=0 then 0 else 7)/\WroteR N (R.write N b r m l).1 b r (R.job b r m l):=by
 unfold R.write;rw[g7 hR.par];exact c0J b r _ N 0 (h.rdy hR)
end Go.Proofs.YtpakpgkdpofbhaaGreat
namespace Go.Proofs.YtpakpgkdpofbhaaGreat
namespace L
theorem with_dec:∀f,f<256->∀d,d<8->set (with_ (f:Nat) (d:Nat))=true/\∀e,e<8->has (with_ (f:Nat) (d:Nat)) (e:Nat)=(has (f:Nat) (e:Nat)||decide (e=d)):=by decide+kernel
theorem without_dec:∀f,f<256->∀d,d<8->set (without (f:Nat) (d:Nat))=true/\∀e,e<8->has (without (f:Nat) (d:Nat)) (e:Nat)=(has (f:Nat) (e:Nat)&& !decide (e=d)):=by decide+kernel
theorem all_dec:∀n,n<=8->set (all (n:Nat))=true/\∀e,e<8->has (all (n:Nat)) (e:Nat)=decide (e<n):=by decide+kernel
theorem set_has {m:Int} (h:set m=true):∃k:Nat,m=k/\k<256:=by
 rw[set_iff]at h;exact⟨m.toNat,by omega,by omega⟩
theorem has_rng {m d:Int} (h:has m d=true):∃k:Nat,d=k/\k<8:=by
 have:=has_lt m d h;exact⟨d.toNat,by omega,by omega⟩
theorem has_out {m d:Int} (h:¬(0<=d/\d<8)):has m d=false:=by
 cases hh:has m d with
 | false=>rfl
 | true=>have:=has_lt m d hh;omega
theorem set_with {f d:Int} (hf:set f=true) (hd:0<=d/\d<8):set (with_ f d)=true:=by
 obtain⟨F,rfl,hF⟩:=set_has hf;obtain⟨D,rfl⟩:=i5 hd.1;exact(with_dec F hF D (by omega)).1
theorem with_has {f d:Int} (hf:set f=true) (hd:0<=d/\d<8) (e:Int):has (with_ f d) e=(has f e||decide (e=d)):=by
 obtain⟨F,rfl,hF⟩:=set_has hf;obtain⟨D,rfl⟩:=i5 hd.1
 by_cases he:0<=e/\e<8
 ·obtain⟨E,rfl⟩:=i5 he.1;rw[(with_dec F hF D (by omega)).2 E (by omega)];have e2:decide (E=D)=decide ((E:Int)=(D:Int)):=by rw[a3S];omega
  rw[e2]
 ·rw[has_out he,has_out he,r9 (by omega)];rfl
theorem set_without {f d:Int} (hf:set f=true) (hd:0<=d/\d<8):set (without f d)=true:=by
 obtain⟨F,rfl,hF⟩:=set_has hf;obtain⟨D,rfl⟩:=i5 hd.1;exact(without_dec F hF D (by omega)).1
theorem without_has {f d:Int} (hf:set f=true) (hd:0<=d/\d<8) (e:Int):has (without f d) e=(has f e&& !decide (e=d)):=by
 obtain⟨F,rfl,hF⟩:=set_has hf;obtain⟨D,rfl⟩:=i5 hd.1
 by_cases he:0<=e/\e<8
 ·obtain⟨E,rfl⟩:=i5 he.1;rw[(without_dec F hF D (by omega)).2 E (by omega)];have e2:decide (E=D)=decide ((E:Int)=(D:Int)):=by rw[a3S];omega
  rw[e2]
 ·rw[has_out he,has_out he];rfl
theorem set_all (n:Nat) (h:n<=8):set (all n)=true:=(all_dec n h).1
theorem all_has (n:Nat) (h:n<=8) (e:Int):has (all n) e=(decide (0<=e)&&decide (e<n)):=by
 by_cases he:0<=e/\e<8
 ·obtain⟨E,rfl⟩:=i5 he.1;rw[(all_dec n h).2 E (by omega),j3 he.1,s7,a3S];omega
 ·rw[has_out he]
  by_cases h0:0<=e
  ·rw[r9 (p:=e<n) (by omega)];simp
  ·rw[r9 h0];rfl
theorem ext {m k:Int} (hm:set m=true) (hk:set k=true) (h:∀d:Nat,d<8->has m (d:Nat)=has k (d:Nat)):m=k:=by
 obtain⟨M,rfl,hM⟩:=set_has hm;obtain⟨K,rfl,hK⟩:=set_has hk;refine congrArg (Nat.cast:Nat->Int) (Nat.eq_of_testBit_eq λi=>?_)
 by_cases hi:i<8
 ·have:=h i hi;simp only[has,hm,hk,s7,j4]at this;have e1:decide ((0:Int)<=(i:Int))=true:=j3 (by omega);have e2:decide ((i:Int)<8)=true:=j3 (by omega)
  rwa [e1,e2,s7,s7,s7]at this
 ·have h8:∀M,M<256->M.testBit i=false:=λM hM=>Nat.testBit_lt_two_pow (a5T hM (by
   have:(2:Nat)^8<=2^i:=a0k (by omega) (by omega);omega))
  rw[h8 M hM,h8 K hK]
theorem has_zero (d:Int):has 0 d=false:=by
 unfold has;simp
end L
theorem b3k (x:Nat) (h:x<1000000):Go.IntKind.i64.wrap (x:Int)=x:=by
 show(if((true&&decide ((x:Int) % 18446744073709551616>=9223372036854775808))=true)then(x:Int) % 18446744073709551616-18446744073709551616 else(x:Int) % 18446744073709551616)=x;rw[f9 (by rw[s7,d7];omega)];omega
theorem b3f {a b:Int} (ha:L.set a=true) (hb:L.set b=true):L.set (Tl.andN a b)=true/\∀e:Int,L.has (Tl.andN a b) e=(L.has a e&& !L.has b e):=by
 obtain⟨A,rfl,hA⟩:=L.set_has ha;obtain⟨B,rfl,hB⟩:=L.set_has hb;have e1:((BitVec.ofInt 64 (A:Int)&&& ~~~BitVec.ofInt 64 (B:Int)).toNat)<256:=by
  rw[BitVec.toNat_and];refine Nat.lt_of_le_of_lt Nat.and_le_left ?_;rw[BitVec.toNat_ofInt];simp;omega
 have e2:∀i,i<8->(BitVec.ofInt 64 (A:Int)&&& ~~~BitVec.ofInt 64 (B:Int)).toNat.testBit i=(A.testBit i&& !B.testBit i):=λi hi=>by
  rw[BitVec.testBit_toNat,BitVec.getLsbD_and,BitVec.getLsbD_not];have h1:∀C:Nat,C<256->(BitVec.ofInt 64 (C:Int)).getLsbD i=C.testBit i:=λC hC=>by
   rw[<- BitVec.testBit_toNat,BitVec.toNat_ofInt];have:((C:Int) % (((2^64:Nat)):Int)).toNat=C:=by omega
   rw[this]
  rw[h1 A hA,h1 B hB,j3 (by omega),s7]
 have e3:Tl.andN (A:Int) (B:Int)=((BitVec.ofInt 64 (A:Int)&&& ~~~BitVec.ofInt 64 (B:Int)).toNat:Int):=by
  unfold Tl.andN;show IntKind.i64.wrap (((BitVec.ofInt 64 (A:Int)&&& ~~~BitVec.ofInt 64 (B:Int)).toNat:Nat):Int)=_;generalize(BitVec.ofInt 64 (A:Int)&&& ~~~BitVec.ofInt 64 (B:Int)).toNat=x at e1;exact b3k x (by omega)
 generalize hx:(BitVec.ofInt 64 (A:Int)&&& ~~~BitVec.ofInt 64 (B:Int)).toNat=x at e1 e2 e3;rw[e3];have hs:L.set (x:Int)=true:=by rw[L.set_iff];omega
 refine⟨hs,λe=>?_⟩
 by_cases he:0<=e/\e<8
 ·obtain⟨E,rfl⟩:=i5 he.1;simp only[L.has,hs,ha,hb,s7,j4];rw[j3 (p:=(0:Int)<=(E:Int)) (by omega),j3 (p:=(E:Int)<8) (by omega),e2 E (by omega)];rfl
 ·rw[L.has_out he,L.has_out he];rfl
theorem a6y {N:Nand} {b r:Int}:∀(q:List (Int×Sh)) (f:Int),L.set f=true->(∀x∈q,0<=x.1/\x.1<8)->L.set (a0A N b r q f)=true/\∀d:Int,L.has (a0A N b r q f) d=(L.has f d||q.any λx=>decide (x.1=d)&&N.failB b r x.1)
 | [],f,hf,_=>⟨hf,λd=>by simp[a0A]⟩
 | x::q,f,hf,hq=>by
  have hx:=hq x (by simp);rw[a0A];cases hb:N.failB b r x.1 with
  | false=>
   rw[f9 l9];have ih:=a6y (N:=N) (b:=b) (r:=r) q f hf λy hy=>hq y (by simp[hy]);refine⟨ih.1,λd=>?_⟩;rw[ih.2,List.any_cons,hb,Bool.and_false,C9]
  | true=>
   rw[g7 rfl];have ih:=a6y (N:=N) (b:=b) (r:=r) q (L.with_ f x.1) (L.set_with hf hx) λy hy=>hq y (by simp[hy]);refine⟨ih.1,λd=>?_⟩;rw[ih.2,L.with_has hf hx,List.any_cons,hb,Bool.and_true,Bool.or_assoc];congr 2;rw[a3S];omega
namespace Tl
theorem at_set {t:Tl} (hl:t.l.length=t.b) {k j:Int} (s:Sb) (hk:t.has k=true) (hj:t.has j=true):(t.set k s).at_ j=if j=k then s else t.at_ j:=by
 unfold set;rw[g7 hk];simp only[has,i3,d7]at hk hj;unfold at_;dsimp only
 by_cases e:j=k
 ·subst e;rw[g7 rfl,f8,List.getElem?_set_self (by omega)];rfl
 ·rw[f9 e,f8,List.getElem?_set_ne (by omega),<- f8]
theorem has_set (t:Tl) (k j:Int) (s:Sb):(t.set k s).has j=t.has j:=by unfold has;rw[set_b]
theorem has_iff {t:Tl} {k:Int}:t.has k=true↔0<=k/\k<t.b:=by simp[has]
theorem set_no {t:Tl} {k:Int} (s:Sb) (h:t.has k=false):t.set k s=t:=by unfold set;rw[h];rfl
end Tl
end Go.Proofs.YtpakpgkdpofbhaaGreat
namespace Go.Proofs.YtpakpgkdpofbhaaGreat
open Go
structure FitR (e:En):Prop where
 lpn:0<=e.lpn/\e.lpn<=65535
 role:e.role=1\/((e.role=2\/e.role=4)/\e.data=zeros16)
 len:e.data.length=16
theorem c1p {b r m:Int} {e:En} (hb:0<=b/\b<=15) (hr:0<=r/\r<=7) (hm:2<=L.count m) (hs:0<=e.seq/\e.seq<=1099511627775) (h:FitR e\/e=En.pad):W.ok b r m e=true:=by
 have h5:S.entry (W.sh b r m e)=true:=by
  rcases h with h | h
  ·unfold S.entry;have e1:(W.sh b r m e).role=e.role:=rfl;have e2:(W.sh b r m e).data=e.data:=rfl;rw[e1,e2];rcases h.role with h3 | ⟨h3 | h3,h4⟩
   ·rw[g7 h3]
   ·rw[f9 (by omega),g7 (.inl h3),j3 h4]
   ·rw[f9 (by omega),g7 (.inr h3),j3 h4]
  ·rw[h];rfl
 have h6:(0<=e.role/\e.role<=255)/\(0<=e.lpn/\e.lpn<=65535):=by
  rcases h with h | h
  ·have:=h.lpn;rcases h.role with h3 | ⟨h3 | h3,h4⟩<;>omega
  ·rw[h];decide
 have h7:S.place (W.sh b r m e)=true:=by
  unfold S.place S.inB;rw[j3 (show 2<=L.count (W.sh b r m e).mask from hm),j3 (show 0<=(W.sh b r m e).block from hb.1),j3 (show(W.sh b r m e).block<=15 from hb.2),j3 (show 0<=(W.sh b r m e).row from hr.1),j3 (show(W.sh b r m e).row<=7 from hr.2)];rfl
 have h8:S.numbers (W.sh b r m e)=true:=by
  unfold S.numbers S.inB;rw[j3 (show 0<=(W.sh b r m e).seq from hs.1),j3 (show(W.sh b r m e).seq<=1099511627775 from hs.2),j3 (show 0<=(W.sh b r m e).lpn from h6.2.1),j3 (show(W.sh b r m e).lpn<=65535 from h6.2.2),j3 (show 0<=(W.sh b r m e).role from h6.1.1),j3 (show(W.sh b r m e).role<=255 from h6.1.2)];rfl
 unfold W.ok S.may;rw[h5,h7,h8];rfl
structure Msk (D:Nat) (fd m:Int):Prop where
 set:L.set m=true
 lt:∀d:Int,L.has m d=true->d<D
 all:∀d:Nat,d<D->(d:Int)≠fd->L.has m (d:Nat)=true
theorem a6f:∀D,D<7->3<=D->G.slots (L.all (D:Nat))=(D:Int)-1/\L.count (L.all (D:Nat))=D/\L.all (D:Nat)<2^D:=by decide+kernel
theorem b7j:∀D,D<7->3<=D->∀d,d<D->G.slots (L.without (L.all (D:Nat)) (d:Nat))=(D:Int)-2/\L.count (L.without (L.all (D:Nat)) (d:Nat))=D-1/\L.without (L.all (D:Nat)) (d:Nat)<2^D:=by decide+kernel
namespace Msk
variable {D : Nat} {fd m : Int}
theorem eq (h:Msk D fd m) (hD:3<=D/\D<=6):(m=L.all (D:Nat)/\(0<=fd/\fd<D->L.has m fd=true))\/(0<=fd/\fd<D/\L.has m fd=false/\m=L.without (L.all (D:Nat)) fd):=by
 have hs:=L.set_all D (by omega)
 by_cases hf:(0<=fd/\fd<D)/\L.has m fd=false
 ·right;refine⟨hf.1.1,hf.1.2,hf.2,L.ext h.set (L.set_without hs (by omega)) λd hd=>?_⟩;rw[L.without_has hs (by omega),L.all_has D (by omega),j3 (p:=(0:Int)<=(d:Int)) (by omega),s7]
  by_cases hlt:d<D
  ·rw[j3 (p:=(d:Int)<D) (by omega),s7]
   by_cases e:(d:Int)=fd
   ·rw[e,hf.2];simp
   ·rw[h.all d hlt e,r9 e];rfl
  ·rw[r9 (p:=(d:Int)<D) (by omega),Z8];cases hh:L.has m (d:Nat)with
   | false=>rfl
   | true=>have:=h.lt _ hh;omega
 ·left;have hff:0<=fd/\fd<D->L.has m fd=true:=λhr=>by
   cases hh:L.has m fd with
   | true=>rfl
   | false=>exact absurd ⟨hr,hh⟩ hf
  refine⟨L.ext h.set hs λd hd=>?_,hff⟩;rw[L.all_has D (by omega),j3 (p:=(0:Int)<=(d:Int)) (by omega),s7]
  by_cases hlt:d<D
  ·rw[j3 (p:=(d:Int)<D) (by omega)]
   by_cases e:(d:Int)=fd
   ·rw[e];exact hff (by omega)
   ·exact h.all d hlt e
  ·rw[r9 (p:=(d:Int)<D) (by omega)];cases hh:L.has m (d:Nat)with
   | false=>rfl
   | true=>have:=h.lt _ hh;omega
def full (D:Nat) (fd m:Int):Bool:=!(decide (0<=fd)&&decide (fd<D))||L.has m fd
theorem slots (h:Msk D fd m) (hD:3<=D/\D<=6):G.slots m=(if full D fd m then(D:Int)-1 else(D:Int)-2)/\2<=L.count m/\0<=m/\m<2^D:=by
 have hm0:0<=m:=by have:=(L.set_iff m).1 h.set;omega
 rcases h.eq hD with⟨e,hf⟩ | ⟨h1,h2,h3,e⟩
 ·have hfull:full D fd m=true:=by
   unfold full
   by_cases hr:0<=fd/\fd<D
   ·rw[hf hr];simp
   ·by_cases h0:0<=fd
    ·rw[r9 (p:=fd<D) (by omega)];simp
    ·rw[r9 h0];simp
  obtain⟨a1,a2,a3⟩:=a6f D (by omega) hD.1;rw[hfull,g7 rfl];rw[e]at hm0 ⊢;exact⟨a1,by omega,hm0,a3⟩
 ·have hfull:full D fd m=false:=by
   unfold full;rw[j3 h1,j3 h2,h3];rfl
  obtain⟨d,hd⟩:=i5 h1;obtain⟨a1,a2,a3⟩:=b7j D (by omega) hD.1 d (by omega);rw[hfull,f9 l9];rw[e,hd]at hm0 ⊢;exact⟨a1,by omega,hm0,a3⟩
theorem pos (h:Msk D fd m) (hD:3<=D/\D<=6):1<=G.slots m/\(D:Int)-2<=G.slots m/\G.slots m<=(D:Int)-1:=by
 have:=(h.slots hD).1;split at this<;>omega
end Msk
structure Full (fd:Int) (N:Nand) (b r m:Int) (l:List En):Prop where
 is:RowIs N b r m l
 good:∀x∈R.job b r m l,x.1≠fd->∃t,N.pageAt x.1 b r=some ⟨Y8 x.2,false,t⟩
 inn:RowIn N b r m l
namespace Full
variable {fd : Int} {N : Nand} {b r m : Int} {l : List En}
theorem keep (h:Full fd N b r m l) {N':Nand} (like:N.Like N') (hp:∀x∈R.job b r m l,N'.pageAt x.1 b r=N.pageAt x.1 b r):Full fd N' b r m l:=
 ⟨h.is.like like,λx hx hne=>by rw[hp x hx];exact h.good x hx hne,λx hx c hc=>h.inn x hx c (by rw[<- hp x hx];exact hc)⟩
theorem okAll2 (h:Full fd N b r m l) (hoff:N.off=false) (hdead:∀x∈R.job b r m l,x.1≠fd->N.dead.getD x.1.toNat false=false) {i:Nat} (hi:i<l.length):okG (gOf N b r m l) l.length i=true:=by
 have hjl:(R.job b r m l).length=l.length+1:=by simp[R.job]
 have hg:∀k x,(R.job b r m l)[k]? =some x->x.1≠fd->gOf N b r m l k=true:=λk x hk hne=>by
  have hx:=m6 hk;obtain⟨t,ht⟩:=h.good x hx hne;obtain⟨n1,n2,n3⟩:=h.is.inn x hx;have hr:N.refuses x.1 b r=0:=by
   unfold Nand.refuses;rw[hoff,f9 (by decide),Nand.geoIn_of ⟨n1,n2⟩ h.is.blk h.is.row,f9 (by decide),hdead x hx hne];rfl
  unfold gOf;rw[hk];show((M.look N x.1 b r).2==1)=true;rw[a5y (h.is.sh x hx).1 hr ht];rfl
 have hat:∀k,k<=l.length->∃x,(R.job b r m l)[k]? =some x:=λk hk=>⟨_,c9 (by omega)⟩;unfold okG;rw[j9];obtain⟨x,hx⟩:=hat i (by omega)
 by_cases hne:x.1=fd
 ·right;unfold b1d;rw[E7];intro k hk;have hk:=List.mem_range.1 hk
  by_cases e:k=i
  ·simp[e]
  ·obtain⟨y,hy⟩:=hat k (by omega);have:y.1≠fd:=λe2=>e (by
    have hnd:=h.is.nodup;have e3:((R.job b r m l).map (·.1))[k]? =((R.job b r m l).map (·.1))[i]?:=by rw[i9,i9,hx,hy];simp[e2,hne]
    exact(U0 (by rw[j8];omega) hnd).1 e3)
   rw[hg k y hy this];simp
 ·exact .inl (hg i x hx hne)
theorem okAll (h:Full fd N b r m l) (hoff:N.off=false) (hdead:∀i:Nat,(i:Int)≠fd->N.dead.getD i false=false) {i:Nat} (hi:i<l.length):okG (gOf N b r m l) l.length i=true:=
 h.okAll2 hoff (λx hx hne=>hdead _ (by have:=h.is.inn x hx;omega)) hi
theorem read (h:Full fd N b r m l) (hoff:N.off=false) (hdead:∀i:Nat,(i:Int)≠fd->N.dead.getD i false=false) {i:Nat} (hi:i<l.length):R.read N b r (i:Nat) m=(l.getD i En.zero,0):=by
 rw[(h.inn.part h.is).read h.is hoff hi,h.okAll hoff hdead hi,g7 rfl]
end Full
theorem WroteR.page {N N':Nand} {b r:Int} {q:List (Int×Sh)} (h:WroteR N N' b r q) (hq:RdyR N b r q) {d b0 r0:Int} (hd:0<=d) (hb:0<=b0) (hr:0<=r0) (hne:b0=b->r0≠r):N'.pageAt d b0 r0=N.pageAt d b0 r0:=by
 unfold Nand.pageAt
 by_cases e:b0=b
 ·by_cases hx:∀x∈q,x.1.toNat≠d.toNat
  ·rw[h.rest _ _ (.inr hx)]
  ·simp only[Classical.not_forall,not_imp,a3m]at hx;obtain⟨x,hx,hxd⟩:=hx;have hc:=h.cells x hx;rw[hxd,<- e]at hc;rw[hc];split
   ·rfl
   ·rename_i ha;have ha:N.dead.getD d.toNat false=false:=by simpa using ha
    have hl:=hq.cells x hx (by rw[hxd];exact ha);rw[hxd,<- e]at hl;have:=hne e;have:=hq.row;rw[K7];split
    ·rfl
    ·rw[l8 (by simp only[n8,a2v];omega),l8 (by omega)]
 ·rw[h.rest _ _ (.inl (by have:=hq.blk;omega))]
structure Std (fd:Int) (S:Dv) (i:Int) (a:AtV):Prop where
 row:∃l,Full fd S.N a.block a.row a.mask l/\0<=a.slot/\a.slot.toNat<l.length/\(l.getD a.slot.toNat En.zero).lpn=i/\(l.getD a.slot.toNat En.zero).seq=a.seq/\(l.getD a.slot.toNat En.zero).role=a.role
 used:(S.t.at_ a.block).used=true
 below:a.block=S.op->a.row<S.row
 seq:1<=a.seq/\a.seq<S.next
structure Opn (fd:Int) (S:Dv):Prop where
 blk:0<=S.op/\S.op<S.N.blocks
 used:(S.t.at_ S.op).used=true
 row:0<=S.row/\S.row<=S.N.pages
 mask:Msk S.N.dies fd S.mask
 cells:∀d:Nat,L.has S.mask (d:Nat)=true->((S.N.blk d S.op.toNat).cells.length:Int)<=S.row/\(S.N.dead.getD d false=false->((S.N.blk d S.op.toNat).cells.length:Int)=S.row)
structure Inv (fd:Int) (S:Dv):Prop where
 lit:S.N.Lit
 dead:∀i:Nat,(i:Int)≠fd->S.N.dead.getD i false=false
 plan:∀a∈S.N.plan,a.1=fd
 flags:∀i j:Nat,(i:Int)≠fd->(S.N.blk i j).met=false/\(S.N.blk i j).fails=false
 tdead:L.set S.t.dead=true/\∀d:Int,L.has S.t.dead d=true->d=fd
 tbad:∀b,S.t.has b=true->L.set (S.t.at_ b).bad=true/\∀d:Int,L.has (S.t.at_ b).bad d=true->d=fd
 op:S.op= -1\/Opn fd S
 blank:∀b,S.t.has b=true->(S.t.at_ b).used=false->∀d:Nat,L.has (S.t.mask b) (d:Nat)=true->(S.N.blk d b.toNat).cells=[]
 st:∀i a,Tb.look S.T.at_ i=some a->Std fd S i a
theorem U6 {t:Tl} {b:Int} (hd:t.d<=8) (hb:t.has b=true) (h1:L.set t.dead=true) (h2:L.set (t.at_ b).bad=true):L.set (t.mask b)=true/\∀e:Int,L.has (t.mask b) e=((decide (0<=e)&&decide (e<t.d))&& !L.has t.dead e&& !L.has (t.at_ b).bad e):=by
 have ha:=L.set_all t.d hd;have x1:=b3f ha h1;have x2:=b3f x1.1 h2;unfold Tl.mask;rw[g7 hb];exact⟨x2.1,λe=>by rw[Tl.alive,x2.2,x1.2,L.all_has _ hd]⟩
namespace Inv
variable {fd : Int} {S : Dv} {k m : Nat}
theorem msk (h:Inv fd S) (hO:S.Ok k m) {b:Int} (hb:S.t.has b=true):Msk S.N.dies fd (S.t.mask b):=by
 have hg:=hO.gd.ok.bd16;have hd:=hO.t.d;obtain⟨m1,m2⟩:=U6 (by omega) hb h.tdead.1 (h.tbad b hb).1;refine⟨m1,λd hh=>?_,λd hlt hne=>?_⟩
 ·rw[m2]at hh;simp only[i3,d7]at hh;omega
 ·rw[m2,j3 (p:=(0:Int)<=(d:Int)) (by omega),j3 (p:=(d:Int)<S.t.d) (by omega)];have e1:L.has S.t.dead (d:Nat)=false:=by
   cases hh:L.has S.t.dead (d:Nat)with
   | false=>rfl
   | true=>exact absurd (h.tdead.2 _ hh) hne
  have e2:L.has (S.t.at_ b).bad (d:Nat)=false:=by
   cases hh:L.has (S.t.at_ b).bad (d:Nat)with
   | false=>rfl
   | true=>exact absurd ((h.tbad b hb).2 _ hh) hne
  rw[e1,e2];rfl
theorem usable (h:Inv fd S) (hO:S.Ok k m) {b:Int} (hb:S.t.has b=true):S.t.usable b=true:=by
 have hg:=hO.gd.ok.bd16;have:=((h.msk hO hb).pos hg.1).1;unfold Tl.usable;exact j3 (by omega)
theorem read (h:Inv fd S) {i:Int} {a:AtV} (ha:Tb.look S.T.at_ i=some a):∃e,R.read S.N a.block a.row a.slot a.mask=(e,0)/\e.lpn=i/\e.seq=a.seq/\e.role=a.role:=by
 obtain⟨l,h1,h2,h3,h4,h5,h6⟩:=(h.st i a ha).row;refine⟨_,?_,h4,h5,h6⟩;have:=h1.read h.lit.off h.dead h3
 rwa [show((a.slot.toNat:Nat):Int)=a.slot from by omega]at this
end Inv
namespace V
theorem step_tb' (N:Nand) (L:List Fnd) (s:Sst) (k:Nat):(step N L s k).tb=if(standOf (of L k)).2=true then s.tb.put (standOf (of L k)).1.en (standOf (of L k)).1.block (standOf (of L k)).1.row (standOf (of L k)).1.slot (standOf (of L k)).1.mask else s.tb:=by
 unfold step
 by_cases h:(standOf (of L k)).2=true
 ·rw[g7 h,g7 h];split
  ·rfl
  ·split<;>rfl
 ·rw[f9 h,f9 h]
theorem look_put (t:Tb) (e:En) (b r s m:Int) (i:Int):Tb.look (t.put e b r s m).at_ i=if t.putB e=true/\i=e.lpn then some ⟨b,r,s,m,e.seq,e.role⟩else Tb.look t.at_ i:=by
 unfold Tb.put
 by_cases h:t.putB e=true
 ·rw[g7 h];show Tb.look (Tb.put1 t.at_ e.lpn _) i=_;rw[Tb.look_put1]
  by_cases hi:i=e.lpn
  ·rw[g7 hi,g7 ⟨h,hi⟩]
  ·rw[f9 hi,f9 (λh=>hi h.2)]
 ·rw[f9 h,f9 (λh'=>h h'.1)]
theorem goS_look (N:Nand) (L:List Fnd) (n:Int):∀k i:Nat,Tb.look (goS N L n k).tb.at_ (i:Int)=if i<k/\(standOf (of L i)).2=true/\Tb.ok (Tb.new n) (standOf (of L i)).1.en=true then some ⟨(standOf (of L i)).1.block,(standOf (of L i)).1.row,(standOf (of L i)).1.slot,(standOf (of L i)).1.mask,(standOf (of L i)).1.en.seq,(standOf (of L i)).1.en.role⟩else none
 | 0,i=>by rw[f9 (by omega)];rfl
 | k+1,i=>by
  have ih:=goS_look N L n k;have hlog:(goS N L n k).tb.logical=(Tb.new n).logical:=goS_log N L n k;rw[goS_succ,step_tb']
  by_cases hs:(standOf (of L k)).2=true
  ·have hlpn:(standOf (of L k)).1.en.lpn=k:=by
    have:=(List.mem_filter.1 (standOf_mem hs)).2;exact a4K this
   have hok:(goS N L n k).tb.putB (standOf (of L k)).1.en=Tb.ok (Tb.new n) (standOf (of L k)).1.en:=by
    unfold Tb.putB Tb.elder;rw[hlpn,ih k,f9 (by omega)];unfold Tb.ok;rw[hlog];simp
   rw[g7 hs,look_put,hok,hlpn,ih i]
   by_cases hik:i=k
   ·subst hik
    by_cases ho:Tb.ok (Tb.new n) (standOf (of L i)).1.en=true
    ·rw[g7 ⟨ho,rfl⟩,g7 ⟨by omega,hs,ho⟩]
    ·rw[f9 (λh=>ho h.1),f9 (by omega),f9 (λh=>ho h.2.2)]
   ·rw[f9 (λh=>hik (by omega))]
    by_cases hc:(standOf (of L i)).2=true/\Tb.ok (Tb.new n) (standOf (of L i)).1.en=true
    ·by_cases hlt:i<k
     ·rw[g7 ⟨hlt,hc⟩,g7 ⟨by omega,hc⟩]
     ·rw[f9 (λh=>hlt h.1),f9 (λh=>by omega)]
    ·rw[f9 (λh=>hc h.2),f9 (λh=>hc h.2)]
  ·rw[f9 hs,ih i]
   by_cases hik:i=k
   ·subst hik;rw[f9 (by omega),f9 (λh=>hs h.2.1)]
   ·by_cases hc:(standOf (of L i)).2=true/\Tb.ok (Tb.new n) (standOf (of L i)).1.en=true
    ·by_cases hlt:i<k
     ·rw[g7 ⟨hlt,hc⟩,g7 ⟨by omega,hc⟩]
     ·rw[f9 (λh=>hlt h.1),f9 (λh=>by omega)]
    ·rw[f9 (λh=>hc h.2),f9 (λh=>hc h.2)]
end V
theorem b4B {l:List En} {next:Int} {n:Nat} {e:En} (h:e∈Dv.num l next n):(∃i,i<l.length/\i<n/\e={l.getD i En.zero with seq:=next+i})\/e=En.pad:=by
 simp only[Dv.num,P7,J2]at h;obtain⟨i,hi,rfl⟩:=h;unfold Dv.numAt;split
 ·rename_i h;exact .inl ⟨i,h,hi,rfl⟩
 ·exact .inr rfl
theorem c0s {l:List En} {next:Int} {n k:Nat} (hk:k<n):(Dv.num l next n).getD k En.zero=Dv.numAt l next k:=by
 unfold Dv.num;rw[f8,i9,J7 hk];rfl
theorem a0e {l:List En} {i:Nat} (h:i<l.length):l.getD i En.zero∈l:=by
 rw[f8,c9 h];exact H1 _
namespace Inv
variable {fd : Int} {S : Dv} {k m : Nat} {l : List En}
theorem opn (h:Inv fd S) (hl:S.left=true):Opn fd S:=by
 rcases h.op with e | e
 ·have:=Dv.left_spec hl;omega
 ·exact e
theorem rowIs (h:Inv fd S) (hO:S.Ok k m) (hl:S.left=true) (hf:∀e∈l,FitR e) (hn:¬S.next>1099511627775-(S.fit l:Int)+1):RowIs S.N S.op S.row S.mask (S.es l):=by
 have ho:=h.opn hl;have hs:=Dv.left_spec hl;have hg:=hO.gd.ok.bd16;have hx:=hO.next;obtain⟨m1,m2,m3,m4⟩:=ho.mask.slots hg.1;have hrow:=ho.row;have hblk:=ho.blk;refine⟨hg.1.2,ho.blk,⟨hrow.1,hs.2.1⟩,⟨m3,m4⟩,Dv.num_data (λe he=>(hf e he).len) _ _,?_⟩;unfold W.parB;have h1:decide (((S.es l).length:Int)=G.slots S.mask)=true:=by rw[Dv.es_len];exact j3 (by omega)
 have h2:(!(S.es l).isEmpty)=true:=by
  cases he:S.es l with
  | nil=>have:=Dv.es_len S l;rw[he]at this;simp at this;omega
  | cons x y=>rfl
 rw[h1,h2,s7,s7,E7];intro e he;rcases b4B he with⟨i,hi,hin,rfl⟩ | rfl
 ·have hfe:=hf _ (a0e hi);refine c1p ⟨hblk.1,by omega⟩ ⟨hrow.1,by omega⟩ m2 ⟨?_,?_⟩ (.inl ⟨hfe.lpn,hfe.role,hfe.len⟩)
  ·show 0<=S.next+(i:Int);omega
  ·show S.next+(i:Int)<=1099511627775;have:i<S.fit l:=by unfold Dv.fit;omega
   omega
 ·exact c1p ⟨hblk.1,by omega⟩ ⟨hrow.1,by omega⟩ m2 ⟨by decide,by decide⟩ (.inr rfl)
theorem fails_no (h:Inv fd S) {b r:Int} {d:Nat} (hd:(d:Int)≠fd):S.N.failB b r d=false/\S.N.fails d b r=false:=by
 have e1:=h.dead d hd;have e2:=(h.flags d b.toNat hd).1;have e3:S.N.fails d b r=false:=by
  unfold Nand.fails;rw[j4,e2,a2t];refine r9 λhm=>?_;exact hd (h.plan _ hm)
 refine⟨?_,e3⟩;unfold Nand.failB;rw[e3,a2t,j4,e1]
structure Turn (fd:Int) (S:Dv) (l:List En):Prop where
 inv:Inv fd (S.wrote l)
 full:Full fd (S.wrote l).N S.op S.row S.mask (S.es l)
 err:(S.wr l).2.2=if(S.wr l).2.1=0 then 0 else 7
 set:L.set (S.wr l).2.1=true
 only:∀d:Int,L.has (S.wr l).2.1 d=true->d=fd/\L.has S.mask fd=true
 fail:∀d:Nat,L.has S.mask (d:Nat)=true->L.has (S.wr l).2.1 (d:Nat)=S.N.failB S.op S.row d
 dead:(S.wrote l).N.dead=S.N.dead
 broken:(S.wrote l).N.broken=S.N.broken
 like:S.N.Like (S.wrote l).N
 plan:∀a∈(S.wrote l).N.plan,a∈S.N.plan
 rest:∀i j,j≠S.op.toNat->(S.wrote l).N.blk i j=S.N.blk i j
 flags:∀i j,((S.wrote l).N.blk i j).met=(S.N.blk i j).met/\((S.wrote l).N.blk i j).fails=(S.N.blk i j).fails/\((S.wrote l).N.blk i j).worn=(S.N.blk i j).worn
 ops:(S.wrote l).N.ops=S.N.ops+(((R.job S.op S.row S.mask (S.es l)).filter λx=>!S.N.dead.getD x.1.toNat false).length:Int)
theorem turn (h:Inv fd S) (hO:S.Ok k m) (hl:S.left=true) (hf:∀e∈l,FitR e) (hn:¬S.next>1099511627775-(S.fit l:Int)+1):Turn fd S l:=by
 have ho:=h.opn hl;have hs:=Dv.left_spec hl;have hg:=hO.gd.ok.bd16;have hR:=h.rowIs hO hl hf hn;have hrdy:RdyW S.N S.op S.row S.mask:=⟨h.lit,λd hd ha=>(ho.cells d hd).2 ha⟩;have hq:=hrdy.rdy hR;obtain⟨w1,w2,w3⟩:=b0J hrdy hR;have hin:=hR.inn;have hq8:∀x∈R.job S.op S.row S.mask (S.es l),0<=x.1/\x.1<8:=λx hx=>by have:=hin x hx;omega
 obtain⟨f1,f2⟩:=a6y (N:=S.N) (b:=S.op) (r:=S.row) _ 0 (by decide) hq8;have w3:WroteR S.N (S.wrote l).N S.op S.row (R.job S.op S.row S.mask (S.es l)):=w3;have w1:(S.wr l).2.1=a0A S.N S.op S.row (R.job S.op S.row S.mask (S.es l)) 0:=w1;have w2:(S.wr l).2.2=if a0A S.N S.op S.row (R.job S.op S.row S.mask (S.es l)) 0=0 then 0 else 7:=w2
 have hfail:∀d:Nat,L.has S.mask (d:Nat)=true->L.has (S.wr l).2.1 (d:Nat)=S.N.failB S.op S.row d:=λd hd=>by
  rw[w1,f2,L.has_zero,C9,a2y,a0E];constructor
  ·rintro⟨x,hx,hh⟩;simp only[i3,d7]at hh;rw[<- hh.1];exact hh.2
  ·intro hh;obtain⟨x,hx,hxd⟩:=hR.on hd;exact⟨x,hx,by rw[hxd,hh];simp⟩
 have honly:∀d:Int,L.has (S.wr l).2.1 d=true->d=fd/\L.has S.mask fd=true:=λd hd=>by
  rw[w1,f2,L.has_zero,C9,a0E]at hd;obtain⟨x,hx,hh⟩:=hd;simp only[i3,d7]at hh;have hxi:=hin x hx;obtain⟨e,he⟩:=i5 hxi.1
  by_cases hne:(e:Int)=fd
  ·rw[<- hne,<- he];exact⟨hh.1.symm,hxi.2.2⟩
  ·have:=(h.fails_no (b:=S.op) (r:=S.row) hne).1;rw[<- he,hh.2]at this;cases this
 have hrow:=ho.row;have hblk:=ho.blk;have hcells:∀d:Nat,L.has S.mask (d:Nat)=true->(((S.wrote l).N.blk d S.op.toNat).cells.length:Int)<=S.row+1/\(S.N.dead.getD d false=false->(((S.wrote l).N.blk d S.op.toNat).cells.length:Int)=S.row+1):=λd hd=>by
  obtain⟨x,hx,hxd⟩:=hR.on hd;have hc:=w3.cells x hx;have ho2:=ho.cells d hd;rw[hxd,j4]at hc;rw[hc];cases hdd:S.N.dead.getD d false with
  | true=>rw[g7 rfl];exact⟨by omega,λe=>by cases e⟩
  | false=>
   rw[f9 l9,i4];have:=ho2.2 hdd;simp only[n8,a2v];exact⟨by omega,λ_=>by omega⟩
 have hfull:Full fd (S.wrote l).N S.op S.row S.mask (S.es l):=by
  refine⟨hR.like w3.like,λx hx hne=>?_,λx hx c hc=>?_⟩
  ·have hxi:=hin x hx;obtain⟨e,he⟩:=i5 hxi.1;have hc:=w3.cells x hx;have hne':(e:Int)≠fd:=by rw[<- he];exact hne
   have hxm:=hxi.2.2;rw[he]at hxm;have hlen:=(ho.cells e hxm).2 (h.dead e hne');rw[he,j4,h.dead e hne',f9 l9,(h.fails_no (b:=S.op) (r:=S.row) hne').2]at hc;refine⟨false,?_⟩;unfold Nand.pageAt;rw[he,j4,hc,B5 (by omega),show S.row.toNat-(S.N.blk e S.op.toNat).cells.length=0 from by omega];rfl
  ·have hxi:=hin x hx;obtain⟨e,he⟩:=i5 hxi.1;have hxm:=hxi.2.2;have hcc:=w3.cells x hx;unfold Nand.pageAt at hc;rw[hcc]at hc;rw[he]at hxm;have hlen:=ho.cells e hxm;rw[he,j4]at hc;cases hdd:S.N.dead.getD e false with
   | true=>
    rw[hdd,g7 rfl,l8 (by omega)]at hc;cases hc
   | false=>
    have:=hlen.2 hdd;rw[hdd,f9 l9,B5 (by omega),show S.row.toNat-(S.N.blk e S.op.toNat).cells.length=0 from by omega]at hc;simp only[S9,n7]at hc;subst hc;exact .inr (.inl rfl)
 refine⟨⟨w3.lit,λi hi=>by rw[w3.dead];exact h.dead i hi,λa ha=>h.plan a (w3.plan a ha),λi j hi=>by have:=w3.flags i j;rw[this.1,this.2.1];exact h.flags i j hi,h.tdead,h.tbad, .inr ⟨by rw[show(S.wrote l).N.blocks=S.N.blocks from w3.like.blocks];exact ho.blk,ho.used,by rw[show(S.wrote l).N.pages=S.N.pages from w3.like.pages];show 0<=S.row+1/\S.row+1<=_;omega,by rw[show(S.wrote l).N.dies=S.N.dies from w3.like.dies];exact ho.mask,λd hd=>by rw[w3.dead];exact hcells d hd⟩,λb hb hu d hd=>?_,λi a ha=>?_⟩,hfull,by rw[w2,w1],by rw[w1];exact f1,honly,hfail,w3.dead,w3.broken,w3.like,w3.plan,λi j hj=>w3.rest i j (.inl hj),w3.flags,w3.ops⟩
 ·have hbi:=Tl.has_iff.1 hb;have hne:b≠S.op:=λe=>by rw[e]at hu;have:=ho.used;rw[show(S.wrote l).t=S.t from rfl]at hu;rw[hu]at this;cases this
  rw[w3.rest _ _ (.inl (by omega))];exact h.blank b hb hu d hd
 ·have hst:=h.st i a ha;obtain⟨lr,g1,g2,g3,g4,g5,g6⟩:=hst.row;refine⟨⟨lr,g1.keep w3.like λx hx=>w3.page hq (g1.is.inn x hx).1 g1.is.blk.1 g1.is.row.1 (λe=>by have:=hst.below e;omega),g2,g3,g4,g5,g6⟩,hst.used,λe=>by have:=hst.below e;show a.row<S.row+1;omega,?_⟩;have:=hst.seq;show 1<=a.seq/\a.seq<S.next+(S.fit l:Int);omega
theorem put (h:Inv fd S) {b r mk:Int} {es:List En} (hfull:Full fd S.N b r mk es) (hu:(S.t.at_ b).used=true) (hbel:b=S.op->r<S.row) {n:Nat} (hn:n<es.length) (hs:1<=(es.getD n En.zero).seq/\(es.getD n En.zero).seq<S.next):Inv fd {S with T:=S.T.put (es.getD n En.zero) b r n mk}:=by
 refine⟨h.lit,h.dead,h.plan,h.flags,h.tdead,h.tbad,?_,h.blank,λi a ha=>?_⟩
 ·rcases h.op with e | e
  ·exact .inl e
  ·exact .inr ⟨e.blk,e.used,e.row,e.mask,e.cells⟩
 ·have ha:Tb.look (S.T.put (es.getD n En.zero) b r n mk).at_ i=some a:=ha;rw[V.look_put]at ha;split at ha
  ·rename_i hc;injection ha with ha;subst ha;refine⟨⟨es,hfull,a0U n,by show((n:Nat):Int).toNat<_;omega,by show(es.getD ((n:Nat):Int).toNat En.zero).lpn=i;rw[j4];exact hc.2.symm,by show(es.getD ((n:Nat):Int).toNat En.zero).seq=_;rw[j4],by show(es.getD ((n:Nat):Int).toNat En.zero).role=_;rw[j4]⟩,hu,hbel,hs⟩
  ·have:=h.st i a ha;exact⟨this.row,this.used,this.below,this.seq⟩
theorem puts (h:Inv fd S) {b r mk:Int} {es:List En} (hfull:Full fd S.N b r mk es) (hu:(S.t.at_ b).used=true) (hbel:b=S.op->r<S.row) (T:Tb) (hT:S.T=T):∀n,n<=es.length->(∀i,i<n->1<=(es.getD i En.zero).seq/\(es.getD i En.zero).seq<S.next)->Inv fd {S with T:=Dv.puts T b r mk es n}
 | 0,_,_=>by subst hT;exact h
 | n+1,hn,hs=>by
  have ih:=h.puts hfull hu hbel T hT n (by omega) λi hi=>hs i (by omega);rw[Dv.puts_succ];exact put (S:={S with T:=Dv.puts T b r mk es n}) ih hfull hu hbel (by omega) (hs n (by omega))
theorem lose (h:Inv fd S) (hF:S.t.Fit S.N) (hD:S.N.dies<=6) {f:Int} {d:Nat} (hd:d<8) (hf:L.has f (d:Nat)=true->(d:Int)=fd):Inv fd (Dv.lose f S d):=by
 unfold Dv.lose;split
 ·rename_i hh;have hfd:=hf hh;obtain⟨e1,e2,e3⟩:∃t',(if S.N.deadAt d then S.t.die d else S.t.bad d S.op)=t'/\True:=⟨_,rfl,trivial⟩;have key:∀t':Tl,(t'=S.t.die d\/t'=S.t.bad d S.op)->(∀b,t'.has b=S.t.has b)/\t'.d=S.t.d/\(∀b,S.t.has b=true->(t'.at_ b).used=(S.t.at_ b).used)/\(L.set t'.dead=true/\∀d:Int,L.has t'.dead d=true->d=fd)/\(∀b,S.t.has b=true->L.set (t'.at_ b).bad=true/\∀d:Int,L.has (t'.at_ b).bad d=true->d=fd)/\(∀b,S.t.has b=true->∀e:Int,L.has (t'.mask b) e=true->L.has (S.t.mask b) e=true):=by
   intro t' ht;have hSd:S.t.d<=8:=by have:=hF.d;omega
   have h0:∀b,S.t.has b=true->L.set (S.t.mask b)=true/\∀e:Int,L.has (S.t.mask b) e=((decide (0<=e)&&decide (e<S.t.d))&& !L.has S.t.dead e&& !L.has (S.t.at_ b).bad e):=λb hb=>U6 hSd hb h.tdead.1 (h.tbad b hb).1;rcases ht with rfl | rfl
   ·unfold Tl.die;split
    ·have hw:=L.set_with h.tdead.1 (d:=(d:Int)) (by omega);have hwh:=L.with_has h.tdead.1 (d:=(d:Int)) (by omega);refine⟨λb=>rfl,rfl,λb hb=>rfl,⟨hw,λe he=>?_⟩,h.tbad,λb hb e he=>?_⟩
     ·have he:L.has (L.with_ S.t.dead (d:Int)) e=true:=he;rw[hwh]at he;rcases j9 _ _▸he with he | he
      ·exact h.tdead.2 e he
      ·simp only[d7]at he;omega
     ·have hm:=(U6 (t:=⟨S.t.d,S.t.b,S.t.p,S.t.l,L.with_ S.t.dead d⟩) (b:=b) hSd hb hw (h.tbad b hb).1).2 e;rw[hm]at he;rw[(h0 b hb).2 e];simp only[i3,i6]at he ⊢;refine⟨⟨he.1.1,?_⟩,he.2⟩;have he2:=he.1.2;rw[hwh]at he2;exact(Bool.or_eq_false_iff.1 he2).1
    ·exact⟨λb=>rfl,rfl,λb hb=>rfl,h.tdead,h.tbad,λb hb e he=>he⟩
   ·unfold Tl.bad;split
    ·cases hop:S.t.has S.op with
     | false=>
      rw[Tl.set_no _ hop];exact⟨λb=>rfl,rfl,λb hb=>rfl,h.tdead,h.tbad,λb hb e he=>he⟩
     | true=>
      have hb0:=h.tbad S.op hop;have hw:=L.set_with hb0.1 (d:=(d:Int)) (by omega);have hwh:=L.with_has hb0.1 (d:=(d:Int)) (by omega);have hbad:∀b,S.t.has b=true->L.set ((S.t.set S.op {S.t.at_ S.op with bad:=L.with_ (S.t.at_ S.op).bad d}).at_ b).bad=true/\(∀e:Int,L.has ((S.t.set S.op {S.t.at_ S.op with bad:=L.with_ (S.t.at_ S.op).bad d}).at_ b).bad e=true->e=fd)/\(∀e:Int,L.has (S.t.at_ b).bad e=true->L.has ((S.t.set S.op {S.t.at_ S.op with bad:=L.with_ (S.t.at_ S.op).bad d}).at_ b).bad e=true):=λb hb=>by
       rw[Tl.at_set hF.len _ hop hb];split
       ·rename_i e;subst e;dsimp only;refine⟨hw,λe he=>?_,λe he=>?_⟩
        ·rw[hwh]at he;rcases j9 _ _▸he with he | he
         ·exact hb0.2 e he
         ·simp only[d7]at he;omega
        ·rw[hwh,he];rfl
       ·exact⟨(h.tbad b hb).1,(h.tbad b hb).2,λe he=>he⟩
      refine⟨λb=>Tl.has_set _ _ _ _,Tl.set_d _ _ _,λb hb=>?_,by rw[Tl.set_dead];exact h.tdead,λb hb=>⟨(hbad b hb).1,(hbad b hb).2.1⟩,λb hb e he=>?_⟩
      ·rw[Tl.at_set hF.len _ hop hb];split
       ·rename_i e;rw[e]
       ·rfl
      ·have hm:=(U6 (t:=S.t.set S.op {S.t.at_ S.op with bad:=L.with_ (S.t.at_ S.op).bad d}) (b:=b) (by rw[Tl.set_d];exact hSd) (by rw[Tl.has_set];exact hb) (by rw[Tl.set_dead];exact h.tdead.1) (hbad b hb).1).2 e;rw[hm,Tl.set_d,Tl.set_dead]at he;rw[(h0 b hb).2 e];simp only[i3,i6]at he ⊢;refine⟨he.1,?_⟩;cases hx:L.has (S.t.at_ b).bad e with
       | false=>rfl
       | true=>rw[(hbad b hb).2.2 e hx]at he;exact absurd he.2 (by decide)
    ·exact⟨λb=>rfl,rfl,λb hb=>rfl,h.tdead,h.tbad,λb hb e he=>he⟩
  have ht':(if S.N.deadAt d then S.t.die d else S.t.bad d S.op)=S.t.die d\/(if S.N.deadAt d then S.t.die d else S.t.bad d S.op)=S.t.bad d S.op:=by split<;>simp
  obtain⟨k1,k2,k3,k4,k5,k6⟩:=key _ ht';refine⟨h.lit,h.dead,h.plan,h.flags,k4,λb hb=>k5 b (by rw[<- k1];exact hb),?_,λb hb hu e he=>?_,λi a ha=>?_⟩
  ·rcases h.op with e | e
   ·exact .inl e
   ·right;have hhas:S.t.has S.op=true:=Tl.has_iff.2 (by have:=e.blk;have:=hF.b;omega);have hms:=e.mask;have hwo:=L.without_has hms.set (d:=(d:Int)) (by omega);refine⟨e.blk,by show(Tl.at_ _ S.op).used=true;rw[k3 _ hhas];exact e.used,e.row,⟨L.set_without hms.set (by omega),λx hx=>?_,λx hx hne=>?_⟩,λx hx=>?_⟩
    ·rw[hwo]at hx;simp only[i3]at hx;exact hms.lt x hx.1
    ·rw[hwo,hms.all x hx hne];simp;omega
    ·have hx:L.has (L.without S.mask (d:Int)) (x:Nat)=true:=hx;rw[hwo]at hx;simp only[i3]at hx;exact e.cells x hx.1
  ·have hb':S.t.has b=true:=by rw[<- k1];exact hb
   exact h.blank b hb' (by rw[<- k3 b hb'];exact hu) e (k6 b hb' _ he)
  ·have hst:=h.st i a ha;have hhas:S.t.has a.block=true:=by
    obtain⟨lr,g1,_⟩:=hst.row;have:=g1.is.blk;have:=hF.b;exact Tl.has_iff.2 (by omega)
   exact⟨hst.row,by show(Tl.at_ _ a.block).used=true;rw[k3 _ hhas];exact hst.used,hst.below,hst.seq⟩
 ·exact h
theorem loses_q {f:Int} (hf:∀d:Nat,L.has f (d:Nat)=true->(d:Int)=fd):∀(q:List Nat) (S:Dv),Inv fd S->S.t.Fit S.N->S.N.dies<=6->(∀d∈q,d<8)->Inv fd (q.foldl (Dv.lose f) S)
 | [],S,h,_,_,_=>h
 | d::q,S,h,hF,hD,hq=>by
  rw[A8];have hN:=(Dv.lose_N f S d).1;exact loses_q hf q _ (h.lose hF hD (hq d (by simp)) (hf d)) (by rw[hN];exact(Dv.lose_t f S d hF).1) (by rw[hN];exact hD) λe he=>hq e (by simp[he])
theorem loses (h:Inv fd S) (hO:S.Ok k m) {f:Int} (hf:∀d:Nat,L.has f (d:Nat)=true->(d:Int)=fd):Inv fd (S.loses f):=by
 have hg:=hO.gd.ok.bd16;exact loses_q hf _ S h hO.t hg.1.2 λd hd=>by have:=List.mem_range.1 hd;omega
end Inv
def Dv.rows (S:Dv):Nat:=S.N.pages*S.t.blanks+(if S.op>=0 then(S.N.pages-S.row).toNat else 0)
structure NoF (S:Dv):Prop where
 dead:∀i:Nat,S.N.dead.getD i false=false
 plan:S.N.plan=[]
 met:∀i j:Nat,(S.N.blk i j).met=false
theorem NoF.fails {S:Dv} (h:NoF S) (b r:Int) (d:Nat):S.N.failB b r d=false:=by
 unfold Nand.failB Nand.fails;rw[j4,h.dead,h.plan,h.met];rfl
structure Went (fd:Int) (S Q:Dv) (β:Nat):Prop where
 inv:Inv fd Q
 T:Q.T=S.T
 next:S.next<=Q.next/\Q.next<=S.next+7*(β:Int)
 dead:Q.N.dead=S.N.dead
 broken:Q.N.broken=S.N.broken
 like:S.N.Like Q.N
 plan:∀a∈Q.N.plan,a∈S.N.plan
 flags:∀i j,(Q.N.blk i j).met=(S.N.blk i j).met/\(Q.N.blk i j).fails=(S.N.blk i j).fails/\(Q.N.blk i j).worn=(S.N.blk i j).worn
 rows:Q.rows+β=S.rows
 reads:∀i a,Std fd S i a->R.read Q.N a.block a.row a.slot a.mask=R.read S.N a.block a.row a.slot a.mask
 stay:∀i a,Std fd S i a->Std fd Q i a
 sb:∀b,S.t.has b=true->(Q.t.at_ b).wear=(S.t.at_ b).wear/\(Q.t.at_ b).held=(S.t.at_ b).held/\((S.t.at_ b).used=true->(Q.t.at_ b).used=true)
 td:∀d:Int,L.has S.t.dead d=true->L.has Q.t.dead d=true
namespace Dv
theorem at_dead (S:Dv) (f:Int) (d:Nat):(∀b,(lose f S d).t.has b=S.t.has b):=by
 intro b;unfold lose;split
 ·dsimp only;split
  ·unfold Tl.die;split<;>rfl
  ·unfold Tl.bad;split
   ·exact Tl.has_set _ _ _ _
   ·rfl
 ·rfl
theorem lose_sb {S:Dv} (hF:S.t.Fit S.N) (hd6:S.t.d<=8) (hs:L.set S.t.dead=true) (f:Int) (d:Nat):(∀b,S.t.has b=true->((lose f S d).t.at_ b).wear=(S.t.at_ b).wear/\((lose f S d).t.at_ b).held=(S.t.at_ b).held/\((lose f S d).t.at_ b).used=(S.t.at_ b).used)/\L.set (lose f S d).t.dead=true/\(∀e:Int,L.has S.t.dead e=true->L.has (lose f S d).t.dead e=true)/\(lose f S d).t.d=S.t.d:=by
 unfold lose;split
 ·dsimp only;split
  ·unfold Tl.die;split
   ·rename_i hh;simp only[Tl.hasDie,i3,d7]at hh;refine⟨λb _=>⟨rfl,rfl,rfl⟩,L.set_with hs (by omega),λe he=>?_,rfl⟩;show L.has (L.with_ S.t.dead d) e=true;rw[L.with_has hs (by omega),he];rfl
   ·exact⟨λb _=>⟨rfl,rfl,rfl⟩,hs,λe he=>he,rfl⟩
  ·unfold Tl.bad;split
   ·cases hop:S.t.has S.op with
    | false=>rw[Tl.set_no _ hop];exact⟨λb _=>⟨rfl,rfl,rfl⟩,hs,λe he=>he,rfl⟩
    | true=>
     refine⟨λb hb=>?_,by rw[Tl.set_dead];exact hs,λe he=>by rw[Tl.set_dead];exact he,Tl.set_d _ _ _⟩;rw[Tl.at_set hF.len _ hop hb];split
     ·rename_i e;subst e;exact⟨rfl,rfl,rfl⟩
     ·exact⟨rfl,rfl,rfl⟩
   ·exact⟨λb _=>⟨rfl,rfl,rfl⟩,hs,λe he=>he,rfl⟩
 ·exact⟨λb _=>⟨rfl,rfl,rfl⟩,hs,λe he=>he,rfl⟩
theorem loses_sb {f:Int}:∀(q:List Nat) (S:Dv),S.t.Fit S.N->S.t.d<=8->L.set S.t.dead=true->(∀b,(q.foldl (lose f) S).t.has b=S.t.has b)/\(∀b,S.t.has b=true->((q.foldl (lose f) S).t.at_ b).wear=(S.t.at_ b).wear/\((q.foldl (lose f) S).t.at_ b).held=(S.t.at_ b).held/\((q.foldl (lose f) S).t.at_ b).used=(S.t.at_ b).used)/\(∀e:Int,L.has S.t.dead e=true->L.has (q.foldl (lose f) S).t.dead e=true)
 | [],S,_,_,_=>⟨λ_=>rfl,λ_ _=>⟨rfl,rfl,rfl⟩,λ_ h=>h⟩
 | d::q,S,hF,h8,hs=>by
  obtain⟨a1,a2,a3,a4⟩:=lose_sb hF h8 hs f d;have hN:=(lose_N f S d).1;have ih:=loses_sb (f:=f) q (lose f S d) (by rw[hN];exact(lose_t f S d hF).1) (by rw[a4];exact h8) a2;rw[A8];refine⟨λb=>by rw[ih.1,at_dead],λb hb=>?_,λe he=>ih.2.2 e (a3 e he)⟩;have:=ih.2.1 b (by rw[at_dead];exact hb);rw[this.1,this.2.1,this.2.2];exact a1 b hb
theorem lose_mask {S:Dv} {f:Int} {d:Nat} (hd:d<8) (hm:L.set S.mask=true):L.set (lose f S d).mask=true/\∀e:Int,L.has (lose f S d).mask e=(L.has S.mask e&& !(decide (e=d)&&L.has f (d:Nat))):=by
 unfold lose;cases h:L.has f (d:Nat)with
 | true=>
  rw[g7 rfl];refine⟨L.set_without hm (by omega),λe=>?_⟩;show L.has (L.without S.mask (d:Int)) e=_;rw[L.without_has hm (by omega),Bool.and_true]
 | false=>rw[f9 l9];exact⟨hm,λe=>by simp⟩
theorem loses_mask {f:Int}:∀(q:List Nat) (S:Dv),(∀d∈q,d<8)->L.set S.mask=true->L.set (q.foldl (lose f) S).mask=true/\∀e:Int,L.has (q.foldl (lose f) S).mask e=(L.has S.mask e&& !(q.any λd=>decide (e=(d:Nat))&&L.has f (d:Nat)))
 | [],S,_,hm=>⟨hm,λe=>by simp⟩
 | d::q,S,hq,hm=>by
  obtain⟨a1,a2⟩:=lose_mask (f:=f) (hq d (by simp)) hm;have ih:=loses_mask (f:=f) q (lose f S d) (λe he=>hq e (by simp[he])) a1;rw[A8];refine⟨ih.1,λe=>?_⟩;rw[ih.2,a2,List.any_cons,Bool.not_or,Bool.and_assoc]
end Dv
namespace Inv
variable {fd : Int} {S : Dv} {k m : Nat} {l : List En}
theorem std_same {S Q:Dv} (hN:Q.N=S.N) (hu:∀b,S.t.has b=true->(S.t.at_ b).used=true->(Q.t.at_ b).used=true) (hb:S.t.b=S.N.blocks) (hop:∀a:AtV,(a.block=S.op->a.row<S.row)->(a.block=Q.op->a.row<Q.row)\/(S.t.at_ a.block).used=false) (hn:S.next<=Q.next) {i:Int} {a:AtV} (h:Std fd S i a):Std fd Q i a:=by
 obtain⟨lr,g1,g2⟩:=h.row;have hhas:S.t.has a.block=true:=by
  have:=g1.is.blk;exact Tl.has_iff.2 (by omega)
 have hs:=h.seq;refine⟨⟨lr,by rw[hN];exact g1,g2⟩,hu _ hhas h.used,?_,by omega⟩;rcases hop a h.below with e | e
 ·exact e
 ·rw[h.used]at e;cases e
theorem opens (h:Inv fd S) (hO:S.Ok k m) (hl:S.left=false) (hp:¬S.pick<0):Went fd S S.opened 0/\S.opened.left=true/\S.opened.mask=S.t.mask S.pick:=by
 have hg:=hO.gd.ok.bd16;have hb:=hO.t.b;have hlen:=hO.t.len;rcases S.pick_spec with e | ⟨p1,p2,p3,p4⟩
 ·omega
 have hhas:S.t.has S.pick=true:=Tl.has_iff.2 ⟨p1,p2⟩;have hbl:=Dv.pick_blank hp;have hbl2:=Tl.blanks_open hlen hbl;have hunu:(S.t.at_ S.pick).used=false:=by simp only[Tl.blank,i3,i6]at hbl;exact hbl.2
 have hmk:∀j,(S.t.clean S.pick false).mask j=S.t.mask j:=λj=>Dv.mask_clean hlen _ _ _;have hmsk:=h.msk hO hhas;have hat:∀b,S.t.has b=true->(S.opened.t.at_ b)=if b=S.pick then {S.t.at_ S.pick with used:=true}else S.t.at_ b:=λb hb=>Tl.at_set hlen _ hhas hb
 have hleft:S.opened.left=true:=by
  have:=(hmsk.pos hg.1).1;unfold Dv.left;have e1:S.opened.op=S.pick:=rfl;have e2:S.opened.row=0:=rfl;have e3:S.opened.mask=S.t.mask S.pick:=hmk _;have e4:S.opened.N=S.N:=rfl;rw[e1,e2,e3,e4,j3 (by omega),j3 (by omega),j3 (by omega)];rfl
 have hdd:S.opened.t.dead=S.t.dead:=Tl.set_dead _ _ _;have hhs:∀b,S.opened.t.has b=S.t.has b:=λb=>Tl.has_set _ _ _ _;have hopn:Opn fd S.opened:=⟨⟨p1,by show S.pick<S.N.blocks;omega⟩,by show(S.opened.t.at_ S.pick).used=true;rw[hat _ hhas,g7 rfl],by show(0:Int)<=0/\(0:Int)<=S.N.pages;omega,by show Msk S.N.dies fd (Tl.mask _ _);rw[hmk];exact hmsk,λd hd=>by
  have hd:L.has (Tl.mask (S.t.clean S.pick false) S.pick) (d:Nat)=true:=hd;rw[hmk]at hd;have:=h.blank S.pick hhas hunu d hd;show((S.N.blk d S.pick.toNat).cells.length:Int)<=0/\(_->((S.N.blk d S.pick.toNat).cells.length:Int)=0);rw[this];simp⟩
 have hrow0:S.op>=0->S.N.pages<=S.row:=λh0=>by
  rcases h.op with e | e
  ·omega
  ·have hps:=(e.mask.pos hg.1).1;cases hh:decide (S.row<S.N.pages)with
   | false=>have:=of_decide_eq_false hh;omega
   | true=>
    have:S.left=true:=by
     unfold Dv.left;rw[j3 h0,hh,j3 (by omega)];rfl
    rw[hl]at this;cases this
 have hstd:∀i a,Std fd S i a->Std fd S.opened i a:=λi a ha=>std_same (S:=S) (Q:=S.opened) rfl (λb hb hu=>by
   rw[hat b hb];split
   ·rfl
   ·exact hu) hb (λa _=>by
   by_cases e:a.block=S.pick
   ·right;rw[e];exact hunu
   ·left;intro e2;exact absurd e2 e) (Y5 _) ha
 refine⟨⟨⟨h.lit,h.dead,h.plan,h.flags,by rw[hdd];exact h.tdead,λb hb=>?_, .inr hopn,λb hb hu d hd=>?_,λi a ha=>hstd i a (h.st i a ha)⟩,rfl,⟨Y5 _,by show S.next<=S.next+_;omega⟩,rfl,rfl,Nand.Like.refl _,λ_ h=>h,λ_ _=>⟨rfl,rfl,rfl⟩,?_,λ_ _ _=>rfl,hstd,λb hb=>?_,λd hd=>by rw[hdd];exact hd⟩,hleft,hmk _⟩
 ·have hb':S.t.has b=true:=by rw[<- hhs];exact hb
  rw[hat b hb'];split
  ·rename_i e;subst e;exact h.tbad _ hhas
  ·exact h.tbad b hb'
 ·have hb':S.t.has b=true:=by rw[<- hhs];exact hb
  have hd:L.has (Tl.mask (S.t.clean S.pick false) b) (d:Nat)=true:=hd;rw[hmk]at hd;rw[hat b hb']at hu;split at hu
  ·cases hu
  ·exact h.blank b hb' hu d hd
 ·unfold Dv.rows;have e1:S.opened.t.blanks=(S.t.clean S.pick false).blanks:=rfl;have e2:S.opened.N.pages=S.N.pages:=rfl;have e3:S.opened.op=S.pick:=rfl;have e4:S.opened.row=0:=rfl;rw[e1,e2,e3,e4,g7 (by omega)];have:S.N.pages*S.t.blanks=S.N.pages*(S.t.clean S.pick false).blanks+S.N.pages:=by rw[<- hbl2,H3]
  rw[this]
  by_cases h0:S.op>=0
  ·have:=hrow0 h0;rw[g7 h0];omega
  ·rw[f9 h0];omega
 ·rw[hat b hb];split
  ·rename_i e;subst e;exact⟨rfl,rfl,λ_=>rfl⟩
  ·exact⟨rfl,rfl,λh=>h⟩
theorem turn_std (h:Inv fd S) (ht:Turn fd S l) (hO:S.Ok k m) (hl:S.left=true) (hf:∀e∈l,FitR e) (hn:¬S.next>1099511627775-(S.fit l:Int)+1) {i:Int} {a:AtV} (ha:Std fd S i a):Std fd (S.wrote l) i a/\R.read (S.wrote l).N a.block a.row a.slot a.mask=R.read S.N a.block a.row a.slot a.mask:=by
 have ho:=h.opn hl;have hR:=h.rowIs hO hl hf hn;have hrdy:RdyW S.N S.op S.row S.mask:=⟨h.lit,λd hd ha=>(ho.cells d hd).2 ha⟩;have hq:=hrdy.rdy hR;have w3:WroteR S.N (S.wrote l).N S.op S.row (R.job S.op S.row S.mask (S.es l)):=(b0J hrdy hR).2.2;obtain⟨lr,g1,g2,g3,g4,g5,g6⟩:=ha.row;have hk:Full fd (S.wrote l).N a.block a.row a.mask lr:=g1.keep w3.like λx hx=>w3.page hq (g1.is.inn x hx).1 g1.is.blk.1 g1.is.row.1 (λe=>by have:=ha.below e;omega);have hs:=ha.seq;refine⟨⟨⟨lr,hk,g2,g3,g4,g5,g6⟩,ha.used,λe=>by have:=ha.below e;show a.row<S.row+1;omega,by show 1<=a.seq/\a.seq<S.next+(S.fit l:Int);omega⟩,?_⟩;have r1:=hk.read ht.inv.lit.off ht.inv.dead g3;have r2:=g1.read h.lit.off h.dead g3;rw[show((a.slot.toNat:Nat):Int)=a.slot from by omega]at r1 r2;rw[r1,r2]
theorem burn (h:Inv fd S) (hO:S.Ok (8+k) m) (hl:S.left=true) (hf:∀e∈l,FitR e) (hn:¬S.next>1099511627775-(S.fit l:Int)+1) (hb:(S.wr l).2.1≠0):Went fd S ((S.wrote l).loses (S.wr l).2.1) 1/\L.has ((S.wrote l).loses (S.wr l).2.1).mask fd=false/\L.has S.mask fd=true/\((S.wrote l).loses (S.wr l).2.1).row=S.row+1/\((S.wrote l).loses (S.wr l).2.1).op=S.op/\S.N.failB S.op S.row fd=true/\∀d:Int,L.has ((S.wrote l).loses (S.wr l).2.1).mask d=true->L.has S.mask d=true:=by
 have hg:=hO.gd.ok.bd16;have ho:=h.opn hl;have hs:=Dv.left_spec hl;have ht:=h.turn hO hl hf hn;have hd:∀s∈l,s.data.length=16:=λe he=>(hf e he).len;have hW:=hO.wrote hd hs.2.1 hn;obtain⟨l1,l2,l3,l4,l5,l6,l7⟩:=Dv.loses_same (S.wrote l) (S.wr l).2.1 hW.t;have hi:=ht.inv.loses hW (f:=(S.wr l).2.1) λd hd=>(ht.only _ hd).1;have hfit:=Dv.fit_le S l;have hq8:∀d∈List.range (S.wrote l).N.dies,d<8:=λd hd=>by
  have:=List.mem_range.1 hd;have:=ht.like.dies;omega
 obtain⟨b1,b2,b3⟩:=Dv.loses_sb (f:=(S.wr l).2.1) (List.range (S.wrote l).N.dies) (S.wrote l) hW.t (by have:=hO.t.d;show S.t.d<=8;omega) h.tdead.1;obtain⟨m1,m2⟩:=Dv.loses_mask (f:=(S.wr l).2.1) (List.range (S.wrote l).N.dies) (S.wrote l) hq8 ho.mask.set;have hex:∃d:Nat,L.has (S.wr l).2.1 (d:Nat)=true:=by
  refine I0 λhno=>hb (L.ext ht.set (by decide) λd _=>?_);rw[L.has_zero];cases hh:L.has (S.wr l).2.1 (d:Nat)with
  | false=>rfl
  | true=>exact absurd ⟨d,hh⟩ hno
 obtain⟨d0,hd0⟩:=hex;obtain⟨o1,o2⟩:=ht.only _ hd0;have hfdlt:=ho.mask.lt _ o2;have hstay:∀i a,Std fd S i a->Std fd ((S.wrote l).loses (S.wr l).2.1) i a:=λi a ha=>by
  have h1:=(h.turn_std ht hO hl hf hn ha).1;refine std_same (S:=S.wrote l) l1 (λb hb hu=>(b2 b hb).2.2.trans hu) hW.t.b (λa ha=> .inl (by rw[l3,l4];exact ha)) (by rw[l5];exact Y5 _) h1
 refine⟨⟨hi,l2,?_,by rw[l1];exact ht.dead,by rw[l1];exact ht.broken,by rw[l1];exact ht.like,by rw[l1];exact ht.plan,by rw[l1];exact ht.flags,?_,λi a ha=>by rw[l1];exact(h.turn_std ht hO hl hf hn ha).2,hstay,λb hb=>?_,λd hd=>b3 d hd⟩,?_,o2,l4,l3,?_,λd hd=>?_⟩
 ·rw[l5];show S.next<=S.next+(S.fit l:Int)/\S.next+(S.fit l:Int)<=S.next+7*((1:Nat):Int);omega
 ·unfold Dv.rows;rw[l7,l1,l3,l4];have e1:(S.wrote l).N.pages=S.N.pages:=ht.like.pages;have e2:(S.wrote l).t.blanks=S.t.blanks:=rfl;have e3:(S.wrote l).op=S.op:=rfl;have e4:(S.wrote l).row=S.row+1:=rfl;rw[e1,e2,e3,e4,g7 (by omega),g7 (by omega)];have:=ho.row;omega
 ·have:=b2 b hb;exact⟨this.1,this.2.1,λhu=>this.2.2.trans hu⟩
 ·have e:=m2 fd;show L.has (((List.range (S.wrote l).N.dies).foldl (Dv.lose (S.wr l).2.1) (S.wrote l)).mask) fd=false;rw[e];have:((List.range (S.wrote l).N.dies).any λd=>decide (fd=(d:Nat))&&L.has (S.wr l).2.1 (d:Nat))=true:=by
   refine List.any_eq_true.2 ⟨d0,List.mem_range.2 ?_,by rw[hd0,j3 o1.symm];rfl⟩;have:=ht.like.dies;omega
  rw[this];simp
 ·have h2:=o2;rw[<- o1]at h2;have:=ht.fail d0 h2;rw[<- o1,<- this];exact hd0
 ·have e:=m2 d;have hd:L.has (((List.range (S.wrote l).N.dies).foldl (Dv.lose (S.wr l).2.1) (S.wrote l)).mask) d=true:=hd;rw[e]at hd;simp only[i3]at hd;exact hd.1
end Inv
structure TlMore (fd:Int) (t t':Tl):Prop where
 has:∀b,t'.has b=t.has b
 d:t'.d=t.d
 used:∀b,t.has b=true->(t'.at_ b).used=(t.at_ b).used
 held:∀b,t.has b=true->(t'.at_ b).held=(t.at_ b).held
 tdead:L.set t'.dead=true/\∀d:Int,L.has t'.dead d=true->d=fd
 tbad:∀b,t.has b=true->L.set (t'.at_ b).bad=true/\∀d:Int,L.has (t'.at_ b).bad d=true->d=fd
 mask:∀b,t.has b=true->∀e:Int,L.has (t'.mask b) e=true->L.has (t.mask b) e=true
 td:∀e:Int,L.has t.dead e=true->L.has t'.dead e=true
theorem TlMore.refl {fd:Int} {t:Tl} (h1:L.set t.dead=true/\∀d:Int,L.has t.dead d=true->d=fd) (h2:∀b,t.has b=true->L.set (t.at_ b).bad=true/\∀d:Int,L.has (t.at_ b).bad d=true->d=fd):TlMore fd t t:=
 ⟨λ_=>rfl,rfl,λ_ _=>rfl,λ_ _=>rfl,h1,h2,λ_ _ _ h=>h,λ_ h=>h⟩
theorem TlMore.trans {fd:Int} {a b c:Tl} (h:TlMore fd a b) (g:TlMore fd b c):TlMore fd a c:=
 ⟨λx=>(g.has x).trans (h.has x),g.d.trans h.d,λx hx=>(g.used x (by rw[h.has];exact hx)).trans (h.used x hx),λx hx=>(g.held x (by rw[h.has];exact hx)).trans (h.held x hx),g.tdead,λx hx=>g.tbad x (by rw[h.has];exact hx),λx hx e he=>h.mask x hx e (g.mask x (by rw[h.has];exact hx) e he),λe he=>g.td e (h.td e he)⟩
theorem b7V {fd:Int} {t:Tl} (h8:t.d<=8) (h1:L.set t.dead=true/\∀d:Int,L.has t.dead d=true->d=fd) (h2:∀b,t.has b=true->L.set (t.at_ b).bad=true/\∀d:Int,L.has (t.at_ b).bad d=true->d=fd) {d:Nat} (hd:d<8) (hfd:(d:Int)=fd):TlMore fd t (t.die d)/\(d<t.d->∀b,t.has b=true->L.has ((t.die d).mask b) fd=false):=by
 unfold Tl.die;split
 ·have hw:=L.set_with h1.1 (d:=(d:Int)) (by omega);have hwh:=L.with_has h1.1 (d:=(d:Int)) (by omega);have hmk:∀b,t.has b=true->∀e:Int,L.has (Tl.mask ⟨t.d,t.b,t.p,t.l,L.with_ t.dead d⟩ b) e=((decide (0<=e)&&decide (e<t.d))&& !L.has (L.with_ t.dead (d:Int)) e&& !L.has (t.at_ b).bad e):=λb hb e=>(U6 (t:=⟨t.d,t.b,t.p,t.l,L.with_ t.dead d⟩) (b:=b) h8 hb hw (h2 b hb).1).2 e;refine⟨⟨λb=>rfl,rfl,λb hb=>rfl,λb hb=>rfl,⟨hw,λe he=>?_⟩,h2,λb hb e he=>?_,λe he=>?_⟩,λ_ b hb=>?_⟩
  ·have he:L.has (L.with_ t.dead (d:Int)) e=true:=he;rw[hwh]at he;rcases j9 _ _▸he with he | he
   ·exact h1.2 e he
   ·simp only[d7]at he;omega
  ·rw[hmk b hb,hwh]at he;rw[(U6 h8 hb h1.1 (h2 b hb).1).2];simp only[i3,i6,I6]at he ⊢;exact⟨⟨he.1.1,he.1.2.1⟩,he.2⟩
  ·show L.has (L.with_ t.dead (d:Int)) e=true;rw[hwh,he];rfl
  ·rw[hmk b hb,hwh,j3 hfd.symm];simp
 ·rename_i hh;refine⟨TlMore.refl h1 h2,λhlt=>?_⟩;simp only[Tl.hasDie,i3,d7]at hh;omega
theorem b2r {fd:Int} {t:Tl} (hl:t.l.length=t.b) (h8:t.d<=8) (h1:L.set t.dead=true/\∀d:Int,L.has t.dead d=true->d=fd) (h2:∀b,t.has b=true->L.set (t.at_ b).bad=true/\∀d:Int,L.has (t.at_ b).bad d=true->d=fd) {d:Nat} (hd:d<8) (hfd:(d:Int)=fd) (k:Int):TlMore fd t (t.bad d k)/\(d<t.d->t.has k=true->L.has ((t.bad d k).mask k) fd=false):=by
 unfold Tl.bad;split
 ·cases hop:t.has k with
  | false=>
   rw[Tl.set_no _ hop];exact⟨TlMore.refl h1 h2,λ_ h=>by cases h⟩
  | true=>
   have hb0:=h2 k hop;have hw:=L.set_with hb0.1 (d:=(d:Int)) (by omega);have hwh:=L.with_has hb0.1 (d:=(d:Int)) (by omega);have hat:∀b,t.has b=true->(t.set k {t.at_ k with bad:=L.with_ (t.at_ k).bad d}).at_ b=if b=k then {t.at_ k with bad:=L.with_ (t.at_ k).bad d}else t.at_ b:=λb hb=>Tl.at_set hl _ hop hb
   have hbad:∀b,t.has b=true->L.set ((t.set k {t.at_ k with bad:=L.with_ (t.at_ k).bad d}).at_ b).bad=true/\(∀e:Int,L.has ((t.set k {t.at_ k with bad:=L.with_ (t.at_ k).bad d}).at_ b).bad e=true->e=fd)/\(∀e:Int,L.has (t.at_ b).bad e=true->L.has ((t.set k {t.at_ k with bad:=L.with_ (t.at_ k).bad d}).at_ b).bad e=true):=λb hb=>by
    rw[hat b hb];split
    ·rename_i e;subst e;dsimp only;refine⟨hw,λe he=>?_,λe he=>?_⟩
     ·rw[hwh]at he;rcases j9 _ _▸he with he | he
      ·exact hb0.2 e he
      ·simp only[d7]at he;omega
     ·rw[hwh,he];rfl
    ·exact⟨(h2 b hb).1,(h2 b hb).2,λe he=>he⟩
   have hmk:∀b,t.has b=true->∀e:Int,L.has ((t.set k {t.at_ k with bad:=L.with_ (t.at_ k).bad d}).mask b) e=((decide (0<=e)&&decide (e<t.d))&& !L.has t.dead e&& !L.has ((t.set k {t.at_ k with bad:=L.with_ (t.at_ k).bad d}).at_ b).bad e):=λb hb e=>by
    have:=(U6 (t:=t.set k {t.at_ k with bad:=L.with_ (t.at_ k).bad d}) (b:=b) (by rw[Tl.set_d];exact h8) (by rw[Tl.has_set];exact hb) (by rw[Tl.set_dead];exact h1.1) (hbad b hb).1).2 e
    rwa [Tl.set_d,Tl.set_dead]at this
   refine⟨⟨λb=>Tl.has_set _ _ _ _,Tl.set_d _ _ _,λb hb=>?_,λb hb=>?_,by rw[Tl.set_dead];exact h1,λb hb=>⟨(hbad b hb).1,(hbad b hb).2.1⟩,λb hb e he=>?_,λe he=>by rw[Tl.set_dead];exact he⟩,λ_ _=>?_⟩
   ·rw[hat b hb];split
    ·rename_i e;rw[e]
    ·rfl
   ·rw[hat b hb];split
    ·rename_i e;rw[e]
    ·rfl
   ·rw[hmk b hb]at he;rw[(U6 h8 hb h1.1 (h2 b hb).1).2];simp only[i3,i6]at he ⊢;refine⟨he.1,?_⟩;cases hx:L.has (t.at_ b).bad e with
    | false=>rfl
    | true=>rw[(hbad b hb).2.2 e hx]at he;exact absurd he.2 (by decide)
   ·rw[hmk k hop,hat k hop,g7 rfl,hwh,j3 hfd.symm];simp
 ·rename_i hh;refine⟨TlMore.refl h1 h2,λhlt=>?_⟩;simp only[Tl.hasDie,i3,d7]at hh;omega
theorem a8T {α:Type} {p q:α->Bool}:∀{K:List α},(∀x∈K,p x=true->q x=true)->∀{x:α},x∈K->p x=false->q x=true->K.countP p+1<=K.countP q
 | [],_,x,hx,_,_=>by cases hx
 | y::K,h,x,hx,hp,hq=>by
  rw[K4,K4];rcases List.mem_cons.1 hx with rfl | hx
  ·rw[hp,hq];have:=List.countP_mono_left (p:=p) (q:=q) (l:=K) λz hz=>h z (by simp[hz]);simp only[H8,Y9,a0j];omega
  ·have ih:=a8T (K:=K) (λz hz=>h z (by simp[hz])) hx hp hq;have hy:=h y (by simp);cases h1:p y with
   | false=>simp only[H8,Y9];omega
   | true=>rw[hy h1];simp only[a0j];omega
theorem c0A {t:Tl} (hl:t.l.length=t.b) (k:Int) (s:Sb) (hs:t.has k=true->s.bad=(t.at_ k).bad) (j:Int):(t.set k s).mask j=t.mask j:=by
 cases hk:t.has k with
 | false=>rw[Tl.set_no _ hk]
 | true=>
  unfold Tl.mask Tl.alive;rw[Tl.has_set,Tl.set_d,Tl.set_dead];split
  ·rename_i hj;congr 1;rw[Tl.at_set hl _ hk hj];split
   ·rename_i e;rw[hs hk,e]
   ·rfl
  ·rfl
theorem a8I (b r:Int):∀(q:List (Int×Sh)) (N:Nand) (f:Int),RdyR N b r q->N.plan.Nodup->∀x∈q,N.dead.getD x.1.toNat false=false->(x.1,b,r)∉(R.go b r q N f).1.plan
 | [],_,_,_,_,x,hx,_=>by cases hx
 | (d,s)::q,N,f,h,hp,x,hx,hxd=>by
  have hxi:=h.inn (d,s) (by simp);have hc:=h.cells (d,s) (by simp);dsimp only at hxi hc;have hr:=h.lit.refuses hxi h.blk h.row;have hnd:=List.nodup_cons.1 h.nodup;have hne:∀x∈q,x.1≠d:=λx hxq e=>hnd.1 (List.mem_map.2 ⟨x,hxq,e⟩);have hne2:∀x∈q,x.1.toNat≠d.toNat:=λx hxq e=>by
   have:=h.inn x (by simp[hxq]);exact hne x hxq (by omega)
  by_cases hdd:N.dead.getD d.toNat false=true
  ·rw[hdd,g7 rfl]at hr;have e1:N.progE d b r=8:=by unfold Nand.progE;rw[g7 (by rw[hr];decide),hr]
   have e2:N.progN d b r (Y8 s)=N:=by unfold Nand.progN;rw[g7 (by rw[hr];decide)]
   have eg:R.go b r ((d,s)::q) N f=R.go b r q N (L.with_ f d):=by rw[R.go,f9 (by rw[e1];decide),f9 (by rw[e1];decide),e2]
   rw[eg];rcases List.mem_cons.1 hx with rfl | hx
   ·dsimp only at hxd;rw[hdd]at hxd;cases hxd
   ·exact a8I b r q N (L.with_ f d) ⟨h.lit,hnd.2,λx hxq=>h.inn x (by simp[hxq]),h.blk,h.row,λx hxq=>h.cells x (by simp[hxq])⟩ hp x hx hxd
  ·have hdd:N.dead.getD d.toNat false=false:=by simpa using hdd
   have hc:=hc hdd;rw[hdd,f9 (by decide)]at hr;have e1:=a5t hr hc.symm h.lit.cutB;have e2:=a5s (pg:=Y8 s) hr hc.symm h.lit.cutB;obtain⟨N1,hN1⟩:∃N1,N.progN d b r (Y8 s)=N1:=⟨_,rfl⟩;rw[hN1]at e2;have hb:∀i j,N1.blk i j=if i=d.toNat/\j=b.toNat then {N.blk d.toNat b.toNat with cells:=(N.blk d.toNat b.toNat).cells++[⟨Y8 s,N.fails d b r,false⟩]}else N.blk i j:=λi j=>by rw[e2];rfl
   have hlike:N.Like N1:=by rw[e2];exact⟨rfl,rfl,rfl⟩
   have hlit:N1.Lit:=by rw[<- hN1];exact h.lit.prog _ _ _ _
   have hdead:N1.dead=N.dead:=by rw[e2];rfl
   have hplan:N1.plan=N.plan.erase (d,b,r):=by rw[e2];rfl
   have hq:∀x∈q,N1.blk x.1.toNat b.toNat=N.blk x.1.toNat b.toNat:=λx hxq=>by rw[hb,f9 (by have:=hne2 x hxq;omega)]
   obtain⟨f1,hf1⟩:∃f1,(if N.fails d b r then L.with_ f d else f)=f1:=⟨_,rfl⟩;have eg:R.go b r ((d,s)::q) N f=R.go b r q N1 f1:=by
    rw[R.go,e1,hN1,<- hf1];cases N.fails d b r with
    | true=>rw[g7 rfl,f9 (by decide),f9 (by decide),g7 rfl]
    | false=>rw[f9 l9,g7 rfl,f9 l9]
   have hR1:RdyR N1 b r q:=⟨hlit,hnd.2,λx hxq=>by rw[hlike.dies];exact h.inn x (by simp[hxq]),by rw[hlike.blocks];exact h.blk,by rw[hlike.pages];exact h.row,λx hxq hd=>by rw[hq x hxq];exact h.cells x (by simp[hxq]) (by rw[<- hdead];exact hd)⟩;rw[eg];rcases List.mem_cons.1 hx with rfl | hx
   ·intro hm;have:=(c0J b r q N1 f1 hR1).2.2.plan _ hm;rw[hplan]at this;exact(hp.mem_erase_iff.1 this).1 rfl
   ·exact a8I b r q N1 f1 hR1 (by rw[hplan];exact hp.erase _) x hx (by rw[hdead];exact hxd)
theorem b1P {N:Nand} {b r m:Int} {l:List En} (h:RdyW N b r m) (hR:RowIs N b r m l) (hp:N.plan.Nodup) {d:Nat} (hd:L.has m (d:Nat)=true) (ha:N.dead.getD d false=false):((d:Int),b,r)∉(R.write N b r m l).1.plan:=by
 obtain⟨x,hx,hxd⟩:=hR.on hd;have:=a8I b r _ N 0 (h.rdy hR) hp x hx (by rw[hxd,j4];exact ha);rw[hxd]at this;unfold R.write;rw[hR.par,g7 rfl];exact this
def a8f (N:Nand) (fd b:Int):Bool:=N.plan.any λa=>a.1==fd&&a.2.1==b
theorem planB_iff {N:Nand} {fd b:Int}:a8f N fd b=true↔∃a∈N.plan,a.1=fd/\a.2.1=b:=by
 unfold a8f;simp only[a0E,i3,A6]
theorem a2a {N N':Nand} (h:∀a∈N'.plan,a∈N.plan) {fd b:Int} (hb:a8f N' fd b=true):a8f N fd b=true:=by
 obtain⟨a,h1,h2⟩:=planB_iff.1 hb;exact planB_iff.2 ⟨a,h a h1,h2⟩
def b8F (fd:Int) (S:Dv) (b:Nat):Bool:=a8f S.N fd (b:Int)&&L.has (S.t.mask (b:Int)) fd
def b3O (fd:Int) (S:Dv):Nat:=(List.range S.t.b).countP (b8F fd S)
structure Brn (fd:Int) (S:Dv) (β:Nat):Prop where
 pos:0<=fd
 dead:∀i:Nat,S.N.dead.getD i false=false
 met:∀i j:Nat,(S.N.blk i j).met=false
 fl:∀i j:Nat,(S.N.blk i j).fails=false
 rng:∀a∈S.N.plan,0<=a.2.2/\a.2.2<S.N.pages
 cnt:b3O fd S<=β
 at_:∀b:Int,S.t.has b=true->L.has (S.t.mask b) fd=true->a8f S.N fd b=true->b=S.op\/(S.t.at_ b).used=false
 opn:S.op>=0->L.has S.mask fd=L.has (S.t.mask S.op) fd/\(L.has S.mask fd=true->∀a∈S.N.plan,a.1=fd->a.2.1=S.op->S.row<=a.2.2)
theorem a6s {fd:Int} {S V:Dv} (hb:V.t.b=S.t.b) (hp:∀a∈V.N.plan,a∈S.N.plan) (hm:∀b:Int,S.t.has b=true->L.has (V.t.mask b) fd=true->L.has (S.t.mask b) fd=true):b3O fd V<=b3O fd S:=by
 unfold b3O;rw[hb];refine List.countP_mono_left λb hbm h=>?_;unfold b8F at h ⊢;rw[i3]at h ⊢;exact⟨a2a hp h.1,hm _ (Tl.has_iff.2 (by have:=List.mem_range.1 hbm;omega)) h.2⟩
theorem b2x {f:Int} {d:Nat}:∀(q:List Nat) (S:Dv),q.Nodup->(∀e∈q,e≠d->L.has f (e:Nat)=false)->q.foldl (Dv.lose f) S=if d∈q then Dv.lose f S d else S
 | [],S,_,_=>rfl
 | e::q,S,hnd,h=>by
  have hn:=List.nodup_cons.1 hnd;rw[A8,b2x q _ hn.2 λx hx=>h x (by simp[hx])]
  by_cases he:e=d
  ·subst he;rw[f9 hn.1,g7 (by simp)]
  ·have h1:Dv.lose f S e=S:=by unfold Dv.lose;rw[h e (by simp) he,f9 l9]
   rw[h1]
   by_cases hq:d∈q
   ·rw[g7 hq,g7 (by simp[hq])]
   ·rw[f9 hq,f9 (by simp[hq];exactλe2=>he e2.symm)]
theorem b0e {fd:Int} {S:Dv} {k m:Nat} {l:List En} (hi:Inv fd S) (hO:S.Ok (8+k) m) (hl:S.left=true) (hf:∀e∈l,FitR e) (hn:¬S.next>1099511627775-(S.fit l:Int)+1) (hb:(S.wr l).2.1≠0):∃d:Nat,fd=(d:Int)/\d<S.N.dies/\(S.wrote l).loses (S.wr l).2.1=Dv.lose (S.wr l).2.1 (S.wrote l) d/\L.has (S.wr l).2.1 (d:Nat)=true:=by
 have ht:=hi.turn hO hl hf hn;obtain⟨_,b2,b3,b4,b5,b6,b7⟩:=hi.burn hO hl hf hn hb;obtain⟨d,hd,_⟩:=L.has_rng b3;have hdD:d<S.N.dies:=by have:=(hi.opn hl).mask.lt _ b3;omega
 refine⟨d,hd,hdD,?_,by rw[ht.fail d (by rw[<- hd];exact b3),<- hd];exact b6⟩;unfold Dv.loses;rw[b2x (d:=d) _ _ a9m λe _ he=>?_,g7 (List.mem_range.2 (by rw[ht.like.dies];exact hdD))];cases hh:L.has (S.wr l).2.1 (e:Nat)with
 | false=>rfl
 | true=>have:=(ht.only _ hh).1;omega
theorem b5L {fd:Int} {S:Dv} {k m:Nat} {l:List En} (hi:Inv fd S) (hO:S.Ok (8+k) m) (hl:S.left=true) (hf:∀e∈l,FitR e) (hn:¬S.next>1099511627775-(S.fit l:Int)+1) (hb:(S.wr l).2.1≠0) (hdd:S.N.dead.getD fd.toNat false=true):L.has ((S.wrote l).loses (S.wr l).2.1).t.dead fd=true:=by
 have hg:=hO.gd.ok.bd16;have ht:=hi.turn hO hl hf hn;obtain⟨d,rfl,hd,e,hh⟩:=b0e hi hO hl hf hn hb;rw[j4]at hdd;rw[e];unfold Dv.lose;rw[g7 hh];have h1:(S.wrote l).N.deadAt (d:Nat)=true:=by
  unfold Nand.deadAt;rw[j4,ht.dead,hdd,ht.like.dies,j3 (by omega),j3 (by omega)];rfl
 have h2:(S.wrote l).t.hasDie (d:Nat)=true:=by
  have:=hO.t.d;show S.t.hasDie (d:Nat)=true;simp only[Tl.hasDie,i3,d7];omega
 dsimp only;rw[g7 h1];unfold Tl.die;rw[g7 h2];show L.has (L.with_ S.t.dead (d:Nat)) (d:Nat)=true;rw[L.with_has hi.tdead.1 (by omega),j3 rfl,Bool.or_true]
namespace Brn
variable {fd : Int} {S : Dv} {β k m : Nat} {l : List En}
theorem tab (h:Brn fd S β) (T:Tb):Brn fd {S with T:=T} β:=⟨h.pos,h.dead,h.met,h.fl,h.rng,h.cnt,h.at_,h.opn⟩
theorem opened (h:Brn fd S β) (hi:Inv fd S) (hO:S.Ok k m) (hl:S.left=false) (hp:¬S.pick<0):Brn fd S.opened β:=by
 have hg:=hO.gd.ok.bd16;have hlen:=hO.t.len;rcases S.pick_spec with e | ⟨p1,p2,p3,p4⟩
 ·omega
 have hhas:S.t.has S.pick=true:=Tl.has_iff.2 ⟨p1,p2⟩;have hmk:∀j,S.opened.t.mask j=S.t.mask j:=λj=>Dv.mask_clean hlen _ _ _;have hat:∀b,S.t.has b=true->(S.opened.t.at_ b)=if b=S.pick then {S.t.at_ S.pick with used:=true}else S.t.at_ b:=λb hb=>Tl.at_set hlen _ hhas hb
 have hhs:∀b,S.opened.t.has b=S.t.has b:=λb=>Tl.has_set _ _ _ _;have hrow0:S.op>=0->S.N.pages<=S.row:=λh0=>by
  rcases hi.op with e | e
  ·omega
  ·have hps:=(e.mask.pos hg.1).1;cases hh:decide (S.row<S.N.pages)with
   | false=>have:=of_decide_eq_false hh;omega
   | true=>
    have:S.left=true:=by
     unfold Dv.left;rw[j3 h0,hh,j3 (by omega)];rfl
    rw[hl]at this;cases this
 refine⟨h.pos,h.dead,h.met,h.fl,h.rng,D4 (a6s (S:=S) (V:=S.opened) (by show(S.t.clean S.pick false).b=S.t.b;exact Tl.set_b _ _ _) (λa ha=>ha) λb _ hb=>by rw[<- hmk];exact hb) h.cnt,λb hb hm hpb=>?_,λ_=>⟨?_,λ_ a ha _ _=>(h.rng a ha).1⟩⟩
 ·rw[hhs]at hb;rw[hmk]at hm;rcases h.at_ b hb hm hpb with e | e
  ·have h0:=(Tl.has_iff.1 hb).1;have hop:=h.opn (by omega);obtain⟨a,a1,a2,a3⟩:=planB_iff.1 hpb;have h1:=hop.2 (by rw[hop.1,<- e];exact hm) a a1 a2 (a3.trans e);have h2:=(h.rng a a1).2;have h3:=hrow0 (by omega);omega
  ·by_cases e2:b=S.pick
   ·exact .inl e2
   ·rw[hat b hb,f9 e2];exact .inr e
 ·show L.has ((S.t.clean S.pick false).mask S.pick) fd=L.has (S.opened.t.mask S.pick) fd;rfl
theorem wrote (h:Brn fd S β) (hi:Inv fd S) (hO:S.Ok k m) (hl:S.left=true) (hf:∀e∈l,FitR e) (hn:¬S.next>1099511627775-(S.fit l:Int)+1):Brn fd (S.wrote l) β:=by
 have ht:=hi.turn hO hl hf hn;have ho:=hi.opn hl;have hR:=hi.rowIs hO hl hf hn;have hrdy:RdyW S.N S.op S.row S.mask:=⟨hi.lit,λd hd ha=>(ho.cells d hd).2 ha⟩;refine⟨h.pos,λi=>by rw[ht.dead];exact h.dead i,λi j=>by rw[(ht.flags i j).1];exact h.met i j,λi j=>by rw[(ht.flags i j).2.1];exact h.fl i j,λa ha=>by rw[ht.like.pages];exact h.rng a (ht.plan a ha),D4 (a6s (S:=S) (V:=S.wrote l) rfl ht.plan λb _ hb=>hb) h.cnt,λb hb hm hp=>h.at_ b hb hm (a2a ht.plan hp),λh0=>?_⟩;have hop:=h.opn h0;refine⟨hop.1,λhm a ha a1 a2=>?_⟩;have hm:L.has S.mask fd=true:=hm;have h1:=hop.2 hm a (ht.plan a ha) a1 a2;have h2:a≠(fd,S.op,S.row):=λe=>by
  obtain⟨d,hd⟩:=i5 h.pos;have:=b1P (d:=d) hrdy hR hO.gd.nodup (by rw[<- hd];exact hm) (h.dead d);rw[<- hd,<- e]at this;exact this ha
 show S.row+1<=a.2.2;have:a.2.2≠S.row:=λe=>h2 (by
  obtain⟨x,y,z⟩:=a;have a2:y=S.op:=a2;dsimp only at a1 e;rw[a1,a2,e])
 omega
theorem burnt (h:Brn fd S β) (hi:Inv fd S) (hO:S.Ok (8+k) m) (hl:S.left=true) (hf:∀e∈l,FitR e) (hn:¬S.next>1099511627775-(S.fit l:Int)+1) (hb:(S.wr l).2.1≠0):1<=β/\Brn fd ((S.wrote l).loses (S.wr l).2.1) (β-1):=by
 have hg:=hO.gd.ok.bd16;have hs:=Dv.left_spec hl;have ht:=hi.turn hO hl hf hn;have hw:=h.wrote hi hO hl hf hn;obtain⟨_,b2,b3,b4,b5,b6,b7⟩:=hi.burn hO hl hf hn hb;obtain⟨d,hd,hdD,hone,hfb⟩:=b0e hi hO hl hf hn hb;have hlose:Dv.lose (S.wr l).2.1 (S.wrote l) d={S.wrote l with t:=S.t.bad d S.op,mask:=L.without S.mask d}:=by
  unfold Dv.lose;rw[g7 hfb,f9]
  ·rfl
  ·unfold Nand.deadAt;rw[j4,hw.dead];simp
 have hlen:=hO.t.len;have hhas:S.t.has S.op=true:=Tl.has_iff.2 ⟨hs.1,by have:=(hi.opn hl).blk;have:=hO.t.b;omega⟩;obtain⟨m1,m2⟩:=b2r (fd:=fd) hlen (by have:=hO.t.d;omega) hi.tdead hi.tbad (d:=d) (by omega) hd.symm S.op;have m2:=m2 (by have:=hO.t.d;omega) hhas;have hmsk:L.has (L.without S.mask (d:Int)) fd=false:=by
  rw[L.without_has (hi.opn hl).mask.set (by omega),hd];simp
 rw[hone,hlose];have hplan:a8f S.N fd S.op=true:=by
  unfold Nand.failB Nand.fails at b6;rw[hd,j4,h.dead,h.met,C9,a2t,d7]at b6;exact planB_iff.2 ⟨_,b6,hd.symm,rfl⟩
 have hbt:(S.t.bad d S.op).b=S.t.b:=by unfold Tl.bad;split;(· exact Tl.set_b _ _ _);rfl
 have hcnt:b3O fd {S.wrote l with t:=S.t.bad d S.op,mask:=L.without S.mask d}+1<=b3O fd S:=by
  unfold b3O;show List.countP _ (List.range (S.t.bad d S.op).b)+1<=_;rw[hbt];refine a8T (x:=S.op.toNat) (λb hbm hh=>?_) (List.mem_range.2 (by have:=(Tl.has_iff.1 hhas).2;omega)) ?_ ?_
  ·unfold b8F at hh ⊢;rw[i3]at hh ⊢;exact⟨a2a ht.plan hh.1,m1.mask _ (Tl.has_iff.2 (by have:=List.mem_range.1 hbm;omega)) _ hh.2⟩
  ·unfold b8F;rw[show((S.op.toNat:Nat):Int)=S.op from by omega];show(_&&L.has ((S.t.bad d S.op).mask S.op) fd)=false;rw[m2];simp
  ·unfold b8F;rw[show((S.op.toNat:Nat):Int)=S.op from by omega,hplan,<- (h.opn hs.1).1,b3];rfl
 have hcnt0:=h.cnt;refine⟨by omega,⟨h.pos,hw.dead,hw.met,hw.fl,hw.rng,by omega,λb hb2 hm hp=>?_,λh0=>⟨?_,λhm=>?_⟩⟩⟩
 ·have hb2:(S.t.bad d S.op).has b=true:=hb2;rw[m1.has]at hb2;have hm:L.has ((S.t.bad d S.op).mask b) fd=true:=hm;rcases h.at_ b hb2 (m1.mask b hb2 _ hm) (a2a ht.plan hp)with e | e
  ·exact .inl e
  ·right;show((S.t.bad d S.op).at_ b).used=false;rw[m1.used b hb2];exact e
 ·show L.has (L.without S.mask (d:Int)) fd=L.has ((S.t.bad d S.op).mask S.op) fd;rw[hmsk,m2]
 ·have hm:L.has (L.without S.mask (d:Int)) fd=true:=hm;rw[hmsk]at hm;cases hm
end Brn
theorem Went.refl {fd:Int} {S:Dv} (h:Inv fd S):Went fd S S 0:=
 ⟨h,rfl,by omega,rfl,rfl,Nand.Like.refl _,λ_ h=>h,λ_ _=>⟨rfl,rfl,rfl⟩,rfl,λ_ _ _=>rfl,λ_ _ h=>h,λ_ _=>⟨rfl,rfl,λh=>h⟩,λ_ h=>h⟩
theorem Went.trans {fd:Int} {S Q P:Dv} {β γ:Nat} (h:Went fd S Q β) (hh:∀b,Q.t.has b=S.t.has b) (g:Went fd Q P γ):Went fd S P (β+γ):=by
 have h1:=h.next;have h2:=g.next;have h3:=h.rows;have h4:=g.rows;refine⟨g.inv,g.T.trans h.T,by omega,g.dead.trans h.dead,g.broken.trans h.broken,h.like.trans g.like,λa ha=>h.plan a (g.plan a ha),λi j=>?_,by omega,λi a ha=>(g.reads i a (h.stay i a ha)).trans (h.reads i a ha),λi a ha=>g.stay i a (h.stay i a ha),λb hb=>?_,λd hd=>g.td d (h.td d hd)⟩
 ·have a1:=h.flags i j;have a2:=g.flags i j;exact⟨a2.1.trans a1.1,a2.2.1.trans a1.2.1,a2.2.2.trans a1.2.2⟩
 ·have a1:=h.sb b hb;have a2:=g.sb b (by rw[hh];exact hb);exact⟨a2.1.trans a1.1,a2.2.1.trans a1.2.1,λhu=>a2.2.2 (a1.2.2 hu)⟩
inductive Hot (fd:Int) (S:Dv):Nat->Prop
 | calm:NoF S->Hot fd S 0
 | cold:L.has S.t.dead fd=true->L.has S.mask fd=false->Hot fd S 0
 | there:S.left=true->L.has S.mask fd=false->Hot fd S 0
 | once:L.has S.t.dead fd=true->Hot fd S 1
 | burnt:L.has S.mask fd=false->Hot fd S 1
 | any:Hot fd S 2
 | brn {β:Nat}:Brn fd S β->Hot fd S β
 | dead:S.N.dead.getD fd.toNat false=true->Hot fd S 1
structure Last (fd:Int) (Q:Dv) (l:List En):Prop where
 left:Q.left=true
 err:(Q.wr l).2.1=0
 bd:¬Q.next>1099511627775-(Q.fit l:Int)+1
 turn:Inv.Turn fd Q l
def O7 (Q:Dv) (l:List En):Dv:={Q.wrote l with T:=Dv.puts Q.T Q.op Q.row Q.mask (Q.es l) (Q.fit l)}
namespace Inv
variable {fd : Int} {S : Dv} {k m : Nat} {l : List En}
theorem has_same {Q:Dv} (hO:S.t.Fit S.N) (hQ:Q.t.Fit Q.N) (hl:S.N.Like Q.N) (b:Int):Q.t.has b=S.t.has b:=by
 unfold Tl.has;rw[show Q.t.b=S.t.b from by rw[hQ.b,hO.b,hl.blocks]]
theorem rows_pos (h:Inv fd S) (hO:S.Ok k m) (hr:0<S.rows):S.left=true\/¬S.pick<0:=by
 have hg:=hO.gd.ok.bd16
 by_cases hb:S.t.blanks=0
 ·left;unfold Dv.rows at hr;rw[hb,Nat.mul_zero,I4]at hr;split at hr
  ·rename_i h0;rcases h.op with e | e
   ·omega
   ·have:=(e.mask.pos hg.1).1;unfold Dv.left;rw[j3 h0,j3 (by omega),j3 (by omega)];rfl
  ·omega
 ·right;obtain⟨s,hs,hu⟩:=List.countP_pos_iff.1 (show 0<S.t.l.countP λs=>!s.used by unfold Tl.blanks at hb;omega);obtain⟨j,hj,rfl⟩:=List.mem_iff_getElem.1 hs;have hlen:=hO.t.len;have hhas:S.t.has (j:Nat)=true:=Tl.has_iff.2 (by omega);have hat:S.t.at_ (j:Nat)=S.t.l[j]:=by unfold Tl.at_;rw[j4,f8,c9 hj,j5]
  have hunu:(S.t.at_ (j:Nat)).used=false:=by rw[hat];simpa using hu
  have hcnt:S.T.count (j:Nat)=0:=by
   rw[hO.T.cnt];unfold Tb.cntB;congr 1;rw[a5f];intro x hx hxb;simp only[A6]at hxb;have hlk:Tb.look S.T.at_ x.1=some x.2:=by
    cases hh:Tb.look S.T.at_ x.1 with
    | none=>rw[Tb.look_none]at hh;exact absurd (List.mem_map.2 ⟨x,hx,rfl⟩) hh
    | some a=>
     have hm:=Tb.look_mem hh;have hn:=hO.T.keys;obtain⟨i1,g1,e1⟩:=List.mem_iff_getElem.1 hm;obtain⟨i2,g2,e2⟩:=List.mem_iff_getElem.1 hx;have:i1=i2:=(U0 (by rw[j8];exact g1) hn).1 (by rw[i9,i9,c9 g1,c9 g2,e1,e2];rfl);subst this;rw[e1]at e2;rw[<- e2]
   have:=(h.st _ _ hlk).used;rw[hxb,hunu]at this;cases this
  have hop:(j:Int)≠S.op:=λe=>by
   rcases h.op with e2 | e2
   ·omega
   ·have:=e2.used;rw[<- e,hunu]at this;cases this
  have hmem:((j:Nat):Int)∈A7 (T8 S.t S.T) S.op S.t.b:=mem_pkSome.2 ⟨by omega,by omega,hop,by
   unfold T8;rw[h.usable hO hhas,hcnt];simp only[Tl.blank,hhas,hunu];rfl⟩
  intro hp;rcases a9U (λx y=>R3 (S.t.wear x) (S.t.wear y)) (T8 S.t S.T) S.op S.t.b with e | e
  ·rw[e.2]at hmem;cases hmem
  ·have:=e.2;unfold Dv.pick at hp;omega
theorem write_go:∀(β f:Nat) (S:Dv) (k:Nat),Inv fd S->S.Ok (8*(f+β+1)+k) m->Hot fd S β->β<S.rows->(∀e∈l,FitR e)->l.length≠0->S.next+7*(β:Int)<=1099511627775-7->
  ∃γ Q,γ<=β/\Went fd S Q γ/\Q.Ok (8+k) m/\Last fd Q l/\Dv.write (f+β+1) S l=(O7 Q l,(Q.fit l:Int),(0:Int))/\(NoF S->Q=S.at1/\γ=0)/\(0<γ->L.has S.t.dead fd=true->L.has Q.mask fd=false)/\(∀d:Int,L.has S.t.dead d=true->L.has S.mask d=false->L.has Q.mask d=false)/\(γ=0->Q=S.at1)/\(∀β2,Brn fd S β2->γ<=β2/\Brn fd Q (β2-γ))/\(0<γ->S.N.dead.getD fd.toNat false=true->L.has Q.t.dead fd=true/\L.has Q.mask fd=false)
 | β,f,S,k,h,hO,hH,hr,hf,hl0,hnx=>by
  have hg:=hO.gd.ok.bd16;have h8:S.t.d<=8:=by have:=hO.t.d;omega
  have hd:∀s∈l,s.data.length=16:=λe he=>(hf e he).len;have hns:¬(S.left=false/\S.pick<0):=λe=>by
   rcases h.rows_pos hO (by omega)with e2 | e2
   ·rw[e.1]at e2;cases e2
   ·exact e2 e.2
  --the one that is written
  obtain⟨Q,hQ⟩:∃Q,S.at1=Q:=⟨_,rfl⟩;have hW:Went fd S Q 0/\Q.left=true/\((Q=S)\/(Q=S.opened/\Q.mask=S.t.mask S.pick/\S.t.has S.pick=true))/\∀β2,Brn fd S β2->Brn fd Q β2:=by
   cases hl:S.left with
   | true=>
    have:S.at1=S:=by unfold Dv.at1;rw[hl,g7 rfl]
    rw[<- hQ,this];exact⟨Went.refl h,hl, .inl rfl,λ_ hb=>hb⟩
   | false=>
    have hp:¬S.pick<0:=λe=>hns ⟨hl,e⟩;have e1:S.at1=S.opened:=by unfold Dv.at1;rw[hl,f9 l9]
    have:=h.opens hO hl hp;rw[<- hQ,e1];rcases S.pick_spec with e | ⟨p1,p2,_,_⟩
    ·omega
    ·exact⟨this.1,this.2.1, .inr ⟨rfl,this.2.2,Tl.has_iff.2 ⟨p1,p2⟩⟩,λ_ hb=>hb.opened h hO hl hp⟩
  obtain⟨w1,w2,w3,w4⟩:=hW;have hQO:Q.Ok (8*(f+β+1)+k) m:=by rw[<- hQ];exact hO.at1
  have hfit:=Dv.fit_le Q l;have hn:¬Q.next>1099511627775-(Q.fit l:Int)+1:=by have:=w1.next;omega
  have ht:=w1.inv.turn hQO w2 hf hn;have hmaskd:∀d:Int,L.has S.t.dead d=true->L.has S.mask d=false->L.has Q.mask d=false:=λd h1 h2=>by
   rcases w3 with e | ⟨e,e2,e3⟩
   ·rw[e];exact h2
   ·rw[e2];have:=(U6 h8 e3 h.tdead.1 (h.tbad _ e3).1).2 d;rw[this,h1];simp
  have hmaskd2:Q≠S->∀d:Int,L.has S.t.dead d=true->L.has Q.mask d=false:=λhne d h1=>by
   rcases w3 with e | ⟨e,e2,e3⟩
   ·exact absurd e hne
   ·rw[e2];have:=(U6 h8 e3 h.tdead.1 (h.tbad _ e3).1).2 d;rw[this,h1];simp
  by_cases he:(Q.wr l).2.1=0
  ·refine⟨0,Q,by omega,w1,hQO.less (by omega),⟨w2,he,hn,ht⟩,?_,λ_=>⟨hQ.symm,rfl⟩,λh0=>by omega,hmaskd,λ_=>hQ.symm,λb2 hb2=>⟨j7 _,w4 b2 hb2⟩,λh0=>by omega⟩;have herr:=ht.err;rw[g7 he]at herr;rw[Dv.write_succ,f9 hl0,f9 hns,hQ,f9 hn,f9 (by rw[herr];decide),g7 herr];rfl
  ·have herr:=ht.err;rw[f9 he]at herr;have hQO8:Q.Ok (8+(8*(f+β)+k)) m:=hQO.less (by omega);obtain⟨b1,b2,b3,b4,b5,b6,b7⟩:=w1.inv.burn hQO8 w2 hf hn he;have hWO:=(hQO8.wrote hd (Dv.left_spec w2).2.1 hn).loses (Q.wr l).2.1;have hwr:Dv.write (f+β+1) S l=Dv.write (f+β) ((Q.wrote l).loses (Q.wr l).2.1) l:=by
    rw[Dv.write_succ,f9 hl0,f9 hns,hQ,f9 hn,f9 (by rw[herr];decide),f9 (by rw[herr];decide),f9 (by rw[herr];decide)]
   have hnof:¬NoF S:=λhno=>by
    have:NoF Q:=⟨λi=>by rw[w1.dead];exact hno.dead i,List.eq_nil_iff_forall_not_mem.2 λa ha=>(by have:=w1.plan a ha;rw[hno.plan]at this;cases this),λi j=>by rw[(w1.flags i j).1];exact hno.met i j⟩;have hfl:=this.fails Q.op Q.row fd.toNat
    obtain⟨x,hx,_⟩:=L.has_rng b3;rw[hx,j4]at hfl;rw[hx,hfl]at b6;cases b6
   have hBS:∀β2,Brn fd S β2->1<=β2/\Brn fd ((Q.wrote l).loses (Q.wr l).2.1) (β2-1):=λb2 hb2=>(w4 b2 hb2).burnt w1.inv hQO8 w2 hf hn he;have hDS:S.N.dead.getD fd.toNat false=true->L.has ((Q.wrote l).loses (Q.wr l).2.1).t.dead fd=true:=λhdd=>b5L w1.inv hQO8 w2 hf hn he (by rw[w1.dead];exact hdd);generalize hS2:(Q.wrote l).loses (Q.wr l).2.1=S2 at b1 b2 b4 b5 b7 hWO hwr hBS hDS;have hW2:Went fd S S2 1:=by
    have:=w1.trans (has_same hO.t hQO.t w1.like) b1
    rwa [I4]at this
   obtain⟨β',hβ,hH'⟩:∃β',β=β'+1/\Hot fd S2 β':=by
    cases hH with
    | calm hno=>exact absurd hno hnof
    | cold h1 h2=>rw[hmaskd fd h1 h2]at b3;cases b3
    | there h1 h2=>
     rcases w3 with e | ⟨e,_⟩
     ·rw[e,h2]at b3;cases b3
     ·have:S.at1=S:=by unfold Dv.at1;rw[h1,g7 rfl]
      rw[<- hQ,this,h2]at b3;cases b3
    | once h1=>exact⟨0,rfl, .cold (hW2.td fd h1) b2⟩
    | burnt h1=>
     refine⟨0,rfl, .there ?_ b2⟩;rcases w3 with e | ⟨e,_⟩
     ·rw[e,h1]at b3;cases b3
     ·have hi:=b1.inv;have hQop:=(w1.inv.opn w2).blk;have e0:Q.row=0:=by rw[e];rfl
      have hpg:S2.N.pages=Q.N.pages:=b1.like.pages;have hpg2:Q.N.pages=S.N.pages:=w1.like.pages;have hop2:Opn fd S2:=by
       rcases hi.op with e2 | e2
       ·omega
       ·exact e2
      have:=(hop2.mask.pos (hWO.gd.ok.bd16.1)).1;unfold Dv.left;rw[j3 (by omega),j3 (by omega),j3 (by omega)];rfl
    | any=>exact⟨1,rfl, .burnt b2⟩
    | brn hb=>
     obtain⟨x1,x2⟩:=hBS _ hb;exact⟨β-1,by omega, .brn x2⟩
    | dead hdd=>exact⟨0,rfl, .cold (hDS hdd) b2⟩
   subst hβ;have hrows:=hW2.rows;have hnx2:=hW2.next;obtain⟨γ,P,c1,c2,c3,c4,c5,c6,c7,c8,_,c10,_⟩:=write_go β' f S2 k hW2.inv (by rw[show f+β'+1=f+(β'+1)from by omega];exact hWO) hH' (by omega) hf hl0 (by omega);refine⟨1+γ,P,by omega,hW2.trans (has_same hO.t hWO.t hW2.like) c2,c3,c4,?_,λhno=>absurd hno hnof,λ_ hdd=>c8 fd (hW2.td fd hdd) b2,λd h1 h2=>c8 d (hW2.td d h1) ?_,λe=>absurd e (by omega),λb3 hb3=>?_,λ_ hdd=>⟨c2.td fd (hDS hdd),c8 fd (hDS hdd) b2⟩⟩
   ·rw[hwr,show f+(β'+1)=f+β'+1 from by omega,c5]
   ·cases hh:L.has S2.mask d with
    | false=>rfl
    | true=>have:=b7 d hh;rw[hmaskd d h1 h2]at this;cases this
   ·obtain⟨x1,x2⟩:=hBS b3 hb3;obtain⟨y1,y2⟩:=c10 _ x2;exact⟨by omega,by rw[show b3-(1+γ)=b3-1-γ from by omega];exact y2⟩
end Inv
end Go.Proofs.YtpakpgkdpofbhaaGreat
