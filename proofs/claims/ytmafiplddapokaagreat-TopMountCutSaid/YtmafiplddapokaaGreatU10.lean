/- Helpers. No condition. -/
import Derived.Test.YtmafiplddapokaaGreatU09
import Derived.Shelf.Sort.Plain
set_option maxRecDepth 20000
set_option linter.all false
namespace Go.Proofs.YtmafiplddapokaaGreat
section
open Go
namespace Nand
def failB (N:Nand) (b r d:Int):Bool:=N.dead.getD d.toNat false||N.fails d b r
variable {N : Nand}
theorem Lit.refuses (h:N.Lit) {x y z:Int} (hx:0<=x/\x<N.dies) (hy:0<=y/\y<N.blocks) (hz:0<=z/\z<N.pages):N.refuses x y z=if N.dead.getD x.toNat false then 8 else 0:=by
 unfold Nand.refuses;rw[h.off,d6 (by decide),geoIn_of hx hy hz,d6 (by decide)]
end Nand
structure RdyR (N:Nand) (b r:Int) (q:List (Int×Sh)):Prop where
 lit:N.Lit
 nodup:(q.map (·.1)).Nodup
 inn:∀x∈q,0<=x.1/\x.1<N.dies
 blk:0<=b/\b<N.blocks
 row:0<=r/\r<N.pages
 cells:∀x∈q,N.dead.getD x.1.toNat false=false->((N.blk x.1.toNat b.toNat).cells.length:Int)=r
structure WroteR (N N':Nand) (b r:Int) (q:List (Int×Sh)):Prop where
 lit:N'.Lit
 like:N.Like N'
 dead:N'.dead=N.dead
 broken:N'.broken=N.broken
 cells:∀x∈q,(N'.blk x.1.toNat b.toNat).cells=if N.dead.getD x.1.toNat false then(N.blk x.1.toNat b.toNat).cells else(N.blk x.1.toNat b.toNat).cells++[⟨O9 x.2,N.fails x.1 b r,false⟩]
 rest:∀i j,(j≠b.toNat\/∀x∈q,x.1.toNat≠i)->N'.blk i j=N.blk i j
 flags:∀i j,(N'.blk i j).met=(N.blk i j).met/\(N'.blk i j).fails=(N.blk i j).fails/\(N'.blk i j).worn=(N.blk i j).worn
 plan:∀a∈N'.plan,a∈N.plan
 ops:N'.ops=N.ops+((q.filter λx=>!N.dead.getD x.1.toNat false).length:Int)
def a0m (N:Nand) (b r:Int):List (Int×Sh)->Int->Int
 | [],f=>f
 | x::q,f=>a0m N b r q (if N.failB b r x.1 then L.with_ f x.1 else f)
theorem a8o {N N':Nand} {b r:Int}:∀(q:List (Int×Sh)) (f:Int),(∀x∈q,N'.failB b r x.1=N.failB b r x.1)->a0m N' b r q f=a0m N b r q f
 | [],f,_=>rfl
 | x::q,f,h=>by rw[a0m,a0m,h x (by simp),a8o q _ λy hy=>h y (by simp[hy])]
theorem c1h (b r:Int):∀(q:List (Int×Sh)) (N:Nand) (f:Int),RdyR N b r q->(R.go b r q N f).2.1=a0m N b r q f/\(R.go b r q N f).2.2=(if a0m N b r q f=0 then 0 else 7)/\WroteR N (R.go b r q N f).1 b r q
 | [],N,f,h=>⟨rfl,rfl,h.lit,Nand.Like.refl N,rfl,rfl,by simp,λ_ _ _=>rfl,λ_ _=>⟨rfl,rfl,rfl⟩,λ_ h=>h,by simp[R.go]⟩
 | (d,s)::q,N,f,h=>by
  have hx:=h.inn (d,s) (by simp);have hc:=h.cells (d,s) (by simp);dsimp only at hx hc;have hr:=h.lit.refuses hx h.blk h.row;have hnd:=List.nodup_cons.1 h.nodup;have hne:∀x∈q,x.1≠d:=λx hxq e=>hnd.1 (List.mem_map.2 ⟨x,hxq,e⟩);have hne2:∀x∈q,x.1.toNat≠d.toNat:=λx hxq e=>by
   have:=h.inn x (by simp[hxq]);exact hne x hxq (by omega)
  by_cases hdd:N.dead.getD d.toNat false=true
  ·rw[hdd,d8 rfl]at hr;have e1:N.progE d b r=8:=by unfold Nand.progE;rw[d8 (by rw[hr];decide),hr]
   have e2:N.progN d b r (O9 s)=N:=by unfold Nand.progN;rw[d8 (by rw[hr];decide)]
   have ef:N.failB b r d=true:=by unfold Nand.failB;rw[hdd];rfl
   have eg:R.go b r ((d,s)::q) N f=R.go b r q N (L.with_ f d):=by rw[R.go,d6 (by rw[e1];decide),d6 (by rw[e1];decide),e2]
   obtain⟨g1,g2,g3⟩:=c1h b r q N (L.with_ f d) ⟨h.lit,hnd.2,λx hxq=>h.inn x (by simp[hxq]),h.blk,h.row,λx hxq=>h.cells x (by simp[hxq])⟩;have em:a0m N b r ((d,s)::q) f=a0m N b r q (L.with_ f d):=by rw[a0m];dsimp only;rw[ef,d8 rfl]
   rw[eg,em];refine⟨g1,g2,g3.lit,g3.like,g3.dead,g3.broken,λx hxq=>?_,λi j hij=>g3.rest i j (hij.imp id λh' x hxq=>h' x (by simp[hxq])),g3.flags,g3.plan,?_⟩
   ·rcases List.mem_cons.1 hxq with rfl | hxq
    ·dsimp only;rw[g3.rest _ _ (.inr λy hy=>hne2 y hy),hdd,d8 rfl]
    ·exact g3.cells x hxq
   ·rw[g3.ops,W9,d6 (by dsimp only;rw[hdd];decide)]
  ·have hdd:N.dead.getD d.toNat false=false:=by simpa using hdd
   have hc:=hc hdd;rw[hdd,d6 (by decide)]at hr;have e1:=a5a hr hc.symm h.lit.cutB;have e2:=a4Z (pg:=O9 s) hr hc.symm h.lit.cutB;have ef:N.failB b r d=N.fails d b r:=by unfold Nand.failB;rw[hdd];rfl
   obtain⟨N1,hN1⟩:∃N1,N.progN d b r (O9 s)=N1:=⟨_,rfl⟩;rw[hN1]at e2;have hb:∀i j,N1.blk i j=if i=d.toNat/\j=b.toNat then {N.blk d.toNat b.toNat with cells:=(N.blk d.toNat b.toNat).cells++[⟨O9 s,N.fails d b r,false⟩]}else N.blk i j:=λi j=>by rw[e2];rfl
   have hlike:N.Like N1:=by rw[e2];exact⟨rfl,rfl,rfl⟩
   have hlit:N1.Lit:=by rw[<- hN1];exact h.lit.prog _ _ _ _
   have hbr:N1.broken=N.broken:=by rw[e2];rfl
   have hdead:N1.dead=N.dead:=by rw[e2];rfl
   have hops:N1.ops=N.ops+1:=by rw[e2];rfl
   have hplan:N1.plan=N.plan.erase (d,b,r):=by rw[e2];rfl
   have hq:∀x∈q,N1.blk x.1.toNat b.toNat=N.blk x.1.toNat b.toNat:=λx hxq=>by rw[hb,d6 (by have:=hne2 x hxq;omega)]
   have hfl:∀x∈q,N1.fails x.1 b r=N.fails x.1 b r:=λx hxq=>by
    unfold Nand.fails;rw[hq x hxq,hplan];congr 1;rw[a1y];exact List.mem_erase_of_ne (λe=>hne x hxq (by injection e))
   have hfb:∀x∈q,N1.failB b r x.1=N.failB b r x.1:=λx hxq=>by unfold Nand.failB;rw[hdead,hfl x hxq]
   obtain⟨f1,hf1⟩:∃f1,(if N.fails d b r then L.with_ f d else f)=f1:=⟨_,rfl⟩;have eg:R.go b r ((d,s)::q) N f=R.go b r q N1 f1:=by
    rw[R.go,e1,hN1,<- hf1];cases N.fails d b r with
    | true=>rw[d8 rfl,d6 (by decide),d6 (by decide),d8 rfl]
    | false=>rw[d6 l9,d8 rfl,d6 l9]
   have em:a0m N b r ((d,s)::q) f=a0m N b r q f1:=by rw[a0m];dsimp only;rw[ef,hf1]
   obtain⟨g1,g2,g3⟩:=c1h b r q N1 f1 ⟨hlit,hnd.2,λx hxq=>by rw[hlike.dies];exact h.inn x (by simp[hxq]),by rw[hlike.blocks];exact h.blk,by rw[hlike.pages];exact h.row,λx hxq hd=>by rw[hq x hxq];exact h.cells x (by simp[hxq]) (by rw[<- hdead];exact hd)⟩;rw[a8o q f1 hfb]at g1 g2;rw[eg,em];refine⟨g1,g2,g3.lit,hlike.trans g3.like,g3.dead.trans hdead,g3.broken.trans hbr,λx hxq=>?_,λi j hij=>?_,λi j=>?_,λa ha=>?_,?_⟩
   ·rcases List.mem_cons.1 hxq with rfl | hxq
    ·dsimp only;rw[g3.rest _ _ (.inr λy hy=>hne2 y hy),hb,d8 ⟨rfl,rfl⟩,hdd,d6 (by decide)]
    ·rw[g3.cells x hxq,hdead,hq x hxq,hfl x hxq]
   ·rw[g3.rest i j (hij.imp id λh' x hxq=>h' x (by simp[hxq])),hb,d6];rintro⟨rfl,rfl⟩;rcases hij with h' | h'
    ·exact h' rfl
    ·exact h' (d,s) (by simp) rfl
   ·have:=g3.flags i j;rw[this.1,this.2.1,this.2.2,hb];split
    ·rename_i h';rw[h'.1,h'.2];exact⟨rfl,rfl,rfl⟩
    ·exact⟨rfl,rfl,rfl⟩
   ·have:=g3.plan a ha;rw[hplan]at this;exact List.mem_of_mem_erase this
   ·rw[g3.ops,hops,hdead,W9,d8 (by dsimp only;rw[hdd];decide),l5];omega
structure RdyW (N:Nand) (b r m:Int):Prop where
 lit:N.Lit
 cells:∀d:Nat,L.has m (d:Nat)=true->N.dead.getD d false=false->((N.blk d b.toNat).cells.length:Int)=r
theorem RdyW.rdy {N:Nand} {b r m:Int} {l:List En} (h:RdyW N b r m) (hR:RowIs N b r m l):RdyR N b r (R.job b r m l):=by
 refine⟨h.lit,hR.nodup,λx hx=>⟨(hR.inn x hx).1,(hR.inn x hx).2.1⟩,hR.blk,hR.row,λx hx hd=>?_⟩;obtain⟨h1,h2,h3⟩:=hR.inn x hx;refine h.cells x.1.toNat ?_ hd
 rwa [show((x.1.toNat:Nat):Int)=x.1 from by omega]
theorem a3X {N:Nand} {b r m:Int} {l:List En} (h:RdyW N b r m) (hR:RowIs N b r m l):(R.write N b r m l).2.1=a0m N b r (R.job b r m l) 0/\(R.write N b r m l).2.2=(if a0m N b r (R.job b r m l) 0=0 then 0 else 7)/\WroteR N (R.write N b r m l).1 b r (R.job b r m l):=by
 unfold R.write;rw[d8 hR.par];exact c1h b r _ N 0 (h.rdy hR)
end
section
namespace L
theorem with_dec:∀f,f<256->∀d,d<8->set (with_ (f:Nat) (d:Nat))=true/\∀e,e<8->has (with_ (f:Nat) (d:Nat)) (e:Nat)=(has (f:Nat) (e:Nat)||decide (e=d)):=by decide+kernel
theorem without_dec:∀f,f<256->∀d,d<8->set (without (f:Nat) (d:Nat))=true/\∀e,e<8->has (without (f:Nat) (d:Nat)) (e:Nat)=(has (f:Nat) (e:Nat)&& !decide (e=d)):=by decide+kernel
theorem all_dec:∀n,n<=8->set (all (n:Nat))=true/\∀e,e<8->has (all (n:Nat)) (e:Nat)=decide (e<n):=by decide+kernel
theorem set_has {m:Int} (h:set m=true):∃k:Nat,m=k/\k<256:=by
 rw[set_iff]at h;exact⟨m.toNat,by omega,by omega⟩
theorem has_rng {m d:Int} (h:has m d=true):∃k:Nat,d=k/\k<8:=by
 have:=has_lt m d h;exact⟨d.toNat,by omega,by omega⟩
theorem has_out {m d:Int} (h:¬(0<=d/\d<8)):has m d=false:=by
 cases hh:has m d with
 | false=>rfl
 | true=>have:=has_lt m d hh;omega
theorem set_with {f d:Int} (hf:set f=true) (hd:0<=d/\d<8):set (with_ f d)=true:=by
 obtain⟨F,rfl,hF⟩:=set_has hf;obtain⟨D,rfl⟩:=f9 hd.1;exact(with_dec F hF D (by omega)).1
theorem with_has {f d:Int} (hf:set f=true) (hd:0<=d/\d<8) (e:Int):has (with_ f d) e=(has f e||decide (e=d)):=by
 obtain⟨F,rfl,hF⟩:=set_has hf;obtain⟨D,rfl⟩:=f9 hd.1
 by_cases he:0<=e/\e<8
 ·obtain⟨E,rfl⟩:=f9 he.1;rw[(with_dec F hF D (by omega)).2 E (by omega)];have e2:decide (E=D)=decide ((E:Int)=(D:Int)):=by rw[a1y];omega
  rw[e2]
 ·rw[has_out he,has_out he,n8 (by omega)];rfl
theorem set_without {f d:Int} (hf:set f=true) (hd:0<=d/\d<8):set (without f d)=true:=by
 obtain⟨F,rfl,hF⟩:=set_has hf;obtain⟨D,rfl⟩:=f9 hd.1;exact(without_dec F hF D (by omega)).1
theorem without_has {f d:Int} (hf:set f=true) (hd:0<=d/\d<8) (e:Int):has (without f d) e=(has f e&& !decide (e=d)):=by
 obtain⟨F,rfl,hF⟩:=set_has hf;obtain⟨D,rfl⟩:=f9 hd.1
 by_cases he:0<=e/\e<8
 ·obtain⟨E,rfl⟩:=f9 he.1;rw[(without_dec F hF D (by omega)).2 E (by omega)];have e2:decide (E=D)=decide ((E:Int)=(D:Int)):=by rw[a1y];omega
  rw[e2]
 ·rw[has_out he,has_out he];rfl
theorem set_all (n:Nat) (h:n<=8):set (all n)=true:=(all_dec n h).1
theorem all_has (n:Nat) (h:n<=8) (e:Int):has (all n) e=(decide (0<=e)&&decide (e<n)):=by
 by_cases he:0<=e/\e<8
 ·obtain⟨E,rfl⟩:=f9 he.1;rw[(all_dec n h).2 E (by omega),i6 he.1,q9,a1y];omega
 ·rw[has_out he]
  by_cases h0:0<=e
  ·rw[n8 (p:=e<n) (by omega)];simp
  ·rw[n8 h0];rfl
theorem ext {m k:Int} (hm:set m=true) (hk:set k=true) (h:∀d:Nat,d<8->has m (d:Nat)=has k (d:Nat)):m=k:=by
 obtain⟨M,rfl,hM⟩:=set_has hm;obtain⟨K,rfl,hK⟩:=set_has hk;refine congrArg (Nat.cast:Nat->Int) (Nat.eq_of_testBit_eq λi=>?_)
 by_cases hi:i<8
 ·have:=h i hi;simp only[has,hm,hk,q9,j4]at this;have e1:decide ((0:Int)<=(i:Int))=true:=i6 (by omega);have e2:decide ((i:Int)<8)=true:=i6 (by omega)
  rwa [e1,e2,q9,q9,q9]at this
 ·have h8:∀M,M<256->M.testBit i=false:=λM hM=>Nat.testBit_lt_two_pow (a5C hM (by
   have:(2:Nat)^8<=2^i:=Z8 (by omega) (by omega);omega))
  rw[h8 M hM,h8 K hK]
theorem has_zero (d:Int):has 0 d=false:=by
 unfold has;simp
end L
theorem b2v (x:Nat) (h:x<1000000):Go.IntKind.i64.wrap (x:Int)=x:=by
 show(if((true&&decide ((x:Int) % 18446744073709551616>=9223372036854775808))=true)then(x:Int) % 18446744073709551616-18446744073709551616 else(x:Int) % 18446744073709551616)=x;rw[d6 (by rw[q9,d5];omega)];omega
theorem b2r {a b:Int} (ha:L.set a=true) (hb:L.set b=true):L.set (Tl.andN a b)=true/\∀e:Int,L.has (Tl.andN a b) e=(L.has a e&& !L.has b e):=by
 obtain⟨A,rfl,hA⟩:=L.set_has ha;obtain⟨B,rfl,hB⟩:=L.set_has hb;have e1:((BitVec.ofInt 64 (A:Int)&&& ~~~BitVec.ofInt 64 (B:Int)).toNat)<256:=by
  rw[BitVec.toNat_and];refine Nat.lt_of_le_of_lt Nat.and_le_left ?_;rw[BitVec.toNat_ofInt];simp;omega
 have e2:∀i,i<8->(BitVec.ofInt 64 (A:Int)&&& ~~~BitVec.ofInt 64 (B:Int)).toNat.testBit i=(A.testBit i&& !B.testBit i):=λi hi=>by
  rw[BitVec.testBit_toNat,BitVec.getLsbD_and,BitVec.getLsbD_not];have h1:∀C:Nat,C<256->(BitVec.ofInt 64 (C:Int)).getLsbD i=C.testBit i:=λC hC=>by
   rw[<- BitVec.testBit_toNat,BitVec.toNat_ofInt];have:((C:Int) % (((2^64:Nat)):Int)).toNat=C:=by omega
   rw[this]
  rw[h1 A hA,h1 B hB,i6 (by omega),q9]
 have e3:Tl.andN (A:Int) (B:Int)=((BitVec.ofInt 64 (A:Int)&&& ~~~BitVec.ofInt 64 (B:Int)).toNat:Int):=by
  unfold Tl.andN;show IntKind.i64.wrap (((BitVec.ofInt 64 (A:Int)&&& ~~~BitVec.ofInt 64 (B:Int)).toNat:Nat):Int)=_;generalize(BitVec.ofInt 64 (A:Int)&&& ~~~BitVec.ofInt 64 (B:Int)).toNat=x at e1;exact b2v x (by omega)
 generalize hx:(BitVec.ofInt 64 (A:Int)&&& ~~~BitVec.ofInt 64 (B:Int)).toNat=x at e1 e2 e3;rw[e3];have hs:L.set (x:Int)=true:=by rw[L.set_iff];omega
 refine⟨hs,λe=>?_⟩
 by_cases he:0<=e/\e<8
 ·obtain⟨E,rfl⟩:=f9 he.1;simp only[L.has,hs,ha,hb,q9,j4];rw[i6 (p:=(0:Int)<=(E:Int)) (by omega),i6 (p:=(E:Int)<8) (by omega),e2 E (by omega)];rfl
 ·rw[L.has_out he,L.has_out he];rfl
theorem a6e {N:Nand} {b r:Int}:∀(q:List (Int×Sh)) (f:Int),L.set f=true->(∀x∈q,0<=x.1/\x.1<8)->L.set (a0m N b r q f)=true/\∀d:Int,L.has (a0m N b r q f) d=(L.has f d||q.any λx=>decide (x.1=d)&&N.failB b r x.1)
 | [],f,hf,_=>⟨hf,λd=>by simp[a0m]⟩
 | x::q,f,hf,hq=>by
  have hx:=hq x (by simp);rw[a0m];cases hb:N.failB b r x.1 with
  | false=>
   rw[d6 l9];have ih:=a6e (N:=N) (b:=b) (r:=r) q f hf λy hy=>hq y (by simp[hy]);refine⟨ih.1,λd=>?_⟩;rw[ih.2,List.any_cons,hb,Bool.and_false,D2]
  | true=>
   rw[d8 rfl];have ih:=a6e (N:=N) (b:=b) (r:=r) q (L.with_ f x.1) (L.set_with hf hx) λy hy=>hq y (by simp[hy]);refine⟨ih.1,λd=>?_⟩;rw[ih.2,L.with_has hf hx,List.any_cons,hb,Bool.and_true,Bool.or_assoc];congr 2;rw[a1y];omega
namespace Tl
theorem at_set {t:Tl} (hl:t.l.length=t.b) {k j:Int} (s:Sb) (hk:t.has k=true) (hj:t.has j=true):(t.set k s).at_ j=if j=k then s else t.at_ j:=by
 unfold set;rw[d8 hk];simp only[has,f7,d5]at hk hj;unfold at_;dsimp only
 by_cases e:j=k
 ·subst e;rw[d8 rfl,d7,List.getElem?_set_self (by omega)];rfl
 ·rw[d6 e,d7,List.getElem?_set_ne (by omega),<- d7]
theorem has_set (t:Tl) (k j:Int) (s:Sb):(t.set k s).has j=t.has j:=by unfold has;rw[set_b]
theorem has_iff {t:Tl} {k:Int}:t.has k=true↔0<=k/\k<t.b:=by simp[has]
theorem set_no {t:Tl} {k:Int} (s:Sb) (h:t.has k=false):t.set k s=t:=by unfold set;rw[h];rfl
end Tl
end
section
open Go Go.RowKit
structure FitR (e:En):Prop where
 lpn:0<=e.lpn/\e.lpn<=65535
 role:e.role=1\/((e.role=2\/e.role=4)/\e.data=zeros16)
 len:e.data.length=16
theorem c0n {b r m:Int} {e:En} (hb:0<=b/\b<=15) (hr:0<=r/\r<=7) (hm:2<=L.count m) (hs:0<=e.seq/\e.seq<=1099511627775) (h:FitR e\/e=En.pad):W.ok b r m e=true:=by
 have h5:S.entry (W.sh b r m e)=true:=by
  rcases h with h | h
  ·unfold S.entry;have e1:(W.sh b r m e).role=e.role:=rfl;have e2:(W.sh b r m e).data=e.data:=rfl;rw[e1,e2];rcases h.role with h3 | ⟨h3 | h3,h4⟩
   ·rw[d8 h3]
   ·rw[d6 (by omega),d8 (.inl h3),i6 h4]
   ·rw[d6 (by omega),d8 (.inr h3),i6 h4]
  ·rw[h];rfl
 have h6:(0<=e.role/\e.role<=255)/\(0<=e.lpn/\e.lpn<=65535):=by
  rcases h with h | h
  ·have:=h.lpn;rcases h.role with h3 | ⟨h3 | h3,h4⟩<;>omega
  ·rw[h];decide
 have h7:S.place (W.sh b r m e)=true:=by
  unfold S.place S.inB;rw[i6 (show 2<=L.count (W.sh b r m e).mask from hm),i6 (show 0<=(W.sh b r m e).block from hb.1),i6 (show(W.sh b r m e).block<=15 from hb.2),i6 (show 0<=(W.sh b r m e).row from hr.1),i6 (show(W.sh b r m e).row<=7 from hr.2)];rfl
 have h8:S.numbers (W.sh b r m e)=true:=by
  unfold S.numbers S.inB;rw[i6 (show 0<=(W.sh b r m e).seq from hs.1),i6 (show(W.sh b r m e).seq<=1099511627775 from hs.2),i6 (show 0<=(W.sh b r m e).lpn from h6.2.1),i6 (show(W.sh b r m e).lpn<=65535 from h6.2.2),i6 (show 0<=(W.sh b r m e).role from h6.1.1),i6 (show(W.sh b r m e).role<=255 from h6.1.2)];rfl
 unfold W.ok S.may;rw[h5,h7,h8];rfl
structure Msk (D:Nat) (fd m:Int):Prop where
 set:L.set m=true
 lt:∀d:Int,L.has m d=true->d<D
 all:∀d:Nat,d<D->(d:Int)≠fd->L.has m (d:Nat)=true
theorem a5O:∀D,D<7->3<=D->G.slots (L.all (D:Nat))=(D:Int)-1/\L.count (L.all (D:Nat))=D/\L.all (D:Nat)<2^D:=by decide+kernel
theorem b6q:∀D,D<7->3<=D->∀d,d<D->G.slots (L.without (L.all (D:Nat)) (d:Nat))=(D:Int)-2/\L.count (L.without (L.all (D:Nat)) (d:Nat))=D-1/\L.without (L.all (D:Nat)) (d:Nat)<2^D:=by decide+kernel
namespace Msk
variable {D : Nat} {fd m : Int}
theorem eq (h:Msk D fd m) (hD:3<=D/\D<=6):(m=L.all (D:Nat)/\(0<=fd/\fd<D->L.has m fd=true))\/(0<=fd/\fd<D/\L.has m fd=false/\m=L.without (L.all (D:Nat)) fd):=by
 have hs:=L.set_all D (by omega)
 by_cases hf:(0<=fd/\fd<D)/\L.has m fd=false
 ·right;refine⟨hf.1.1,hf.1.2,hf.2,L.ext h.set (L.set_without hs (by omega)) λd hd=>?_⟩;rw[L.without_has hs (by omega),L.all_has D (by omega),i6 (p:=(0:Int)<=(d:Int)) (by omega),q9]
  by_cases hlt:d<D
  ·rw[i6 (p:=(d:Int)<D) (by omega),q9]
   by_cases e:(d:Int)=fd
   ·rw[e,hf.2];simp
   ·rw[h.all d hlt e,n8 e];rfl
  ·rw[n8 (p:=(d:Int)<D) (by omega),X6];cases hh:L.has m (d:Nat)with
   | false=>rfl
   | true=>have:=h.lt _ hh;omega
 ·left;have hff:0<=fd/\fd<D->L.has m fd=true:=λhr=>by
   cases hh:L.has m fd with
   | true=>rfl
   | false=>exact absurd ⟨hr,hh⟩ hf
  refine⟨L.ext h.set hs λd hd=>?_,hff⟩;rw[L.all_has D (by omega),i6 (p:=(0:Int)<=(d:Int)) (by omega),q9]
  by_cases hlt:d<D
  ·rw[i6 (p:=(d:Int)<D) (by omega)]
   by_cases e:(d:Int)=fd
   ·rw[e];exact hff (by omega)
   ·exact h.all d hlt e
  ·rw[n8 (p:=(d:Int)<D) (by omega)];cases hh:L.has m (d:Nat)with
   | false=>rfl
   | true=>have:=h.lt _ hh;omega
def full (D:Nat) (fd m:Int):Bool:=!(decide (0<=fd)&&decide (fd<D))||L.has m fd
theorem slots (h:Msk D fd m) (hD:3<=D/\D<=6):G.slots m=(if full D fd m then(D:Int)-1 else(D:Int)-2)/\2<=L.count m/\0<=m/\m<2^D:=by
 have hm0:0<=m:=by have:=(L.set_iff m).1 h.set;omega
 rcases h.eq hD with⟨e,hf⟩ | ⟨h1,h2,h3,e⟩
 ·have hfull:full D fd m=true:=by
   unfold full
   by_cases hr:0<=fd/\fd<D
   ·rw[hf hr];simp
   ·by_cases h0:0<=fd
    ·rw[n8 (p:=fd<D) (by omega)];simp
    ·rw[n8 h0];simp
  obtain⟨a1,a2,a3⟩:=a5O D (by omega) hD.1;rw[hfull,d8 rfl];rw[e]at hm0 ⊢;exact⟨a1,by omega,hm0,a3⟩
 ·have hfull:full D fd m=false:=by
   unfold full;rw[i6 h1,i6 h2,h3];rfl
  obtain⟨d,hd⟩:=f9 h1;obtain⟨a1,a2,a3⟩:=b6q D (by omega) hD.1 d (by omega);rw[hfull,d6 l9];rw[e,hd]at hm0 ⊢;exact⟨a1,by omega,hm0,a3⟩
theorem pos (h:Msk D fd m) (hD:3<=D/\D<=6):1<=G.slots m/\(D:Int)-2<=G.slots m/\G.slots m<=(D:Int)-1:=by
 have:=(h.slots hD).1;split at this<;>omega
end Msk
def a6M (N:Nand) (x:Int×Sh) (b r:Int):Prop:=∃c,N.pageAt x.1 b r=some c/\c.lost=false/\S.getE c.p=0
structure Full (fd:Int) (N:Nand) (b r m:Int) (l:List En):Prop where
 is:RowIs N b r m l
 good:∀x∈R.job b r m l,x.1≠fd->a6M N x b r
 inn:RowIn N b r m l
namespace Full
variable {fd : Int} {N : Nand} {b r m : Int} {l : List En}
theorem keep (h:Full fd N b r m l) {N':Nand} (like:N.Like N') (hp:∀x∈R.job b r m l,N'.pageAt x.1 b r=N.pageAt x.1 b r):Full fd N' b r m l:=
 ⟨h.is.like like,λx hx hne=>by unfold a6M;rw[hp x hx];exact h.good x hx hne,λx hx c hc=>h.inn x hx c (by rw[<- hp x hx];exact hc)⟩
theorem okAll2 (h:Full fd N b r m l) (hoff:N.off=false) (hdead:∀x∈R.job b r m l,x.1≠fd->N.dead.getD x.1.toNat false=false) {i:Nat} (hi:i<l.length):okG (gOf N b r m l) l.length i=true:=by
 have hjl:(R.job b r m l).length=l.length+1:=by simp[R.job]
 have hg:∀k x,(R.job b r m l)[k]? =some x->x.1≠fd->gOf N b r m l k=true:=λk x hk hne=>by
  have hx:=j8 hk;obtain⟨c,hc,hcl,hcE⟩:=h.good x hx hne;obtain⟨n1,n2,n3⟩:=h.is.inn x hx;have hr:N.refuses x.1 b r=0:=by
   unfold Nand.refuses;rw[hoff,d6 (by decide),Nand.geoIn_of ⟨n1,n2⟩ h.is.blk h.is.row,d6 (by decide),hdead x hx hne];rfl
  unfold gOf;rw[hk];show((M.look N x.1 b r).2==1)=true;rw[a3H (h.is.sh x hx).1 hr hc (h.inn x hx c hc) hcl hcE];rfl
 have hat:∀k,k<=l.length->∃x,(R.job b r m l)[k]? =some x:=λk hk=>⟨_,c9 (by omega)⟩;unfold okG;rw[j6];obtain⟨x,hx⟩:=hat i (by omega)
 by_cases hne:x.1=fd
 ·right;unfold b0z;rw[D9];intro k hk;have hk:=List.mem_range.1 hk
  by_cases e:k=i
  ·simp[e]
  ·obtain⟨y,hy⟩:=hat k (by omega);have:y.1≠fd:=λe2=>e (by
    have hnd:=h.is.nodup;have e3:((R.job b r m l).map (·.1))[k]? =((R.job b r m l).map (·.1))[i]?:=by rw[i9,i9,hx,hy];simp[e2,hne]
    exact(V4 (by rw[l7];omega) hnd).1 e3)
   rw[hg k y hy this];simp
 ·exact .inl (hg i x hx hne)
theorem okAll (h:Full fd N b r m l) (hoff:N.off=false) (hdead:∀i:Nat,(i:Int)≠fd->N.dead.getD i false=false) {i:Nat} (hi:i<l.length):okG (gOf N b r m l) l.length i=true:=
 h.okAll2 hoff (λx hx hne=>hdead _ (by have:=h.is.inn x hx;omega)) hi
theorem read (h:Full fd N b r m l) (hoff:N.off=false) (hdead:∀i:Nat,(i:Int)≠fd->N.dead.getD i false=false) {i:Nat} (hi:i<l.length):R.read N b r (i:Nat) m=(l.getD i En.zero,0):=by
 rw[(h.inn.part h.is).read h.is hoff hi,h.okAll hoff hdead hi,d8 rfl]
end Full
structure FullW (fd:Int) (N:Nand) (b r m:Int) (l:List En) (s:Nat):Prop where
 is:RowIs N b r m l
 good:(∀x∈R.job b r m l,x.1≠fd->a6M N x b r)\/fd= -2/\(∃x,(R.job b r m l)[s]? =some x/\a6M N x b r)/\∀k,k<l.length->(l.getD k En.zero).seq=(l.getD s En.zero).seq->k=s
 inn:RowIn N b r m l
theorem Full.w {fd:Int} {N:Nand} {b r m:Int} {l:List En} (h:Full fd N b r m l) (s:Nat):FullW fd N b r m l s:=⟨h.is, .inl h.good,h.inn⟩
namespace FullW
variable {fd : Int} {N : Nand} {b r m : Int} {l : List En} {s : Nat}
theorem keep (h:FullW fd N b r m l s) {N':Nand} (like:N.Like N') (hp:∀x∈R.job b r m l,N'.pageAt x.1 b r=N.pageAt x.1 b r):FullW fd N' b r m l s:=
 ⟨h.is.like like,h.good.imp (λhg x hx hne=>by unfold a6M;rw[hp x hx];exact hg x hx hne) λ⟨e,⟨x,hx,ht⟩,hu⟩=>⟨e,⟨x,hx,by unfold a6M;rw[hp x (j8 hx)];exact ht⟩,hu⟩,λx hx c hc=>h.inn x hx c (by rw[<- hp x hx];exact hc)⟩
theorem okAll (h:FullW fd N b r m l s) (hoff:N.off=false) (hdead:∀i:Nat,(i:Int)≠fd->N.dead.getD i false=false) (hi:s<l.length):okG (gOf N b r m l) l.length s=true:=by
 rcases h.good with hg | ⟨e,⟨x,hx,c,hc,hcl,hcE⟩,_⟩
 ·exact(Full.mk h.is hg h.inn).okAll hoff hdead hi
 ·unfold okG;rw[j6];left;have hm:=j8 hx;obtain⟨n1,n2,n3⟩:=h.is.inn x hm;have hr:N.refuses x.1 b r=0:=by
   unfold Nand.refuses;rw[hoff,d6 (by decide),Nand.geoIn_of ⟨n1,n2⟩ h.is.blk h.is.row,d6 (by decide),hdead x.1.toNat (by omega)];rfl
  unfold gOf;rw[hx];show((M.look N x.1 b r).2==1)=true;rw[a3H (h.is.sh x hm).1 hr hc (h.inn x hm c hc) hcl hcE];rfl
theorem read (h:FullW fd N b r m l s) (hoff:N.off=false) (hdead:∀i:Nat,(i:Int)≠fd->N.dead.getD i false=false) (hi:s<l.length):R.read N b r (s:Nat) m=(l.getD s En.zero,0):=by
 rw[(h.inn.part h.is).read h.is hoff hi,h.okAll hoff hdead hi,d8 rfl]
end FullW
theorem WroteR.page {N N':Nand} {b r:Int} {q:List (Int×Sh)} (h:WroteR N N' b r q) (hq:RdyR N b r q) {d b0 r0:Int} (hd:0<=d) (hb:0<=b0) (hr:0<=r0) (hne:b0=b->r0≠r):N'.pageAt d b0 r0=N.pageAt d b0 r0:=by
 unfold Nand.pageAt
 by_cases e:b0=b
 ·by_cases hx:∀x∈q,x.1.toNat≠d.toNat
  ·rw[h.rest _ _ (.inr hx)]
  ·simp only[Classical.not_forall,not_imp,a1e]at hx;obtain⟨x,hx,hxd⟩:=hx;have hc:=h.cells x hx;rw[hxd,<- e]at hc;rw[hc];split
   ·rfl
   ·rename_i ha;have ha:N.dead.getD d.toNat false=false:=by simpa using ha
    have hl:=hq.cells x hx (by rw[hxd];exact ha);rw[hxd,<- e]at hl;have:=hne e;have:=hq.row;rw[I9];split
    ·rfl
    ·rw[j5 (by simp only[l5,a0P];omega),j5 (by omega)]
 ·rw[h.rest _ _ (.inl (by have:=hq.blk;omega))]
structure Std (fd:Int) (S:Dv) (i:Int) (a:AtV):Prop where
 row:∃l,FullW fd S.N a.block a.row a.mask l a.slot.toNat/\0<=a.slot/\a.slot.toNat<l.length/\(l.getD a.slot.toNat En.zero).lpn=i/\(l.getD a.slot.toNat En.zero).seq=a.seq/\(l.getD a.slot.toNat En.zero).role=a.role
 used:(S.t.at_ a.block).used=true
 below:a.block=S.op->a.row<S.row
 seq:1<=a.seq/\a.seq<S.next
structure Opn (fd:Int) (S:Dv):Prop where
 blk:0<=S.op/\S.op<S.N.blocks
 used:(S.t.at_ S.op).used=true
 row:0<=S.row/\S.row<=S.N.pages
 mask:Msk S.N.dies fd S.mask
 cells:∀d:Nat,L.has S.mask (d:Nat)=true->((S.N.blk d S.op.toNat).cells.length:Int)<=S.row/\(S.N.dead.getD d false=false->((S.N.blk d S.op.toNat).cells.length:Int)=S.row)
structure Inv (fd:Int) (S:Dv):Prop where
 lit:S.N.Lit
 dead:∀i:Nat,(i:Int)≠fd->S.N.dead.getD i false=false
 plan:∀a∈S.N.plan,a.1=fd
 flags:∀i j:Nat,(i:Int)≠fd->(S.N.blk i j).met=false/\(S.N.blk i j).fails=false
 tdead:L.set S.t.dead=true/\∀d:Int,L.has S.t.dead d=true->d=fd
 tbad:∀b,S.t.has b=true->L.set (S.t.at_ b).bad=true/\∀d:Int,L.has (S.t.at_ b).bad d=true->d=fd
 op:S.op= -1\/Opn fd S
 blank:∀b,S.t.has b=true->(S.t.at_ b).used=false->∀d:Nat,L.has (S.t.mask b) (d:Nat)=true->(S.N.blk d b.toNat).cells=[]
 st:∀i a,Tb.look S.T.at_ i=some a->Std fd S i a
theorem a0l {t:Tl} {b:Int} (hd:t.d<=8) (hb:t.has b=true) (h1:L.set t.dead=true) (h2:L.set (t.at_ b).bad=true):L.set (t.mask b)=true/\∀e:Int,L.has (t.mask b) e=((decide (0<=e)&&decide (e<t.d))&& !L.has t.dead e&& !L.has (t.at_ b).bad e):=by
 have ha:=L.set_all t.d hd;have x1:=b2r ha h1;have x2:=b2r x1.1 h2;unfold Tl.mask;rw[d8 hb];exact⟨x2.1,λe=>by rw[Tl.alive,x2.2,x1.2,L.all_has _ hd]⟩
namespace Inv
variable {fd : Int} {S : Dv} {k m : Nat}
theorem msk (h:Inv fd S) (hO:S.Ok k m) {b:Int} (hb:S.t.has b=true):Msk S.N.dies fd (S.t.mask b):=by
 have hg:=hO.gd.ok.bd16;have hd:=hO.t.d;obtain⟨m1,m2⟩:=a0l (by omega) hb h.tdead.1 (h.tbad b hb).1;refine⟨m1,λd hh=>?_,λd hlt hne=>?_⟩
 ·rw[m2]at hh;simp only[f7,d5]at hh;omega
 ·rw[m2,i6 (p:=(0:Int)<=(d:Int)) (by omega),i6 (p:=(d:Int)<S.t.d) (by omega)];have e1:L.has S.t.dead (d:Nat)=false:=by
   cases hh:L.has S.t.dead (d:Nat)with
   | false=>rfl
   | true=>exact absurd (h.tdead.2 _ hh) hne
  have e2:L.has (S.t.at_ b).bad (d:Nat)=false:=by
   cases hh:L.has (S.t.at_ b).bad (d:Nat)with
   | false=>rfl
   | true=>exact absurd ((h.tbad b hb).2 _ hh) hne
  rw[e1,e2];rfl
theorem usable (h:Inv fd S) (hO:S.Ok k m) {b:Int} (hb:S.t.has b=true):S.t.usable b=true:=by
 have hg:=hO.gd.ok.bd16;have:=((h.msk hO hb).pos hg.1).1;unfold Tl.usable;exact i6 (by omega)
theorem read (h:Inv fd S) {i:Int} {a:AtV} (ha:Tb.look S.T.at_ i=some a):∃e,R.read S.N a.block a.row a.slot a.mask=(e,0)/\e.lpn=i/\e.seq=a.seq/\e.role=a.role:=by
 obtain⟨l,h1,h2,h3,h4,h5,h6⟩:=(h.st i a ha).row;refine⟨_,?_,h4,h5,h6⟩;have:=h1.read h.lit.off h.dead h3
 rwa [show((a.slot.toNat:Nat):Int)=a.slot from by omega]at this
end Inv
def a6j (e:En):Prop:=(0<=e.lpn/\e.lpn<=65535)/\(0<=e.seq/\e.seq<=1099511627775)
theorem b7f {s:Sh} (h:S.may s=true):a6j s.en:=by
 simp only[S.may,S.numbers,S.inB,f7,d5]at h;exact⟨h.1.2.1.2,h.1.2.1.1⟩
theorem b9M {p:List UInt8} {s:Sh} (h:S.get p=some s):S.may s=true:=by
 unfold S.get at h;split at h
 ·rename_i hh;injection h with h;subst h;exact hh.1
 ·cases h
theorem b7g {N:Nand} {x y z:Int} (h:(M.look N x y z).2=1):S.may (M.look N x y z).1=true:=by
 unfold M.look at h ⊢;dsimp only at h ⊢;split
 ·rename_i h0;rw[d8 h0]at h;split
  ·rename_i h1;rw[d8 h1]at h;simp at h
  ·rename_i h1;simp only[not_or]at h1;have hg:S.getE (N.readV x y z)=0:=by simpa using h1.1
   unfold S.getE at hg;cases hs:S.get (N.readV x y z)with
   | none=>rw[hs]at hg;simp at hg
   | some s=>simp only[S.getV,hs,j3];exact b9M hs
 ·rename_i h0;rw[d6 h0]at h;split at h
  ·simp at h
  ·split at h<;>simp at h
theorem c1W {b r m:Int} {e:En} (h:W.ok b r m e=true):a6j e:=b7f (s:=W.sh b r m e) h
theorem a6b {N:Nand} {b r:Int} {f:Fnd} (h:f∈R.all N b r):f.block=b/\f.row=r/\a6j f.en:=by
 unfold R.all at h;rw[K5]at h;obtain⟨m,_,h⟩:=h;unfold R.allM at h;rw[a2n]at h;obtain⟨k,hk,h⟩:=h;rw[J5]at hk;unfold R.fnd at h;split at h
 ·rename_i hc;injection h with h;subst h;refine⟨rfl,rfl,?_⟩;simp only[f7]at hc;obtain⟨h1,_⟩:=hc;dsimp only;unfold R.enAt;unfold R.okAt at h1;split
  ·rename_i hg;have hlen:k<(R.ones N b r m (G.slots m).toNat).length:=by simpa[R.look]using hk
   have e1:(R.look N b r m).good.getD k false=((R.ones N b r m (G.slots m).toNat)[k]).2:=by simp[R.look,hlen]
   have e2:(R.look N b r m).slots.getD k Sh.zero=((R.ones N b r m (G.slots m).toNat)[k]).1:=by simp[R.look,hlen]
   rw[e1]at hg;rw[e2];simp only[R.ones,W8,R.one,f7,A4]at hg ⊢;exact b7f (b7g hg.1)
  ·rename_i hg;rw[Bool.not_eq_true]at hg;rw[hg,D2]at h1;unfold R.mendB at h1;simp only[f7]at h1;have hb:=h1.2;unfold R.mend;rw[d8 (by rw[f7];exact h1.1),W.back,d8 hb];unfold W.backB at hb;simp only[f7]at hb;exact c1W hb.2
 ·cases h
theorem b4i (N:Nand) (hN:N.Ok):(V.all N).length<=6000:=by
 have hbd:=hN.bd;have h0:∀b r,(R.all N b r).length<=42:=λb r=>by
  have:=a7O N b r (M.masks N b r).length (by omega);unfold a5c at this
  rwa [S8]at this
 have h1:∀(l:List Nat) (b:Int),(l.flatMap λr=>R.all N b (r:Nat)).length<=42*l.length:=by
  intro l b
  induction l with
  | nil=>simp
  | cons x l ih=>rw[u0,f8,l5];have:=h0 b x;omega
 have h2:∀l:List Nat,(l.flatMap λb=>(List.range N.pages).flatMap λr=>R.all N (b:Nat) (r:Nat)).length<=336*l.length:=by
  intro l
  induction l with
  | nil=>simp
  | cons x l ih=>
   rw[u0,f8,l5];have:=h1 (List.range N.pages) x;rw[M5]at this;omega
 have:=h2 (List.range N.blocks);rw[M5]at this;unfold V.all;omega
theorem b3p {N:Nand} {f:Fnd} (h:f∈V.all N):(∃r:Nat,f.row=(r:Int)/\r<N.pages)/\a6j f.en:=by
 unfold V.all at h;rw[K5]at h;obtain⟨b,_,h⟩:=h;rw[K5]at h;obtain⟨r,hr,h⟩:=h;have:=a6b h;exact⟨⟨r,this.2.1,List.mem_range.1 hr⟩,this.2.2⟩
abbrev fdV (x:Fnd):Value:= .agg (fnL x).toArray
def Fnd.zero:Fnd:=⟨En.zero,0,0,0,0,false,false⟩
theorem b1k (a b:Fnd):FP 203 [fdV a,fdV b] [] (Ps (.bool (V.behind a b)) []):=by
 refine FE [0,0] Tryz.func203 λX F hX=>?_;refine J.qd (λ_ h1=>?_) λ_ h1=>?_
 ·refine J.qr [] λ_=>?_;simp only[E6,H5]at h1;exact⟨by rw[V.behind,d8 h1],rfl⟩
 ·simp only[z7]at h1;refine J.run hX tk 400 (λb3=>rfl) (λb3=>?_) (λb3=>?_)
  ·(repeat' (first | exact Conj.nil | refine Conj.cons ?_ ?_ | exact rfl | exact hq | (rw[hq];rfl) | (rw[(i4 _).mp hq]) | intro hq | omega | (simp;done) | (simp_all;done)))
  refine J.qr [] λ_=>?_;exact⟨by rw[V.behind,d6 (by simp[h1])],rfl⟩
theorem a5L {l:List Fnd} {k:Nat} {x:Fnd} (h:l[k]? =some x):V.tops (l.take (k+1))=V.topsStep (V.tops (l.take k)) x:=by
 unfold V.tops;rw[D3,h,K7,B3];rfl
theorem b0h (o:List Fnd) (x:Fnd):(V.topsStep o x).length<=o.length+1:=by
 cases o with
 | nil=>simp[V.topsStep]
 | cons h t=>
  simp only[V.topsStep];split
  ·simp
  ·split<;>simp
theorem a7p (l:List Fnd):(V.tops l).length<=l.length:=by
 have:∀k,k<=l.length->(V.tops (l.take k)).length<=k:=by
  intro k
  induction k with
  | zero=>intro _;simp[V.tops]
  | succ k ih=>
   intro hk;rw[a5L (c9 (by omega))];have:=b0h (V.tops (l.take k)) l[k];have:=ih (by omega);omega
 have:=this l.length (i7 _)
 rwa [S8]at this
theorem b5T (a:Option Nat) (n cap:Nat) (l:List Fnd) (hl:l.length=n) (hn:n<=100000):FP 162 [slv a n cap] [m9 180 25 a n cap (H0 l)]
  (λv As=>∃a' c',v=slv a' (V.tops l).length c'/\As=[m9 180 25 a n cap (H0 l),m9 180 25 a' (V.tops l).length c' (H0 (V.tops l))]):=by
 refine FE [0] Tryz.func162 λX F hX=>?_;refine J.turn1 [] rfl (As:=[m9 180 25 none 0 0 (H0 [])]) (λh s=>Sep.one ⟨rfl,rfl,rfl⟩) rfl ?_;refine J.q λ_=>?_;refine J.l (α:=(Nat×Option Nat×Nat×List Fnd)) (λz=>z.1<=n/\V.tops (l.take z.1)=z.2.2.2) (λz=>[si 8 z.1,si 7 n,sv 6 (slv a n cap),sv 3 (slv z.2.1 z.2.2.2.length z.2.2.1)]) [2] (λz=>[m9 180 25 z.2.1 z.2.2.2.length z.2.2.1 (H0 z.2.2.2)]) (λz=>n-z.1) ((0,none,0,[])) (⟨j7 _,rfl⟩) λz hI=>?_;obtain⟨k,a1,c1,out⟩:=z;dsimp only at hI ⊢;obtain⟨hI,hto⟩:=hI;refine J.qd (λ_ h1=>?_) λ_ h1=>?_
 ·simp only[d5,i5]at h1;cases a with
  | none=>
   refine J.know (λh' s=>(s.get (i:=1) rfl).2.1) λhn0=>?_;omega
  | some g=>
  obtain⟨x,hx⟩:∃x,l[k]? =some x:=⟨_,c9 (by omega)⟩;have hts:=a5L hx;have hlen:=a7p (l.take k);rw[j9,hto]at hlen;rw[hto]at hts;refine J.q λ_=>?_;refine J.v (fdV x) rfl rfl (λhg a w he hs=>?_) ?_
  ·exact J8 tk rfl rfl he rfl rfl rfl (hs.get (i:=1) rfl) (by rw[show 0+(k:Int).toNat*25=k*25 from by omega];exact a1V hx) rfl
  rcases out with _ | ⟨y,o⟩
  ·skip
   refine J.pn 5 (.of [0,4,8,12,16,20,25,29,34,36,40]) [] [1,2,3] λ_ _=>?_;refine J.vT (pp g) rfl rfl (λhg a w he hC=>absurd hg (by simp[G.on])) ?_;refine J.q λ_=>?_;refine J.vT (fdV x) rfl rfl (λhg a w he hC=>absurd hg (by simp[G.on])) ?_;refine J.q λ_=>?_;refine J.val hX (.bool true) 0 rfl rfl (λhg a w he hC=>absurd hg (by simp[G.on])) rfl stq ?_;refine J.qT λ_=>?_;refine J.q λbs=>?_;refine J.cO 180 25 1 1 (H0 [x]) 4 ?_;have hs:V.tops (l.take (k+1))=[x]:=by rw[hts];rfl
   refine J.slot (k:=3) (s':=⟨3,slv (some (bs 0)) [x].length 1,0, .tt⟩) rfl rfl rfl ?_;refine J.q λ_=>?_;refine J.n ((k+1,some (bs 0),1,[x])) (⟨by dsimp only;omega,hs⟩) (by dsimp only;omega) [0,1,4]
  ·refine J.know (λh' s=>D1 (c:=(a1,c1)) (by simp) (s.get (i:=2) rfl)) λhg=>?_;obtain⟨ga,rfl⟩:=hg;refine J.pq (.of [0,4,8,12,16,20,25,29,34,36,40]) [] [1,2,3] λ_ _=>?_;refine J.vT (fdV y) rfl rfl (λhg a w he hC=>?_) ?_
   ·exact J8 tk rfl rfl he hg rfl rfl (hC rfl _ (B6 (i:=2) rfl)) rfl rfl
   have hnz:(((y::o).length:Int)==0)=false:=by rw[l8,l5];omega
   rw[hnz];refine J.qp (b1k y x) [] λ_=>?_;refine J.qd (λ_ h2=>?_) λ_ h2=>?_
   ·refine J.q λbs=>?_;refine J.cO 180 25 1 1 (H0 [x]) 4 ?_;have hs:V.tops (l.take (k+1))=[x]:=by rw[hts];rw[V.topsStep,d8 (by simpa using h2)]
    refine J.slot (k:=3) (s':=⟨3,slv (some (bs 0)) [x].length 1,0, .tt⟩) rfl rfl rfl ?_;refine J.q λ_=>?_;refine J.n ((k+1,some (bs 0),1,[x])) (⟨by dsimp only;omega,hs⟩) (by dsimp only;omega) [0,1,4]
   ·refine J.pq (.of [1,4,8,13,19,20,24]) [4,5,6] [1,2,3] λ_ _=>?_;refine J.vT (fdV y) rfl rfl (λhg a w he hC=>?_) ?_
    ·exact J8 tk rfl rfl he hg rfl rfl (hC rfl _ (B6 (i:=2) rfl)) rfl rfl
    refine J.qp (b1k x y) [] λ_=>?_;refine J.qd (λ_ h3=>?_) λ_ h3=>?_
    ·refine J.q λ_=>?_;have hs:V.tops (l.take (k+1))=y::o++[x]:=by rw[hts,V.topsStep,d6 (by simpa using h2),d6 (by simpa using h3)]
     refine J.append hX tk 2 4 0 rfl rfl rfl rfl rfl rfl rfl rfl rfl rfl rfl rfl rfl rfl rfl rfl ?_ ?_ (λ_=>rfl) λa3 c3=>⟨_,(congrArg (λz=>U3 _ 2 (m9 _ _ _ _ _ z)) (a3S (y::o) x).symm).trans rfl,trivial,?_⟩
     ·simp only[maxLen];omega
     ·omega
     rw[show(y::o).length+1=(y::o++[x]).length from by simp];refine J.q λ_=>?_;refine J.n ((k+1,a3,c3,y::o++[x])) (⟨by dsimp only;omega,hs⟩) (by dsimp only;omega) [0,1,2]
    ·have hs:V.tops (l.take (k+1))=y::o:=by rw[hts,V.topsStep,d6 (by simpa using h2),d8 (by simpa using h3)]
     refine J.q λ_=>?_;refine J.n ((k+1,some ga,c1,y::o)) (⟨by dsimp only;omega,hs⟩) (by dsimp only;omega) [0,1,2]
 ·simp only[c8,i5]at h1;obtain rfl:k=n:=by omega
  rw[B1 (by omega)]at hto;subst hto;refine J.qr [1,2] λ_=>?_;exact⟨a1,c1,rfl,rfl⟩
def b0g (x:Int):Bool:=x !=2&&x !=4
theorem b8C (A:Atom) (x:Int):FP 164 [iI x] [A] (Ps (.bool (b0g x)) [A]):=by
 refine FE [0] Tryz.func164 λX F hX=>?_;exact J.qx [1]
theorem b0X (N:Nand) (b r:Int):V.blankRow N b r= !(((M.rowN N b r N.dies).map (·.2)).any b0g):=by
 unfold V.blankRow;rw[List.any_map,List.not_any_eq_all_not];congr 1;funext x;show(x.2==2||x.2==4)= !(!(x.2==2)&& !(x.2==4));cases(x.2==2)<;>cases(x.2==4)<;>rfl
def V.upto (N:Nand) (f:Fnd) (k:Nat):Bool:=(List.range k).all λr:Nat=>decide ((r:Int)<=f.row)||V.blankRow N f.block r
theorem V.upto_succ (N:Nand) (f:Fnd) (k:Nat):V.upto N f (k+1)=(V.upto N f k&&(decide ((k:Int)<=f.row)||V.blankRow N f.block k)):=by
 unfold V.upto;rw[s9,List.all_append];simp
theorem V.upto_le (N:Nand) (f:Fnd) (k r0:Nat) (hr:f.row=(r0:Int)) (h:k<=r0+1):V.upto N f k=true:=by
 unfold V.upto;rw[D9];intro r hr2;rw[J5]at hr2;rw[i6 (by omega)];rfl
theorem c0w (p:Nat) (N:Nand) (hN:N.Ok) (hR:N.Room) (sp:Nat) (H:Value) (f:Fnd) (r0:Nat) (hr:f.row=(r0:Int)) (hr2:r0<=1000):FP 104 [pp sp,fdV f] [B8 p N, .pt sp 176 [pp p,H]]
  (Ps (.bool (V.last N f)) [B8 p N, .pt sp 176 [pp p,H]]):=by
 have hbd:=hN.bd;refine FE [3,0] Tryz.func104 λX F hX=>?_;refine J.q λbb=>?_;rw[hr];refine J.q λ_=>?_;refine J.l (α:=Nat) (λk=>r0+1<=k/\V.upto N f k=true/\(k=r0+1\/k<=N.pages)) (λk=>[si 5 k,⟨0,pp sp,3, .tt⟩,⟨3,pp (bb 0),4, .tt⟩]) [] (λk=>[]) (λk=>N.pages-k) (r0+1) (⟨i7 _,V.upto_le N f _ r0 hr (i7 _), .inl rfl⟩) λk hI=>?_;refine J.qp (a2B p N) [1] λ_=>?_;refine J.qd (λ_ h1=>?_) λ_ h1=>?_
 ·simp only[d5,i5]at h1;refine J.p (.of [0,4,8,13,16,20,25,28,34,36,40,44,48,52]) [13] [1,2,3] λ_=>?_;refine J.qc (c0q p N hN hR f.block k) [1] λ_=>?_;rintro v As ⟨a1,c1,a2,c2,rfl,rfl⟩;refine⟨_,rfl,stq,?_⟩;refine J.q λ_=>?_;refine J.ca hX (by kernel_rfl) (a6k 164 [] b0g (B8 p N) (by kernel_rfl) ((M.rowN N f.block k N.dies).map (·.2)) (λx _=>b8C (B8 p N) x) a2 N.dies c2 (by simp[M.rowN]) (by omega)) [5,1] 0 rfl rfl rfl rfl rfl rfl (λ_=>rfl) ?_;refine cpq ⟨_,rfl,trivial,?_⟩;have hbl:=b0X N f.block k;have hk:=V.upto_succ N f k;have hlt:decide ((k:Int)<=f.row)=false:=by rw[c8];omega
  rw[hI.2.1,hlt]at hk;refine J.qd (λ_ h2=>?_) λ_ h2=>?_
  ·rw[h2]at hbl;refine J.qr [1,2] λ_=>?_;refine⟨?_,rfl⟩;have:V.last N f=false:=by
    unfold V.last;rw[Bool.and_eq_false_iff];left;rw[List.all_eq_false];exact⟨k,List.mem_range.2 h1,by rw[hlt,hbl];simp⟩
   rw[this]
  ·rw[h2]at hbl;rw[hbl]at hk;refine J.q λ_=>?_;refine J.n (k+1) (⟨by omega,hk,by omega⟩) (by omega) [0,1,2,3]
 ·simp only[c8,i5]at h1;have hup:V.upto N f N.pages=true:=by
   rcases hI.2.2 with h | h
   ·exact V.upto_le N f _ r0 hr (by omega)
   ·rw[show N.pages=k by omega];exact hI.2.1
  refine J.qp (a1m f.mask f.block f.row) [] λ_=>?_;have hv:V.last N f=((M.look N (G.parity f.mask f.block f.row) f.block f.row).2 !=4):=by
   unfold V.last;have:((List.range N.pages).all λr:Nat=>decide ((r:Int)<=f.row)||V.blankRow N f.block r)=true:=hup;rw[this,q9]
  refine J.pq (.take true 0 (.take true 1 (.take true 2 (.take false 3 (.take true 4 (.take true 5 (.take true 6 (.take false 7 (.take true 8 (.take true 9 (.take false 10 (.take true 11 (.alt false 12 ((.of [52,56,60,66,70,72])) (.alt false 16 ((.of [50,52,56,60,70,72])) .non)))))))))))))) [18] [1,2,3] λ_ _=>?_;refine J.alts ?_ ?_
  ·skip
   refine J.qp (a5U p N hN hR (G.parity f.mask f.block f.row) f.block f.row) [1] λ_=>?_;refine J.qr [1,2] λ_=>?_;exact⟨by rw[hv],rfl⟩
  ·skip
   refine J.qn 1 λ_=>?_;refine J.qp (a5U p N hN hR (G.parity f.mask f.block f.row) f.block f.row) [1] λ_=>?_;refine J.qr [1,2] λ_=>?_;exact⟨by rw[hv],rfl⟩
theorem a9W (l:List Fnd) (r:List Value) (k:Nat) (x:Fnd) (h:l[k]? =some x):((H0 l++r).drop (k*25)).take 25=fnL x:=by
 have hk:k<l.length:=(List.getElem?_eq_some_iff.1 h).1;rw[List.drop_append_of_le_length (by rw[W7];omega),List.take_append_of_le_length (by rw[C1,W7];omega)];exact a1V h
theorem a8v:∀(l:List Fnd) (r:List Value) (k:Nat) (x:Fnd),k<l.length->(H0 l++r).take (k*25)++fnL x++(H0 l++r).drop (k*25+25)=H0 (l.set k x)++r
 | [],_,_,_,h=>by simp at h
 | y::l,r,0,x,h=>by simp[H0,fnL]
 | y::l,r,k+1,x,h=>by
  have:=a8v l r k x (by simpa using h);have hy:(fnL y).length=25:=rfl;have e1:H0 (y::l)++r=fnL y++(H0 l++r):=by simp[H0]
  have e2:H0 ((y::l).set (k+1) x)++r=fnL y++(H0 (l.set k x)++r):=by simp[H0]
  rw[e1,e2,<- this,show(k+1)*25=(fnL y).length+k*25 from by omega,T3,show(fnL y).length+k*25+25=(fnL y).length+(k*25+25)from by omega,<- C0,T7 rfl];simp only[m7]
def b9I (p:Fnd->Bool) (l:List Fnd):Int:=match l.findIdx? p with
 | some k=>k
 | none=> -1
theorem b5j {p:Fnd->Bool} {l:List Fnd} {k:Nat} {x:Fnd} (h:l[k]? =some x) (h0:∀i<k,p (l.getD i Fnd.zero)=false) (hp:p x=true):l.findIdx? p=some k:=by
 rw[n9];obtain⟨h1,h2⟩:=List.getElem?_eq_some_iff.1 h;refine⟨h1,by rw[h2];exact hp,λj hj=>?_⟩;have:=h0 j hj;rw[d7,c9 (by omega),j3]at this;simp[this]
theorem b5k {p:Fnd->Bool} {l:List Fnd} (h0:∀i<l.length,p (l.getD i Fnd.zero)=false):l.findIdx? p=none:=by
 rw[D0];intro x hx;obtain⟨i,hi,rfl⟩:=List.mem_iff_getElem.1 hx;have:=h0 i hi
 rwa [d7,c9 hi,j3]at this
theorem b5M (c:Nat) (cs:List Value) (p:Fnd->Bool) (A:Atom) (hcal:K0 Tryz.prog c=true) (l:List Fnd) (hf:∀x∈l,Fn Tryz.prog c (fdV x::cs) [A] (λv As=>v= .bool (p x)/\As=[A]))
  (a:Option Nat) (n cap:Nat) (hl:l.length=n) (hn:n<=4611686018427387904):FP 206 [slv a n cap,fnC c cs] [m9 180 25 a n cap (H0 l),A]
  (λv As=>v=iI (b9I p l)/\As=[m9 180 25 a n cap (H0 l),A]):=by
 refine FE [0,0] Tryz.func206 λX F hX=>?_;refine J.q λ_=>?_;refine J.l (α:=Nat) (λk=>k<=n/\∀i<k,p (l.getD i Fnd.zero)=false) (λk=>[si 8 k,si 7 n,sv 0 (slv a n cap),⟨1,fnC c cs,0, .tt⟩]) [] (λk=>[]) (λk=>n-k) (0) (⟨by omega,by omega⟩) λk hI=>?_;refine J.qd (λ_ h1=>?_) λ_ h1=>?_
 ·simp only[d5,i5]at h1;cases a with
  | none=>
   refine J.know (λh' s=>(s.get (i:=1) rfl).2.1) λhn0=>?_;omega
  | some g=>
   have hk:l[k]? =some (l.getD k Fnd.zero):=by rw[d7,c9 (by omega),j3]
   refine J.q λ_=>?_;refine J.v (fdV (l.getD k Fnd.zero)) rfl rfl (λhg a w he hs=>?_) ?_
   ·exact J8 tk rfl rfl he rfl rfl rfl (hs.get (i:=1) rfl) (by rw[show 0+(k:Int).toNat*25=k*25 from by omega];have:=a9W l [] k _ hk;rwa [m6]at this) rfl
   refine J.q λ_=>?_;refine J.call hX hcal (hf (l.getD k Fnd.zero) (j8 hk)) [2] 0 rfl rfl rfl rfl (by(repeat' (first | exact Conj.nil | refine Conj.cons ?_ ?_ | omega | exact hq0 | (simpa using hq0) | (exactλh=>h) | exact rfl | (intro hq;have hq0:=hq;try simp only[f7,j6,d5,i4,c8]at hq) | (simp;done) | (simp;omega) | decide))) rfl rfl (λ_=>rfl) ?_;refine cpq ⟨_,rfl,trivial,?_⟩;refine J.qd (λ_ h2=>?_) λ_ h2=>?_
   ·refine J.qr [1,2] λ_=>?_;exact⟨by rw[b9I,b5j hk hI.2 h2],rfl⟩
   ·refine J.q λ_=>?_;refine J.nx (k+1) (⟨by omega,λi hi=>by
     rcases Nat.lt_succ_iff_lt_or_eq.1 hi with h3 | h3
     ·exact hI.2 i h3
     ·rw[h3];exact h2⟩) (by omega) (λ_ s=>s)
 ·simp only[c8,i5]at h1;refine J.qr [1,2] λ_=>?_;exact⟨by rw[b9I,b5k (λi hi=>hI.2 i (by omega))],rfl⟩
theorem b3h (l:List Fnd):∀u∈H0 l,u.oneCell'=true:=by
 intro u hu;simp only[H0,K5]at hu;obtain⟨s,_,hu⟩:=hu;simp only[fnL,H7,U5,a5A]at hu;rcases hu with rfl | rfl | rfl | rfl | rfl | rfl | rfl | rfl | rfl | rfl | rfl | rfl | rfl | rfl | rfl | rfl | rfl | rfl | rfl | rfl | rfl | rfl | rfl | rfl | rfl<;>rfl
theorem b5P (a:Option Nat) (n cap:Nat) (l:List Fnd) (hl:l.length=n) (hn:n<=1000000):FP 168 [slv a n cap] [m9 180 25 a n cap (H0 l)]
  (λv As=>∃a' c',v=slv a' n c'/\As=[m9 180 25 a n cap (H0 l),m9 180 25 a' n c' (H0 l)]):=by
 refine FE [0] Tryz.func168 λX F hX=>?_;cases a with
 | none=>
  refine J.know (λh' s=>(s.get (i:=1) rfl).2) λhn0=>?_;obtain⟨rfl,rfl⟩:=hn0;have:l=[]:=n5 hl;subst this;refine J.qT λ_=>?_;refine J.turn1 [] rfl (As:=[m9 180 25 none 0 0 (H0 [])]) (λh s=>Sep.one ⟨rfl,rfl,rfl⟩) rfl ?_;refine J.qr [1,2] λ_=>?_;exact⟨none,0,rfl,rfl⟩
 | some g=>
  refine J.qF λ_=>?_;refine J.qn 5 λbb=>?_;refine J.closeOwn (e:=180) (size:=25) (n:=0) (cap:=0) (xs:=[]) 2 rfl rfl rfl (i7 _) (j7 _) rfl rfl rfl ?_;refine J.q λ_=>?_;refine J.appendR hX tk (a:=some (bb 0)) (n:=0) (cap:=0) (xs:=[]) (oo:=0) (Ay:=m9 180 25 (some g) n cap (H0 l)) 2 1 0 rfl rfl rfl rfl rfl rfl rfl rfl rfl rfl (Y5 _ _ (some g) _ _ _) rfl rfl rfl rfl (b3h l) ?_ ?_ (λ_=>rfl) λa' c'=>⟨_,rfl,trivial,?_⟩
  ·simp only[maxLen];omega
  ·omega
  rw[J6 n,R4];refine J.qr [1,2] λ_=>?_;exact⟨a',c',rfl,rfl⟩
def DelF (p:Fnd->Bool) (l m:List Fnd) (i j:Nat):Prop:=m.length=l.length/\i<j/\j<=l.length/\m.drop j=l.drop j/\m.take i++(l.drop j).filter (λx=>!p x)=l.filter (λx=>!p x)
theorem DelF.start {p:Fnd->Bool} {l:List Fnd} {k:Nat} (h:l.findIdx? p=some k):DelF p l l k (k+1):=by
 rw[n9]at h;obtain⟨h1,h2,h3⟩:=h;refine⟨rfl,by omega,by omega,rfl,?_⟩;have e:l=l.take k++l[k]::l.drop (k+1):=by rw[<- t6 h1,C9]
 have e2:(l.take k).filter (λx=>!p x)=l.take k:=by
  rw[W2];intro x hx;obtain⟨i,hi,rfl⟩:=List.mem_iff_getElem.1 hx;rw[a0a];have:=h3 i (by simp at hi;omega);simpa using this
 conv=>rhs;rw[e]
 rw[R7,e2,S9 (by simp[h2])]
theorem DelF.skip {p:Fnd->Bool} {l m:List Fnd} {i j:Nat} (h:DelF p l m i j) (hj:j<l.length) (hp:p (m.getD j Fnd.zero)=true):DelF p l m i (j+1):=by
 obtain⟨h1,h2,h3,h4,h5⟩:=h;have e1:m[j]? =l[j]?:=by have:=congrArg (λz=>z[0]?) h4;simpa using this
 have hx:l[j]=m.getD j Fnd.zero:=by rw[d7,e1,c9 hj,j3]
 refine⟨h1,by omega,by omega,?_,?_⟩
 ·have:=congrArg (List.drop 1) h4;simpa[C0]using this
 ·rw[<- h5,t6 hj,S9 (by rw[hx,hp];simp)]
theorem DelF.keep {p:Fnd->Bool} {l m:List Fnd} {i j:Nat} (h:DelF p l m i j) (hj:j<l.length) (hp:p (m.getD j Fnd.zero)=false):DelF p l (m.set i (m.getD j Fnd.zero)) (i+1) (j+1):=by
 obtain⟨h1,h2,h3,h4,h5⟩:=h;have e1:m[j]? =l[j]?:=by have:=congrArg (λz=>z[0]?) h4;simpa using this
 have hx:l[j]=m.getD j Fnd.zero:=by rw[d7,e1,c9 hj,j3]
 refine⟨by simp[h1],by omega,by omega,?_,?_⟩
 ·rw[List.drop_set_of_lt (by omega)];have:=congrArg (List.drop 1) h4;simpa[C0]using this
 ·rw[<- h5,t6 hj,a2v (by rw[hx,hp];simp),hx,a3U,D3,c9 (by omega)];rw[R0 _ _ (by simp;omega)];simp[j9,L8 (show i<=m.length by omega)]
theorem b4n (c:Nat) (cs:List Value) (p:Fnd->Bool) (A:Atom) (hcal:K0 Tryz.prog c=true) (hf:∀x,Fn Tryz.prog c (fdV x::cs) [A] (λv As=>v= .bool (p x)/\As=[A]))
  (a:Option Nat) (n cap:Nat) (l:List Fnd) (hl:l.length=n) (hn:n<=4611686018427387904):FP 167 [slv a n cap,fnC c cs] [m9 180 25 a n cap (H0 l),A]
  (λv As=>∃l',l'=l.filter (λx=>!p x)/\v=slv a l'.length cap/\As=[m9 180 25 a l'.length cap (H0 l'),A]):=by
 refine FE [0,0] Tryz.func167 λX F hX=>?_;refine J.qp (b5M c cs p A hcal l (λx _=>hf x) a n cap hl hn) [1,2] λ_=>?_;rw[b9I];cases hx:l.findIdx? p with
 | none=>
  dsimp only;refine J.qT λ_=>?_;refine J.qr [1,2] λ_=>?_;have:l.filter (λx=>!p x)=l:=by
   rw[W2];intro x hm;rw[D0]at hx;simp[hx x hm]
  exact⟨l,this.symm,by rw[hl],by rw[hl];rfl⟩
 | some k=>
  dsimp only;refine J.qd (λ_ h0=>?_) λ_ h0=>?_
  ·simp only[A4]at h0;omega
  have hk:k<n:=by rw[n9]at hx;obtain⟨h1,_⟩:=hx;omega
  cases a with
  | none=>
   refine J.know (λh' s=>(s.get (i:=1) rfl).2.1) λhn0=>?_;omega
  | some g=>
   refine J.openOwn 1 rfl rfl (λ_=>rfl) λr q1 q2 q3 q4=>?_;refine J.q λ_=>?_;rw[show(k:Int)+1=((k+1:Nat):Int)from by omega];refine J.q λ_=>?_;refine J.l (α:=(Nat×Nat×List Fnd)) (λx=>DelF p l x.2.2 x.1 x.2.1) (λx=>[si 6 x.2.1,si 5 x.1,sv 0 (slv (some g) n cap),⟨1,fnC c cs,0, .tt⟩]) [1] (λx=>[.pt g 180 (H0 x.2.2++r)]) (λx=>n-x.2.1) ((k,k+1,l)) (DelF.start hx) λx hI=>?_;obtain⟨i,j,m⟩:=x;dsimp only at hI ⊢;have hml:m.length=n:=hI.1.trans hl;have hij:i<j:=hI.2.1;have hjn:j<=n:=by have:=hI.2.2.1;omega
   refine J.qd (λ_ h1=>?_) λ_ h1=>?_
   ·simp only[d5,i5]at h1;have hget:m[j]? =some (m.getD j Fnd.zero):=by rw[d7,c9 (by omega),j3]
    refine J.q λ_=>?_;refine J.v (fdV (m.getD j Fnd.zero)) rfl rfl (λhg a w he hs=>?_) ?_
    ·exact H9 tk rfl rfl he rfl rfl rfl (hs.get (i:=1) rfl) (by rw[show 0+(j:Int).toNat*25=j*25 from by omega];exact a9W m r _ _ hget) rfl
    refine J.q λ_=>?_;refine J.call hX hcal (hf (m.getD j Fnd.zero)) [2] 0 rfl rfl rfl rfl (by(repeat' (first | exact Conj.nil | refine Conj.cons ?_ ?_ | omega | exact hq0 | (simpa using hq0) | (exactλh=>h) | exact rfl | (intro hq;have hq0:=hq;try simp only[f7,j6,d5,i4,c8]at hq) | (simp;done) | (simp;omega) | decide))) rfl rfl (λ_=>rfl) ?_;refine cpq ⟨_,rfl,trivial,?_⟩;refine J.qd (λ_ h2=>?_) λ_ h2=>?_
    ·simp only[i4]at h2;refine J.q λ_=>?_;refine J.storeN hX tk 1 rfl rfl rfl rfl rfl rfl rfl rfl rfl rfl rfl rfl rfl ?_ (H0 (m.set i (m.getD j Fnd.zero))++r) ?_ rfl (λ_=>rfl) ⟨trivial,?_⟩
     ·rw[f8,W7];show 0+(i:Int).toNat*25+25<=_;omega
     ·rw[show 0+(i:Int).toNat*25=i*25 from by omega];exact a8v m r i _ (by omega)
     refine J.q λ_=>?_;refine J.n ((i+1,j+1,m.set i (m.getD j Fnd.zero))) (hI.keep (by omega) h2) (by dsimp only;omega) [0,1,2]
    ·simp only[A9]at h2;refine J.q λ_=>?_;refine J.n ((i,j+1,m)) (hI.skip (by omega) h2) (by dsimp only;omega) [0,1,2]
   ·simp only[c8,i5]at h1;obtain rfl:j=n:=by omega
    have hfil:m.take i=l.filter (λx=>!p x):=by
     have h5:=hI.2.2.2.2;rw[E7 (by omega)]at h5;simpa using h5
    refine J.q λ_=>?_;refine J.clear hX tk 1 rfl rfl rfl rfl rfl rfl rfl rfl rfl rfl rfl ?_ (λ_=>rfl) (λ_=>rfl) λcs' z1 z2=>⟨trivial,?_⟩
    ·rw[f8,W7];rw[W7]at q4;show 0+(i:Int).toNat*25+(j-(i:Int).toNat)*25<=_;have:(i:Int).toNat=i:=by omega
     rw[this];omega
    have hilen:(l.filter (λx=>!p x)).length=i:=by rw[<- hfil,j9];omega
    refine J.closeOwn (e:=180) (size:=25) (n:=i) (cap:=cap) (xs:=H0 (l.filter (λx=>!p x))) 1 rfl rfl (by rw[W7,hilen]) (by omega) q3 (by rw[z1,f8,W7,hml];rw[W7,hl]at q4;exact q4) ?_ rfl ?_
    ·have z3:(0+(i:Int).toNat*25)=i*25:=by omega
     rw[z3]at z2;rw[z2,<- hfil];have e:H0 m=H0 (m.take i)++H0 (m.drop i):=by
      conv=>lhs;rw[<- C9 i m]
      simp only[H0,K1]
     rw[e,m7,D6 (by rw[W7,j9,L8 (by omega)])]
    refine J.qr [1,2] λ_=>?_;exact⟨_,rfl,by rw[hilen];rfl,by rw[hilen];rfl⟩
structure FSlot where
 a:Option Nat
 cap:Nat
 l:List Fnd
def FSlot.hdr (z:FSlot):Value:=slv z.a z.l.length z.cap
def FSlot.atom (z:FSlot):Atom:=m9 180 25 z.a z.l.length z.cap (H0 z.l)
def a3L (Z:List FSlot):List Value:=Z.map FSlot.hdr
def a5o (Z:List FSlot):List Atom:=Z.map FSlot.atom
theorem b1X {Z:List FSlot} {k:Nat} {z:FSlot} (h:Z[k]? =some z):(a3L Z)[0+(k:Int).toNat*1]? =some z.hdr:=by
 rw[show 0+(k:Int).toNat*1=k from by omega,a3L,i9,h];rfl
theorem a5n {Z:List FSlot} {k:Nat} {z:FSlot} (h:Z[k]? =some z):(a5o Z)[k]? =some z.atom:=by
 rw[a5o,i9,h];rfl
theorem a6d {Z:List FSlot} {k:Nat} {z:FSlot} (h:Z[k]? =some z):(a5o Z).set k z.atom=a5o Z:=by
 apply x9;intro i;rw[z8];split
 ·rename_i e;subst e;split
  ·exact(a5n h).symm
  ·rename_i e2;rw[j5 (by omega)]
 ·rfl
theorem b8b (Z:List FSlot) (k:Nat) (z:FSlot):(a5o Z).set k z.atom=a5o (Z.set k z):=by rw[a5o,a5o,L7]
theorem b7J (Z:List FSlot) (k:Nat) (z:FSlot):(a3L Z).set k z.hdr=a3L (Z.set k z):=by rw[a3L,a3L,L7]
def V.standOf (l:List Fnd):Fnd×Bool:=match V.tops l with
 | []=>(Fnd.zero,false)
 | f::_=>(f,true)
def ScP (sp p g:Nat) (Z:List FSlot):List Atom:=[.pt sp 176 [pp p, .slice (some ⟨g,0,none⟩) Z.length Z.length], .pt g 177 (a3L Z), .hp (HP.of (a5o Z))]
theorem b5U (sp p g:Nat) (Z:List FSlot) (k:Nat) (z:FSlot) (hz:Z[k]? =some z) (hn:Z.length<=100000) (hl:z.l.length<=100000):FP 102 [pp sp,iI k] (ScP sp p g Z)
  (Ps (.tuple #[fdV (V.standOf z.l).1, .bool (V.standOf z.l).2]) (ScP sp p g Z)):=by
 have hk:k<Z.length:=(List.getElem?_eq_some_iff.1 hz).1;refine FE [2,0] Tryz.func102 λX F hX=>?_;refine J.q λ_=>?_;refine J.v z.hdr rfl rfl (λhg a w he hs=>?_) ?_
 ·exact D4 tk rfl rfl he rfl rfl rfl (hs.get (i:=2) rfl) (b1X hz)
 refine J.openAt 3 k rfl rfl (a5n hz) rfl ?_;refine J.qc (b5T z.a z.l.length z.cap z.l rfl hl) [5] λ_=>?_;rintro v As ⟨a',c',rfl,rfl⟩;refine⟨_,rfl,trivial,?_⟩;have hv:V.standOf z.l=match V.tops z.l with
  | []=>(Fnd.zero,false)
  | f::_=>(f,true):=rfl
 rcases ht:V.tops z.l with _ | ⟨f,o⟩
 ·rw[ht]at hv;refine J.qT λ_=>?_;refine J.q λ_=>?_;refine J.closeAt (A:=z.atom) 3 5 k rfl rfl rfl ?_;rw[a6d hz];refine J.qr [1,2,3] λ_=>?_;exact⟨by rw[hv];rfl,rfl⟩
 ·rw[ht]at hv;refine J.know (λh' s=>D1 (c:=(a',c')) (by simp) (s.get (i:=6) rfl)) λhg=>?_;obtain⟨ga,rfl⟩:=hg;refine J.qd (λ_ h1=>?_) λ_ h1=>?_
  ·simp only[A4,l5]at h1;omega
  refine J.q λ_=>?_;refine J.v (fdV f) rfl rfl (λhg a w he hs=>?_) ?_
  ·exact J8 tk rfl rfl he rfl rfl rfl (hs.get (i:=6) rfl) rfl rfl
  refine J.q λ_=>?_;refine J.closeAt (A:=z.atom) 3 5 k rfl rfl rfl ?_;rw[a6d hz];refine J.qr [1,2,3] λ_=>?_;exact⟨by rw[hv];rfl,rfl⟩
theorem b5V (A:Atom) (x:Fnd):FP 169 [fdV x] [A] (Ps (.bool (!x.whole)) [A]):=by
 refine FE [0] Tryz.func169 λX F hX=>?_;exact J.qx [1]
theorem b8D (sp p g:Nat) (Z:List FSlot) (k:Nat) (z:FSlot) (hz:Z[k]? =some z) (hn:Z.length<=100000) (hl:z.l.length<=100000):FP 105 [pp sp,iI k] (ScP sp p g Z)
  (λv As=>∃a c,v=slv a (V.holds z.l).length c/\As=ScP sp p g Z++[m9 3 1 a (V.holds z.l).length c (A5 (V.holds z.l))]):=by
 have hk:k<Z.length:=(List.getElem?_eq_some_iff.1 hz).1;refine FE [2,0] Tryz.func105 λX F hX=>?_;refine J.q λ_=>?_;refine J.v z.hdr rfl rfl (λhg a w he hs=>?_) ?_
 ·exact D4 tk rfl rfl he rfl rfl rfl (hs.get (i:=2) rfl) (b1X hz)
 refine J.openAt 3 k rfl rfl (a5n hz) rfl ?_;refine J.qc (b5P z.a z.l.length z.cap z.l rfl (by omega)) [4] λ_=>?_;rintro v As ⟨a1,c1,rfl,rfl⟩;refine⟨_,rfl,trivial,?_⟩;refine J.closeAt (A:=z.atom) 3 4 k rfl rfl rfl ?_;rw[a6d hz];refine J.q λ_=>?_;refine J.ca hX (by kernel_rfl) (b4n 169 [] (λx=>!x.whole) (.pt sp 176 [pp p, .slice (some ⟨g,0,none⟩) Z.length Z.length]) (by kernel_rfl) (λx=>b5V _ x) a1 z.l.length c1 z.l rfl (by omega)) [5,1] 0 rfl rfl rfl rfl rfl rfl (λ_=>rfl) ?_;rintro v As ⟨l',hl',rfl,rfl⟩;refine⟨_,rfl,trivial,?_⟩;have hl2:l'=z.l.filter λf=>f.whole:=by rw[hl'];congr 1;funext x;simp
 have hll:l'.length<=z.l.length:=by rw[hl'];exact H8 _ _
 have htl:=a7p l';have hh:V.holds z.l=(V.tops l').map (·.block):=by rw[hl2];rfl
 refine J.qc (b5T a1 l'.length c1 l' rfl (by omega)) [5] λ_=>?_;rintro v As ⟨a2,c2,rfl,rfl⟩;refine⟨_,rfl,trivial,?_⟩;refine J.turn1 [] rfl (As:=[m9 3 1 none 0 0 (A5 [])]) (λh s=>Sep.one ⟨rfl,rfl,rfl⟩) rfl ?_;refine J.q λ_=>?_;refine J.l (α:=(Nat×Option Nat×Nat)) (λw=>w.1<=(V.tops l').length) (λw=>[si 21 w.1,⟨20,iI (V.tops l').length,0, .tt⟩,sv 19 (slv a2 (V.tops l').length c2),sv 6 (slv w.2.1 w.1 w.2.2)]) [7] (λw=>[m9 3 1 w.2.1 w.1 w.2.2 (A5 (((V.tops l').take w.1).map (·.block)))]) (λw=>(V.tops l').length-w.1) ((0,none,0)) (j7 _) λw hI=>?_;obtain⟨j,a3,c3⟩:=w;dsimp only at hI ⊢;refine J.qd (λ_ h1=>?_) λ_ h1=>?_
 ·simp only[d5,i5]at h1;obtain⟨x,hx⟩:∃x,(V.tops l')[j]? =some x:=⟨_,c9 h1⟩;have htk:((V.tops l').take (j+1)).map (·.block)=((V.tops l').take j).map (·.block)++[x.block]:=by rw[D3,hx];simp
  refine J.know (λh' s=>D1 (c:=(a2,c2)) (by omega) (s.get (i:=6) rfl)) λhg=>?_;obtain⟨ga,rfl⟩:=hg;refine J.q λ_=>?_;refine J.v (fdV x) rfl rfl (λhg a w he hs=>?_) ?_
  ·exact J8 tk rfl rfl he rfl rfl rfl (hs.get (i:=6) rfl) (by rw[show 0+(j:Int).toNat*25=j*25 from by omega];exact a1V hx) rfl
  refine J.q λ_=>?_;refine J.ap 7 9 0 ((a1p _ x.block).symm.trans (congrArg A5 htk.symm)) λa4 c4=>?_;refine J.q λ_=>?_;refine J.n ((j+1,a4,c4)) (by dsimp only;omega) (by dsimp only;omega) [0,1,2,3,4,5,6,7]
 ·simp only[c8,i5]at h1;obtain rfl:j=(V.tops l').length:=by omega
  rw[S8,<- hh];refine J.qr [1,2,3,7] λ_=>?_;have hlen:(V.tops l').length=(V.holds z.l).length:=by rw[hh,l7]
  rw[hlen];exact⟨a3,c3,rfl,rfl⟩
end
section
open Go Go.Shelf
def b8X:Ren:=⟨λn=>if n=125 then 171 else if n=128 then 216 else if n=129 then 217 else if n=189 then 106 else if n=215 then 194 else if n=216 then 213 else if n=257 then 170 else if n=294 then 207 else if n=295 then 208 else if n=296 then 209 else if n=297 then 210 else if n=298 then 211 else if n=299 then 212 else if n=300 then 214 else if n=301 then 215 else if n=328 then 243 else if n=329 then 244 else if n=330 then 245 else if n=331 then 246 else if n=332 then 247 else if n=343 then 263 else 0,λn=>if n=0 then 0 else if n=3 then 3 else if n=4 then 4 else if n=5 then 5 else if n=9 then 9 else if n=28 then 24 else if n=46 then 146 else if n=51 then 274 else if n=53 then 276 else if n=131 then 271 else if n=182 then 266 else if n=183 then 267 else if n=218 then 307 else if n=222 then 305 else if n=228 then 320 else if n=229 then 321 else 0,λn=>n⟩
theorem b7l:Lays.n189 Tryz.prog b8X where
 mixed:=by kernel_rfl
 f125:=by kernel_rfl
 f128:=by kernel_rfl
 f129:=by kernel_rfl
 f189:=by kernel_rfl
 f215:=by kernel_rfl
 f216:=by kernel_rfl
 f257:=by kernel_rfl
 f294:=by kernel_rfl
 f295:=by kernel_rfl
 f296:=by kernel_rfl
 f297:=by kernel_rfl
 f298:=by kernel_rfl
 f299:=by kernel_rfl
 f300:=by kernel_rfl
 f301:=by kernel_rfl
 f328:=by kernel_rfl
 f329:=by kernel_rfl
 f330:=by kernel_rfl
 f331:=by kernel_rfl
 f332:=by kernel_rfl
 f343:=by kernel_rfl
 t0:=by kernel_rfl
 a0:=λw=>by kernel_rfl
 z0:=λw=>by kernel_rfl
 v0:=λw=>by kernel_rfl
 t3:=by kernel_rfl
 a3:=λw=>by kernel_rfl
 z3:=λw=>by kernel_rfl
 v3:=λw=>by kernel_rfl
 t4:=by kernel_rfl
 a4:=λw=>by kernel_rfl
 z4:=λw=>by kernel_rfl
 v4:=λw=>by kernel_rfl
 t5:=by kernel_rfl
 a5:=λw=>by kernel_rfl
 z5:=λw=>by kernel_rfl
 v5:=λw=>by kernel_rfl
 t9:=by kernel_rfl
 a9:=λw=>by kernel_rfl
 z9:=λw=>by kernel_rfl
 v9:=λw=>by kernel_rfl
 t28:=by kernel_rfl
 a28:=λw=>by kernel_rfl
 z28:=λw=>by kernel_rfl
 v28:=λw=>by kernel_rfl
 t46:=by kernel_rfl
 a46:=λw=>by kernel_rfl
 z46:=λw=>by kernel_rfl
 v46:=λw=>by kernel_rfl
 t51:=by kernel_rfl
 a51:=λw=>by kernel_rfl
 z51:=λw=>by kernel_rfl
 v51:=λw=>by kernel_rfl
 t53:=by kernel_rfl
 a53:=λw=>by kernel_rfl
 z53:=λw=>by kernel_rfl
 v53:=λw=>by kernel_rfl
 t131:=by kernel_rfl
 a131:=λw=>by kernel_rfl
 z131:=λw=>by kernel_rfl
 v131:=λw=>by kernel_rfl
 t182:=by kernel_rfl
 a182:=λw=>by kernel_rfl
 z182:=λw=>by kernel_rfl
 v182:=λw=>by kernel_rfl
 t183:=by kernel_rfl
 a183:=λw=>by kernel_rfl
 z183:=λw=>by kernel_rfl
 v183:=λw=>by kernel_rfl
 t218:=by kernel_rfl
 a218:=λw=>by kernel_rfl
 z218:=λw=>by kernel_rfl
 v218:=λw=>by kernel_rfl
 t222:=by kernel_rfl
 a222:=λw=>by kernel_rfl
 z222:=λw=>by kernel_rfl
 v222:=λw=>by kernel_rfl
 t228:=by kernel_rfl
 a228:=λw=>by kernel_rfl
 z228:=λw=>by kernel_rfl
 v228:=λw=>by kernel_rfl
 t229:=by kernel_rfl
 a229:=λw=>by kernel_rfl
 z229:=λw=>by kernel_rfl
 v229:=λw=>by kernel_rfl
end
section
open Go Go.RowKit
def leI (x y:Int):Bool:=decide (x<=y)
def a0K (l:List Int):List Int:=l.mergeSort leI
theorem a2x (l:List Int):(a0K l).length=l.length:=by rw[a0K,List.length_mergeSort]
theorem b5m {g n cap:Nat} {l:List Int} {w:World} (hl':l.length=n) (h:a0V 3 1 (some g) n cap (A5 l) (hl w)):Go.Sort.Holds (Value.int .i64) w g 0 l.toArray:=by
 obtain⟨h0,cur,h1,h2,h3,h4,h5⟩:=h;have h1':w.heap[g]? =some (.cells cur 3 (0,0)):=h1;intro j hj;have hj':j<l.length:=by simpa using hj
 have hc:cur.toList[j]? =some (.int .i64 l[j]):=by
  have:(cur.toList.take (n*1))[j]? =(A5 l)[j]?:=by rw[h5]
  rw[List.getElem?_take_of_lt (by omega)]at this;rw[this,A5,i9,c9 hj'];rfl
 have hg:l.toArray[j]! =l[j]:=by simp[hj']
 rw[hg];refine⟨?_,?_⟩
 ·simp only[World.cell?,J6,h1'];rw[D5]at hc;simp[hc]
 ·simp[World.frozen?,h1']
theorem b8x (a:Option Nat) (n cap:Nat) (l:List Int) (hl':l.length=n) (hn:n<=1000000):Fn Tryz.prog 106 [slv a n cap] [m9 3 1 a n cap (A5 l)]
  (λv As=>v= .tuple #[]/\As=[m9 3 1 a n cap (A5 (a0K l))]):=by
 cases a with
 | none=>
  intro F w s;have h0:n=0:=(s.get (i:=1) rfl).2.1;subst h0;have:l=[]:=n5 hl';subst this;have e:a0K []=a0g []:=by rw[a0K,List.mergeSort_nil];rfl
  rw[e];exact a7B none 0 cap [] rfl (by omega) F w s
 | some g=>
  intro F w s;have ho:a0V 3 1 (some g) n cap (A5 l) (hl w):=s.get (i:=1) rfl;have hH:=b5m hl' ho;obtain⟨h0,cur,h1,h2,h3,h4,h5⟩:=ho;have h1':w.heap[g]? =some (.cells cur 3 (0,0)):=h1;have hlt:g<w.heap.size:=(Array.getElem?_eq_some_iff.1 h1').1;have hc:=Any.slices_Sort_int b7l g 0 cap l w hH hlt (by omega);subst hl';refine Calls.mono hc λe w' ⟨e1,m,os,e2⟩=>?_;subst e1;have hsz:w.heap.size<=w'.heap.size:=by rw[e2];simp[Go.Sort.grow]
  have hother:∀k,k<w.heap.size->some k≠some g->w'.heap[k]? =w.heap[k]?:=λk hk hne=>by
   rw[e2];have:g≠k:=λe=>hne (by rw[e]);show(w.heap.modify g (Go.Sort.onCells (Go.Sort.putCells (Value.int .i64) 0 (a0K l).toArray))++os)[k]? =_;rw[Array.getElem?_append_left (by rw[Array.size_modify];exact hk),X9,d6 this]
  have hthis:w'.heap[g]? =some (.cells (Go.Sort.putCells (Value.int .i64) 0 (a0K l).toArray cur) 3 (0,0)):=by
   rw[e2];show(w.heap.modify g (Go.Sort.onCells (Go.Sort.putCells (Value.int .i64) 0 (a0K l).toArray))++os)[g]? =_;rw[Array.getElem?_append_left (by rw[Array.size_modify];exact hlt),X9,d8 rfl,h1'];rfl
  have hgr:w.grownBy w' (some g):=⟨by rw[e2];rfl,by rw[e2];rfl,by rw[e2];rfl,hsz,hother⟩;refine⟨.tuple #[],_,rfl,⟨rfl,rfl⟩,?_,⟨hgr.os,hgr.tape,hgr.output,hsz⟩⟩;refine Sep.step s (i:=1) (A:=m9 3 1 (some g) l.length cap (A5 l)) rfl (x:=some g) (x':=some g) (λh g' hs e=>?_) hgr (.inl rfl) (λh hh=>?_)
  ·injection e with e;subst e;obtain⟨_,cur',q,_⟩:=hs;exact⟨_,q⟩
  ·refine⟨by rw[A5,l7,a2x,V0],_,(hh g rfl).trans hthis,h2,h3,?_,?_⟩
   ·rw[Go.Sort.putCells,Array.size_mapIdx];exact h4
   ·apply x9;intro i;rw[V0,C2];split
    ·rename_i hi;have hi2:i<(a0K l).length:=by rw[a2x];exact hi
     rw[D5,Go.Sort.putCells,Array.getElem?_mapIdx,M9 (by omega),C6,d8 ⟨j7 _,by simpa using hi2⟩,A5,i9,c9 hi2];simp[hi2]
    ·rw[j5 (by rw[A5,l7,a2x];omega)]
end
section
structure Scd where
 tb:Tb
 torn:List En
 first:Nat
 held:List Int
 next:Int
 pages:Nat
structure Sst where
 tb:Tb
 torn:List En
 held:List Int
 others:List En
namespace V
def nextOf (l:List Fnd):Int:=l.foldl (λm f=>max m (f.en.seq+1)) 1
def step (N:Nand) (L:List Fnd) (s:Sst) (k:Nat):Sst:=
 if(standOf (of L k)).2=true then
  if(standOf (of L k)).1.whole=true then {s with tb:=s.tb.put (standOf (of L k)).1.en (standOf (of L k)).1.block (standOf (of L k)).1.row (standOf (of L k)).1.slot (standOf (of L k)).1.mask}
  else if last N (standOf (of L k)).1=true then⟨s.tb.put (standOf (of L k)).1.en (standOf (of L k)).1.block (standOf (of L k)).1.row (standOf (of L k)).1.slot (standOf (of L k)).1.mask,s.torn++[(standOf (of L k)).1.en],s.held++holds (of L k),s.others⟩
  else⟨s.tb.put (standOf (of L k)).1.en (standOf (of L k)).1.block (standOf (of L k)).1.row (standOf (of L k)).1.slot (standOf (of L k)).1.mask,s.torn,s.held,s.others++[(standOf (of L k)).1.en]⟩
 else s
def goS (N:Nand) (L:List Fnd) (n:Int) (k:Nat):Sst:=(List.range k).foldl (step N L) ⟨Tb.new n,[],[],[]⟩
def size (n:Int):Nat:=(min (max n 0) 65536).toNat
def scanOf (N:Nand) (L:List Fnd) (n:Int):Scd:=⟨(goS N L n (size n)).tb,(goS N L n (size n)).torn++(goS N L n (size n)).others,(goS N L n (size n)).torn.length,J9 (a0K (goS N L n (size n)).held),nextOf L,L.length⟩
def scan (N:Nand) (n:Int):Scd:=scanOf N (all N) n
theorem goS_succ (N:Nand) (L:List Fnd) (n:Int) (k:Nat):goS N L n (k+1)=step N L (goS N L n k) k:=by unfold goS;rw[s9,B3];rfl
theorem step_tb (N:Nand) (L:List Fnd) (s:Sst) (k:Nat):(step N L s k).tb=s.tb\/(standOf (of L k)).2=true/\(step N L s k).tb=s.tb.put (standOf (of L k)).1.en (standOf (of L k)).1.block (standOf (of L k)).1.row (standOf (of L k)).1.slot (standOf (of L k)).1.mask:=by
 unfold step;split
 ·right;rename_i h;refine⟨h,?_⟩;split
  ·rfl
  ·split<;>rfl
 ·left;rfl
theorem goS_ok (N:Nand) (L:List Fnd) (n:Int):∀k,(goS N L n k).tb.Ok
 | 0=>Tb.Ok.new n
 | k+1=>by
  rw[goS_succ];rcases step_tb N L (goS N L n k) k with h | ⟨_,h⟩
  ·rw[h];exact goS_ok N L n k
  ·rw[h];exact(goS_ok N L n k).put _ _ _ _ _
theorem goS_log (N:Nand) (L:List Fnd) (n:Int):∀k,(goS N L n k).tb.logical=min (max n 0) 65536
 | 0=>rfl
 | k+1=>by
  rw[goS_succ];rcases step_tb N L (goS N L n k) k with h | ⟨_,h⟩
  ·rw[h];exact goS_log N L n k
  ·rw[h,Tb.put_logical];exact goS_log N L n k
theorem tops_mem {l:List Fnd} {f:Fnd}:f∈tops l->f∈l:=by
 have:∀k,k<=l.length->∀f∈tops (l.take k),f∈l:=by
  intro k
  induction k with
  | zero=>intro _ f hf;simp[tops]at hf
  | succ k ih=>
   intro hk f hf;rw[a5L (c9 (by omega))]at hf;have ih:=ih (by omega);have hx:l[k]∈l:=H6 _
   revert hf ih
   generalize tops (l.take k)=o;intro hf ih;cases o with
   | nil=>simp[topsStep]at hf;rw[hf];exact hx
   | cons h t=>
    simp only[topsStep]at hf;split at hf
    ·simp at hf;rw[hf];exact hx
    ·split at hf
     ·exact ih f hf
     ·rw[L9]at hf;rcases hf with hf | hf
      ·exact ih f hf
      ·simp at hf;rw[hf];exact hx
 intro h;refine this l.length (i7 _) f ?_
 rwa [S8]
theorem standOf_mem {l:List Fnd} (h:(standOf l).2=true):(standOf l).1∈l:=by
 have hm:∀f,f∈tops l->f∈l:=λf=>tops_mem
 revert h
 unfold standOf;cases ht:tops l with
 | nil=>intro h;cases h
 | cons f o=>intro _;exact hm f (by rw[ht];exact H1 ..)
theorem of_len (L:List Fnd) (k:Int):(of L k).length<=L.length:=H8 _ _
theorem holds_len (l:List Fnd):(holds l).length<=l.length:=by
 unfold holds;rw[l7];exact I7 (a7p _) (H8 _ _)
theorem of_sum (L:List Fnd):∀k,((List.range k).map λi:Nat=>(of L (i:Int)).length).sum<=L.length:=by
 intro k
 induction L with
 | nil=>
  have:∀k:Nat,((List.range k).map λi:Nat=>(of [] (i:Int)).length).sum=0:=λk=>by
   induction k with
   | zero=>rfl
   | succ k ih=>rw[s9,t7,List.sum_append,ih];rfl
  rw[this];exact j7 _
 | cons x L ih=>
  have h1:∀i:Nat,(of (x::L) (i:Int)).length=(of L (i:Int)).length+(if x.en.lpn=(i:Int)then 1 else 0):=by
   intro i;unfold of;rw[W9];split
   ·rename_i h;simp only[A4]at h;rw[d8 h,l5]
   ·rename_i h;simp only[A4]at h;rw[d6 h];rfl
  have h2:∀k,((List.range k).map λi:Nat=>(of (x::L) (i:Int)).length).sum<=((List.range k).map λi:Nat=>(of L (i:Int)).length).sum+(if 0<=x.en.lpn/\x.en.lpn<(k:Int)then 1 else 0):=by
   intro k
   induction k with
   | zero=>simp
   | succ k ih=>
    rw[s9,t7,List.sum_append,t7,List.sum_append];simp only[n4,R5,a1X,List.sum_nil,R3];rw[h1];split at ih<;>split<;>split<;>omega
  have:=h2 k;rw[l5];split at this<;>omega
theorem goS_len (N:Nand) (L:List Fnd) (n:Int):∀k,(goS N L n k).torn.length<=k/\(goS N L n k).others.length<=k/\(goS N L n k).held.length<=((List.range k).map λi:Nat=>(of L (i:Int)).length).sum
 | 0=>by simp[goS]
 | k+1=>by
  have ih:=goS_len N L n k;have hh:=holds_len (of L k);rw[goS_succ,s9,t7,List.sum_append];simp only[n4,R5,a1X,List.sum_nil,R3];unfold step;split
  ·split
   ·dsimp only;omega
   ·split
    ·simp only[f8,l5,a0P];omega
    ·simp only[f8,l5,a0P];omega
  ·omega
theorem goS_held (N:Nand) (L:List Fnd) (n:Int) (k:Nat):(goS N L n k).held.length<=L.length:=I7 (goS_len N L n k).2.2 (of_sum L k)
theorem nextOf_snoc (l:List Fnd) (f:Fnd):nextOf (l++[f])=max (nextOf l) (f.en.seq+1):=by unfold nextOf;rw[B3];rfl
theorem of_snoc (l:List Fnd) (f:Fnd) (k:Int):of (l++[f]) k=if f.en.lpn=k then of l k++[f]else of l k:=by
 unfold of;rw[R7,W9]
 by_cases h:f.en.lpn=k
 ·rw[d8 h,d8 (by simpa using h)];rfl
 ·rw[d6 h,d6 (by simpa using h)];simp
def upB (N:Nand) (b:Nat):List Fnd:=(List.range b).flatMap λb=>(List.range N.pages).flatMap λr=>R.all N (b:Nat) (r:Nat)
def upR (N:Nand) (b r:Nat):List Fnd:=upB N b++(List.range r).flatMap λr=>R.all N (b:Nat) (r:Nat)
def upI (N:Nand) (b r i:Nat):List Fnd:=upR N b r++(R.all N (b:Nat) (r:Nat)).take i
theorem upR_zero (N:Nand) (b:Nat):upR N b 0=upB N b:=by simp[upR]
theorem upI_zero (N:Nand) (b r:Nat):upI N b r 0=upR N b r:=by simp[upI]
theorem upR_succ (N:Nand) (b r:Nat):upR N b (r+1)=upI N b r (R.all N (b:Nat) (r:Nat)).length:=by
 unfold upI upR;rw[S8,s9,K1,m7];simp
theorem upB_succ (N:Nand) (b:Nat):upB N (b+1)=upR N b N.pages:=by
 unfold upR upB;rw[s9,K1];simp
theorem upB_all (N:Nand):upB N N.blocks=all N:=rfl
theorem upI_succ {N:Nand} {b r i:Nat} {x:Fnd} (h:(R.all N (b:Nat) (r:Nat))[i]? =some x):upI N b r (i+1)=upI N b r i++[x]:=by
 unfold upI;rw[D3,h,K7,m7]
theorem nextOf_bd {l:List Fnd} (h:∀f∈l,a6j f.en):1<=nextOf l/\nextOf l<=1099511627776:=by
 have:∀(l:List Fnd) (m:Int),(∀f∈l,a6j f.en)->1<=m->m<=1099511627776->1<=l.foldl (λm f=>max m (f.en.seq+1)) m/\l.foldl (λm f=>max m (f.en.seq+1)) m<=1099511627776:=by
  intro l
  induction l with
  | nil=>intro m _ h1 h2;exact⟨h1,h2⟩
  | cons x l ih=>
   intro m hl h1 h2;have:=hl x (H1 ..);unfold a6j at this;exact ih (max m (x.en.seq+1)) (λf hf=>hl f (E8 _ hf)) (by omega) (by omega)
 exact this l 1 h (by omega) (by omega)
end V
end
section
def a9t (l:List Int):List Int:=J9 (a0K l)
theorem a3d:∀(l:List Int) (p:Int),(p::l).Pairwise (· <= ·)->(L4 p l).Pairwise (· < ·)/\(∀c∈L4 p l,p<c)/\∀c,c∈L4 p l\/c=p↔c∈l\/c=p
 | [],p,_=>by simp[L4]
 | x::l,p,h=>by
  have h1:=List.pairwise_cons.1 h;simp only[L4]
  by_cases e:x=p
  ·subst e;obtain⟨a,b,c⟩:=a3d l x h1.2;rw[d8 rfl];refine⟨a,b,λd=>?_⟩;rw[c d,H7];constructor
   ·rintro(h | h)<;>simp[h]
   ·rintro((h | h) | h)<;>simp[h]
  ·obtain⟨a,b,c⟩:=a3d l x h1.2;have hx:p<x:=by have:=h1.1 x (H1 ..);omega
   rw[d6 e];refine⟨List.pairwise_cons.2 ⟨b,a⟩,λd hd=>?_,λd=>?_⟩
   ·rcases List.mem_cons.1 hd with rfl | hd
    ·exact hx
    ·have:=b d hd;omega
   ·have:=c d;rw[H7,H7];constructor
    ·rintro((h | h) | h)
     ·simp[h]
     ·rcases this.1 (.inl h)with h | h<;>simp[h]
     ·simp[h]
    ·rintro((h | h) | h)
     ·simp[h]
     ·rcases this.2 (.inl h)with h | h<;>simp[h]
     ·simp[h]
theorem b0k (l:List Int):(a0K l).Pairwise (· <= ·):=by
 have:=List.pairwise_mergeSort (le:=leI) (λa b c h1 h2=>by simp only[leI,d5]at*;omega) (λa b=>by simp only[leI,j6,d5];omega) l;exact this.imp (λh=>by simpa[leI]using h)
theorem b4x (l:List Int) (c:Int):c∈a0K l↔c∈l:=List.mem_mergeSort
theorem b2N (l:List Int):(a9t l).Pairwise (· < ·)/\∀c,c∈a9t l↔c∈l:=by
 have hs:=b0k l;have hm:=b4x l;unfold a9t
 revert hs hm
 cases a0K l with
 | nil=>intro _ hm;exact⟨by simp[J9],λc=>by rw[<- hm c];simp[J9]⟩
 | cons x m=>
  intro hs hm;obtain⟨a,b,c⟩:=a3d m x hs;refine⟨List.pairwise_cons.2 ⟨b,a⟩,λd=>?_⟩;rw[<- hm d];show d∈x::L4 x m↔_;rw[H7,H7];have:=c d;constructor
  ·rintro(h | h)
   ·simp[h]
   ·rcases this.1 (.inl h)with h | h<;>simp[h]
  ·rintro(h | h)
   ·simp[h]
   ·rcases this.2 (.inl h)with h | h<;>simp[h]
theorem a9s:a9t []=[]:=by have:=(b2N []).2;exact List.eq_nil_iff_forall_not_mem.2 (λc hc=>by simpa using(this c).1 hc)
theorem b4M (l:List Int):(a9t l).length<=l.length:=by
 have h:∀(l:List Int),(J9 l).length<=l.length:=λl=>by
  have:∀(l:List Int) (p:Int),(L4 p l).length<=l.length:=λl=>by
   induction l with
   | nil=>intro p;simp[L4]
   | cons x l ih=>intro p;simp only[L4];split<;>simp only[l5]<;>have:=ih x<;>have:=ih p<;>omega
  cases l with
  | nil=>simp[J9]
  | cons x l=>have:=this l x;simp only[J9,l5];omega
 have:=h (a0K l);rw[a2x]at this;exact this
namespace V
theorem standOf_nil:standOf []=(Fnd.zero,false):=rfl
theorem tops_snoc (l:List Fnd) (x:Fnd):tops (l++[x])=topsStep (tops l) x:=by unfold tops;rw[B3];rfl
theorem standOf_snoc (l:List Fnd) (x:Fnd):standOf (l++[x])=if(standOf l).2=false\/behind (standOf l).1 x=true then(x,true)else standOf l:=by
 unfold standOf;rw[tops_snoc];cases tops l with
 | nil=>simp[topsStep]
 | cons h t=>
  simp only[topsStep,Bool.true_eq_false,false_or]
  by_cases hb:behind h x=true
  ·rw[d8 hb,d8 hb]
  ·rw[d6 hb,d6 hb]
   by_cases hb2:behind x h=true
   ·rw[d8 hb2]
   ·rw[d6 hb2];rfl
end V
end
section
open Go
theorem a8c {N:Nand} {d b r:Int} (h:(N.blk d.toNat b.toNat).cells.length<=r.toNat):(M.look N d b r).2=2\/(M.look N d b r).2=4:=by
 have hp:N.pageAt d b r=none:=j5 h;have hr:N.refuses d b r=0\/N.refuses d b r=9\/N.refuses d b r=3\/N.refuses d b r=8:=by
  unfold Nand.refuses;split
  ·simp
  ·split
   ·simp
   ·split<;>simp
 have he:N.readE d b r=5\/N.readE d b r=9\/N.readE d b r=3\/N.readE d b r=8:=by
  unfold Nand.readE;rw[hp];rcases hr with e | e | e | e<;>rw[e]<;>simp
 unfold M.look;simp only;rcases he with e | e | e | e<;>rw[e]<;>simp
theorem b5D {N:Nand} {b r:Int} (h:∀d:Nat,(M.look N (d:Nat) b r).2≠1):R.all N b r=[]:=by
 have:(M.rowN N b r N.dies).filterMap M.maskOf=[]:=by
  refine List.filterMap_eq_nil_iff.2 λx hx=>?_;unfold M.rowN at hx;obtain⟨d,_,rfl⟩:=List.mem_map.1 hx;unfold M.maskOf;rw[d6 (h d)]
 unfold R.all M.masks;rw[this];rfl
def u8 (x:Int):UInt8:=UInt8.ofNat (x % 256).toNat
namespace V
theorem step_tb' (N:Nand) (L:List Fnd) (s:Sst) (k:Nat):(step N L s k).tb=if(standOf (of L k)).2=true then s.tb.put (standOf (of L k)).1.en (standOf (of L k)).1.block (standOf (of L k)).1.row (standOf (of L k)).1.slot (standOf (of L k)).1.mask else s.tb:=by
 unfold step
 by_cases h:(standOf (of L k)).2=true
 ·rw[d8 h,d8 h];split
  ·rfl
  ·split<;>rfl
 ·rw[d6 h,d6 h]
theorem look_put (t:Tb) (e:En) (b r s m:Int) (i:Int):Tb.look (t.put e b r s m).at_ i=if t.putB e=true/\i=e.lpn then some ⟨b,r,s,m,e.seq,e.role⟩else Tb.look t.at_ i:=by
 unfold Tb.put
 by_cases h:t.putB e=true
 ·rw[d8 h];show Tb.look (Tb.put1 t.at_ e.lpn _) i=_;rw[Tb.look_put1]
  by_cases hi:i=e.lpn
  ·rw[d8 hi,d8 ⟨h,hi⟩]
  ·rw[d6 hi,d6 (λh=>hi h.2)]
 ·rw[d6 h,d6 (λh'=>h h'.1)]
theorem goS_look (N:Nand) (L:List Fnd) (n:Int):∀k i:Nat,Tb.look (goS N L n k).tb.at_ (i:Int)=if i<k/\(standOf (of L i)).2=true/\Tb.ok (Tb.new n) (standOf (of L i)).1.en=true then some ⟨(standOf (of L i)).1.block,(standOf (of L i)).1.row,(standOf (of L i)).1.slot,(standOf (of L i)).1.mask,(standOf (of L i)).1.en.seq,(standOf (of L i)).1.en.role⟩else none
 | 0,i=>by rw[d6 (by omega)];rfl
 | k+1,i=>by
  have ih:=goS_look N L n k;have hlog:(goS N L n k).tb.logical=(Tb.new n).logical:=goS_log N L n k;rw[goS_succ,step_tb']
  by_cases hs:(standOf (of L k)).2=true
  ·have hlpn:(standOf (of L k)).1.en.lpn=k:=by
    have:=(List.mem_filter.1 (standOf_mem hs)).2;exact a4m this
   have hok:(goS N L n k).tb.putB (standOf (of L k)).1.en=Tb.ok (Tb.new n) (standOf (of L k)).1.en:=by
    unfold Tb.putB Tb.elder;rw[hlpn,ih k,d6 (by omega)];unfold Tb.ok;rw[hlog];simp
   rw[d8 hs,look_put,hok,hlpn,ih i]
   by_cases hik:i=k
   ·subst hik
    by_cases ho:Tb.ok (Tb.new n) (standOf (of L i)).1.en=true
    ·rw[d8 ⟨ho,rfl⟩,d8 ⟨by omega,hs,ho⟩]
    ·rw[d6 (λh=>ho h.1),d6 (by omega),d6 (λh=>ho h.2.2)]
   ·rw[d6 (λh=>hik (by omega))]
    by_cases hc:(standOf (of L i)).2=true/\Tb.ok (Tb.new n) (standOf (of L i)).1.en=true
    ·by_cases hlt:i<k
     ·rw[d8 ⟨hlt,hc⟩,d8 ⟨by omega,hc⟩]
     ·rw[d6 (λh=>hlt h.1),d6 (λh=>by omega)]
    ·rw[d6 (λh=>hc h.2),d6 (λh=>hc h.2)]
  ·rw[d6 hs,ih i]
   by_cases hik:i=k
   ·subst hik;rw[d6 (by omega),d6 (λh=>hs h.2.1)]
   ·by_cases hc:(standOf (of L i)).2=true/\Tb.ok (Tb.new n) (standOf (of L i)).1.en=true
    ·by_cases hlt:i<k
     ·rw[d8 ⟨hlt,hc⟩,d8 ⟨by omega,hc⟩]
     ·rw[d6 (λh=>hlt h.1),d6 (λh=>by omega)]
    ·rw[d6 (λh=>hc h.2),d6 (λh=>hc h.2)]
end V
end
end Go.Proofs.YtmafiplddapokaaGreat
