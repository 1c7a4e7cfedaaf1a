/- Helpers. No condition. -/
import Derived.Test.YtpakpgkdpofbhaaGreatC27
import Derived.Test.YtpakpgkdpofbhaaGreatC00
import Derived.Test.YtpakpgkdpofbhaaGreatC04
import Derived.Test.YtpakpgkdpofbhaaGreatC06
import Derived.Test.YtpakpgkdpofbhaaGreatC07
import Derived.Test.YtpakpgkdpofbhaaGreatC08
import Derived.Test.YtpakpgkdpofbhaaGreatC09
import Derived.Test.YtpakpgkdpofbhaaGreatC10
import Derived.Test.YtpakpgkdpofbhaaGreatC11
import Derived.Test.YtpakpgkdpofbhaaGreatRows
import Derived.ProofKit
import Derived.OpenShut
import Derived.ChangeOld
import Derived.Below
import Derived.Deep.Slices
import Derived.Deep.Strs
import Derived.Lib.SmallJoins
import Derived.JoinedOf
set_option maxRecDepth 20000
set_option linter.all false
namespace Go.Proofs.YtpakpgkdpofbhaaGreat
open Go Go.RowKit
theorem c2B (b r m:Int) (e:En) (h:e.data.length=16):FP 327 [iI b,iI r,iI m,enV e] [] (λv As=>v= .tuple #[shV (W.own b r m e), .bool (W.ok b r m e)]/\As=[]):=by
 refine FE [0,0,0,0] Tryz.func327 λX F hX=>?_;refine J.qp (b0F (W.sh b r m e) h) [] λ_=>?_;refine J.qd (λ_ h1=>?_) λ_ h1=>?_
 ·simp only[i7]at h1;refine J.qr [] λ_=>?_;exact⟨by rw[W.own,W.ok,h1];rfl,rfl⟩
 ·simp only[p9]at h1;refine J.qr [] λ_=>?_;exact⟨by rw[W.own,W.ok,h1];rfl,rfl⟩
namespace F9
def xo (m n:Int):Int:=IntKind.i64.wrap ((BitVec.ofInt IntKind.i64.bits m ^^^ BitVec.ofInt IntKind.i64.bits n).toNat:Int)
def mixS (a b:Sh) (k:Nat):Sh:=⟨W.mix a.data b.data k,a.role,a.lpn,a.seq,a.kind,a.block,a.row,a.mask⟩
def over (a b:Sh):Sh:=⟨W.mix a.data b.data 16,xo a.role b.role,xo a.lpn b.lpn,xo a.seq b.seq,a.kind,a.block,a.row,a.mask⟩
end F9
theorem b3R {s:Sh} (h:s.data.length=16) {k:Nat} (hk:k<16):(shL s)[k]? =some (bv (s.data.getD k 0)):=by
 have e:shL s=B1 s.data++[iI s.role,iI s.lpn,iI s.seq,iI s.kind,iI s.block,iI s.row,iI s.mask]:=rfl;rw[e,t7 (by show k<16;exact hk),a6d h hk]
theorem c0a {a b:Sh} (ha:a.data.length=16) (hb:b.data.length=16) {k:Nat} (hk:k<16):(shL (F9.mixS a b k)).set k (bv (a.data.getD k 0 ^^^ b.data.getD k 0))=shL (F9.mixS a b (k+1)):=by
 have e:∀s:Sh,shL s=B1 s.data++[iI s.role,iI s.lpn,iI s.seq,iI s.kind,iI s.block,iI s.row,iI s.mask]:=λs=>rfl;rw[e,e,H8 _ _ (by show k<16;exact hk)];show(B1 (W.mix a.data b.data k)).set k _++_=B1 (W.mix a.data b.data (k+1))++_;rw[a9L (a2Z ha hb k (by omega)),b4m ha hb hk];rfl
theorem c0V (a b:Sh) (ha:a.data.length=16) (hb:b.data.length=16):FP 326 [shV a,shV b] [] (λv As=>v=shV (F9.over a b)/\As=[]):=by
 refine FE [0,0] Tryz.func326 λX F hX=>?_;refine J.q λbb=>?_;refine J.lo (α:=Nat) (λi=>i<=16) (λi=>[si 5 i,⟨2,pp (bb 0),2, .tt⟩,⟨3,pp (bb (0+1)),3, .tt⟩,⟨4,pp (bb (0+1+1)),4, .tt⟩]) [1] (λi=>[.pt (bb 0) 240 (shL (F9.mixS a b i))]) (λi=>16-i) (0) (j4 _) rfl ?_ (λ_=>rfl) λi hI=>?_
 ·rw[show F9.mixS a b 0=a from by simp[F9.mixS,W.mix]];rfl
 have hml:=a2Z ha hb i hI;refine J.qd (λ_ h2=>?_) λ_ h2=>?_
 ·simp only[c9]at h2;have h3:i<16:=by omega
  refine J.pq (.of [0,4,8,13,16,20,24,29,32,36,40,47]) [10,11] [1,2,3] λ_ _=>?_;refine J.vT (bv (a.data.getD i 0)) rfl rfl (λhg a w he hC=>?_) ?_
  ·exact x9 tk rfl rfl he hg rfl rfl (hC rfl _ (r8 (i:=1) rfl)) (by rw[show 0+0+(i:Int).toNat*1=i from by omega,b3R hml h3];exact congrArg (λz=>some (bv z)) (b4n ha hb h3))
  refine J.q λ_=>?_;refine J.vT (bv (b.data.getD i 0)) rfl rfl (λhg a w he hC=>?_) ?_
  ·exact x9 tk rfl rfl he hg rfl rfl (hC rfl _ (r8 (i:=2) rfl)) (by rw[show 0+0+(i:Int).toNat*1=i from by omega];exact b3R hb h3)
  refine J.q λ_=>?_;refine J.s1 1 (shL (F9.mixS a b (i+1))) ?_ ?_ ?_
  ·show 0+0+(i:Int).toNat*1<23;omega
  ·rw[show 0+0+(i:Int).toNat*1=i from by omega,b3I];exact c0a ha hb h3
  refine J.q λ_=>?_;refine J.nx (i+1) (by omega) (by omega) (λ_ s=>s)
 ·simp only[c8]at h2;obtain rfl:i=16:=by omega
  refine J.pq (.take true 0 (.take true 2 (.take false 3 (.take true 5 (.take true 7 (.take false 8 (.take true 10 (.take true 12 (.take false 13 (.alt false 1 ((.take true 4 (.alt false 6 ((.of [36,46,56,60,66,68,74,76,83])) (.alt false 11 ((.of [56,26,36,60,66,68,74,76,83])) .non)))) (.alt false 6 ((.take true 9 (.alt false 1 ((.of [16,46,56,60,66,68,74,76,83])) (.alt false 11 ((.of [56,6,16,60,66,68,74,76,83])) .non)))) (.alt false 11 ((.take true 14 (.alt false 1 ((.of [16,26,36,60,66,68,74,76,83])) (.alt false 6 ((.of [36,6,16,60,66,68,74,76,83])) .non)))) .non)))))))))))) [19,20] [2,3] λ_ _=>?_;refine J.alts ?_ (J.alts ?_ ?_)
  all_goals skip
  ·skip
   refine J.q λ_=>?_;refine J.alts ?_ ?_
   ·skip
    exact J.qx []
   ·skip
    exact J.qx []
  ·skip
   refine J.q λ_=>?_;refine J.alts ?_ ?_
   ·skip
    exact J.qx []
   ·skip
    exact J.qx []
  ·skip
   refine J.q λ_=>?_;refine J.alts ?_ ?_
   ·skip
    exact J.qx []
   ·skip
    exact J.qx []
theorem b6Z (m:Int):(if 2<=(dI m).length then((dI m).length:Int)-1 else 0)=G.slots m:=by
 rw[a5t,G.slots]
 by_cases h:L.count m<2
 ·rw[d8 h,d7 (by omega)]
 ·rw[d7 h,d8 (by omega)]
theorem c1i (m:Int):dI m=(L.dies m).map (λd:Nat=>(d:Int)):=by
 unfold dI dsk L.dies;congr 1;cases hs:L.set m with
 | false=>
  rw[d7 (by simp)];refine List.filter_eq_nil_iff.2 λd _=>?_;simp[L.has,hs]
 | true=>
  rw[d8 rfl];refine Y7 λd hd=>?_;rw[M8]at hd;simp[L.has,hs,hd];omega
theorem c1E (m:Int) (i:Nat) (hi:i<L.count m):(dI m)[i]? =some (L.at_ m i):=by
 have h1:i<(L.dies m).length:=hi;rw[c1i,j6,L.at_,d8 (by omega),l6,d5 h1];rfl
theorem c0j (b r c:Int) (hb:0<=b) (hr:0<=r) (hc:0<c):(b.tmod c+r.tmod c).tmod c=(b+r) % c/\(0<=b.tmod c/\b.tmod c<c)/\(0<=r.tmod c/\r.tmod c<c):=by
 rw[R6 hb,R6 hr];have h1:=Y6 b (show c≠0 by omega);have h2:=Y6 r (show c≠0 by omega);have h3:=U3 b hc;have h4:=U3 r hc;refine⟨?_,⟨h1,h3⟩,h2,h4⟩;rw[R6 (by omega),<- Int.add_emod]
theorem a1D (m b r:Int):FP 210 [iI m,iI b,iI r] [] (Ps (iI (G.parity m b r)) []):=by
 have hcnt:=a5t m;have hc8:=L.count_le m;refine FE [0,0,0] Tryz.func210 λX F hX=>?_;refine J.qc (a5p m) [] λ_=>?_;rintro v As ⟨a,c,rfl,rfl⟩;refine⟨_,rfl,trivial,?_⟩;rw[hcnt];refine J.qd (λ_ h1=>?_) λ_ h1=>?_
 ·refine J.qr [] λ_=>?_;refine⟨?_,rfl⟩;unfold G.parity;rw[d8];simp only[j8,c9]at h1;omega
 ·simp only[A5,c8]at h1;obtain⟨⟨h1,h2⟩,h3⟩:=h1;have hp:G.parity m b r=L.at_ m ((b+r) % (L.count m:Int)):=by unfold G.parity;rw[d7 (by omega)]
  obtain⟨e1,e2,e3⟩:=c0j b r (L.count m) (by omega) (by omega) (by omega);have e4:=Y6 (b+r) (show(L.count m:Int)≠0 by omega);have e5:=U3 (b+r) (show 0<(L.count m:Int)by omega);obtain⟨i,hi⟩:=g7 e4;rw[hi]at e1 e5 hp;have hat:=c1E m i (by omega);refine J.know (λh' s=>u7 (c:=(a,c)) (by omega) (s.get (i:=1) rfl)) λhg=>?_;obtain⟨g1,rfl⟩:=hg;have e6:=a7j b (L.count m) (by omega);refine J.pn 13 (.of [0,4,8,12,16,20,24,28,32,36,40,44,48,52,57,60]) [15] [1] λ_ _=>?_;rw[e1];refine J.q λ_=>?_;refine J.vT (iI (L.at_ m (i:Nat))) rfl rfl (λhg a w he hC=>z7 tk rfl rfl he rfl rfl rfl (hC rfl _ (r8 (i:=1) rfl)) (by rw[show 0+(i:Int).toNat*1=i from by omega];exact L5 hat)) ?_;refine J.qr [] λ_=>?_;exact⟨by rw[hp],rfl⟩
theorem b6W (l:List Int) (d:Int):decide (a3m l d>=0)=decide (d∈l):=by
 induction l with
 | nil=>rfl
 | cons x l ih=>
  unfold a3m
  by_cases h:x=d
  ·rw[d8 h,j3 (by decide:(0:Int)>=0),j3 (by rw[h];exact z6)]
  ·rw[d7 h]
   by_cases h2:d∈l
   ·rw[j3 h2]at ih;have:=A7 ih;rw[d7 (by omega),j3 (by omega),j3 (B3 _ h2)]
   ·rw[u9 h2]at ih;have:=a5A ih;rw[d8 (by omega),u9 (by omega),u9 (by
     intro hm;rcases List.mem_cons.1 hm with e | e
     ·exact h e.symm
     ·exact h2 e)]
theorem b4X (m d:Int):decide (a3m (dI m) d>=0)=L.has m d:=by
 have hmem:d∈dI m↔L.has m d=true:=by
  unfold dI dsk;constructor
  ·intro h;obtain⟨k,hk,e⟩:=List.mem_map.1 h;subst e;exact(List.mem_filter.1 hk).2
  ·intro h;have h8:=L.has_lt m d h;obtain⟨k,rfl⟩:=g7 h8.1;exact List.mem_map.2 ⟨k,List.mem_filter.2 ⟨List.mem_range.2 (by omega),h⟩,rfl⟩
 rw[b6W,decide_eq_decide.2 hmem];exact Bool.decide_coe _
theorem a6Z (p:Nat) (N:Nand) (hN:N.Ok) (hR:N.Room) (x y z:Int):FP 209 [pp p, .agg #[iI x,iI y,iI z]] [x6 p N]
  (Ps (.tuple #[shV (M.look N x y z).1,iI (M.look N x y z).2]) [x6 p N]):=by
 refine FE [2,0] Tryz.func209 λX F hX=>?_;refine J.qp (a5P p N hN x y z) [1] λ_=>?_;have hl0:∀e,N.readE x y z=e->e≠0->M.look N x y z=if e=5 then(Sh.zero,2)else if e=8\/e=9\/e=3\/e=12 then(Sh.zero,4)else(Sh.zero,3):=λe he h=>by
  simp only[M.look];rw[he,d7 h]
 have hlk:N.readE x y z=0->M.look N x y z=if S.getE (N.readV x y z)≠0\/M.bad (S.getV (N.readV x y z)) x y z=true then(Sh.zero,3)else(S.getV (N.readV x y z),1):=λh1=>by simp only[M.look];rw[d8 h1]
 have hvl:=a5L hN x y z;generalize N.readE x y z=e at hl0 hlk;refine J.qd (λ_ h1=>?_) λ_ h1=>?_
 ·simp only[m5]at h1;subst h1;refine J.qr [1] λ_=>?_;rw[hl0 5 rfl (by decide)];exact⟨rfl,rfl⟩
 have H4:e=8\/e=9\/e=3\/e=12->M.look N x y z=(Sh.zero,4):=λh=>by
  rw[hl0 e rfl (by omega),d7 (by omega),d8 h]
 refine J.qd (λ_ h2=>?_) λ_ h2=>?_
 ·rw[h2];refine J.qT λ_=>?_;simp only[m5]at h2;refine J.qr [1] λ_=>?_;rw[H4 (.inl h2)];exact⟨rfl,rfl⟩
 refine J.qd (λ_ h3=>?_) λ_ h3=>?_
 ·rw[h3];refine J.qT λ_=>?_;simp only[m5]at h3;refine J.qr [1] λ_=>?_;rw[H4 (.inr (.inl h3))];exact⟨rfl,rfl⟩
 refine J.qd (λ_ h4=>?_) λ_ h4=>?_
 ·rw[h4];refine J.qT λ_=>?_;simp only[m5]at h4;refine J.qr [1] λ_=>?_;rw[H4 (.inr (.inr (.inl h4)))];exact⟨rfl,rfl⟩
 refine J.qd (λ_ h5=>?_) λ_ h5=>?_
 ·simp only[m5]at h5;refine J.qr [1] λ_=>?_;rw[H4 (.inr (.inr (.inr h5)))];exact⟨rfl,rfl⟩
 refine J.qd (λ_ h6=>?_) λ_ h6=>?_
 ·simp only[m5]at h6;have hlk:=hlk h6;refine J.qp (c2C (N.readV x y z) hvl) [] λ_=>?_;refine J.p (.of [0,5,8,13,16,21,28,33,26,36,40]) [9,10] [1,2,3,4,5] λ_=>?_;refine J.qp (a1D (S.getV (N.readV x y z)).mask (S.getV (N.readV x y z)).block (S.getV (N.readV x y z)).row) [] λ_=>?_;have hgE:S.getE (N.readV x y z)=if(S.get (N.readV x y z)).isSome then 0 else 1:=rfl
  generalize S.getE (N.readV x y z)=ge at hlk hgE;generalize(S.get (N.readV x y z)).isSome=gs at hgE;generalize S.getV (N.readV x y z)=s at hlk;refine J.q λ_=>?_;refine J.gcase hX rfl rfl rfl trivial (λhb=>?_) (λhb=>?_)
  ·rw[hb];refine J.qp (c0Z s.mask x) [] λ_=>?_;have hsp:=b4X s.mask x;refine J.q λ_=>?_;rw[hsp];simp only[i9,m5]at hb;have hge:ge=0:=by rw[hgE,d8 hb.1.1]
   refine J.qd (λ_ h7=>?_) λ_ h7=>?_
   ·have hc:¬(ge≠0\/M.bad s x y z=true):=by
     have:M.bad s x y z=false:=by
      unfold M.bad;simp only[o0,i9]at h7;rw[h7.1];have h8:=h7.2;rw[m5]at h8;rw[h8,hb.1.2,hb.2];simp
     rw[this,hge];simp
    refine J.qr [1] λ_=>?_;rw[hlk,d7 hc];exact⟨rfl,rfl⟩
   ·have hc:ge≠0\/M.bad s x y z=true:=by
     right;unfold M.bad;rw[hb.1.2,hb.2];cases hh:L.has s.mask x with
     | false=>simp
     | true=>
      rw[hh]at h7;simp only[o0]at h7;rw[j9,hb.1.2,hb.2]at h7;simpa using h7
    refine J.qr [1] λ_=>?_;rw[hlk,d8 hc];exact⟨rfl,rfl⟩
  ·rw[hb];refine J.q λ_=>?_;refine J.v (.bool false) rfl rfl (λhg a w he hw=>by simp[G.on]at hg) ?_;have hc:ge≠0\/M.bad s x y z=true:=by
    cases gs with
    | false=>left;rw[hgE];decide
    | true=>
     right;rw[o0,P9]at hb;unfold M.bad;rcases hb with h | h
     ·rw[j9]at h;simp[h]
     ·rw[j9]at h;simp[h]
   refine J.qd (λ_ h7=>?_) λ_ h7=>?_
   ·simp at h7
   ·refine J.qr [1] λ_=>?_;rw[hlk,d8 hc];exact⟨rfl,rfl⟩
 simp only[j9,D4]at h1 h2 h3 h4 h5 h6;refine J.qr [1] λ_=>?_;rw[hl0 e rfl h6,d7 h1,d7 (by omega)];exact⟨rfl,rfl⟩
theorem b8X (s:Sh):FP 277 [shV s] [] (Ps (enV s.en) []):=by
 refine FE [0] Tryz.func277 λX F hX=>?_;exact J.qx []
theorem a8k (p:Nat) (N:Nand) (hN:N.Ok) (hR:N.Room) (b r m d:Int):FP 274 [pp p,iI b,iI r,iI m,iI d] [x6 p N]
  (Ps (.tuple #[shV (R.one N b r m d).1, .bool (R.one N b r m d).2]) [x6 p N]):=by
 refine FE [2,0,0,0,0] Tryz.func274 λX F hX=>?_;refine J.qp (a6Z p N hN hR d b r) [1] λ_=>?_;refine J.p (.of [1,4,8,12,16,21,24,28,32,38,40]) [10] [1,3] λ_=>?_;exact J.qx [1]
theorem gD {l:List Int} {i:Nat} (h:i<l.length):l[i]? =some (l.getD i 0):=by rw[d6,d5 h,j5]
theorem a4X (l:List Int) {j:Nat} (h1:1<=j) (h:j<l.length) (i:Nat):(a7o l j).getD i 0=if i=j-1 then l.getD j 0 else if i=j then l.getD (j-1) 0 else l.getD i 0:=by
 unfold a7o;rw[d6,r9,n8]
 by_cases e:j-1=i
 ·rw[d8 e,d8 (by omega),d8 e.symm,j5]
 ·rw[d7 e,d7 (by omega),r9]
  by_cases e2:j=i
  ·rw[d8 e2,d8 (by omega),d8 e2.symm,j5]
  ·rw[d7 e2,d7 (by omega),<- d6]
theorem b7R {l:List Int} {x:Int}:x∈l↔∃i,i<l.length/\l.getD i 0=x:=by
 constructor
 ·intro h;obtain⟨i,hi,e⟩:=List.getElem_of_mem h;exact⟨i,hi,by rw[d6,d5 hi,j5];exact e⟩
 ·rintro⟨i,hi,e⟩;exact l7 (by rw[gD hi,e])
theorem b9T (l:List Int) {j:Nat} (h1:1<=j) (h:j<l.length) (x:Int):x∈a7o l j↔x∈l:=by
 rw[b7R,b7R,a2C];constructor
 ·rintro⟨i,hi,e⟩;rw[a4X l h1 h]at e;split at e
  ·exact⟨j,h,e⟩
  ·split at e
   ·exact⟨j-1,by omega,e⟩
   ·exact⟨i,hi,e⟩
 ·rintro⟨i,hi,e⟩
  by_cases e1:i=j
  ·exact⟨j-1,by omega,by rw[a4X l h1 h,d8 rfl,<- e1,e]⟩
  ·by_cases e2:i=j-1
   ·exact⟨j,h,by rw[a4X l h1 h,d7 (by omega),d8 rfl,<- e2,e]⟩
   ·exact⟨i,hi,by rw[a4X l h1 h,d7 e2,d7 e1,e]⟩
theorem b1j:∀(j:Nat) (l:List Int) (x:Int),j<l.length->(x∈a3F j l↔x∈l)
 | 0,_,_,_=>Iff.rfl
 | j+1,l,x,h=>by
  unfold a3F;split
  ·rw[b1j j _ x (by rw[a2C];omega),b9T l (by omega) h]
  ·exact Iff.rfl
theorem a9c:∀(j n:Nat) (l:List Int),j<=n->n<l.length->(∀a b,a<b->b<=n->a≠j->b≠j->l.getD a 0<=l.getD b 0)->(∀b,j<b->b<=n->l.getD j 0<=l.getD b 0)->∀a b,a<b->b<=n->(a3F j l).getD a 0<=(a3F j l).getD b 0
 | 0,n,l,_,_,hs,hu=>λa b hab hb=>by
  unfold a3F
  by_cases e:a=0
  ·subst e;exact hu b hab hb
  ·exact hs a b hab hb e (by omega)
 | j+1,n,l,hj,hn,hs,hu=>by
  unfold a3F;split
  ·rename_i hlt;have g:=a4X l (j:=j+1) (by omega) (by omega);simp only[M7]at g;refine a9c j n (a7o l (j+1)) (by omega) (by rw[a2C];exact hn) (λa b hab hb ha hbj=>?_) (λb hjb hb=>?_)
   ·rw[g,g,d7 ha,d7 hbj]
    by_cases e1:a=j+1
    ·rw[d8 e1,d7 (by omega)];exact hs j b (by omega) hb (by omega) (by omega)
    ·rw[d7 e1]
     by_cases e2:b=j+1
     ·rw[d8 e2];exact hs a j (by omega) (by omega) e1 (by omega)
     ·rw[d7 e2];exact hs a b hab hb e1 e2
   ·rw[g,g,d8 rfl,d7 (by omega)]
    by_cases e2:b=j+1
    ·rw[d8 e2];omega
    ·rw[d7 e2];exact hu b (by omega) hb
  ·rename_i hge;intro a b hab hb
   by_cases e1:a=j+1
   ·subst e1;exact hu b hab hb
   ·by_cases e2:b=j+1
    ·subst e2
     by_cases e3:a=j
     ·subst e3;omega
     ·have:=hs a j (by omega) (by omega) e1 (by omega);omega
    ·exact hs a b hab hb e1 e2
theorem a9y (l:List Int) (x:Int):∀k,k<l.length->(x∈Z5 l k↔x∈l)
 | 0,_=>Iff.rfl
 | k+1,h=>by
  unfold Z5;rw[b1j _ _ x (by rw[a1O];exact h)];exact a9y l x k (by omega)
theorem a8b (l:List Int):∀k,k<l.length->∀a b,a<b->b<=k->(Z5 l k).getD a 0<=(Z5 l k).getD b 0
 | 0,_=>λa b hab hb=>by omega
 | k+1,h=>by
  unfold Z5;have ih:=a8b l k (by omega);exact a9c (k+1) (k+1) (Z5 l k) (j7 _) (by rw[a1O];exact h) (λa b hab hb ha hbk=>ih a b hab (by omega)) (λb hb1 hb2=>by omega)
theorem b3o (l:List Int) (x:Int):x∈X2 l↔x∈l:=by
 unfold X2;cases l with
 | nil=>exact Iff.rfl
 | cons y l=>exact a9y (y::l) x _ (by simp)
theorem b1Z (l:List Int):(X2 l).Pairwise (· <= ·):=by
 rw[List.pairwise_iff_getElem];intro i j hi hj hij;have hl:(X2 l).length=l.length:=a0P l;have h:=a8b l (l.length-1) (by omega) i j hij (by omega);have h1:(X2 l).getD i 0<=(X2 l).getD j 0:=h
 rwa [d6,d6,d5 hi,d5 hj]at h1
theorem a4L:∀(l:List Int) (p:Int),(p::l).Pairwise (· <= ·)->(p::J2 p l).Pairwise (· < ·)/\∀y,y∈p::J2 p l↔y∈p::l
 | [],p,_=>⟨by simp[J2],λy=>by simp[J2]⟩
 | x::l,p,h=>by
  have hpx:=List.pairwise_cons.1 h;have hx:=List.pairwise_cons.1 hpx.2;unfold J2
  by_cases e:x=p
  ·rw[d8 e,e];obtain⟨s1,s2⟩:=a4L l p (List.pairwise_cons.2 ⟨λy hy=>hpx.1 y (by simp[hy]),hx.2⟩);refine⟨s1,λy=>?_⟩;rw[s2 y];simp
  ·rw[d7 e];obtain⟨s1,s2⟩:=a4L l x hpx.2;have hlt:p<x:=by have:=hpx.1 x (by simp);omega
   refine⟨List.pairwise_cons.2 ⟨λy hy=>?_,s1⟩,λy=>?_⟩
   ·have hy2:=(s2 y).1 hy;rcases List.mem_cons.1 hy2 with e2 | e2
    ·omega
    ·have:=hx.1 y e2;omega
   ·have:=s2 y;simp only[D6]at this ⊢;constructor
    ·rintro(h1 | h1)
     ·exact .inl h1
     ·exact .inr (this.1 h1)
    ·rintro(h1 | h1)
     ·exact .inl h1
     ·exact .inr (this.2 h1)
theorem a8o (l:List Int) (h:l.Pairwise (· <= ·)):(I3 l).Pairwise (· < ·)/\∀y,y∈I3 l↔y∈l:=by
 cases l with
 | nil=>exact⟨List.Pairwise.nil,λy=>Iff.rfl⟩
 | cons p l=>exact a4L l p h
theorem a7q:∀(a b:List Int),a.Pairwise (· < ·)->b.Pairwise (· < ·)->(∀y,y∈a↔y∈b)->a=b
 | [],[],_,_,_=>rfl
 | [],y::b,_,_,h=>by have:=(h y).2 (by simp);simp at this
 | x::a,[],_,_,h=>by have:=(h x).1 (by simp);simp at this
 | x::a,y::b,ha,hb,h=>by
  have ha:=List.pairwise_cons.1 ha;have hb:=List.pairwise_cons.1 hb;have e:x=y:=by
   have h1:=(h x).1 (by simp);have h2:=(h y).2 (by simp);rcases List.mem_cons.1 h1 with e | e
   ·exact e
   ·rcases List.mem_cons.1 h2 with e2 | e2
    ·exact e2.symm
    ·have:=hb.1 x e;have:=ha.1 y e2;omega
  subst e;rw[a7q a b ha.2 hb.2 λz=>?_];constructor
  ·intro hz;rcases List.mem_cons.1 ((h z).1 (by simp[hz]))with e | e
   ·subst e;have:=ha.1 z hz;omega
   ·exact e
  ·intro hz;rcases List.mem_cons.1 ((h z).2 (by simp[hz]))with e | e
   ·subst e;have:=hb.1 z hz;omega
   ·exact e
def a4B (p:Nat->Bool) (k:Nat):List Int:=((List.range k).filter p).map λm:Nat=>(m:Int)
theorem b5a (p:Nat->Bool) (k:Nat):a4B p (k+1)=a4B p k++(if p k then[(k:Int)]else[]):=by
 unfold a4B;rw[t6,H2,x7];congr 1;cases h:p k<;>simp[h]
theorem b7b (p:Nat->Bool) (k:Nat):(a4B p k).length<=k:=by
 unfold a4B;rw[m9];exact E7 (B4 _ _) (by simp)
theorem b2m (l:List Int) (p:Nat->Bool) (hl:∀x∈l,0<=x/\x<256) (hp:∀m,m<256->(p m=true↔(m:Int)∈l)):I3 (X2 l)=a4B p 256:=by
 obtain⟨s1,s2⟩:=a8o (X2 l) (b1Z l);refine a7q _ _ s1 ?_ λy=>?_
 ·unfold a4B;rw[List.pairwise_map];exact(List.pairwise_lt_range.filter p).imp λh=>by omega
 ·rw[s2,b3o];unfold a4B;rw[W3];constructor
  ·intro hy;obtain⟨m,rfl⟩:=g7 (hl y hy).1;have hm:=(hl _ hy).2;exact⟨m,List.mem_filter.2 ⟨List.mem_range.2 (by omega),(hp m (by omega)).2 hy⟩,rfl⟩
  ·rintro⟨m,hm,rfl⟩;obtain⟨h1,h2⟩:=List.mem_filter.1 hm;exact(hp m (List.mem_range.1 h1)).1 h2
theorem a9s {N:Nand} {x y z:Int} (h:(M.look N x y z).2=1):0<=(M.look N x y z).1.mask/\(M.look N x y z).1.mask<256:=by
 unfold M.look at h ⊢;simp only at h ⊢;split at h
 ·rename_i h1;rw[d8 h1];split at h
  ·cases h
  ·rename_i h2;rw[d7 h2];have hb:M.bad (S.getV (N.readV x y z)) x y z=false:=by
    cases hb:M.bad (S.getV (N.readV x y z)) x y z with
    | false=>rfl
    | true=>exact absurd (.inr hb) h2
   simp only[M.bad,A5,p9]at hb;have:=L.has_lt _ _ hb.1.2;exact this.2.2
 ·split at h
  ·cases h
  ·split at h<;>cases h
theorem c2k (N:Nand) (b r:Int) (k:Nat):∀x∈mk0 N b r k,0<=x/\x<256:=by
 intro x hx;unfold mk0 at hx;obtain⟨y,hy,hm⟩:=List.mem_filterMap.1 hx;have hy:=H9 hy;unfold M.rowN at hy;obtain⟨d,_,rfl⟩:=List.mem_map.1 hy;unfold M.maskOf at hm;split at hm
 ·rename_i h1;injection hm with hm;subst hm;exact a9s h1
 ·cases hm
namespace T2
def tab:Tab:=(322,⟨.arr 256 1,256,List.replicate 256 (.bool false),256⟩)::Go.Proofs.YtpakpgkdpofbhaaGreat.tab
theorem tk:TabOK Tryz.prog tab:=TabOK.mk (by kernel_rfl)
theorem cellsB_set0 (l:List Bool) (k:Nat) (v:Bool):(C3 l).set k (.bool v)=C3 (l.set k v):=by unfold C3;rw[D7]
theorem rep_cells:List.replicate 256 (Value.bool false)=C3 (List.replicate 256 false):=by unfold C3;rw[X0]
theorem f9_Masks (p:Nat) (N:Nand) (hN:N.Ok) (hR:N.Room) (b r:Int):FP 207 [pp p,iI b,iI r] [x6 p N]
  (λv As=>∃a c,v=slv a (M.masks N b r).length c/\As=[x6 p N,l5 3 1 a (M.masks N b r).length c (n7 (M.masks N b r))]):=by
 have hbd:=hN.bd;obtain⟨pp,hpp⟩:∃pp:Nat->Bool,pp=λ(m:Nat)=>decide (((m:Nat):Int)∈mk0 N b r N.dies):=⟨_,rfl⟩;have hmk:M.masks N b r=a4B pp 256:=by
  have e:mk0 N b r N.dies=(M.rowN N b r N.dies).filterMap M.maskOf:=by
   unfold mk0;rw[m7 (by simp[M.rowN])]
  unfold M.masks;rw[<- e];exact b2m _ pp (c2k N b r N.dies) (λm _=>by rw[hpp];exact decide_eq_true_iff)
 rw[hmk];refine FE [2,0,0] Tryz.func207 λX F hX=>?_;refine J.turn1 [] rfl (As:=[l5 3 1 none 0 0 (n7 (a4B pp 0))]) (λh s=>Sep.one ⟨rfl,rfl,rfl⟩) rfl ?_;refine J.r hX tk 400 (λ_=>rfl) λbb=>?_;rw[rep_cells];refine J.r hX tk 400 (λ_=>rfl) λ_=>?_;refine J.l (α:=(Nat×List Bool)) (λz=>z.1<=N.dies/\z.2.length=256/\∀m,m<256->z.2.getD m false=decide (((m:Nat):Int)∈mk0 N b r z.1)) (λz=>[si 9 z.1,⟨8,.pointer (some ⟨bb 0,0,none⟩),4, .tt⟩,sv 7 (.slice none 0 0),⟨0,.pointer (some ⟨p,0,none⟩),2, .tt⟩,si 1 b,si 2 r]) [3] (λz=>[.pt (bb 0) 322 (C3 z.2)]) (λz=>N.dies-z.1) ((0,List.replicate 256 false)) (⟨j4 _,T7,λm hm=>by rw[d6,D3,d8 hm];simp[mk0]⟩) λz hI=>?_;obtain⟨d,Lb⟩:=z;dsimp only at hI ⊢;obtain⟨hd,hl,hv⟩:=hI;refine J.r hX tk 400 (λ_=>rfl) λ_=>?_;refine J.ca hX (by kernel_rfl) (a0H p N) [1] 0 rfl rfl rfl rfl rfl rfl (λ_=>rfl) ?_;rintro v As ⟨rfl,rfl⟩;refine⟨_,rfl,trivial,?_⟩;refine J.r hX tk 400 (λ_=>rfl) λ_=>?_;refine J.cond rfl (λh1=>?_) (λh1=>?_)
 ·simp only[c9,g6]at h1;have hsc:=a7O N b r d h1;refine J.r hX tk 400 (λ_=>rfl) λ_=>?_;refine J.ca hX (by kernel_rfl) (a6Z p N hN hR d b r) [1] 0 rfl rfl rfl rfl rfl rfl (λ_=>rfl) ?_;rintro v As ⟨rfl,rfl⟩;refine⟨_,rfl,trivial,?_⟩;have hlm:=a9s (N:=N) (x:=d) (y:=b) (z:=r);generalize M.look N d b r=x at hsc hlm;obtain⟨s,w⟩:=x;dsimp only at hlm;refine J.r hX tk 400 (λ_=>rfl) λ_=>?_;refine J.cond rfl (λh2=>?_) (λh2=>?_)
  ·simp only[i9,m5,c9]at h2;obtain⟨⟨hw,hm1⟩,hm2⟩:=h2;obtain⟨m,hm⟩:=g7 hm1;have hmk2:mk0 N b r (d+1)=mk0 N b r d++[(m:Int)]:=by
    rw[hsc];unfold M.maskOf;rw[d8 hw];show _++[s.mask]=_;have:s.mask=(m:Int):=hm;rw[this]
   refine J.r hX tk 400 (λ_=>rfl) λ_=>?_;refine J.s1 3 (C3 (Lb.set m true)) ?_ ?_ ?_
   ·rw[Q5,hl];show 0+(s.mask).toNat*1<256;have:s.mask=(m:Int):=hm;omega
   ·rw[<- cellsB_set0];have:s.mask=(m:Int):=hm;rw[show 0+((s,w).fst.mask).toNat*1=m from by show 0+(s.mask).toNat*1=m;omega]
   refine J.r hX tk 400 (λ_=>rfl) λ_=>?_;refine J.nS ((d+1,Lb.set m true)) (⟨by dsimp only;omega,by rw[n8];exact hl,λj hj=>by
    dsimp only;rw[d6,r9,hl,hmk2];have hm256:m<256:=by
     have:s.mask=(m:Int):=hm;have h3:s.mask<256:=hm2;omega
    by_cases e:m=j
    ·subst e;rw[d8 rfl,d8 hm256];simp
    ·rw[d7 e,<- d6,hv j hj];have hne:¬(j:Int)=(m:Int):=by omega
     simp[hne]⟩) (by dsimp only;omega) [0,1,2,3] rfl rfl
  ·have hw:w≠1:=λhw=>by
    obtain⟨q1,q2⟩:=hlm hw;have q1:s.mask>=0:=q1;rw[show(s,w).snd=1 from hw,show(s,w).fst=s from rfl,j3 q1,j3 q2]at h2;simp at h2
   have hmk2:mk0 N b r (d+1)=mk0 N b r d:=by
    rw[hsc];unfold M.maskOf;rw[d7 hw];simp
   refine J.r hX tk 400 (λ_=>rfl) λ_=>?_;refine J.n ((d+1,Lb)) (⟨by dsimp only;omega,hl,λj hj=>by dsimp only;rw[hmk2];exact hv j hj⟩) (by dsimp only;omega) [0,1,2,3]
 simp only[c8,g6]at h1;obtain rfl:d=N.dies:=by omega
 refine J.r hX tk 400 (λ_=>rfl) λ_=>?_;refine J.l (α:=(Nat×Option Nat×Nat)) (λz=>z.1<=256) (λz=>[si 44 z.1,⟨8,.pointer (some ⟨bb 0,0,none⟩),4, .tt⟩,sv 7 (slv z.2.1 (a4B pp z.1).length z.2.2)]) [2] (λz=>[l5 3 1 z.2.1 (a4B pp z.1).length z.2.2 (n7 (a4B pp z.1))]) (λz=>256-z.1) ((0,none,0)) (j4 _) λz hI=>?_;obtain⟨k,a,c⟩:=z;dsimp only at hI ⊢;have hsl:=b7b pp k;have hss:=b5a pp k;refine J.r hX tk 400 (λ_=>rfl) λ_=>?_;refine J.cond rfl (λh2=>?_) (λh2=>?_)
 ·simp only[c9]at h2;have h2:k<256:=by omega
  have hvk:Lb.getD k false=pp k:=by rw[hv k h2,hpp]
  refine J.r hX tk 400 (λ_=>rfl) λ_=>?_;refine J.v (.bool (pp k)) rfl rfl (λhg a w he hw=>x9 tk rfl rfl he rfl rfl rfl (hw.get (i:=3) rfl) (by rw[show 0+(k:Int).toNat*1=k from by omega,<- hvk];have:=a1E (l:=Lb) [] (k:=k) (by omega);rwa [n9]at this)) ?_;refine J.r hX tk 400 (λ_=>rfl) λ_=>?_;refine J.cond rfl (λh3=>?_) (λh3=>?_)
  ·rw[d8 h3]at hss;refine J.r hX tk 400 (λ_=>rfl) λ_=>?_;refine J.ap 2 4 0 ((U9 _ _).symm.trans (congrArg n7 hss.symm)) λa4 c4=>?_;rw[show(a4B pp k).length+1=(a4B pp (k+1)).length from by rw[hss];simp];refine J.r hX tk 400 (λ_=>rfl) λ_=>?_;refine J.n ((k+1,a4,c4)) (by dsimp only;omega) (by dsimp only;omega) [0,1,2,3]
  ·rw[d7 (by rw[h3];simp),n9]at hss;rw[<- hss];refine J.r hX tk 400 (λ_=>rfl) λ_=>?_;refine J.n ((k+1,a,c)) (by dsimp only;omega) (by dsimp only;omega) [0,1,2,3]
 simp only[c8]at h2;obtain rfl:k=256:=by omega
 refine J.r hX tk 400 (λ_=>rfl) λ_=>?_;refine J.rt hX tk [1,2] rfl rfl rfl ?_;exact⟨a,c,rfl,rfl⟩
end T2
structure Nand.Lit (N:Nand):Prop where
 off:N.off=false
 cuts:N.cuts=false
namespace Nand
theorem Lit.cutB {N:Nand} (h:N.Lit):N.cutB=false:=by unfold Nand.cutB;rw[h.cuts];rfl
theorem Lit.cutN {N:Nand} (h:N.Lit):N.cutN.Lit:=by
 constructor
 ·show(if N.cutB then true else N.off)=false;rw[h.cutB];exact h.off
 ·show(if N.cutB then false else N.cuts)=false;rw[h.cutB];exact h.cuts
theorem Lit.new (d b p:Nat):(Nand.new d b p).Lit:=⟨rfl,rfl⟩
theorem Lit.prog {N:Nand} (h:N.Lit) (x y z:Int) (pg:List UInt8):(N.progN x y z pg).Lit:=by
 unfold Nand.progN;split
 ·exact h
 ·split
  ·exact⟨h.off,h.cuts⟩
  ·rw[h.cutB];exact⟨h.cutN.off,h.cutN.cuts⟩
theorem Lit.fault {N:Nand} (h:N.Lit) (kind x y z n xx:Int):(N.fault kind x y z n xx).2.Lit:=by
 unfold Nand.fault
 repeat' split
 all_goals first | exact h | exact⟨h.off,h.cuts⟩
end Nand
theorem b3r (b r:Int):∀(q:List (Int×Sh)) (N:Nand) (f:Int),N.Lit->(R.go b r q N f).1.Lit
 | [],N,f,h=>h
 | (d,s)::q,N,f,h=>by
  rw[R.go];split
  ·exact b3r b r q _ _ (h.prog _ _ _ _)
  ·split
   ·exact h.prog _ _ _ _
   ·exact b3r b r q _ _ (h.prog _ _ _ _)
theorem b4O {N:Nand} (h:N.Lit) (b r m:Int) (l:List En):(R.write N b r m l).1.Lit:=by
 unfold R.write;split
 ·exact b3r _ _ _ _ _ h
 ·exact h
theorem O4 {α:Type} (f:α->List Value) (w:Nat) (hw:∀x,(f x).length=w):∀(l:List α) (k:Nat) (x:α),l[k]? =some x->((l.flatMap f).drop (k*w)).take w=f x
 | [],k,x,h=>by simp at h
 | y::l,0,x,h=>by
  simp at h;subst h;rw[q9,L7,Q0,B6 (hw y)]
 | y::l,k+1,x,h=>by
  have ih:=O4 f w hw l k x (by simpa using h);rw[q9,show(k+1)*w=(f y).length+k*w from by rw[hw y,Nat.add_mul,Nat.one_mul,U7],<- A4,T4 rfl];exact ih
theorem next_le {N:Nand} (hN:N.Ok) (x y:Int):N.next x y<=8:=by
 have hbd:=hN.bd;unfold Nand.next;split
 ·rename_i h;have:=(hN.cells x.toNat y.toNat (by omega) (by omega)).1;omega
 ·omega
theorem b7U (a b:Nat):(if(b:Int)>(a:Int)then(b:Int)else(a:Int))=((max a b:Nat):Int):=by
 split<;>omega
structure RowV where
 b:Int
 m:Int
 al:Option Addr
 n:Nat
 c:Nat
 l:List En
def RowV.cells (x:RowV):List Value:=[iI x.b,iI x.m, .slice x.al x.n x.c]
structure RowV.Ok (A:Atom) (x:RowV):Prop where
 rd:Rd A x.al 19 x.n (p5 x.l)
 len:x.l.length=x.n
 data:∀s∈x.l,s.data.length=16
structure FaV where
 at_:Int
 kind:Int
 x:Int
 y:Int
 z:Int
 n:Int
 xx:Int
def FaV.cells (f:FaV):List Value:=[iI f.at_,iI f.kind,iI f.x,iI f.y,iI f.z,iI f.n,iI f.xx]
theorem b5H (g0 g1 g2:Int) (A:Atom) (ar:Option Addr) (nr cr:Nat) (rows:List RowV) (hAr:Rd A ar 3 nr (rows.flatMap RowV.cells)) (hlr:rows.length=nr) (hrows:∀x∈rows,x.Ok A)
  (af:Option Addr) (nf cf:Nat) (fs:List FaV) (hAf:Rd A af 7 nf (fs.flatMap FaV.cells)) (hlf:fs.length=nf) (ap:Option Addr) (np cp:Nat) (pgs:List (List UInt8)) (hAp:Rd A ap 32 np (pgs.flatMap J9)) (hlp:pgs.length=np) (hpg:∀p∈pgs,p.length=32):
  FP 76 [.agg #[iI g0,iI g1,iI g2], .slice ar nr cr, .slice af nf cf, .slice ap np cp] [A] (λv As=>∃q N,v=pp q/\(N.Gd 100 12/\N.Lit)/\As=[A,x6 q N]):=by
 refine FE [0,0,0,0] Tryz.func76 λX F hX=>?_;refine J.q λbb=>?_;refine J.cb (b3n g0 g1 g2) [] ?_;rintro v As ⟨D,B,P,rfl,hD,hB,hP,rfl⟩;refine⟨_,rfl,trivial,?_⟩;have hgm:D8 D B P=true:=by simp[D8];omega
 refine J.qc (a7M D B P hgm) [] λ_=>?_;rintro v As ⟨q,rfl,rfl⟩;refine⟨_,rfl,trivial,?_⟩;have G0:(Nand.new D B P).Gd 1000 0:=Nand.Gd.new D B P hgm 1000 (by decide);have hpw:=c1Y D hD.2;refine J.q λ_=>?_;refine J.l (α:=(Nat×Nand)) (λz=>z.1<=nr/\z.1<=12/\z.2.Gd (1000-9*z.1) z.1/\z.2.Lit) (λz=>[si 10 z.1,sp 9 q,⟨4,pp (bb 0),3, .tt⟩,sv 1 (.slice ar nr cr),sv 2 (.slice af nf cf),sv 3 (.slice ap np cp)]) [3] (λz=>[x6 q z.2]) (λz=>12-z.1) ((0,Nand.new D B P)) (⟨j4 _,j4 _,G0,Nand.Lit.new D B P⟩) λz hI=>?_;obtain⟨i,N⟩:=z;dsimp only at hI ⊢;obtain⟨hi1,hi2,hG,hT⟩:=hI;refine J.qd (λ_ h1=>?_) λ_ h1=>?_
 ·simp only[i9,c9,g6]at h1;obtain⟨h1,h2⟩:=h1;have h2:i<12:=by omega
  obtain⟨x,hx⟩:∃x,rows[i]? =some x:=⟨_,d5 (by omega)⟩;have hxo:=hrows x (l7 hx);have hb1:=a7j x.b B (by omega);have hb2:=b6J x.b B (by omega);refine J.know (p:=∃g o,ar=some ⟨g,o,none⟩) (λh' s=>Rd.addr (hAr _ (s.get (i:=1) rfl)) (by omega)) λhk=>?_;obtain⟨gm,om,rfl⟩:=hk;refine J.q λ_=>?_;refine J.v (.agg #[iI x.b,iI x.m, .slice x.al x.n x.c]) rfl rfl (λhg a w he hw=>V4 tk rfl rfl he rfl rfl rfl (hAr _ (hw.get (i:=1) rfl)) (by omega) (j:=i*3) (by omega) (O4 RowV.cells 3 (λ_=>rfl) rows i x hx) rfl) ?_;refine J.q λbr=>?_;refine J.plan (.of [0,5,8,13,16,20,25,28,32,37,40,44,51]) [10,11,12] [2,4] (by rw[hX.hP];kernel_rfl) (by kernel_rfl) ?_;refine J.q λ_=>?_;generalize(x.b.tmod B+B).tmod B=yb;generalize IntKind.i64.wrap ((BitVec.ofInt IntKind.i64.bits x.m&&& BitVec.ofInt IntKind.i64.bits (1*2^min (D:Int).toNat IntKind.i64.bits-1)).toNat:Int)=mk;refine J.q λ_=>?_;refine J.l (α:=(Nat×Nat)) (λz=>z.1<=D/\z.2<=8) (λz=>[si 13 z.1,si 12 z.2,⟨11,pp (br 0),5, .tt⟩,si 10 i,sp 9 q,⟨4,pp (bb 0),3, .tt⟩,sv 1 (.slice (some ⟨gm,om,none⟩) nr cr),sv 2 (.slice af nf cf),sv 3 (.slice ap np cp)]) [] (λz=>[]) (λz=>D-z.1) ((0,0)) (⟨j4 _,j4 _⟩) λz hI=>?_;obtain⟨d,k⟩:=z;dsimp only at hI ⊢;obtain⟨hd,hk⟩:=hI;refine J.qd (λ_ h3=>?_) λ_ h3=>?_
  ·simp only[c9,g6]at h3;have hnx:=next_le hG.ok d yb;refine J.qp (b0o q N hG.ok d yb) [3] λ_=>?_;generalize N.next d yb=nx at hnx;refine J.q λ_=>?_;rw[b7U];refine J.q λ_=>?_;refine J.n ((d+1,max k nx)) (⟨by dsimp only;omega,by dsimp only;omega⟩) (by dsimp only;omega) [0,1,2,3,4]
  refine J.q λ_=>?_;refine J.join (α:={N':Nand//N'.Gd (1000-9*(i+1)) i/\N'.Lit}) (λ_=>[si 10 i,sp 9 q,⟨4,pp (bb 0),3, .tt⟩,sv 1 (.slice (some ⟨gm,om,none⟩) nr cr),sv 2 (.slice af nf cf),sv 3 (.slice ap np cp)]) (λx=>[.hp F,A, .pt (bb 0) 23 [iI D,iI B,iI P],x6 q x.1]) (λhj=>?_) (λx=>?_)
  ·refine J.qd (λ_ h4=>?_) λ_ h4=>?_
   ·refine J.q λ_=>?_;refine J.ca hX (by kernel_rfl) (a5c q N A yb k mk x.al x.n x.c i x.l hxo.rd hxo.len hxo.data (hG.less (by omega) (j7 _))) [3,1] 0 rfl rfl rfl rfl rfl rfl (λ_=>rfl) ?_;refine cpq ⟨_,rfl,trivial,?_⟩;refine J.qn 1 λ_=>?_;exact J.goto [0,1,2,3] (hj ⟨_,a3D hxo.data (hG.less (by omega) (j7 _)),b4O hT _ _ _ _⟩) ⟨rfl,rfl,rfl,rfl,rfl,rfl,trivial⟩ rfl rfl
   ·refine J.qn 1 λ_=>?_;exact J.goto [0,1,2,3] (hj ⟨N,hG.less (by omega) (j7 _),hT⟩) ⟨rfl,rfl,rfl,rfl,rfl,rfl,trivial⟩ rfl rfl
  obtain⟨N1,hG1,hT1⟩:=x;dsimp only;refine J.qd (λ_ h5=>?_) λ_ h5=>?_
  ·simp only[c9,g6]at h5;obtain⟨f,hf⟩:∃f,fs[i]? =some f:=⟨_,d5 (by omega)⟩;refine J.know (p:=∃g o,af=some ⟨g,o,none⟩) (λh' s=>Rd.addr (hAf _ (s.get (i:=1) rfl)) (by omega)) λhk=>?_;obtain⟨gf,of,rfl⟩:=hk;refine J.q λ_=>?_;refine J.v (.agg #[iI f.at_,iI f.kind,iI f.x,iI f.y,iI f.z,iI f.n,iI f.xx]) rfl rfl (λhg a w he hw=>V4 tk rfl rfl he rfl rfl rfl (hAf _ (hw.get (i:=1) rfl)) (by omega) (j:=i*7) (by omega) (O4 FaV.cells 7 (λ_=>rfl) fs i f hf) rfl) ?_;refine J.qp (a2i q N1 hG1.ok f.at_ f.kind f.x f.y f.z f.n f.xx) [3] λ_=>?_;refine J.q λ_=>?_;refine J.n ((i+1,(N1.fault f.kind f.x f.y f.z f.n f.xx).2)) (⟨by dsimp only;omega,by dsimp only;omega,hG1.fault _ _ _ _ _ _,hT1.fault _ _ _ _ _ _⟩) (by dsimp only;omega) [0,1,2,3]
  ·refine J.q λ_=>?_;refine J.n ((i+1,N1)) (⟨by dsimp only;omega,by dsimp only;omega,hG1.less (j7 _) (by omega),hT1⟩) (by dsimp only;omega) [0,1,2,3]
 have hG2:N.Gd 200 12:=hG.less (by omega) (by omega);refine J.q λ_=>?_;refine J.l (α:=(Nat×Nand)) (λz=>z.1<=np/\z.1<=6/\z.2.Gd (200-z.1) 12/\z.2.Lit) (λz=>[si 14 z.1,sp 9 q,⟨4,pp (bb 0),3, .tt⟩,sv 3 (.slice ap np cp)]) [3] (λz=>[x6 q z.2]) (λz=>6-z.1) ((0,N)) (⟨j4 _,j4 _,hG2,hT⟩) λz hI=>?_;clear hG hG2;obtain⟨j,N⟩:=z;dsimp only at hI ⊢;obtain⟨hi1,hi2,hG,hT⟩:=hI;refine J.qd (λ_ h6=>?_) λ_ h6=>?_
 ·simp only[i9,c9,g6]at h6;obtain⟨h6,h7⟩:=h6;have h7:j<6:=by omega
  obtain⟨pg,hx⟩:∃pg,pgs[j]? =some pg:=⟨_,d5 (by omega)⟩;have hpgl:=hpg pg (l7 hx);refine J.know (p:=∃g o,ap=some ⟨g,o,none⟩) (λh' s=>Rd.addr (hAp _ (s.get (i:=1) rfl)) (by omega)) λhk=>?_;obtain⟨gp,op,rfl⟩:=hk;have ht1:0<=(j:Int).tmod D/\(j:Int).tmod D<D:=⟨Int.tmod_nonneg _ (by omega),Int.tmod_lt_of_pos _ (by omega)⟩;have ht2:0<=(j:Int).tdiv 2/\(j:Int).tdiv 2<6:=by
   rw[show(2:Int)=((2:Nat):Int)from rfl,<- a2U];omega
  have ht3:0<=((j:Int).tdiv 2).tmod B/\((j:Int).tdiv 2).tmod B<B:=⟨Int.tmod_nonneg _ (by omega),Int.tmod_lt_of_pos _ (by omega)⟩;refine J.pq (.of [0,4,9,12,16,20,24,29,32,36,42,47]) [11] [2] λ_ _=>?_;generalize(j:Int).tmod D=yx;generalize((j:Int).tdiv 2).tmod B=yy;have hnx:=next_le hG.ok yx yy;refine J.qp (b0o q N hG.ok yx yy) [3] λ_=>?_;generalize N.next yx yy=nx at hnx;refine J.pq (.of [0,5,8,12,16,21,26]) [] [1,4] λ_ _=>?_;refine J.vT (pgV pg) rfl rfl (λhg a w he hC=>V4 tk rfl rfl he rfl rfl rfl (hAp _ (hC rfl _ (r8 (i:=1) rfl))) (by omega) (j:=j*32) (by omega) (O4 J9 32 (λ_=>rfl) pgs j pg hx) rfl) ?_;refine J.qp (a2J q N hG.ok hG.room yx yy nx pg hpgl) [3] λ_=>?_;refine J.q λ_=>?_;refine J.n ((j+1,N.progN yx yy nx pg)) (⟨by dsimp only;omega,by dsimp only;omega,(hG.less (show 200-(j+1)+1<=200-j by omega) (j7 _)).prog _ _ _ _ hpgl,hT.prog _ _ _ _⟩) (by dsimp only;omega) [0,1,2,3]
 refine J.qr [1,3] λ_=>?_;exact⟨q,N,rfl,⟨hG.less (by omega) (j7 _),hT⟩,rfl⟩
end Go.Proofs.YtpakpgkdpofbhaaGreat
namespace Go.Proofs.YtpakpgkdpofbhaaGreat
open Go Go.RowKit
open Go.ChangeShapes Go.WideShapes
def frz (W:World):Atom:= .hp ⟨Hle (hl W),λ_ _ l s=>s.trans l⟩
theorem a4I {W:World} {a:Option Addr} {size n:Nat} {xs:List Value} (h:rdP a size n xs (hl W)):Rd (frz W) a size n xs:=λ_ s=>h.up s
theorem Fn.whole {P:Program} {f:FuncId} {args:List Value} {r:Value} {W:World} (h:Fn P f args [frz W] (λv As=>v=r/\As=[frz W])):Calls P f args.toArray W λe w'=>e= .returned r/\Below W.heap.size W w':=by
 have hs:Sep (.hp ⟨λ_=>True,λ_ _ _ s=>s⟩::[frz W]) (hl W):=by
  refine⟨λ_=>1,λi A hA=>?_⟩
  match i,hA with
  | 0,hA=>simp at hA;subst hA;trivial
  | 1,hA=>
   simp at hA;subst hA;intro b o hb;exact res_some.2 ⟨rfl,hb⟩
  | i+2,hA=>simp at hA
 refine(h _ W hs).mono λe w' ⟨v,As,e1,⟨e2,e3⟩,s,x⟩=>?_;subst e2 e3;have hle:Hle (hl W) (hl w'):=s.get (i:=1) rfl;refine⟨e1,x.os,x.tape,x.output,x.size,λk hk=>?_⟩;have:W.heap[k]? =some W.heap[k]:=K5 hk;rw[this];exact hle k _ this
theorem b0h {size:Nat} {h:Hl}:rdP none size 0 [] h:=⟨by simp,λh=>absurd h (by omega)⟩
theorem b3V {α:Type} {W:World} {base size n:Nat} {a:Addr} (f:α->List Value) (hsz:0<size)
  (h:∀i,i<n->∃x,W.cells? base (a.add (i*size)) size=some (f x)):∃l:List α,l.length=n/\rdP (some a) size n (l.flatMap f) (hl W):=by
 have h1:∀m,m<=n->∃l:List α,l.length=m/\(l.flatMap f).length=m*size/\∀i,i<m*size->W.cell? (a.add i)=(l.flatMap f)[i]?:=by
  intro m
  induction m with
  | zero=>exactλ_=>⟨[],rfl,by simp,λi hi=>by omega⟩
  | succ m ih=>
   intro hm;obtain⟨l,e1,e2,e3⟩:=ih (by omega);obtain⟨x,hx⟩:=h m (by omega);obtain⟨_,q1,q2⟩:=World.cells?_some hx;have hlen:((l++[x]).flatMap f).length=(m+1)*size:=by simp[C5,e2,q1,Q6]
   refine⟨l++[x],by simp[e1],hlen,λi hi=>?_⟩;rw[C5,M9,e2];split
   ·exact e3 i (by assumption)
   ·rename_i hge;have:=q2 (i-m*size) (by rw[Q6]at hi;omega);rw[Deep.add_add,show m*size+(i-m*size)=i by omega]at this;rw[this];simp
 obtain⟨l,e1,e2,e3⟩:=h1 n (j7 n);refine⟨l,e1,e2,λhn=>?_⟩;obtain⟨b,o,sp⟩:=a;have hpos:0<n*size:=Nat.mul_pos hn hsz;have h0:=e3 0 hpos;have hv:(l.flatMap f)[0]? =some ((l.flatMap f)[0]'(by omega)):=d5 _;rw[hv]at h0;have hsp:sp=none:=by simpa[Addr.add]using World.cell?_spot h0
 subst hsp;have hcell:∀i,W.cell? ⟨b,o+i,none⟩=W.cell? ((⟨b,o,none⟩:Addr).add i):=λi=>by rw[Addr.add_none]
 have hblk:∃cs ty fr,W.heap[b]? =some (.cells cs ty fr):=by
  unfold World.cell? at h0;cases hh:W.heap[b]? with
  | none=>simp[Addr.add,hh]at h0
  | some ob=>
   cases ob with
   | cells cs ty fr=>exact⟨cs,ty,fr,rfl⟩
   | _=>simp[Addr.add,hh]at h0
 obtain⟨cs,ty,fr,hh⟩:=hblk;refine⟨b,o,cs,ty,fr,rfl,hh,?_⟩;apply v6;intro i;rw[A9];split
 ·rename_i hi;rw[<- e3 i hi,<- hcell,cell_of_row W b (o+i) cs ty fr hh];simp
 ·rename_i hi;exact(l4 (by omega)).symm
section
variable {H : Type} {enc : TypeId × Value → H} {w : World} {base : Nat} {spare : Nat → Bool} {held : Bool}
theorem b7L {fuel:Nat} {cs:List Value} {y:DataW H×List MemPlace} (h:DataW.trod enc Tryz.prog w base spare held fuel 5 cs=some y):∃b:UInt8,cs=[bv b]:=by
 obtain⟨n,rfl,_,hw⟩:=DataW.trod_int Tryz.underlying5 h;have:0<=n/\n<=255:=by simpa[Lit.wf,IntKind.min,IntKind.max,IntKind.signed,IntKind.bits]using hw
 refine⟨UInt8.ofNat n.toNat,?_⟩;simp only[bv,O1,a5B];congr 1;have:n.toNat<256:=by omega
 have h2:(UInt8.ofNat n.toNat).toNat=n.toNat:=by simp;omega
 rw[h2];omega
theorem b2w {m:Nat} {fuel:Nat}:∀{cs:List Value},cs.length=m->(∀i,i<m->∃y,DataW.trod enc Tryz.prog w base spare held fuel 5 ((cs.drop i).take 1)=some y)->∃l:List UInt8,l.length=m/\cs=l.map bv:=by
 induction m with
 | zero=>intro cs h _;exact⟨[],rfl,s7 h⟩
 | succ m ih=>
  intro cs h hx
  match cs,h with
  | c::r,h=>
   obtain⟨y,hy⟩:=hx 0 (by omega);obtain⟨b,hb⟩:=b7L hy;obtain⟨l,e1,e2⟩:=ih (cs:=r) (by simpa using h) (λi hi=>by simpa using hx (i+1) (by omega));refine⟨b::l,by simp[e1],?_⟩;simp at hb;simp[hb,e2]
theorem J0 {t:TypeId} (ht:Tryz.prog.underlying t=some (.int .i64)) {fuel:Nat} {cs:List Value} {y:DataW H×List MemPlace} (h:DataW.trod enc Tryz.prog w base spare held fuel t cs=some y):∃n,cs=[.int .i64 n]:=by
 obtain⟨n,rfl,_,_⟩:=DataW.trod_int ht h;exact⟨n,rfl⟩
theorem a4r {fuel:Nat} {cs:List Value} {y:DataW H×List MemPlace} (h:DataW.trod enc Tryz.prog w base spare held fuel 30 cs=some y):∃l:List UInt8,l.length=16/\cs=B1 l:=by
 obtain⟨xs,m,_,_,hl,hlen,hx⟩:=DataW.trod_array Tryz.underlying30 h;have h1:Tryz.prog.cellsOf 5=1:=by kernel_rfl
 have h16:Tryz.prog.cellsOf 30=16:=by kernel_rfl
 obtain⟨l,e1,e2⟩:=b2w (m:=16) (hl.trans h16) (λi hi=>by
  have:=hx i hi;rw[h1,M6,d5 (by omega)]at this;exact⟨_,this⟩)
 refine⟨l,e1,?_⟩
 match l,e1 with
 | [_,_,_,_,_,_,_,_,_,_,_,_,_,_,_,_],_=>subst e2;rfl
theorem c3N {fuel:Nat} {cs:List Value} {y:DataW H×List MemPlace} (h:DataW.trod enc Tryz.prog w base spare held fuel 113 cs=some y):∃e:En,e.data.length=16/\cs=enL e:=by
 obtain⟨y0,y1,y2,y3,n,_,hl,h0,h1,h2,h3⟩:=Joins.trod_struct4 Tryz.underlying113 h;have hlen:cs.length=19:=hl.trans (by kernel_rfl);have c1:Tryz.prog.cellsOf 3=1:=by kernel_rfl
 have c2:Tryz.prog.cellsOf 2=1:=by kernel_rfl
 have c3:Tryz.prog.cellsOf 30=16:=by kernel_rfl
 simp only[c1,c2,c3]at h0 h1 h2 h3;obtain⟨n0,q0⟩:=J0 Tryz.underlying3 h0;obtain⟨n1,q1⟩:=J0 Tryz.underlying2 h1;obtain⟨n2,q2⟩:=J0 Tryz.underlying3 h2;obtain⟨d,hd,q3⟩:=a4r h3;refine⟨⟨n0,n1,n2,d⟩,hd,?_⟩
 match cs,hlen with
 | [_,_,_,_,_,_,_,_,_,_,_,_,_,_,_,_,_,_,_],_=>
  simp at q0 q1 q2;simp only[P4,Q0,S8,W9,B1]at q3;subst q0 q1 q2;simp only[enL,O1]at q3 ⊢;simp only[true_and];exact q3
theorem b7K {held':Bool} {fuel:Nat} {a:Option Addr} {len cap:Nat} {x:DataW H×List MemPlace} (h:DataW.trod enc Tryz.prog w base spare held' fuel 103 [.slice a len cap]=some x):
  len<=cap/\cap<=maxLen/\∃l:List En,l.length=len/\(∀e∈l,e.data.length=16)/\rdP a 19 len (p5 l) (hl w):=by
 rcases Deep.open_slice Tryz.underlying103 h with⟨hcs,_⟩ | ⟨a',len',cap',m,n,D,Pl,hcs,hb,hlc,hm,hmm,rfl,hx⟩
 ·simp at hcs;obtain⟨rfl,rfl,rfl⟩:=hcs;exact⟨j7 _,j4 _,[],rfl,λ_ h=>by simp at h,b0h⟩
 ·simp at hcs;obtain⟨rfl,rfl,rfl⟩:=hcs;have c1:Tryz.prog.cellsOf 113=19:=by kernel_rfl
  rw[c1]at hx;obtain⟨l,e1,e2⟩:=b3V (W:=w) (base:=base) (size:=19) (n:=len) (a:=a') (λe:{e:En//e.data.length=16}=>enL e.1) (by decide) (λi hi=>by
   obtain⟨cs,q1,q2⟩:=hx i (by rw[hmm];split<;>omega);obtain⟨e,he,rfl⟩:=c3N q2;exact⟨⟨e,he⟩,q1⟩)
  refine⟨hlc,hm,l.map (·.1),by simpa using e1,λe he=>?_,?_⟩
  ·obtain⟨x,_,rfl⟩:=List.mem_map.1 he;exact x.2
  ·unfold p5;rw[List.flatMap_map];exact e2
end
end Go.Proofs.YtpakpgkdpofbhaaGreat
namespace Go.Proofs.YtpakpgkdpofbhaaGreat
open Go Go.RowKit
open Go.ChangeShapes Go.WideShapes Go.ChangeAt
section
variable {H : Type} {enc : TypeId × Value → H} {w : World} {base : Nat} {spare : Nat → Bool} {held : Bool}
theorem c2K {fuel:Nat} {cs:List Value} {x:DataW H×List MemPlace} (h:DataW.trod enc Tryz.prog w base spare held fuel 103 cs=some x):
  ∃(a:Option Addr) (len cap:Nat) (l:List En),cs=[.slice a len cap]/\l.length=len/\(∀e∈l,e.data.length=16)/\rdP a 19 len (p5 l) (hl w):=by
 have h0:=h;rcases Deep.open_slice Tryz.underlying103 h with⟨hcs,_⟩ | ⟨a',len',cap',m,n,D,Pl,hcs,_⟩
 ·subst hcs;exact⟨none,0,0,[],rfl,rfl,λ_ h=>by simp at h,b0h⟩
 ·subst hcs;obtain⟨_,_,l,e1,e2,e3⟩:=b7K h0;exact⟨_,_,_,l,rfl,e1,e2,e3⟩
structure RowV.In (W:World) (x:RowV):Prop where
 rd:rdP x.al 19 x.n (p5 x.l) (hl W)
 len:x.l.length=x.n
 data:∀s∈x.l,s.data.length=16
theorem RowV.In.ok {W:World} {x:RowV} (h:x.In W):x.Ok (frz W):=⟨a4I h.rd,h.len,h.data⟩
theorem c1R {fuel:Nat} {cs:List Value} {y:DataW H×List MemPlace} (h:DataW.trod enc Tryz.prog w base spare held fuel 181 cs=some y):∃x:RowV,x.In w/\cs=x.cells:=by
 obtain⟨y0,y1,y2,n,_,hl,h0,h1,h2⟩:=Deep.trod_struct3 Tryz.underlying181 h;have hlen:cs.length=3:=hl.trans (by kernel_rfl);have c1:Tryz.prog.cellsOf 3=1:=by kernel_rfl
 have c2:Tryz.prog.cellsOf 103=1:=by kernel_rfl
 simp only[c1,c2]at h0 h1 h2;obtain⟨n0,q0⟩:=J0 Tryz.underlying3 h0;obtain⟨n1,q1⟩:=J0 Tryz.underlying3 h1;obtain⟨a,len,cap,l,q2,e1,e2,e3⟩:=c2K h2;refine⟨⟨n0,n1,a,len,cap,l⟩,⟨e3,e1,e2⟩,?_⟩
 match cs,hlen with
 | [_,_,_],_=>
  simp at q0 q1 q2;subst q0 q1 q2;rfl
set_option maxRecDepth 100000 in
theorem c3H {fuel:Nat} {cs:List Value} {y:DataW H×List MemPlace} (h:DataW.trod enc Tryz.prog w base spare held fuel 57 cs=some y):∃x:FaV,cs=x.cells:=by
 obtain⟨xs,n,_,_,hl,hlen,hf⟩:=DataW.trod_struct Tryz.underlying57 h;have hlen2:cs.length=7:=hl.trans (by kernel_rfl);have hx:xs.length=5:=hlen;have c1:Tryz.prog.cellsOf 3=1:=by kernel_rfl
 have c3:Tryz.prog.cellsOf 55=3:=by kernel_rfl
 match xs,hx with
 | [y0,y1,y2,y3,y4],_=>
  have h0:DataW.trod enc Tryz.prog w base spare held n 3 ((cs.drop 0).take (Tryz.prog.cellsOf 3))=some y0:=hf 0 _ rfl;have h1:DataW.trod enc Tryz.prog w base spare held n 3 ((cs.drop 1).take (Tryz.prog.cellsOf 3))=some y1:=hf 1 _ rfl;have h2:DataW.trod enc Tryz.prog w base spare held n 55 ((cs.drop 2).take (Tryz.prog.cellsOf 55))=some y2:=hf 2 _ rfl;have h3:DataW.trod enc Tryz.prog w base spare held n 3 ((cs.drop 5).take (Tryz.prog.cellsOf 3))=some y3:=hf 3 _ rfl;have h4:DataW.trod enc Tryz.prog w base spare held n 3 ((cs.drop 6).take (Tryz.prog.cellsOf 3))=some y4:=hf 4 _ rfl;rw[c1]at h0 h1 h3 h4;rw[c3]at h2;obtain⟨z0,z1,z2,m,_,_,g0,g1,g2⟩:=Deep.trod_struct3 Tryz.underlying55 h2;simp only[c1]at g0 g1 g2;obtain⟨n0,q0⟩:=J0 Tryz.underlying3 h0;obtain⟨n1,q1⟩:=J0 Tryz.underlying3 h1;obtain⟨n2,q2⟩:=J0 Tryz.underlying3 g0;obtain⟨n3,q3⟩:=J0 Tryz.underlying3 g1;obtain⟨n4,q4⟩:=J0 Tryz.underlying3 g2;obtain⟨n5,q5⟩:=J0 Tryz.underlying3 h3;obtain⟨n6,q6⟩:=J0 Tryz.underlying3 h4;refine⟨⟨n0,n1,n2,n3,n4,n5,n6⟩,?_⟩
  match cs,hlen2 with
  | [_,_,_,_,_,_,_],_=>
   simp at q0 q1 q2 q3 q4 q5 q6;subst q0 q1 q2 q3 q4 q5 q6;rfl
theorem c3s {fuel:Nat} {cs:List Value} {y:DataW H×List MemPlace} (h:DataW.trod enc Tryz.prog w base spare held fuel 172 cs=some y):∃l:List UInt8,l.length=32/\cs=J9 l:=by
 obtain⟨xs,m,_,_,hl,hlen,hx⟩:=DataW.trod_array Tryz.underlying172 h;have h1:Tryz.prog.cellsOf 5=1:=by kernel_rfl
 have h16:Tryz.prog.cellsOf 172=32:=by kernel_rfl
 obtain⟨l,e1,e2⟩:=b2w (m:=32) (hl.trans h16) (λi hi=>by
  have:=hx i hi;rw[h1,M6,d5 (by omega)]at this;exact⟨_,this⟩)
 exact⟨l,e1,by rw[P7 l e1];exact e2⟩
theorem a1A {α:Type} {held':Bool} {fuel:Nat} {st et:TypeId} {size:Nat} (f:α->List Value) (good:α->Prop) (hu:Tryz.prog.underlying st=some (.slice et)) (hc:Tryz.prog.cellsOf et=size) (hsz:0<size)
  (hof:∀{fuel:Nat} {held:Bool} {cs:List Value} {y:DataW H×List MemPlace},DataW.trod enc Tryz.prog w base spare held fuel et cs=some y->∃x:α,good x/\cs=f x)
  {a:Option Addr} {len cap:Nat} {x:DataW H×List MemPlace} (h:DataW.trod enc Tryz.prog w base spare held' fuel st [.slice a len cap]=some x):
  ∃l:List α,l.length=len/\(∀e∈l,good e)/\rdP a size len (l.flatMap f) (hl w):=by
 rcases Deep.open_slice hu h with⟨hcs,_⟩ | ⟨a',len',cap',m,n,D,Pl,hcs,hb,hlc,hm,hmm,rfl,hx⟩
 ·simp at hcs;obtain⟨rfl,rfl,rfl⟩:=hcs;exact⟨[],rfl,λ_ h=>by simp at h,b0h⟩
 ·simp at hcs;obtain⟨rfl,rfl,rfl⟩:=hcs;rw[hc]at hx;obtain⟨l,e1,e2⟩:=b3V (W:=w) (base:=base) (size:=size) (n:=len) (a:=a') (λe:{e:α//good e}=>f e.1) hsz (λi hi=>by
   obtain⟨cs,q1,q2⟩:=hx i (by rw[hmm];split<;>omega);obtain⟨e,he,rfl⟩:=hof q2;exact⟨⟨e,he⟩,q1⟩)
  refine⟨l.map (·.1),by simpa using e1,λe he=>?_,?_⟩
  ·obtain⟨x,_,rfl⟩:=List.mem_map.1 he;exact x.2
  ·rw[List.flatMap_map];exact e2
theorem b5p {held':Bool} {fuel:Nat} {a:Option Addr} {len cap:Nat} {x:DataW H×List MemPlace} (h:DataW.trod enc Tryz.prog w base spare held' fuel 99 [.slice a len cap]=some x):
  ∃l:List RowV,l.length=len/\(∀e∈l,e.In w)/\rdP a 3 len (l.flatMap RowV.cells) (hl w):=
 a1A RowV.cells (λx=>x.In w) Tryz.underlying99 (by kernel_rfl) (by decide) c1R h
theorem b7J {held':Bool} {fuel:Nat} {a:Option Addr} {len cap:Nat} {x:DataW H×List MemPlace} (h:DataW.trod enc Tryz.prog w base spare held' fuel 75 [.slice a len cap]=some x):
  ∃l:List FaV,l.length=len/\(∀e∈l,True)/\rdP a 7 len (l.flatMap FaV.cells) (hl w):=
 a1A FaV.cells (λ_=>True) Tryz.underlying75 (by kernel_rfl) (by decide) (λh=>let⟨x,e⟩:=c3H h;⟨x,trivial,e⟩) h
theorem b7I {held':Bool} {fuel:Nat} {a:Option Addr} {len cap:Nat} {x:DataW H×List MemPlace} (h:DataW.trod enc Tryz.prog w base spare held' fuel 100 [.slice a len cap]=some x):
  ∃l:List (List UInt8),l.length=len/\(∀e∈l,e.length=32)/\rdP a 32 len (l.flatMap J9) (hl w):=
 a1A J9 (λl=>l.length=32) Tryz.underlying100 (by kernel_rfl) (by decide) c3s h
end
end Go.Proofs.YtpakpgkdpofbhaaGreat
namespace Go.Proofs.YtpakpgkdpofbhaaGreat
open Go Go.RowKit
open Go.ChangeShapes Go.WideShapes Go.ChangeAt
section
variable {H : Type} {enc : TypeId × Value → H} {w : World} {base : Nat} {spare : Nat → Bool} {held : Bool}
theorem c2r {fuel:Nat} {cs:List Value} {y:DataW H×List MemPlace} (h:DataW.trod enc Tryz.prog w base spare held fuel 3 cs=some y):∃x:Int,(-9223372036854775808<=x/\x<=9223372036854775807)/\cs=[.int .i64 x]:=by
 obtain⟨n,rfl,_,hw⟩:=DataW.trod_int Tryz.underlying3 h;refine⟨n,?_,rfl⟩;simpa[Lit.wf,IntKind.min,IntKind.max,IntKind.signed,IntKind.bits]using hw
theorem b5q {held':Bool} {fuel:Nat} {a:Option Addr} {len cap:Nat} {x:DataW H×List MemPlace} (h:DataW.trod enc Tryz.prog w base spare held' fuel 35 [.slice a len cap]=some x):
  ∃l:List Int,l.length=len/\(∀e∈l,-9223372036854775808<=e/\e<=9223372036854775807)/\rdP a 1 len (l.flatMap λx=>[.int .i64 x]) (hl w):=
 a1A (λx:Int=>[.int .i64 x]) (λx=> -9223372036854775808<=x/\x<=9223372036854775807) Tryz.underlying35 (by kernel_rfl) (by decide) c2r h
end
end Go.Proofs.YtpakpgkdpofbhaaGreat
namespace Go.Proofs.YtpakpgkdpofbhaaGreat
open Go Go.RowKit
def rdA (a:Option Addr) (size n:Nat) (xs:List Value):Atom:= .hp ⟨rdP a size n xs,λ_ _ l s=>s.up l⟩
theorem b0j (a:Option Addr) (size n:Nat) (xs:List Value):Rd (rdA a size n xs) a size n xs:=λ_ s=>s
def K4:Option (Nat×Nat)->Option Addr
 | some x=>some ⟨x.1,x.2,none⟩
 | none=>none
def a1y (a:Option (Nat×Nat)) (size h c:Nat):Option (Nat×Nat):=match a with
 | some y=>if c=h then some y else some (y.1,y.2+h*size)
 | none=>none
section
variable {P : Program} {T : Tab} {E : Env} {n : Nat} {ac : Act} {w : World}
theorem a1T (hT:TabOK P T) {o:Oper} {t e size:Nat} {x y:Operand} {k1 k2 t1 t2:Nat} {g1 g2:G} {a:Option (Nat×Nat)} {m c h:Nat} {kk:IntKind} {hI:Int} {s1 b1 b2:Nat} {z1 z2:List Value} {td:TD} (hop:o.op= .slice t x (some y) none none) (hx:ev E x=some ⟨k1, .slice (K4 a) m c,t1,g1⟩) (hy:ev E y=some ⟨k2, .int kk hI,t2,g2⟩) (he:EnvOK n E ac) (v1:g1.on=true) (v2:g2.on=true)
  (ht:T.get t=some ⟨.slice e size,s1,z1,b1⟩) (hte:T.get e=some ⟨td,size,z2,b2⟩) (hhI:hI=(h:Int)) (hh:h<=m):
  (execOp ac.eval o).run P w= .ok (.value (.slice (K4 (a1y a size h c)) (m-h) (c-h))) w:=by
 subst hhI;have e1:=A6 he hx;have e2:=A6 he hy;simp only[Slot.val,v1,v2]at e1 e2;obtain⟨d,f,zv,ok⟩:=y8 (hT.get ht);obtain⟨fe,rfl,g1,g2⟩:=ok.slice rfl;cases a with
 | none=>
  simp only[execOp,hop,B5,I7,e1,e2,Instr.sliceAt,Instr.slice,Instr.sliceBounds,Instr.sliceBound,asIntOf,Sem.run_bind,Sem.run_pure,Result.andThen_ok,s4 ok.hd,E9 g1,g2];simp[hh,K4,a1y]
 | some ad=>
  by_cases hne:c=h
  ·simp only[execOp,hop,B5,I7,e1,e2,Instr.sliceAt,Instr.slice,Instr.sliceBounds,Instr.sliceBound,asIntOf,Sem.run_bind,Sem.run_pure,Result.andThen_ok,s4 ok.hd,E9 g1,g2];simp[hh,hne,Addr.add_none,K4,a1y]
  ·simp only[execOp,hop,B5,I7,e1,e2,Instr.sliceAt,Instr.slice,Instr.sliceBounds,Instr.sliceBound,asIntOf,Sem.run_bind,Sem.run_pure,Result.andThen_ok,s4 ok.hd,E9 g1,g2];simp[hh,hne,Addr.add_none,K4,a1y]
end
section
variable {X : Cx} {P : Program} {K : List KI} {E : Env} {L : List Atom} {N : Nat} {F : HP} {Post : Value → List Atom → Prop} {rs : List ResultVar} {T : Tab}
theorem J.appendRO (hX:IsCx X P rs N F Post) (hT:TabOK P T) {ops:Array Oper} {C:Cl} {lt:Bool} {i:Nat} {t:PT} {o:Oper} {x y:Operand} {st e size by_:Nat} {ks tgs:Nat} {gs:G} {a:Option Nat} {n cap:Nat} {xs:List Value} {ky tgy:Nat} {gy:G} {ay:Option (Nat×Nat)} {m cy:Nat} {cs:List Value} {s1 b1:Nat} {z1:List Value} {E':Value->Env} {Ay:Atom} (is iy:Nat) (hc0:ay=none->cy=0)
  (ho:H7 ops.toList i=some o) (hg:gd ops.toList E o=some .tt) (hop:o.op= .call ⟨.builtin .append,#[x,y],#[st,st]⟩)
  (hx:ev E x=some ⟨ks,slv a n cap,tgs,gs⟩) (hvx:gs.on=true) (hy:ev E y=some ⟨ky, .slice (K4 ay) m cy,tgy,gy⟩) (hvy:gy.on=true)
  (hLs:H7 L is=some (l5 e size a n cap xs)) (hLy:H7 L iy=some Ay) (hrd:Rd Ay (K4 ay) size m cs) (hst:T.get st=some ⟨.slice e size,s1,z1,b1⟩) {td:TD} {z:List Value} (he:T.get e=some ⟨td,size,z,by_⟩) (hz:Nat.beq z.length size=true)
  (hsz:Nat.blt 0 size=true) (h1:∀u∈cs,u.oneCell'=true) (h63:n+m<=maxLen) (hbytes:(n+m)*by_<=140737488355328)
  (hd:∀v,V8 N o.dst v 0 .tt E=some (E' v))
  (hJ:∀a' cap',∃L',Q2 L is (l5 e size a' (n+m) cap' (xs++cs))=some L'/\Conj (J4 lt C L')/\J X (.reg ops C t::K) (E' (slv a' (n+m) cap')) L'):J X (.reg ops C (.alt lt i t .non)::K) E L:=by
 cases ay with
 | some b=>exact J.appendR hX hT (oo:=b.2) is iy 0 ho hg rfl hop hx hvx hy hvy hLs hLy hrd hst he hz hsz h1 h63 hbytes hd hJ
 | none=>
  obtain rfl:=hc0 rfl;rw[H6]at hLs hLy;refine J.know (p:=cs.length=m*size/\m=0) (λh s=>⟨(hrd _ (s.get hLy)).1,by
   rcases K7 m with h0 | h0
   ·exact h0
   ·obtain⟨_,_,_,_,_,e,_⟩:=(hrd _ (s.get hLy)).2 h0;cases e⟩) λhk=>?_
  obtain⟨q1,rfl⟩:=hk;have hcs:cs=[]:=s7 (by rw[q1,L7]);subst hcs;obtain⟨L',e1,e2,e3⟩:=hJ a cap;rw[L8,n9]at e1;rw[L8]at e3;have hL:L'=L:=by
   rw[R9 e1];apply v6;intro j;rw[r9];split
   ·rename_i e;subst e;split
    ·exact hLs.symm
    ·rename_i e4;rw[l4 (by omega)]
   ·rfl
  subst hL;exact J.val hX (slv a n cap) 0 ho hg (λ_ ac w hen hs=>a3w hT hop hx hvx hy hvy hen hst he (show a0E e size a n cap xs (hl w)from hs.get hLs)) (hd _) e2 e3
end
theorem a7J {e size:Nat} {a:Option Nat} {n cap:Nat} {xs:List Value} {h:Hl} (s:a0E e size a n cap xs h):a=none->cap=0:=λe=>by subst e;exact s.2.2
theorem b0i {a:Option (Nat×Nat)} {size n c h:Nat} {xs:List Value} {hh:Hl} (s:rdP (K4 a) size n xs hh) (hn:h<=n) (hc:n<=c):rdP (K4 (a1y a size h c)) size (n-h) (xs.drop (h*size)) hh:=by
 cases a with
 | none=>
  refine⟨by rw[x4,s.1,Nat.sub_mul],λh0=>?_⟩;obtain⟨b,o,_,_,_,e,_⟩:=s.2 (by omega);cases e
 | some y=>
  by_cases e:c=h
  ·refine⟨by rw[x4,s.1,Nat.sub_mul],λh0=>by omega⟩
  ·unfold a1y;simp only[d7 e];exact(b0j (some ⟨y.1,y.2,none⟩) size n xs).drop h hn _ s
theorem b5s {a:Option (Nat×Nat)} {size n:Nat} {xs:List Value} {h:Hl} (s:rdP (K4 a) size n xs h) (hn:0<n):∃y,a=some y:=by
 cases a with
 | none=>obtain⟨_,_,_,_,_,e,_⟩:=s.2 hn;cases e
 | some y=>exact⟨y,rfl⟩
theorem b2u (L:List En):∀k,(p5 L).drop (k*19)=p5 (L.drop k):=by
 induction L with
 | nil=>intro k;simp[p5]
 | cons x l ih=>
  intro k;cases k with
  | zero=>simp
  | succ k=>
   have e1:p5 (x::l)=enL x++p5 l:=by simp[p5]
   rw[e1,P4,<- ih k,show(k+1)*19=(enL x).length+k*19 from by show _=19+k*19;omega,<- A4,T4 rfl]
theorem b3W {a:Option (Nat×Nat)} {n c h:Nat} {L:List En} {hh:Hl} (s:rdP (K4 a) 19 n (p5 L) hh) (hl:L.length=n) (hn:h<=n) (hc:n<=c):rdP (K4 (a1y a 19 h c)) 19 (L.drop h).length (p5 (L.drop h)) hh:=by
 have:=b0i s hn hc
 rwa [b2u,<- hl,<- x4]at this
theorem a4s {a:Option (Nat×Nat)} {size h c:Nat} (hz:a=none->c=0):a1y a size h c=none->c-h=0:=by
 cases a with
 | none=>intro _;rw[hz rfl];omega
 | some y=>intro e;unfold a1y at e;simp only at e;split at e<;>cases e
theorem b2r (xs:List Int):(xs.flatMap λx=>[Value.int .i64 x])=n7 xs:=by
 induction xs with
 | nil=>rfl
 | cons x xs ih=>simp only[q9,ih];rfl
theorem b3i {N:Nand} {d b r:Int} (h:(N.blk d.toNat b.toNat).cells.length<=r.toNat):(M.look N d b r).2=2\/(M.look N d b r).2=4:=by
 have hp:N.pageAt d b r=none:=l4 h;have hr:N.refuses d b r=0\/N.refuses d b r=9\/N.refuses d b r=3\/N.refuses d b r=8:=by
  unfold Nand.refuses;split
  ·simp
  ·split
   ·simp
   ·split<;>simp
 have he:N.readE d b r=5\/N.readE d b r=9\/N.readE d b r=3\/N.readE d b r=8:=by
  unfold Nand.readE;rw[hp];rcases hr with e | e | e | e<;>rw[e]<;>simp
 unfold M.look;simp only;rcases he with e | e | e | e<;>rw[e]<;>simp
theorem b6o {N:Nand} {b r:Int} (h:∀d:Nat,(M.look N (d:Nat) b r).2≠1):R.all N b r=[]:=by
 have:(M.rowN N b r N.dies).filterMap M.maskOf=[]:=by
  refine List.filterMap_eq_nil_iff.2 λx hx=>?_;unfold M.rowN at hx;obtain⟨d,_,rfl⟩:=List.mem_map.1 hx;unfold M.maskOf;rw[d7 (h d)]
 unfold R.all M.masks;rw[this];rfl
def u8 (x:Int):UInt8:=UInt8.ofNat (x % 256).toNat
theorem b2H (x:Int):Value.int .u8 (IntKind.u8.wrap x)=bv (u8 x):=by
 have h:IntKind.u8.wrap x=x % 256:=by simp[IntKind.wrap,IntKind.bits,IntKind.signed]
 rw[h,bv,u8];congr 1;have h1:0<=x % 256/\x % 256<256:=⟨Y6 _ (by decide),U3 _ (by decide)⟩;have h2:(UInt8.ofNat (x % 256).toNat).toNat=(x % 256).toNat:=by
  rw[a5C];omega
 rw[h2];omega
theorem a0j {a b:Bool} (ha:a=true) (hb:b=true):(a&&b)=true:=by rw[ha,hb];rfl
theorem a1C {P:Program} {f:FuncId} {fn:Func} {s:ChangeSpec} {c:OpenClaim} (k0:(c.wf (OpenSpec.ofChange s))=true) (k1:(laidOutB P)=true) (k2:(mapsRowed P)=true) (k3:(fn.params.all (P.readableRec ·))=true) (k4:(namedTie P c.named s.vars)=true) (k5:(c.stops==[])=true) (k6:(P.stops==[])=true) (k7:(c.knobs==[])=true) (k8:(P.stopKnobs==[])=true) (k9:(c.inPlace==P.inPlace f)=true) (k10:(c.unfollowed==P.unfollowed f)=true) (k11:(c.recurses==P.recurses f)=true) (k12:(c.named==P.varsNamed f)=true) (k13:(c.maps==(fn.params.toList++s.plain.varTypes P).any (P.mapsRec ·))=true) (k14:(c.ifaces==(fn.params.toList++s.plain.varTypes P).any (P.ifacesRec ·))=true) (k15:(c.mapsOut==P.mapsAmong fn.resultTypes.toList)=true) (k16:(c.loops==(fn.params.toList++s.plain.varTypes P).any (P.loopsFrom ·))=true) (k17:(c.wideKeys==(fn.params.toList++s.plain.varTypes P++fn.resultTypes.toList).any (P.wideKeysFrom ·))=true) (k18:(s.vars.all (P.varReadable ·))=true) (k19:(fn.resultTypes.all (λt=>P.readableRec t&&decide (t<P.types.size)))=true) (k20:(c.ifacesOut==fn.resultTypes.toList.any (P.ifacesRec ·))=true) (k21:(c.loopsOut==fn.resultTypes.toList.any (P.loopsFrom ·))=true) (k22:(c.plainKeys==P.plainKeys)=true) (k23:(c.shortTexts.isNone)=true) (k24:(P.stopsHeard)=true) (k25:(P.mayEnter)=true) (k26:(c.lifted==P.liftsFinal)=true) (k27:(P.make==some c.make)=true) (k28a:c.domain.isEmpty=true) (k28:(c.kinds==[])=true) (k29:(c.pinned==c.pinnedBy)=true) (k30:(c.veiled==(fn.params.toList++s.plain.varTypes P++fn.resultTypes.toList).any (P.veiledRec ·))=true) (k31:(c.veiledFits P fn.params.toList (fn.params.toList++s.plain.varTypes P++fn.resultTypes.toList))=true):joinedFacts P f fn s c=true:=by
 unfold joinedFacts;rw[d8 k28a];exact(a0j (a0j (a0j (a0j (a0j (a0j (a0j (a0j (a0j (a0j (a0j (a0j (a0j (a0j (a0j (a0j (a0j (a0j (a0j (a0j (a0j (a0j (a0j (a0j (a0j (a0j (a0j (a0j (a0j (a0j (a0j k0 k1) k2) k3) k4) k5) k6) k7) k8) k9) k10) k11) k12) k13) k14) k15) k16) k17) k18) k19) k20) k21) k22) k23) k24) k25) k26) k27) k28) k29) k30) k31)
end Go.Proofs.YtpakpgkdpofbhaaGreat
