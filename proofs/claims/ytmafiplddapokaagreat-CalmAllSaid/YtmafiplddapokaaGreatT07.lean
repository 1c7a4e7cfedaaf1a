/- Helpers. No condition. -/
import Derived.Test.YtmafiplddapokaaGreatT06
set_option maxRecDepth 20000
set_option linter.all false
namespace Go.Proofs.YtmafiplddapokaaGreat
section
open Go Go.RowKit
theorem M9 (l:List Int):(B2 l).length=l.length:=by simp[B2]
theorem a0R (l:List Int) (r:List Value) (k:Nat) (x:Int) (h:l[k]? =some x):(B2 l++r)[k]? =some (iI x):=by
 obtain⟨h1,h2⟩:=List.getElem?_eq_some_iff.1 h;rw[E6 (by rw[M9];exact h1),B2,i5,h];rfl
theorem a2m (l:List Int) (r:List Value) (k:Nat) (x:Int) (h:k<l.length):(B2 l++r).set k (iI x)=B2 (l.set k x)++r:=by
 rw[Q1 _ _ (by rw[M9];exact h),B2,B2,A6]
def a7Q (l:List Int) (j:Nat):List Int:=(l.set j (l.getD (j-1) 0)).set (j-1) (l.getD j 0)
def a3X:Nat->List Int->List Int
 | 0,l=>l
 | j+1,l=>if l.getD (j+1) 0<l.getD j 0 then a3X j (a7Q l (j+1))else l
def a0u (l:List Int):Nat->List Int
 | 0=>l
 | k+1=>a3X (k+1) (a0u l k)
def a0t (l:List Int):List Int:=a0u l (l.length-1)
theorem a2S (l:List Int) (j:Nat):(a7Q l j).length=l.length:=by simp[a7Q]
theorem a9G:∀(j:Nat) (l:List Int),(a3X j l).length=l.length
  | 0,l=>rfl
  | j + 1, l => by unfold a3X; split
                   · rw[a9G j,a2S]
                   · rfl
theorem a2g (l:List Int):∀k,(a0u l k).length=l.length
 | 0=>rfl
 | k+1=>by rw[a0u,a9G,a2g l k]
theorem c0A (g n cap:Nat) (l:List Int) (hl:l.length=n) (hn:n<=4611686018427387904) (r:List Value):FP 207 [.slice (some ⟨g,0,none⟩) n cap,iI 0,iI n] [.pt g 3 (B2 l++r)]
  (Ps (.tuple #[]) [.pt g 3 (B2 (a0t l)++r)]):=by
 refine FE [2,0,0] Tryz.func207 λX F hX=>?_;refine J.q λ_=>?_;refine J.l (α:=Nat) (λi=>1<=i/\i<=max 1 n) (λi=>[si 6 i,⟨0, .slice (some ⟨g,0,none⟩) n cap,2, .tt⟩,si 1 0,si 2 n]) [1] (λi=>[.pt g 3 (B2 (a0u l (i-1))++r)]) (λi=>n-i) (1) (⟨by omega,by omega⟩) λi hI=>?_;refine J.qd (λ_ h1=>?_) λ_ h1=>?_
 ·simp only[d6,i6]at h1;refine J.q λ_=>?_;refine J.l (α:=(Nat×List Int)) (λy=>y.1<=i/\y.2.length=n/\a3X y.1 y.2=a0u l i) (λy=>[si 7 y.1,si 6 i,⟨0, .slice (some ⟨g,0,none⟩) n cap,2, .tt⟩,si 1 0,si 2 n]) [1] (λy=>[.pt g 3 (B2 y.2++r)]) (λy=>y.1) ((i,a0u l (i-1))) (⟨j3 _,by rw[a2g,hl],by obtain⟨k,rfl⟩:∃k,i=k+1:=⟨i-1,by omega⟩;rfl⟩) λy hI=>?_;obtain⟨j,m⟩:=y;dsimp only at hI ⊢;have hget:∀e,e<n->m[e]? =some (m.getD e 0):=λe he=>by rw[d5,c9 (by omega),j4]
  rcases P9 j with h2 | h2
  ·subst h2;refine J.pn 4 (.of [0,4,8,12,16,20,24,29,32,36,40,44,49,54,56]) [] [1] λ_ _=>?_;rw[show decide (((0:Nat):Int)>0)=false from rfl];refine J.q λ_=>?_;refine J.vT (iI 0) rfl rfl (λhg a w he hC=>by simp[G.on]at hg) ?_;refine J.q λ_=>?_;refine J.vT (iI 0) rfl rfl (λhg a w he hC=>by simp[G.on]at hg) ?_;refine J.q λ_=>?_;refine J.gcase hX rfl rfl rfl ⟨rfl,trivial⟩ (λh=>by cases h) (λ_=>?_);refine J.slot (k:=29) (s':=⟨29, .bool false,0, .when false⟩) rfl rfl rfl ?_;refine J.qF λ_=>?_;have hm:m=a0u l (i+1-1):=hI.2.2;rw[hm];refine J.q λ_=>?_;refine J.n (i+1) (⟨by omega,by omega⟩) (by omega) [0,1]
  ·obtain⟨j,rfl⟩:∃k,j=k+1:=⟨j-1,by omega⟩;refine J.pn 4 (.of [0,4,8,12,16,20,24,29,32,36,40,44,49,54,56]) [] [1] λ_ _=>?_;rw[show decide (((j+1:Nat):Int)>0)=true from i7 (by omega)];refine J.q λ_=>?_;refine J.vT (iI (m.getD (j+1) 0)) rfl rfl (λhg a w he hC=>?_) ?_
   ·exact B6 tk rfl rfl he hg rfl rfl (hC rfl _ (C0 (i:=1) rfl)) (by rw[show 0+((j+1:Nat):Int).toNat*1=j+1 from by omega];exact a0R m r _ _ (hget _ (by omega)))
   refine J.q λ_=>?_;refine J.vT (iI (m.getD j 0)) rfl rfl (λhg a w he hC=>?_) ?_
   ·exact B6 tk rfl rfl he hg rfl rfl (hC rfl _ (C0 (i:=1) rfl)) (by rw[show 0+(((j+1:Nat):Int)-1).toNat*1=j from by omega];exact a0R m r _ _ (hget _ (by omega)))
   refine J.q λ_=>?_;refine J.call hX (by kernel_rfl) (c2m (m.getD (j+1) 0) (m.getD j 0)) [] 0 rfl rfl rfl rfl (by(repeat' (first | exact Conj.nil | refine Conj.cons ?_ ?_ | omega | exact hq0 | (simpa using hq0) | (exactλh=>h) | exact rfl | (intro hq;have hq0:=hq;try simp only[f8,j7,d6,i4,c8]at hq) | (simp;done) | (simp;omega) | decide))) rfl rfl (λ_=>rfl) ?_;refine cpq ⟨_,rfl,⟨rfl,trivial⟩,?_⟩;refine J.qd (λ_ h3=>?_) λ_ h3=>?_
   ·simp only[q9,d6]at h3;refine J.pq (.take true 0 (.take true 1 (.take true 2 (.take true 3 (.take true 4 (.take true 5 (.take true 6 (.take true 7 (.take true 8 (.take true 10 (.take true 11 (.take true 12 (.alt false 9 ((.of [54,56,62,64,71])) (.alt false 13 ((.of [38,56,62,64,71])) .non)))))))))))))) [16,17] [] λ_ _=>?_;refine J.alts ?_ ?_
    ·refine J.v (iI (m.getD j 0)) rfl rfl (λhg a w he hs=>?_) ?_
     ·exact B6 tk rfl rfl he hg rfl rfl (hs.get (i:=1) rfl) (by rw[show 0+(((j+1:Nat):Int)-1).toNat*1=j from by omega];exact a0R m r _ _ (hget _ (by omega)))
     refine J.q λ_=>?_;refine J.v (iI (m.getD (j+1) 0)) rfl rfl (λhg a w he hs=>?_) ?_
     ·exact B6 tk rfl rfl he hg rfl rfl (hs.get (i:=1) rfl) (by rw[show 0+((j+1:Nat):Int).toNat*1=j+1 from by omega];exact a0R m r _ _ (hget _ (by omega)))
     refine J.q λ_=>?_;refine J.s1 1 (B2 (m.set (j+1) (m.getD j 0))++r) ?_ ?_ ?_
     ·rw[d8,M9];show 0+((j+1:Nat):Int).toNat*1<_;omega
     ·rw[show 0+((j+1:Nat):Int).toNat*1=j+1 from by omega];exact a2m m r (j+1) _ (by omega)
     refine J.q λ_=>?_;refine J.s1 1 (B2 (a7Q m (j+1))++r) ?_ ?_ ?_
     ·rw[d8,M9,A5];show 0+(((j+1:Nat):Int)-1).toNat*1<_;omega
     ·rw[show 0+(((j+1:Nat):Int)-1).toNat*1=j from by omega];exact a2m _ r j _ (by rw[A5];omega)
     refine J.q λ_=>?_;rw[show((j+1:Nat):Int)-1=(j:Int)from by omega];refine J.q λ_=>?_;refine J.n ((j,a7Q m (j+1))) (⟨by dsimp only;omega,by rw[a2S];exact hI.2.1,by rw[<- hI.2.2];exact(d7 h3).symm⟩) (by dsimp only;omega) [0,1]
    ·refine J.v (iI (m.getD (j+1) 0)) rfl rfl (λhg a w he hs=>?_) ?_
     ·exact B6 tk rfl rfl he hg rfl rfl (hs.get (i:=1) rfl) (by rw[show 0+((j+1:Nat):Int).toNat*1=j+1 from by omega];exact a0R m r _ _ (hget _ (by omega)))
     refine J.q λ_=>?_;refine J.v (iI (m.getD j 0)) rfl rfl (λhg a w he hs=>?_) ?_
     ·exact B6 tk rfl rfl he hg rfl rfl (hs.get (i:=1) rfl) (by rw[show 0+(((j+1:Nat):Int)-1).toNat*1=j from by omega];exact a0R m r _ _ (hget _ (by omega)))
     refine J.q λ_=>?_;refine J.s1 1 (B2 (m.set (j+1) (m.getD j 0))++r) ?_ ?_ ?_
     ·rw[d8,M9];show 0+((j+1:Nat):Int).toNat*1<_;omega
     ·rw[show 0+((j+1:Nat):Int).toNat*1=j+1 from by omega];exact a2m m r (j+1) _ (by omega)
     refine J.q λ_=>?_;refine J.s1 1 (B2 (a7Q m (j+1))++r) ?_ ?_ ?_
     ·rw[d8,M9,A5];show 0+(((j+1:Nat):Int)-1).toNat*1<_;omega
     ·rw[show 0+(((j+1:Nat):Int)-1).toNat*1=j from by omega];exact a2m _ r j _ (by rw[A5];omega)
     refine J.q λ_=>?_;rw[show((j+1:Nat):Int)-1=(j:Int)from by omega];refine J.q λ_=>?_;refine J.n ((j,a7Q m (j+1))) (⟨by dsimp only;omega,by rw[a2S];exact hI.2.1,by rw[<- hI.2.2];exact(d7 h3).symm⟩) (by dsimp only;omega) [0,1]
   ·simp only[q9,c8]at h3;have hm:m=a0u l (i+1-1):=by rw[show i+1-1=i from rfl,<- hI.2.2];exact(d4 h3).symm
    rw[hm];refine J.q λ_=>?_;refine J.n (i+1) (⟨by omega,by omega⟩) (by omega) [0,1]
 ·simp only[c8,i6]at h1;have hi:a0u l (i-1)=a0t l:=by
   rw[a0t,hl,show i-1=n-1 from by omega]
  rw[hi];refine J.q λ_=>?_;refine J.f [1] ?_;exact⟨rfl,rfl⟩
theorem a1n (l:List Int):(a0t l).length=l.length:=a2g l _
theorem b9Y (g n cap:Nat) (l:List Int) (hl:l.length=n) (hn:n<=12) (r:List Value) (k:Nat):FP 170 [.slice (some ⟨g,0,none⟩) n cap,iI 0,iI n,iI k] [.pt g 3 (B2 l++r)]
  (Ps (.tuple #[]) [.pt g 3 (B2 (a0t l)++r)]):=by
 refine FE [2,0,0,0] Tryz.func170 λX F hX=>?_;refine J.q λ_=>?_;refine J.l (α:=Nat) (λy=>True) (λy=>[⟨0, .slice (some ⟨g,0,none⟩) n cap,2, .tt⟩,si 1 0,si 2 n,si 3 k]) [1] (λy=>[.pt g 3 (B2 l++r)]) (λy=>0) (0) (trivial) λy hI=>?_;refine J.qd (λ_ h1=>?_) λ_ h1=>?_
 ·refine J.q λ_=>?_;rw[show(n:Int)-0=n from by omega]at*;refine J.qp (c0A g n cap l hl (by omega) r) [1] λ_=>?_;exact J.qx [1]
 ·simp only[c8]at h1;omega
theorem b7x (d:Value) (k:Nat):FP 170 [d,iI 0,iI 0,iI k] [] (Ps (.tuple #[]) []):=by
 have h0:FP 207 [d,iI 0,iI 0] [] (Ps (.tuple #[]) []):=by
  refine FE [0,0,0] Tryz.func207 λX F hX=>?_;refine J.q λ_=>?_;refine J.l (α:=Nat) (λy=>True) (λy=>[si 6 (0+1),sv 0 d,si 1 0,si 2 0]) [] (λy=>[]) (λy=>0) (0) (trivial) λy hI=>?_;refine J.qd (λ_ h1=>?_) λ_ h1=>?_
  ·simp at h1
  ·refine J.q λ_=>?_;refine J.f [] ?_;exact⟨rfl,rfl⟩
 refine FE [0,0,0,0] Tryz.func170 λX F hX=>?_;refine J.q λ_=>?_;refine J.l (α:=Nat) (λy=>True) (λy=>[sv 0 d,si 1 0,si 2 0,si 3 k]) [] (λy=>[]) (λy=>0) (0) (trivial) λy hI=>?_;refine J.qd (λ_ h1=>?_) λ_ h1=>?_
 ·refine J.qp (h0) [] λ_=>?_;exact J.qx []
 ·simp at h1
theorem a7X (a:Option Nat) (n cap:Nat) (l:List Int) (hl:l.length=n) (hn:n<=12):FP 106 [slv a n cap] [l9 3 1 a n cap (B2 l)]
  (Ps (.tuple #[]) [l9 3 1 a n cap (B2 (a0t l))]):=by
 refine FE [0] Tryz.func106 λX F hX=>?_;refine J.qc (c1n n hn) [] λ_=>?_;rintro v As ⟨⟨k,hk,rfl⟩,rfl⟩;refine⟨_,rfl,trivial,?_⟩;refine J.q λ_=>?_;cases a with
 | none=>
  refine J.know (λh' s=>(s.get (i:=1) rfl).2.1) λhn0=>?_;subst hn0;have:l=[]:=m7 hl;subst this;refine J.qp (b7x (slv none 0 cap) k) [] λ_=>?_;refine J.q λ_=>?_;refine J.f [1] ?_;exact⟨rfl,rfl⟩
 | some g=>
  refine J.openOwn 1 rfl rfl (λ_=>rfl) λr q1 q2 q3 q4=>?_;refine J.qp (b9Y g n cap l hl hn r k) [1] λ_=>?_;refine J.closeOwn (e:=3) (size:=1) (n:=n) (cap:=cap) (xs:=B2 (a0t l)) 1 rfl rfl (by rw[M9,a1n l,hl,U7]) q2 q3 (by rw[d8,M9,a1n l];rw[M9]at q4;exact q4) (by rw[D9 (by rw[M9,a1n l,hl,U7])]) rfl ?_;refine J.q λ_=>?_;refine J.f [1] ?_;exact⟨rfl,rfl⟩
def K9 (p:Int):List Int->List Int
 | []=>[]
 | x::r=>if x=p then K9 x r else x::K9 x r
def J9:List Int->List Int
 | []=>[]
 | x::r=>x::K9 x r
def CpI (l m:List Int) (k j:Nat):Prop:=m.length=l.length/\1<=k/\k+1<=j/\j<=l.length/\m.drop (j-1)=l.drop (j-1)/\m.take k++K9 (l.getD (j-1) 0) (l.drop j)=J9 l
theorem c2j {l:List Int} {k:Nat} (hk:1<=k) (hl:k<l.length) (h:l.take k++K9 (l.getD (k-1) 0) (l.drop k)=J9 l) (hne:l.getD k 0≠l.getD (k-1) 0):l.take (k+1)++K9 (l.getD k 0) (l.drop (k+1))=J9 l:=by
 have hx:l.getD k 0=l[k]:=by rw[d5,c9 hl,j4]
 rw[y8 hl,K9,d4 (by rw[<- hx];exact hne)]at h;rw[<- h,hx,D2,c9 hl];simp only[K8,m9,List.singleton_append]
theorem CpI.start {l:List Int} {k:Nat} (hk:1<=k) (hl:k<l.length) (h:l.take k++K9 (l.getD (k-1) 0) (l.drop k)=J9 l) (he:l.getD k 0=l.getD (k-1) 0):CpI l l k (k+1):=by
 have hx:l.getD k 0=l[k]:=by rw[d5,c9 hl,j4]
 refine⟨rfl,hk,by omega,by omega,rfl,?_⟩;rw[y8 hl,K9,d7 (by rw[<- hx];exact he)]at h;rw[Q0,hx];exact h
theorem CpI.get {l m:List Int} {k j:Nat} (h:CpI l m k j) (i:Nat) (hi:j-1<=i):m.getD i 0=l.getD i 0:=by
 have h5:=h.2.2.2.2.1;have e:m[i]? =l[i]?:=by
  have:=congrArg (λz=>z[i-(j-1)]?) h5;simp only[J5]at this
  rwa [show j-1+(i-(j-1))=i from by omega]at this
 rw[d5,e,d5]
theorem CpI.skip {l m:List Int} {k j:Nat} (h:CpI l m k j) (hj:j<l.length) (he:l.getD j 0=l.getD (j-1) 0):CpI l m k (j+1):=by
 obtain⟨h1,h2,h3,h4,h5,h6⟩:=h;have hx:l.getD j 0=l[j]:=by rw[d5,c9 hj,j4]
 refine⟨h1,h2,by omega,by omega,?_,?_⟩
 ·have:=congrArg (List.drop 1) h5;rw[C2,C2]at this
  rwa [show j-1+1=j+1-1 from by omega]at this
 ·rw[y8 hj,K9,d7 (by rw[<- hx];exact he)]at h6;rw[Q0,hx];exact h6
theorem CpI.keep {l m:List Int} {k j:Nat} (h:CpI l m k j) (hj:j<l.length) (he:l.getD j 0≠l.getD (j-1) 0):CpI l (m.set k (l.getD j 0)) (k+1) (j+1):=by
 obtain⟨h1,h2,h3,h4,h5,h6⟩:=h;have hx:l.getD j 0=l[j]:=by rw[d5,c9 hj,j4]
 refine⟨by simp[h1],by omega,by omega,by omega,?_,?_⟩
 ·rw[List.drop_set_of_lt (by omega)];have:=congrArg (List.drop 1) h5;rw[C2,C2]at this
  rwa [show j-1+1=j+1-1 from by omega]at this
 ·rw[y8 hj,K9,d4 (by rw[<- hx];exact he)]at h6;rw[Q0,hx,<- h6,a4q,D2,c9 (by omega),O9 _ _ (by simp;omega)];simp[l5,K5 (show k<=m.length by omega)]
theorem a8R {l:List Int} (h:l.length<2):J9 l=l:=by
 match l,h with
 | [],_=>rfl
 | [x],_=>rfl
theorem a9y (a:Option Nat) (n cap:Nat) (l:List Int) (hl:l.length=n) (hn:n<=4611686018427387904):FP 107 [slv a n cap] [l9 3 1 a n cap (B2 l)]
  (λv As=>∃l',l'=J9 l/\v=slv a l'.length cap/\As=[l9 3 1 a l'.length cap (B2 l')]):=by
 refine FE [0] Tryz.func107 λX F hX=>?_;refine J.qd (λ_ h0=>?_) λ_ h0=>?_
 ·simp only[d6]at h0;refine J.qr [1] λ_=>?_;have hs:J9 l=l:=a8R (by omega);exact⟨l,hs.symm,by rw[hl],by rw[hl];rfl⟩
 simp only[c8]at h0;cases a with
 | none=>
  refine J.know (λh' s=>(s.get (i:=1) rfl).2.1) λhn0=>?_;omega
 | some g=>
  refine J.openOwn 1 rfl rfl (λ_=>rfl) λr q1 q2 q3 q4=>?_;refine J.q λ_=>?_;refine J.l (α:=Nat) (λk=>1<=k/\k<=n/\l.take k++K9 (l.getD (k-1) 0) (l.drop k)=J9 l) (λk=>[si 3 k,sv 0 (slv (some g) n cap)]) [] (λk=>[]) (λk=>n-k) (1) (⟨by omega,by omega,by cases l with | nil=>simp at hl;omega | cons x l=>rfl⟩) λk hI=>?_;have hget:∀e,e<n->(B2 l++r)[e]? =some (iI (l.getD e 0)):=λe he=>a0R l r e _ (by rw[d5,c9 (by omega),j4]);refine J.qd (λ_ h1=>?_) λ_ h1=>?_
  ·simp only[d6,i6]at h1;refine J.pq (.of [0,4,8,13,16,20,24,28,33,36]) [] [1] λ_ _=>?_;refine J.vT (iI (l.getD k 0)) rfl rfl (λhg a w he hC=>?_) ?_
   ·exact B6 tk rfl rfl he hg rfl rfl (hC rfl _ (C0 (i:=1) rfl)) (by rw[show 0+(k:Int).toNat*1=k from by omega];exact hget k h1)
   refine J.q λ_=>?_;refine J.vT (iI (l.getD (k-1) 0)) rfl rfl (λhg a w he hC=>?_) ?_
   ·exact B6 tk rfl rfl he hg rfl rfl (hC rfl _ (C0 (i:=1) rfl)) (by rw[show 0+((k:Int)-1).toNat*1=k-1 from by omega];exact hget (k-1) (by omega))
   refine J.qd (λ_ h2=>?_) λ_ h2=>?_
   ·simp only[B4]at h2;refine J.q λ_=>?_;rw[show(k:Int).toNat=k from i9 k];refine J.q λ_=>?_;refine J.l (α:=(Nat×Nat×List Int)) (λz=>CpI l z.2.2 z.1 (k+z.2.1)/\1<=z.2.1) (λz=>[si 5 z.2.1,sv 4 (.slice (some ⟨g,0+k*1,none⟩) (n-k) (cap-k)),si 3 z.1,sv 0 (slv (some g) n cap)]) [1] (λz=>[.pt g 3 (B2 z.2.2++r)]) (λz=>n-z.2.1) ((k,1,l)) (⟨CpI.start hI.1 (by omega) hI.2.2 h2,j3 _⟩) λz hI=>?_;obtain⟨kk,q,m⟩:=z;dsimp only at hI ⊢;obtain⟨hI,hq⟩:=hI;have hml:m.length=n:=hI.1.trans hl;have hc1:=hI.2.1;have hc2:=hI.2.2.1;have hc3:=hI.2.2.2.1;have hgm:∀e,e<n->(B2 m++r)[e]? =some (iI (m.getD e 0)):=λe he=>a0R m r e _ (by rw[d5,c9 (by omega),j4]);refine J.qd (λ_ h3=>?_) λ_ h3=>?_
    ·simp only[d6,i6]at h3;have hgj:=hI.get (k+q) (by omega);have hgj1:=hI.get (k+q-1) (by omega);have h3':k+q<n:=by omega
     refine J.pq (.of [0,4,8,13,16,20,24,28,33,36]) [] [1] λ_ _=>?_;refine J.vT (iI (m.getD (k+q) 0)) rfl rfl (λhg a w he hC=>?_) ?_
     ·exact B6 tk rfl rfl he hg rfl rfl (hC rfl _ (C0 (i:=1) rfl)) (by rw[show 0+k*1+(q:Int).toNat*1=k+q from by omega];exact hgm _ h3')
     refine J.q λ_=>?_;refine J.vT (iI (m.getD (k+q-1) 0)) rfl rfl (λhg a w he hC=>?_) ?_
     ·exact B6 tk rfl rfl he hg rfl rfl (hC rfl _ (C0 (i:=1) rfl)) (by rw[show 0+k*1+((q:Int)-1).toNat*1=k+q-1 from by omega];exact hgm _ (by omega))
     refine J.qd (λ_ h4=>?_) λ_ h4=>?_
     ·simp only[G9,I1,hgj,hgj1]at h4;refine J.q λ_=>?_;refine J.v (iI (m.getD (k+q) 0)) rfl rfl (λhg a w he hw=>?_) ?_
      ·exact B6 tk rfl rfl he rfl rfl rfl (hw.get (i:=1) rfl) (by rw[show 0+k*1+(q:Int).toNat*1=k+q from by omega];exact hgm _ h3')
      refine J.q λ_=>?_;refine J.s1 1 (B2 (m.set kk (l.getD (k+q) 0))++r) ?_ ?_ ?_
      ·rw[d8,M9];show 0+(kk:Int).toNat*1<_;omega
      ·rw[show 0+(kk:Int).toNat*1=kk from by omega,hgj];exact a2m m r kk _ (by omega)
      refine J.q λ_=>?_;refine J.n ((kk+1,q+1,m.set kk (l.getD (k+q) 0))) (⟨hI.keep (by omega) h4,by dsimp only;omega⟩) (by dsimp only;omega) [0,1]
     ·simp only[A8,hgj,hgj1]at h4;refine J.q λ_=>?_;refine J.n ((kk,q+1,m)) (⟨hI.skip (by omega) h4,by dsimp only;omega⟩) (by dsimp only;omega) [0,1]
    ·simp only[c8,i6]at h3;have hj:k+q=n:=by omega
     have hfin:m.take kk=J9 l:=by
      have h6:=hI.2.2.2.2.2;rw[H0 (by omega)]at h6;simpa[K9]using h6
     refine J.q λ_=>?_;refine J.clear hX tk 1 rfl rfl rfl rfl rfl rfl rfl rfl rfl rfl rfl ?_ (λ_=>rfl) (λ_=>rfl) λcs' z1 z2=>⟨trivial,?_⟩
     ·rw[d8,M9];rw[M9]at q4;show 0+(kk:Int).toNat*1+(n-(kk:Int).toNat)*1<=_;omega
     have hklen:(J9 l).length=kk:=by rw[<- hfin,l5];omega
     refine J.closeOwn (e:=3) (size:=1) (n:=kk) (cap:=cap) (xs:=B2 (J9 l)) 1 rfl rfl (by rw[M9,hklen,U7]) (by omega) q3 (by rw[z1,d8,M9,hml];rw[M9,hl]at q4;exact q4) ?_ rfl ?_
     ·have z3:(0+(kk:Int).toNat*1)=kk:=by omega
      rw[z3]at z2;rw[U7,z2,List.take_append_of_le_length (by rw[M9];omega),<- hfin,B2,B2,List.map_take]
     refine J.qr [1] λ_=>?_;exact⟨_,rfl,by rw[hklen];rfl,by rw[hklen];rfl⟩
   ·simp only[m6,I1]at h2;refine J.q λ_=>?_;refine J.nx (k+1) (⟨by omega,by omega,by rw[Q0];exact c2j hI.1 (by omega) hI.2.2 h2⟩) (by omega) (λ_ s=>s)
  ·simp only[c8,i6]at h1;obtain rfl:k=n:=by omega
   have hs:J9 l=l:=by
    have:=hI.2.2;rw[x9 (by omega),H0 (by omega)]at this;simpa[K9]using this.symm
   refine J.closeOwn (e:=3) (size:=1) (n:=k) (cap:=cap) (xs:=B2 l) 1 rfl rfl q1 q2 q3 (by rw[d8];exact q4) (by rw[D9 q1]) rfl ?_;refine J.qr [1] λ_=>?_;exact⟨l,hs.symm,by rw[hl],by rw[hl];rfl⟩
def En.zero:En:=⟨0,0,0,zeros16⟩
def Sh.en (s:Sh):En:=⟨s.lpn,s.seq,s.role,s.data⟩
namespace W
def alien (p s:Sh):Bool:=s.kind !=1|| !S.may s||s.block !=p.block||s.row !=p.row||s.mask !=p.mask
def backS (p:Sh) (l:List Sh):En:=
 let x:=over (l++[p])
 ⟨(x.2.toNat/1099511627776 % 65536:Nat),(x.2.toNat % 1099511627776:Nat),(x.2.toNat/72057594037927936:Nat),x.1⟩
def backB (p:Sh) (l:List Sh):Bool:=p.kind==2&&S.may p&& !l.any (alien p)&&decide ((l.length:Int)=G.slots p.mask-1)&&ok p.block p.row p.mask (backS p l)
def back (p:Sh) (l:List Sh):En:=if backB p l then backS p l else En.zero
end W
structure Fd where
 slots:List Sh
 good:List Bool
 parity:Sh
 whole:Bool
structure Fnd where
 en:En
 block:Int
 row:Int
 slot:Int
 mask:Int
 whole:Bool
 mended:Bool
namespace M
def maskOf (x:Sh×Int):Option Int:=if x.2=1 then some x.1.mask else none
def masks (N:Nand) (b r:Int):List Int:=J9 (a0t ((rowN N b r N.dies).filterMap maskOf))
end M
namespace R
def job (b r m:Int) (l:List En):List (Int×Sh):=(List.range l.length).map (λk=>(G.die m b r (k:Nat),W.sh b r m (l.getD k En.zero)))++[(G.parity m b r,W.parS b r m l)]
def go (b r:Int):List (Int×Sh)->Nand->Int->Nand×Int×Int
 | [],N,f=>(N,f,if f=0 then 0 else 7)
 | (d,s)::q,N,f=>
  if N.progE d b r=0 then go b r q (N.progN d b r (P7 s)) f
  else if N.progE d b r=9 then(N.progN d b r (P7 s),f,9)
  else go b r q (N.progN d b r (P7 s)) (L.with_ f d)
def write (N:Nand) (b r m:Int) (l:List En):Nand×Int×Int:=if W.parB b r m l then go b r (job b r m l) N 0 else(N,0,1)
def one (N:Nand) (b r m d:Int):Sh×Bool:=((M.look N d b r).1,(M.look N d b r).2==1&&(M.look N d b r).1.mask==m)
def ones (N:Nand) (b r m:Int) (k:Nat):List (Sh×Bool):=(List.range k).map λi:Nat=>one N b r m (G.die m b r i)
def look (N:Nand) (b r m:Int):Fd:=⟨(ones N b r m (G.slots m).toNat).map (·.1),(ones N b r m (G.slots m).toNat).map (·.2),(one N b r m (G.parity m b r)).1,(one N b r m (G.parity m b r)).2⟩
def rest (f:Fd) (k:Nat):Bool:=(List.range f.slots.length).all λi=>i==k||f.good.getD i false
def mendB (f:Fd) (k:Nat):Bool:=rest f k&&f.whole&&W.backB f.parity (f.slots.eraseIdx k)
def mend (f:Fd) (k:Nat):En:=if rest f k&&f.whole then W.back f.parity (f.slots.eraseIdx k)else En.zero
def read (N:Nand) (b r s m:Int):En×Int:=
 if G.die m b r s<0\/X4 N.dies N.blocks N.pages 0 b r=false then(En.zero,3)
 else if N.off then(En.zero,9)
 else if(look N b r m).good.getD s.toNat false then(((look N b r m).slots.getD s.toNat Sh.zero).en,0)
 else if mendB (look N b r m) s.toNat then(mend (look N b r m) s.toNat,0)else(En.zero,10)
def enAt (f:Fd) (k:Nat):En:=if f.good.getD k false then(f.slots.getD k Sh.zero).en else mend f k
def okAt (f:Fd) (k:Nat):Bool:=f.good.getD k false||mendB f k
def fnd (f:Fd) (b r m:Int) (k:Nat):Option Fnd:=if okAt f k&&(enAt f k).role !=3 then some ⟨enAt f k,b,r,k,m,f.whole,!(f.good.getD k false)⟩else none
def allM (N:Nand) (b r m:Int):List Fnd:=(List.range (look N b r m).slots.length).filterMap (fnd (look N b r m) b r m)
def all (N:Nand) (b r:Int):List Fnd:=(M.masks N b r).flatMap (allM N b r)
end R
theorem a0i (N:Nand) (b r m:Int):(R.look N b r m).slots.length=(G.slots m).toNat/\(R.look N b r m).good.length=(G.slots m).toNat:=by simp[R.look,R.ones]
theorem a9W {N:Nand} (hN:N.Ok) (x y z:Int):(M.look N x y z).1.data.length=16:=by
 have hz:Sh.zero.data.length=16:=rfl;unfold M.look;dsimp only;split
 ·split
  ·exact hz
  ·exact b8F _ (a9N hN x y z)
 ·split
  ·exact hz
  ·split<;>exact hz
end
section
structure AtV where
 block:Int
 row:Int
 slot:Int
 mask:Int
 seq:Int
 role:Int
 deriving DecidableEq
def AtV.zero:AtV:=⟨0,0,0,0,0,0⟩
structure Tb where
 logical:Int
 at_:List (Int×AtV)
 cnt:List (Int×Int)
 next:Int
namespace Tb
def look {α:Type}:List (Int×α)->Int->Option α
 | [],_=>none
 | x::l,k=>if k=x.1 then some x.2 else look l k
def put1 {α:Type}:List (Int×α)->Int->α->List (Int×α)
 | [],k,v=>[(k,v)]
 | x::l,k,v=>if k=x.1 then(k,v)::l else x::put1 l k v
def new (n:Int):Tb:=⟨min (max n 0) 65536,[],[],1⟩
def count (t:Tb) (b:Int):Int:=(look t.cnt b).getD 0
def ok (t:Tb) (e:En):Bool:=!(decide (e.lpn<0)||decide (e.lpn>=t.logical)||(e.role !=1&&e.role !=2&&e.role !=4))
def elder (t:Tb) (e:En):Bool:=match look t.at_ e.lpn with
 | some a=>decide (e.seq<a.seq)
 | none=>false
def cnt1 (t:Tb) (e:En):List (Int×Int):=match look t.at_ e.lpn with
 | some a=>put1 t.cnt a.block (t.count a.block-1)
 | none=>t.cnt
def cnt2 (t:Tb) (e:En) (b:Int):List (Int×Int):=put1 (cnt1 t e) b ((look (cnt1 t e) b).getD 0+1)
def putB (t:Tb) (e:En):Bool:=ok t e&& !elder t e
def put (t:Tb) (e:En) (b r s m:Int):Tb:=if putB t e then⟨t.logical,put1 t.at_ e.lpn ⟨b,r,s,m,e.seq,e.role⟩,cnt2 t e b,if e.seq>=t.next then e.seq+1 else t.next⟩else t
def inB (t:Tb) (b:Int) (i:Int):Bool:=match look t.at_ i with
 | some a=>a.block==b
 | none=>false
def inK (t:Tb) (b:Int) (k:Nat):List Int:=((List.range k).filter λi:Nat=>inB t b i).map λi:Nat=>(i:Int)
theorem inK_succ (t:Tb) (b:Int) (k:Nat):inK t b (k+1)=if inB t b k then inK t b k++[(k:Int)]else inK t b k:=by
 unfold inK;rw[t6,T3,s8];cases h:inB t b k<;>simp[h]
theorem inK_len (t:Tb) (b:Int) (k:Nat):(inK t b k).length<=k:=by
 unfold inK;rw[j5];exact E9 (J8 _ _) (by rw[K7];exact j3 _)
def ins (t:Tb) (b:Int):List Int:=if t.count b=0 then[]else inK t b t.logical.toNat
theorem look_put1 {α:Type} (k:Int) (v:α) (j:Int):∀l:List (Int×α),look (put1 l k v) j=if j=k then some v else look l j
 | []=>by simp only[put1,look]
 | x::l=>by
  simp only[put1]
  by_cases h:k=x.1
  ·rw[d7 h];simp only[look]
   by_cases h2:j=k
   ·rw[d7 h2,d7 h2]
   ·rw[d4 h2,d4 h2,d4 (λe=>h2 (e.trans h.symm))]
  ·rw[d4 h];simp only[look]
   by_cases h2:j=x.1
   ·rw[d7 h2,d7 h2,d4 (λe=>h (e.symm.trans h2))]
   ·rw[d4 h2,d4 h2,look_put1 k v j l]
end Tb
namespace V
def behind (a b:Fnd):Bool:=if a.en.seq≠b.en.seq then decide (a.en.seq<b.en.seq)else b.whole&& !a.whole
def topsStep (out:List Fnd) (f:Fnd):List Fnd:=match out with
 | []=>[f]
 | h::t=>if behind h f then[f]else if behind f h then h::t else h::t++[f]
def tops (l:List Fnd):List Fnd:=l.foldl topsStep []
def all (N:Nand):List Fnd:=(List.range N.blocks).flatMap λb=>(List.range N.pages).flatMap λr=>R.all N (b:Nat) (r:Nat)
def of (l:List Fnd) (k:Int):List Fnd:=l.filter λf=>f.en.lpn==k
def holds (l:List Fnd):List Int:=(tops (l.filter λf=>f.whole)).map (·.block)
def blankRow (N:Nand) (b r:Int):Bool:=(M.rowN N b r N.dies).all λx=>x.2==2||x.2==4
def last (N:Nand) (f:Fnd):Bool:=((List.range N.pages).all λr:Nat=>decide ((r:Int)<=f.row)||blankRow N f.block r)&&(M.look N (G.parity f.mask f.block f.row) f.block f.row).2 !=4
end V
end
section
open Go Go.RowKit
def kI (k:Int):Value:=iI k
theorem a7k:KeyOk Tryz.prog 3 kI where
 now:=⟨_,Tryz.underlying3,λa b=> .inr rfl⟩
 eq:=λa b w=>by kernel_rfl
 check:=λe a w=>by kernel_rfl
 bits:=λa=>by simp[kI,Instr.sameBits]
theorem a6b:Tryz.prog.underlying 205=some (.map 3 133):=by kernel_rfl
theorem a7J:Tryz.prog.underlying 206=some (.map 3 3):=by kernel_rfl
def atL (a:AtV):List Value:=[iI a.block,iI a.row,iI a.slot,iI a.mask,iI a.seq,iI a.role]
def atV (a:AtV):Value:= .agg (atL a).toArray
def atM (l:List (Int×AtV)):List (Int×Value):=l.map λx=>(x.1,atV x.2)
def cnM (l:List (Int×Int)):List (Int×Value):=l.map λx=>(x.1,iI x.2)
def plL (b r s:Int):List Value:=[iI b,iI r,iI s]
def plV (b r s:Int):Value:= .agg (plL b r s).toArray
theorem a6z {α:Type} (f:α->Value) (k:Int):∀l:List (Int×α),R3 (l.map λx=>(x.1,f x.2)) k=(Tb.look l k).map f
 | []=>rfl
 | x::l=>by
  simp only[n8,R3,Tb.look];split
  ·rfl
  ·exact a6z f k l
theorem a8Z {α:Type} (f:α->Value) (k:Int) (v:α):∀l:List (Int×α),a1F (l.map λx=>(x.1,f x.2)) k (f v)=(Tb.put1 l k v).map λx=>(x.1,f x.2)
 | []=>rfl
 | x::l=>by
  simp only[n8,a1F,Tb.put1];split
  ·rfl
  ·rw[a8Z f k v l];rfl
theorem a9c (l:List (Int×AtV)) (k:Int):R3 (atM l) k=(Tb.look l k).map atV:=a6z atV k l
theorem a5Q (l:List (Int×Int)) (k:Int):R3 (cnM l) k=(Tb.look l k).map (Value.int .i64):=a6z (Value.int .i64) k l
theorem b4W (l:List (Int×AtV)) (k:Int) (v:AtV):a1F (atM l) k (atV v)=atM (Tb.put1 l k v):=a8Z atV k v l
theorem b1x (l:List (Int×Int)) (k v:Int):a1F (cnM l) k (Value.int .i64 v)=cnM (Tb.put1 l k v):=a8Z (Value.int .i64) k v l
theorem a6n (o:Option AtV):(o.map atV).getD (atV AtV.zero)=atV (o.getD AtV.zero):=by cases o<;>rfl
theorem a3t (o:Option Int):(o.map (Value.int .i64)).getD (Value.int .i64 0)=Value.int .i64 (o.getD 0):=by cases o<;>rfl
theorem a8m {α β:Type} (o:Option α) (f:α->β):(o.map f).isSome=o.isSome:=by cases o<;>rfl
def TbP (q:Nat) (t:Tb) (x:Nat×Nat):List Atom:=[.pt q 208 [iI t.logical, .map (some x.1), .map (some x.2),iI t.next],W4 x.1 kI (atM t.at_),W4 x.2 kI (cnM t.cnt)]
def TbA (q:Nat) (t:Tb):Atom:=exA λx:Nat×Nat=>TbP q t x
theorem b6V (n:Int):(if(65536:Int)<if(0:Int)>n then 0 else n then 65536 else if(0:Int)>n then 0 else n)=min (max n 0) 65536:=by
 by_cases h:(0:Int)>n
 ·simp only[d7 h];rw[d4 (by omega)];omega
 ·simp only[d4 h];split<;>omega
theorem b3l (n:Int):FP 100 [iI n] [] (λv As=>∃q,v=pp q/\As=[TbA q (Tb.new n)]):=by
 refine FE [0] Tryz.func100 λX F hX=>?_;refine J.q λbs=>?_;rw[b6V];refine J.turn1 [1] rfl (As:=[W4 (bs 0) kI (atM [])]) (λh s=>?_) rfl ?_
 ·refine⟨λ_=>0,λi A hA=>?_⟩;cases i with
  | zero=>simp at hA;subst hA;exact⟨#[],0,res_some.2 ⟨rfl,s.get (i:=0) rfl⟩,rfl,by simp,by simp⟩
  | succ k=>simp at hA
 refine J.turn1 [2] rfl (As:=[W4 (bs (0+1)) kI (cnM [])]) (λh s=>?_) rfl ?_
 ·refine⟨λ_=>0,λi A hA=>?_⟩;cases i with
  | zero=>simp at hA;subst hA;exact⟨#[],0,res_some.2 ⟨rfl,s.get (i:=0) rfl⟩,rfl,by simp,by simp⟩
  | succ k=>simp at hA
 refine J.close (f:=λx:Nat×Nat=>TbP (bs (0+1+1)) (Tb.new n) x) (bs 0,bs (0+1)) [3,1,2] rfl rfl rfl ?_;refine J.qr [3] λ_=>?_;exact⟨bs (0+1+1),rfl,rfl⟩
theorem a6d (q:Nat) (t:Tb) (k:Int):FP 67 [pp q,iI k] [TbA q t]
  (Ps (.tuple #[atV ((Tb.look t.at_ k).getD AtV.zero), .bool (Tb.look t.at_ k).isSome]) [TbA q t]):=by
 refine FE [2,0] Tryz.func67 λX F hX=>?_;refine J.o (α:=(Nat×Nat)) 1 λx=>?_;refine J.qF λ_=>?_;refine J.q λ_=>?_;refine J.v (.tuple #[atV ((Tb.look t.at_ k).getD AtV.zero), .bool (Tb.look t.at_ k).isSome]) rfl rfl (λhg a w he hs=>?_) ?_
 ·refine(I5 (key:=k) a7k a6b (z:=atV AtV.zero) (λw=>by kernel_rfl) rfl rfl rfl rfl he rfl rfl (hs.get (i:=2) rfl)).trans ?_;simp only[a9c,a6n,a8m]
 refine J.cl (λx:Nat×Nat=>TbP q t x) x [1,2,3] ?_;exact J.qx [1]
theorem b6W (q:Nat) (t:Tb):FP 235 [pp q] [TbA q t]
  (Ps (iI t.at_.length) [TbA q t]):=by
 refine FE [2] Tryz.func235 λX F hX=>?_;refine J.o (α:=(Nat×Nat)) 1 λx=>?_;refine J.qF λ_=>?_;refine J.q λ_=>?_;refine J.v (iI t.at_.length) rfl rfl (λhg a w he hs=>?_) ?_
 ·refine(a6N a6b rfl rfl he rfl (hs.get (i:=2) rfl)).trans ?_;rw[atM,j5]
 refine J.cl (λx:Nat×Nat=>TbP q t x) x [1,2,3] ?_;exact J.qx [1]
theorem b9E (q:Nat) (t:Tb):FP 270 [pp q] [TbA q t]
  (Ps (iI t.next) [TbA q t]):=by
 refine FE [2] Tryz.func270 λX F hX=>?_;refine J.o (α:=(Nat×Nat)) 1 λx=>?_;refine J.qF λ_=>?_;refine J.q λ_=>?_;refine J.cl (λx:Nat×Nat=>TbP q t x) x [1,2,3] ?_;exact J.qx [1]
theorem a0x (q:Nat) (t:Tb) (k:Int):FP 120 [pp q,iI k] [TbA q t]
  (Ps (iI (t.count k)) [TbA q t]):=by
 refine FE [2,0] Tryz.func120 λX F hX=>?_;refine J.o (α:=(Nat×Nat)) 1 λx=>?_;refine J.qF λ_=>?_;refine J.q λ_=>?_;refine J.v (iI (t.count k)) rfl rfl (λhg a w he hs=>?_) ?_
 ·refine(I5 (key:=k) a7k a7J (z:=iI 0) (λw=>by kernel_rfl) rfl rfl rfl rfl he rfl rfl (hs.get (i:=3) rfl)).trans ?_;simp only[a5Q,a3t];rfl
 refine J.cl (λx:Nat×Nat=>TbP q t x) x [1,2,3] ?_;exact J.qx [1]
theorem a7P (q:Nat) (t:Tb) (e:En) (b r s m:Int) (hs: -9223372036854775808<=e.seq/\e.seq<9223372036854775807) (hc:∀k,0<=Tb.count t k/\Tb.count t k<=1000000):FP 103 [pp q,enV e,plV b r s,iI m] [TbA q t]
  (Ps (.bool (Tb.putB t e)) [TbA q (Tb.put t e b r s m)]):=by
 refine FE [2,0,0,0] Tryz.func103 λX F hX=>?_;refine J.o (α:=(Nat×Nat)) 1 λx=>?_;refine J.pn 1 (.of [0,4,8,12,17,20,24,28,32,37,40,44,48,53,56,60,64,68,73,76,80,84,89,92,96,100,104,109,112,116,120]) [] [1,2,3,4,5] λ_ _=>?_;refine J.run hX tk 400 (λb16=>rfl) (λb16=>?_) (λb16=>?_)
 ·(repeat' (first | exact Conj.nil | refine Conj.cons ?_ ?_ | exact rfl | exact hq | (rw[hq];rfl) | (rw[(i4 _).mp hq]) | intro hq | omega | (simp;done) | (simp_all;done)))
 refine J.qd (λ_ h1=>?_) λ_ h1=>?_
 ·refine J.cl (λx:Nat×Nat=>TbP q t x) x [1,2,3] ?_;refine J.qr [1] λ_=>?_;have ho:Tb.ok t e=false:=by unfold Tb.ok;rw[B5];exact h1
  have hp:Tb.putB t e=false:=by unfold Tb.putB;rw[ho];rfl
  exact⟨by rw[hp],by rw[Tb.put,d4 (by rw[hp];simp)];rfl⟩
 have ho:Tb.ok t e=true:=by unfold Tb.ok;rw[i4];exact h1
 refine J.pq (.of [0,4,8,13,16,21,25,28,32,36,42,46,48]) [12] [1,2,3,4,5] λ_ _=>?_;refine J.vT (.tuple #[atV ((Tb.look t.at_ e.lpn).getD AtV.zero), .bool (Tb.look t.at_ e.lpn).isSome]) rfl rfl (λ_ a w he hC=>?_) ?_
 ·refine(I5 (key:=e.lpn) a7k a6b (z:=atV AtV.zero) (λw=>by kernel_rfl) rfl rfl rfl rfl he rfl rfl (hC rfl _ (C0 (i:=2) rfl))).trans ?_;simp only[a9c,a6n,a8m]
 rcases hlk:Tb.look t.at_ e.lpn with _ | a
 ·have hel:Tb.elder t e=false:=by simp[Tb.elder,hlk]
  have hp:Tb.putB t e=true:=by rw[Tb.putB,ho,hel];rfl
  have hc1:Tb.cnt1 t e=t.cnt:=by simp[Tb.cnt1,hlk]
  refine J.q λbw=>?_;refine J.cF ?_;refine J.qF λ_=>?_;refine J.pq (.of [0,4,8,13,16,21,25,28,35]) [8] [1,2,3,4,5,6] λ_ _=>?_;refine J.vT (iI ((Tb.look (t.cnt) b).getD 0)) rfl rfl (λ_ a w he hC=>?_) ?_
  ·refine(I5 (key:=b) a7k a7J (z:=iI 0) (λw=>by kernel_rfl) rfl rfl rfl rfl he rfl rfl (hC rfl _ (C0 (i:=3) rfl))).trans ?_;simp only[a5Q,a3t]
  have hb2: -1<=(Tb.look (t.cnt) b).getD 0/\(Tb.look (t.cnt) b).getD 0<=1000000:=⟨by have:=hc b;unfold Tb.count at this;omega,(hc b).2⟩;refine J.q λ_=>?_;refine J.mapUpdate hX a7k a7J b 3 rfl rfl rfl rfl rfl rfl rfl rfl rfl rfl rfl rfl (λ_=>rfl) (by rw[b1x];rfl) ⟨trivial,?_⟩;refine J.pq (.of [0,4,8,13,16,21,25,28,32,37,40,45,48,55]) [13] [1,2,3,4,5,6] λ_ _=>?_;refine J.mapUpdate hX a7k a6b e.lpn 2 rfl rfl rfl rfl rfl rfl rfl rfl rfl rfl rfl rfl (λ_=>rfl) (show _=some (_::_::W4 _ _ (a1F _ _ (atV ⟨b,r,s,m,e.seq,e.role⟩))::_)from rfl) ⟨trivial,?_⟩;rw[b4W];refine J.pq (.of [0,5,8,12,16,21,24]) [] [1,2,3,4,5,6] λ_ _=>?_;have hput:Tb.put t e b r s m=⟨t.logical,Tb.put1 t.at_ e.lpn ⟨b,r,s,m,e.seq,e.role⟩,Tb.put1 (t.cnt) b ((Tb.look (t.cnt) b).getD 0+1),if e.seq>=t.next then e.seq+1 else t.next⟩:=by
   rw[Tb.put,d7 hp,Tb.cnt2,hc1]
  refine J.qd (λ_ h5=>?_) λ_ h5=>?_
  ·refine J.q λ_=>?_;refine J.cl (λx:Nat×Nat=>TbP q ⟨t.logical,Tb.put1 t.at_ e.lpn ⟨b,r,s,m,e.seq,e.role⟩,Tb.put1 (t.cnt) b ((Tb.look (t.cnt) b).getD 0+1),e.seq+1⟩ x) x [1,2,3] ?_;refine J.qr [1] λ_=>?_;exact⟨by rw[hp],by rw[hput,d7 (by simpa only[d6,c8]using h5)];rfl⟩
  ·refine J.cl (λx:Nat×Nat=>TbP q ⟨t.logical,Tb.put1 t.at_ e.lpn ⟨b,r,s,m,e.seq,e.role⟩,Tb.put1 (t.cnt) b ((Tb.look (t.cnt) b).getD 0+1),t.next⟩ x) x [1,2,3] ?_;refine J.qr [1] λ_=>?_;exact⟨by rw[hp],by rw[hput,d4 (by simpa only[d6,c8]using h5)];rfl⟩
 ·refine J.q λbw=>?_;refine J.cond rfl (λh2=>?_) (λh2=>?_)
  ·refine J.cl (λx:Nat×Nat=>TbP q t x) x [1,2,3] ?_;refine J.qr [1] λ_=>?_;have hel:Tb.elder t e=true:=by rw[Tb.elder,hlk];exact h2
   have hp:Tb.putB t e=false:=by rw[Tb.putB,ho,hel];rfl
   exact⟨by rw[hp],by rw[Tb.put,d4 (by rw[hp];simp)];rfl⟩
  have hel:Tb.elder t e=false:=by rw[Tb.elder,hlk];exact h2
  have hp:Tb.putB t e=true:=by rw[Tb.putB,ho,hel];rfl
  have hc1:Tb.cnt1 t e=Tb.put1 t.cnt a.block (t.count a.block-1):=by simp[Tb.cnt1,hlk]
  have hb1:=hc a.block;refine J.qT λ_=>?_;refine J.pq (.of [0,4,8,13,16,20,25,29,32,39]) [9] [1,2,3,4,5,6] λ_ _=>?_;refine J.vT (iI (t.count a.block)) rfl rfl (λ_ a' w he hC=>?_) ?_
  ·refine(I5 (key:=a.block) a7k a7J (z:=iI 0) (λw=>by kernel_rfl) rfl rfl rfl rfl he rfl rfl (hC rfl _ (C0 (i:=3) rfl))).trans ?_;simp only[a5Q,a3t];rfl
  refine J.q λ_=>?_;refine J.mapUpdate hX a7k a7J a.block 3 rfl rfl rfl rfl rfl rfl rfl rfl rfl rfl rfl rfl (λ_=>rfl) (by rw[b1x];rfl) ⟨trivial,?_⟩;refine J.pq (.of [0,4,8,13,16,21,25,28,35]) [8] [1,2,3,4,5,6] λ_ _=>?_;refine J.vT (iI ((Tb.look (Tb.put1 t.cnt a.block (t.count a.block-1)) b).getD 0)) rfl rfl (λ_ a w he hC=>?_) ?_
  ·refine(I5 (key:=b) a7k a7J (z:=iI 0) (λw=>by kernel_rfl) rfl rfl rfl rfl he rfl rfl (hC rfl _ (C0 (i:=3) rfl))).trans ?_;simp only[a5Q,a3t]
  have hb2 : -1 ≤ (Tb.look (Tb.put1 t.cnt a.block (t.count a.block - 1)) b).getD 0 ∧ (Tb.look (Tb.put1 t.cnt a.block (t.count a.block - 1)) b).getD 0 ≤ 1000000 := by
     rw[Tb.look_put1];split
     ·show-1<=t.count a.block-1/\t.count a.block-1<=1000000;omega
     ·have:=hc b;unfold Tb.count at this;omega
  refine J.q λ_=>?_;refine J.mapUpdate hX a7k a7J b 3 rfl rfl rfl rfl rfl rfl rfl rfl rfl rfl rfl rfl (λ_=>rfl) (by rw[b1x];rfl) ⟨trivial,?_⟩;refine J.pq (.of [0,4,8,13,16,21,25,28,32,37,40,45,48,55]) [13] [1,2,3,4,5,6] λ_ _=>?_;refine J.mapUpdate hX a7k a6b e.lpn 2 rfl rfl rfl rfl rfl rfl rfl rfl rfl rfl rfl rfl (λ_=>rfl) (show _=some (_::_::W4 _ _ (a1F _ _ (atV ⟨b,r,s,m,e.seq,e.role⟩))::_)from rfl) ⟨trivial,?_⟩;rw[b4W];refine J.pq (.of [0,5,8,12,16,21,24]) [] [1,2,3,4,5,6] λ_ _=>?_;have hput:Tb.put t e b r s m=⟨t.logical,Tb.put1 t.at_ e.lpn ⟨b,r,s,m,e.seq,e.role⟩,Tb.put1 (Tb.put1 t.cnt a.block (t.count a.block-1)) b ((Tb.look (Tb.put1 t.cnt a.block (t.count a.block-1)) b).getD 0+1),if e.seq>=t.next then e.seq+1 else t.next⟩:=by
   rw[Tb.put,d7 hp,Tb.cnt2,hc1]
  refine J.qd (λ_ h5=>?_) λ_ h5=>?_
  ·refine J.q λ_=>?_;refine J.cl (λx:Nat×Nat=>TbP q ⟨t.logical,Tb.put1 t.at_ e.lpn ⟨b,r,s,m,e.seq,e.role⟩,Tb.put1 (Tb.put1 t.cnt a.block (t.count a.block-1)) b ((Tb.look (Tb.put1 t.cnt a.block (t.count a.block-1)) b).getD 0+1),e.seq+1⟩ x) x [1,2,3] ?_;refine J.qr [1] λ_=>?_;exact⟨by rw[hp],by rw[hput,d7 (by simpa only[d6,c8]using h5)];rfl⟩
  ·refine J.cl (λx:Nat×Nat=>TbP q ⟨t.logical,Tb.put1 t.at_ e.lpn ⟨b,r,s,m,e.seq,e.role⟩,Tb.put1 (Tb.put1 t.cnt a.block (t.count a.block-1)) b ((Tb.look (Tb.put1 t.cnt a.block (t.count a.block-1)) b).getD 0+1),t.next⟩ x) x [1,2,3] ?_;refine J.qr [1] λ_=>?_;exact⟨by rw[hp],by rw[hput,d4 (by simpa only[d6,c8]using h5)];rfl⟩
theorem b6X (q:Nat) (t:Tb) (n:Nat) (hlog:t.logical=(n:Int)) (hn:n<=65536) (b:Int):FP 157 [pp q,iI b] [TbA q t]
  (λv As=>∃a c,v=slv a (t.ins b).length c/\As=[TbA q t,l9 3 1 a (t.ins b).length c (B2 (t.ins b))]):=by
 refine FE [2,0] Tryz.func157 λX F hX=>?_;refine J.qp (a0x q t b) [1] λ_=>?_;refine J.turn1 [] rfl (As:=[l9 3 1 none 0 0 (B2 [])]) (λh s=>Sep.one ⟨rfl,rfl,rfl⟩) rfl ?_;refine J.qd (λ_ h1=>?_) λ_ h1=>?_
 ·simp only[B4]at h1;refine J.qr [1,2] λ_=>?_;have:t.ins b=[]:=by unfold Tb.ins;rw[d7 h1]
  rw[this];exact⟨none,0,rfl,rfl⟩
 simp only[m6,I1]at h1;have hins:t.ins b=t.inK b n:=by unfold Tb.ins;rw[d4 h1,hlog];rfl
 refine J.o (α:=(Nat×Nat)) 1 λx=>?_;refine J.q λ_=>?_;refine J.l (α:=(Nat×Option Nat×Nat)) (λz=>z.1<=n) (λz=>[si 17 z.1,si 16 t.logical,sv 5 (slv z.2.1 (t.inK b z.1).length z.2.2),⟨0,pp q,2, .tt⟩,si 1 b]) [2] (λz=>[l9 3 1 z.2.1 (t.inK b z.1).length z.2.2 (B2 (t.inK b z.1))]) (λz=>n-z.1) ((0,none,0)) (j8 _) λz hI=>?_;obtain⟨k,a1,c1⟩:=z;dsimp only at hI ⊢;refine J.qd (λ_ h2=>?_) λ_ h2=>?_
 ·simp only[d6]at h2;have hkl:=t.inK_len b k;refine J.q λ_=>?_;refine J.v (.tuple #[atV ((Tb.look t.at_ k).getD AtV.zero), .bool (Tb.look t.at_ k).isSome]) rfl rfl (λhg a w he hs=>?_) ?_
  ·refine(I5 (key:=(k:Int)) a7k a6b (z:=atV AtV.zero) (λw=>by kernel_rfl) rfl rfl rfl rfl he rfl rfl (hs.get (i:=3) rfl)).trans ?_;simp only[a9c,a6n,a8m]
  have hin:((Tb.look t.at_ k).isSome&&(((Tb.look t.at_ k).getD AtV.zero).block==b))=t.inB b k:=by
   unfold Tb.inB;cases Tb.look t.at_ k<;>rfl
  refine J.qd (λ_ h3=>?_) λ_ h3=>?_
  ·have hs:t.inK b (k+1)=t.inK b k++[(k:Int)]:=by rw[Tb.inK_succ,d7 (hin.symm.trans h3)]
   refine J.q λ_=>?_;refine J.append hX tk 2 6 0 rfl rfl rfl rfl rfl rfl rfl rfl rfl rfl rfl rfl rfl rfl rfl rfl ?_ ?_ (λ_=>rfl) λa3 c3=>⟨_,(congrArg (λz=>V2 _ 2 (l9 _ _ _ _ _ z)) (a1z _ (k:Int)).symm).trans rfl,trivial,?_⟩
   ·simp only[maxLen];omega
   ·omega
   rw[<- hs,show(t.inK b k).length+1=(t.inK b (k+1)).length from by rw[hs];simp];refine J.q λ_=>?_;refine J.n ((k+1,a3,c3)) (by dsimp only;omega) (by dsimp only;omega) [0,1,2,3,4]
  ·have hs:t.inK b (k+1)=t.inK b k:=by rw[Tb.inK_succ,d4 (by rw[<- hin,h3];simp)]
   rw[<- hs];refine J.q λ_=>?_;refine J.n ((k+1,a1,c1)) (by dsimp only;omega) (by dsimp only;omega) [0,1,2,3,4]
 ·simp only[c8]at h2;obtain rfl:k=n:=by omega
  refine J.q λ_=>?_;refine J.cl (λx:Nat×Nat=>TbP q t x) x [1,3,4] ?_;refine J.qr [1,2] λ_=>?_;rw[hins];exact⟨a1,c1,rfl,rfl⟩
structure Sb where
 wear:Int
 bad:Int
 used:Bool
 held:Bool
def Sb.zero:Sb:=⟨0,0,false,false⟩
def sbL (s:Sb):List Value:=[iI s.wear,iI s.bad, .bool s.used, .bool s.held]
structure Tl where
 d:Nat
 b:Nat
 p:Nat
 l:List Sb
 dead:Int
namespace Tl
def new (d b p:Nat):Tl:=⟨d,b,p,List.replicate b Sb.zero,0⟩
def has (t:Tl) (k:Int):Bool:=decide (0<=k)&&decide (k<t.b)
def at_ (t:Tl) (k:Int):Sb:=t.l.getD k.toNat Sb.zero
def adr (t:Tl) (g:Nat) (k:Int):Option Addr:=if t.has k=true then some ⟨g,k.toNat*4,none⟩else none
def set (t:Tl) (k:Int) (s:Sb):Tl:=if t.has k=true then⟨t.d,t.b,t.p,t.l.set k.toNat s,t.dead⟩else t
def wear (t:Tl) (k:Int):Int:=if t.has k=true then(t.at_ k).wear else 0
def hasDie (t:Tl) (d:Int):Bool:=decide (0<=d)&&decide (d<t.d)
end Tl
def TlP (q:Nat) (t:Tl) (g:Nat):List Atom:=[.pt q 191 [iI t.d,iI t.b,iI t.p, .slice (some ⟨g,0,none⟩) t.b t.b,iI t.dead], .pt g 199 (t.l.flatMap sbL)]
def TlA (q:Nat) (t:Tl):Atom:=exA λg:Nat=>TlP q t g
theorem a1U {α:Type} (f:α->List Value) (w:Nat) (hw:∀x,(f x).length=w):∀{l:List α} {k:Nat} {x:α},l[k]? =some x->∀j,j<w->(l.flatMap f)[k*w+j]? =(f x)[j]?
 | [],k,x,h,j,hj=>by simp at h
 | y::l,0,x,h,j,hj=>by
  simp only[M5,l7]at h;subst h;rw[Q3,J6,z7,E6 (by rw[hw];exact hj)]
 | y::l,k+1,x,h,j,hj=>by
  rw[z7,B1 (by rw[hw,P6];omega),hw,show(k+1)*w+j-w=k*w+j by rw[P6];omega];exact a1U f w hw (by simpa using h) j hj
theorem Q9 {α:Type} (f:α->List Value) (w:Nat) (hw:∀x,(f x).length=w) (j:Nat) (v:Value):∀{l:List α} {k:Nat} {x y:α},l[k]? =some x->j<w->(f x).set j v=f y->(l.flatMap f).set (k*w+j) v=(l.set k y).flatMap f
 | [],k,x,y,h,hj,e=>by simp at h
 | z::l,0,x,y,h,hj,e=>by
  simp only[M5,l7]at h;subst h;rw[Q3,J6,z7,Q1 _ _ (by rw[hw];exact hj),e];rfl
 | z::l,k+1,x,y,h,hj,e=>by
  rw[z7,O9 _ _ (by rw[hw,P6];omega),hw,show(k+1)*w+j-w=k*w+j by rw[P6];omega,Q9 f w hw j v (by simpa using h) hj e];rfl
theorem b0O (s:Sb):(sbL s).length=4:=rfl
namespace Tl
theorem get_at {t:Tl} (hl:t.l.length=t.b) {k:Int} (h:t.has k=true):t.l[k.toNat]? =some (t.at_ k):=by
 simp only[has,f8,d6]at h;rw[at_,d5,c9 (by omega),j4]
theorem cell_at {t:Tl} (hl:t.l.length=t.b) {k:Int} (h:t.has k=true) (j:Nat) (hj:j<4):(t.l.flatMap sbL)[k.toNat*4+j]? =(sbL (t.at_ k))[j]?:=a1U sbL 4 b0O (get_at hl h) j hj
theorem set_at {t:Tl} (hl:t.l.length=t.b) {k:Int} (h:t.has k=true) (j:Nat) (hj:j<4) (v:Value) (s:Sb) (e:(sbL (t.at_ k)).set j v=sbL s):(t.l.flatMap sbL).set (k.toNat*4+j) v=((t.set k s).l.flatMap sbL):=by
 rw[set,d7 h];exact Q9 sbL 4 b0O j v (get_at hl h) hj e
end Tl
namespace Tl
theorem len_l (t:Tl):(t.l.flatMap sbL).length=t.l.length*4:=by
 induction t.l with
 | nil=>rfl
 | cons x l ih=>rw[z7,d8,ih,b0O,l6];omega
theorem set_d (t:Tl) (k:Int) (s:Sb):(t.set k s).d=t.d:=by unfold set;split<;>rfl
theorem set_b (t:Tl) (k:Int) (s:Sb):(t.set k s).b=t.b:=by unfold set;split<;>rfl
theorem set_p (t:Tl) (k:Int) (s:Sb):(t.set k s).p=t.p:=by unfold set;split<;>rfl
theorem set_dead (t:Tl) (k:Int) (s:Sb):(t.set k s).dead=t.dead:=by unfold set;split<;>rfl
def wore (t:Tl) (k n:Int):Tl:=t.set k {t.at_ k with wear:=if n>(t.at_ k).wear then n else(t.at_ k).wear}
def bad (t:Tl) (d k:Int):Tl:=if t.hasDie d=true then t.set k {t.at_ k with bad:=L.with_ (t.at_ k).bad d}else t
def andN (a b:Int):Int:=IntKind.i64.wrap ((BitVec.ofInt IntKind.i64.bits a&&& ~~~BitVec.ofInt IntKind.i64.bits b).toNat:Int)
def alive (t:Tl):Int:=andN (L.all t.d) t.dead
def mask (t:Tl) (k:Int):Int:=if t.has k=true then andN t.alive (t.at_ k).bad else 0
def usable (t:Tl) (k:Int):Bool:=decide (G.slots (t.mask k)>0)
def blank (t:Tl) (k:Int):Bool:=t.has k&& !(t.at_ k).used
def held (t:Tl) (k:Int):Bool:=t.has k&&(t.at_ k).held
end Tl
theorem b3j (d b p:Nat) (hg:L4 d b p=true):FP 108 [.agg #[iI d,iI b,iI p]] [] (λv As=>∃q,v=pp q/\As=[TlA q (Tl.new d b p)]):=by
 have hbd:(3<=d/\d<=6)/\(8<=b/\b<=16)/\(2<=p/\p<=8):=by simp[L4]at hg;omega
 refine FE [0] Tryz.func108 λX F hX=>?_;refine J.qp (a6W d b p) [] λ_=>?_;rw[hg];refine J.qF λ_=>?_;refine J.pq (.of [1,4,9,14,16,23,24]) [4,5,6] [1] λ_ _=>?_;refine J.mk 3 λdd=>?_;refine J.q λnn=>?_;rw[show(List.replicate b [Value.int .i64 0,Value.int .i64 0,Value.bool false,Value.bool false]).flatten=(Tl.new d b p).l.flatMap sbL from by rw[Tl.new,T7,Q2];rfl];refine J.cl (λg:Nat=>TlP (nn 0) (Tl.new d b p) g) dd [3,2] ?_;refine J.qr [3] λ_=>?_;exact⟨nn 0,rfl,rfl⟩
theorem b9D:FP 108 [.agg #[iI 0,iI 0,iI 0]] [] (Ps (.pointer none) []):=by
 refine FE [0] Tryz.func108 λX F hX=>?_;refine J.qp (a6W 0 0 0) [] λ_=>?_;rw[show L4 0 0 0=false from by decide];refine J.qT λ_=>?_;exact J.qx []
theorem a6D (q:Nat) (t:Tl) (hb:t.b<=1000) (g:Nat) (k:Int):FP 115 [pp q,iI k] (TlP q t g) (Ps (.pointer (t.adr g k)) (TlP q t g)):=by
 refine FE [2,0] Tryz.func115 λX F hX=>?_;refine J.run hX tk 400 (λb9=>rfl) (λb9=>?_) (λb9=>?_)
 ·(repeat' (first | exact Conj.nil | refine Conj.cons ?_ ?_ | exact rfl | exact hq | (rw[hq];rfl) | (rw[(i4 _).mp hq]) | intro hq | omega | (simp;done) | (simp_all;done)))
 refine J.qd (λ_ h1=>?_) λ_ h1=>?_
 ·have hh:t.has k=false:=by simp[Tl.has]at h1 ⊢;omega
  refine J.qr [1,2] λ_=>?_;exact⟨by rw[Tl.adr,hh];rfl,rfl⟩
 ·have hh:t.has k=true:=by simp[Tl.has]at h1 ⊢;omega
  have hh2:=hh;simp only[Tl.has,f8,d6]at hh2;refine J.qr [1,2] λ_=>?_;exact⟨by rw[Tl.adr,hh,d7 rfl];simp,rfl⟩
theorem a5o (q:Nat) (t:Tl) (hb:t.b<=1000) (hl:t.l.length=t.b) (k:Int):FP 186 [pp q,iI k] [TlA q t] (Ps (iI (t.wear k)) [TlA q t]):=by
 refine FE [2,0] Tryz.func186 λX F hX=>?_;refine J.o (α:=Nat) 1 λg=>?_;refine J.qp (a6D q t hb g k) [1,2] λ_=>?_;cases hh:t.has k with
 | false=>
  rw[Tl.adr,hh,d4 (by simp)];refine J.qF λ_=>?_;refine J.q λ_=>?_;refine J.cl (λg:Nat=>TlP q t g) g [1,2] ?_;refine J.qr [1] λ_=>?_;exact⟨by rw[Tl.wear,hh];rfl,rfl⟩
 | true=>
  rw[Tl.adr,hh,d7 rfl];refine J.qT λ_=>?_;refine J.q λ_=>?_;refine J.v (iI (t.at_ k).wear) rfl rfl (λhg a w he hs=>?_) ?_
  ·exact B6 tk rfl rfl he rfl rfl rfl (hs.get (i:=2) rfl) (t.cell_at hl hh 0 (by omega))
  refine J.cl (λg:Nat=>TlP q t g) g [1,2] ?_;refine J.qr [1] λ_=>?_;exact⟨by rw[Tl.wear,hh];rfl,rfl⟩
theorem b0I (q:Nat) (t:Tl) (hb:t.b<=1000) (hl:t.l.length=t.b) (k n:Int):FP 109 [pp q,iI k,iI n] [TlA q t] (Ps (.tuple #[]) [TlA q (t.wore k n)]):=by
 refine FE [2,0,0] Tryz.func109 λX F hX=>?_;refine J.o (α:=Nat) 1 λg=>?_;refine J.qp (a6D q t hb g k) [1,2] λ_=>?_;cases hh:t.has k with
 | false=>
  rw[Tl.adr,hh,d4 (by simp)];refine J.qF λ_=>?_;refine J.q λ_=>?_;refine J.cl (λg:Nat=>TlP q t g) g [1,2] ?_;refine J.q λ_=>?_;refine J.f [1] ?_;exact⟨rfl,by rw[Tl.wore,Tl.set,hh];rfl⟩
 | true=>
  rw[Tl.adr,hh,d7 rfl];refine J.qT λ_=>?_;refine J.q λ_=>?_;refine J.v (iI (t.at_ k).wear) rfl rfl (λhg a w he hs=>?_) ?_
  ·exact B6 tk rfl rfl he rfl rfl rfl (hs.get (i:=2) rfl) (t.cell_at hl hh 0 (by omega))
  refine J.q λ_=>?_;refine J.s1 2 ((t.wore k n).l.flatMap sbL) ?_ ?_ ?_
  ·rw[t.len_l,hl];simp only[Tl.has,f8,d6]at hh;omega
  ·exact t.set_at hl hh 0 (by omega) _ _ rfl
  refine J.close (f:=λg:Nat=>TlP q (t.wore k n) g) g [1,2] rfl (by simp only[TlP,Tl.wore,Tl.set_d,Tl.set_b,Tl.set_p,Tl.set_dead];rfl) rfl ?_;refine J.q λ_=>?_;refine J.f [1] ?_;exact⟨rfl,rfl⟩
theorem b6R (q:Nat) (t:Tl) (g:Nat) (k:Int):FP 130 [pp q,iI k] (TlP q t g) (Ps (.bool (t.hasDie k)) (TlP q t g)):=by
 refine FE [2,0] Tryz.func130 λX F hX=>?_;refine J.run hX tk 400 (λb30=>rfl) (λb30=>?_) (λb30=>?_)
 ·(repeat' (first | exact Conj.nil | refine Conj.cons ?_ ?_ | exact rfl | exact hq | (rw[hq];rfl) | (rw[(i4 _).mp hq]) | intro hq | omega | (simp;done) | (simp_all;done)))
 refine J.qr [1,2] λ_=>?_;exact⟨by simp[Tl.hasDie],rfl⟩
theorem b3k (q:Nat) (t:Tl) (hb:t.b<=1000) (hl:t.l.length=t.b) (d k:Int):FP 180 [pp q,iI d,iI k] [TlA q t] (Ps (.tuple #[]) [TlA q (t.bad d k)]):=by
 refine FE [2,0,0] Tryz.func180 λX F hX=>?_;refine J.o (α:=Nat) 1 λg=>?_;refine J.qp (a6D q t hb g k) [1,2] λ_=>?_;cases hh:t.has k with
 | false=>
  rw[Tl.adr,hh,d4 (by simp)];refine J.q λ_=>?_;refine J.v (.bool false) rfl rfl (λhg a w he hs=>absurd hg (by simp[G.on])) ?_;refine J.qF λ_=>?_;refine J.q λ_=>?_;refine J.cl (λg:Nat=>TlP q t g) g [1,2] ?_;refine J.q λ_=>?_;refine J.f [1] ?_;exact⟨rfl,by rw[Tl.bad,Tl.set,hh];simp;rfl⟩
 | true=>
  rw[Tl.adr,hh,d7 rfl];refine J.qp (b6R q t g d) [1,2] λ_=>?_;refine J.qd (λ_ h2=>?_) λ_ h2=>?_
  ·simp only[Bool.not_false,q9]at h2;refine J.q λ_=>?_;refine J.v (iI (t.at_ k).bad) rfl rfl (λhg a w he hs=>?_) ?_
   ·exact B6 tk rfl rfl he rfl rfl rfl (hs.get (i:=2) rfl) (t.cell_at hl hh 1 (by omega))
   refine J.qp (b1e (t.at_ k).bad d) [] λ_=>?_;refine J.q λ_=>?_;have he:t.bad d k=t.set k {t.at_ k with bad:=L.with_ (t.at_ k).bad d}:=by rw[Tl.bad,h2];rfl
   refine J.s1 2 ((t.bad d k).l.flatMap sbL) ?_ ?_ ?_
   ·rw[t.len_l,hl];simp only[Tl.has,f8,d6]at hh;omega
   ·rw[he];exact t.set_at hl hh 1 (by omega) _ _ rfl
   refine J.close (f:=λg:Nat=>TlP q (t.bad d k) g) g [1,2] rfl (by simp only[he,TlP,Tl.set_d,Tl.set_b,Tl.set_p,Tl.set_dead];rfl) rfl ?_;refine J.q λ_=>?_;refine J.f [1] ?_;exact⟨rfl,rfl⟩
  ·simp only[Bool.not_false,q9]at h2;refine J.cl (λg:Nat=>TlP q t g) g [1,2] ?_;refine J.q λ_=>?_;refine J.f [1] ?_;exact⟨rfl,by rw[Tl.bad,h2];rfl⟩
theorem b5j (q:Nat) (t:Tl) (g:Nat):FP 174 [pp q] (TlP q t g) (Ps (iI t.alive) (TlP q t g)):=by
 refine FE [2] Tryz.func174 λX F hX=>?_;refine J.qF λ_=>?_;refine J.p (.of [0,4,8,12,17,24,28,32,37,22,40,44]) [11] [1,2] λ_=>?_;refine J.qp (b2w t.d) [] λ_=>?_;exact J.qx [1,2]
theorem a7O (q:Nat) (t:Tl) (hb:t.b<=1000) (hl:t.l.length=t.b) (k:Int):FP 177 [pp q,iI k] [TlA q t] (Ps (.bool (t.blank k)) [TlA q t]):=by
 refine FE [2,0] Tryz.func177 λX F hX=>?_;refine J.o (α:=Nat) 1 λg=>?_;refine J.qp (a6D q t hb g k) [1,2] λ_=>?_;cases hh:t.has k with
 | false=>
  rw[Tl.adr,hh,d4 (by simp)];refine J.q λ_=>?_;refine J.v (pp g) rfl rfl (λhg a w he hs=>absurd hg (by simp[G.on])) ?_;refine J.q λ_=>?_;refine J.v (.bool false) rfl rfl (λhg a w he hs=>absurd hg (by simp[G.on])) ?_;refine J.q λ_=>?_;refine J.cl (λg:Nat=>TlP q t g) g [1,2] ?_;refine J.qr [1] λ_=>?_;exact⟨by rw[Tl.blank,hh];rfl,rfl⟩
 | true=>
  rw[Tl.adr,hh,d7 rfl];refine J.q λ_=>?_;refine J.v (.bool (t.at_ k).used) rfl rfl (λhg a w he hs=>?_) ?_
  ·exact B6 tk rfl rfl he rfl rfl rfl (hs.get (i:=2) rfl) (t.cell_at hl hh 2 (by omega))
  refine J.q λ_=>?_;refine J.cl (λg:Nat=>TlP q t g) g [1,2] ?_;refine J.qr [1] λ_=>?_;exact⟨by rw[Tl.blank,hh];rfl,rfl⟩
theorem b4h (q:Nat) (t:Tl) (hb:t.b<=1000) (hl:t.l.length=t.b) (k:Int):FP 178 [pp q,iI k] [TlA q t] (Ps (.bool (t.held k)) [TlA q t]):=by
 refine FE [2,0] Tryz.func178 λX F hX=>?_;refine J.o (α:=Nat) 1 λg=>?_;refine J.qp (a6D q t hb g k) [1,2] λ_=>?_;cases hh:t.has k with
 | false=>
  rw[Tl.adr,hh,d4 (by simp)];refine J.q λ_=>?_;refine J.v (pp g) rfl rfl (λhg a w he hs=>absurd hg (by simp[G.on])) ?_;refine J.q λ_=>?_;refine J.v (.bool false) rfl rfl (λhg a w he hs=>absurd hg (by simp[G.on])) ?_;refine J.q λ_=>?_;refine J.cl (λg:Nat=>TlP q t g) g [1,2] ?_;refine J.qr [1] λ_=>?_;exact⟨by rw[Tl.held,hh];rfl,rfl⟩
 | true=>
  rw[Tl.adr,hh,d7 rfl];refine J.q λ_=>?_;refine J.v (.bool (t.at_ k).held) rfl rfl (λhg a w he hs=>?_) ?_
  ·exact B6 tk rfl rfl he rfl rfl rfl (hs.get (i:=2) rfl) (t.cell_at hl hh 3 (by omega))
  refine J.q λ_=>?_;refine J.cl (λg:Nat=>TlP q t g) g [1,2] ?_;refine J.qr [1] λ_=>?_;exact⟨by rw[Tl.held,hh];rfl,rfl⟩
theorem b6S (q:Nat) (t:Tl):FP 174 [pp q] [TlA q t] (Ps (iI t.alive) [TlA q t]):=by
 refine FE [2] Tryz.func174 λX F hX=>?_;refine J.o (α:=Nat) 1 λg=>?_;refine J.qF λ_=>?_;refine J.p (.of [0,4,8,12,17,24,28,32,37,22,40,44]) [11] [1,2] λ_=>?_;refine J.qp (b2w t.d) [] λ_=>?_;refine J.q λ_=>?_;refine J.cl (λg:Nat=>TlP q t g) g [1,2] ?_;exact J.qx [1]
theorem a7M (q:Nat) (t:Tl):FP 97 [pp q] [TlA q t] (Ps (.agg #[iI t.d,iI t.b,iI t.p]) [TlA q t]):=by
 refine FE [2] Tryz.func97 λX F hX=>?_;refine J.o (α:=Nat) 1 λg=>?_;refine J.qF λ_=>?_;refine J.q λ_=>?_;refine J.cl (λg:Nat=>TlP q t g) g [1,2] ?_;exact J.qx [1]
theorem a2w (q:Nat) (t:Tl) (hb:t.b<=1000) (hl:t.l.length=t.b) (k:Int):FP 112 [pp q,iI k] [TlA q t] (Ps (iI (t.mask k)) [TlA q t]):=by
 refine FE [2,0] Tryz.func112 λX F hX=>?_;refine J.o (α:=Nat) 1 λg=>?_;refine J.qp (a6D q t hb g k) [1,2] λ_=>?_;cases hh:t.has k with
 | false=>
  rw[Tl.adr,hh,d4 (by simp)];refine J.qT λ_=>?_;refine J.cl (λg:Nat=>TlP q t g) g [1,2] ?_;refine J.qr [1] λ_=>?_;exact⟨by rw[Tl.mask,hh];rfl,rfl⟩
 | true=>
  rw[Tl.adr,hh,d7 rfl];refine J.qF λ_=>?_;refine J.pq (.of [0,8,12,16,21,6,24,28]) [6,7] [1,2] λ_ _=>?_;refine J.vT (iI (t.at_ k).bad) rfl rfl (λhg a w he hC=>?_) ?_
  ·exact B6 tk rfl rfl he hg rfl rfl (hC rfl _ (C0 (i:=2) rfl)) (t.cell_at hl hh 1 (by omega))
  refine J.qp (b5j q t g) [1,2] λ_=>?_;refine J.q λ_=>?_;refine J.cl (λg:Nat=>TlP q t g) g [1,2] ?_;refine J.qr [1] λ_=>?_;exact⟨by rw[Tl.mask,hh];rfl,rfl⟩
theorem a4u (q:Nat) (t:Tl) (hb:t.b<=1000) (hl:t.l.length=t.b) (k:Int):FP 176 [pp q,iI k] [TlA q t] (Ps (.bool (t.usable k)) [TlA q t]):=by
 refine FE [2,0] Tryz.func176 λX F hX=>?_;refine J.qp (a2w q t hb hl k) [1] λ_=>?_;refine J.qp (a1t (t.mask k)) [] λ_=>?_;exact J.qx [1]
def t7 (kind:Int->Bool) (open_:Int) (k:Nat):List Int:=((List.range k).filter λi:Nat=>((i:Int) !=open_)&&kind i).map λi:Nat=>(i:Int)
theorem a1w (kind:Int->Bool) (o:Int) (k:Nat):t7 kind o (k+1)=if(((k:Int) !=o)&&kind k)=true then t7 kind o k++[(k:Int)]else t7 kind o k:=by
 unfold t7;rw[t6,T3,s8];cases h:(((k:Int) !=o)&&kind k)<;>simp[Z6,h]
theorem a0G (kind:Int->Bool) (o:Int) (k:Nat):(t7 kind o k).length<=k:=by
 unfold t7;rw[j5];exact E9 (J8 _ _) (by rw[K7];exact j3 _)
theorem b0X (q:Nat) (t:Tl) (hb:t.b<=1000) (o:Int) (c:Nat) (cs:List Value) (kind:Int->Bool) (A:Atom) (hcal:K0 Tryz.prog c=true) (hf:∀x,Fn Tryz.prog c (iI x::cs) [TlA q t,A] (Ps (.bool (kind x)) [TlA q t,A])):FP 154 [pp q,iI o,fnC c cs] [TlA q t,A]
  (λv As=>∃a cc,v=slv a (t7 kind o t.b).length cc/\As=[TlA q t,A,l9 3 1 a (t7 kind o t.b).length cc (B2 (t7 kind o t.b))]):=by
 refine FE [2,0,0] Tryz.func154 λX F hX=>?_;refine J.qp (a7M q t) [1] λ_=>?_;refine J.turn1 [] rfl (As:=[l9 3 1 none 0 0 (B2 [])]) (λh s=>Sep.one ⟨rfl,rfl,rfl⟩) rfl ?_;refine J.q λ_=>?_;refine J.l (α:=(Nat×Option Nat×Nat)) (λz=>z.1<=t.b) (λz=>[si 12 z.1,si 11 t.b,sv 7 (slv z.2.1 (t7 kind o z.1).length z.2.2),si 1 o,⟨2,fnC c cs,0, .tt⟩]) [3] (λz=>[l9 3 1 z.2.1 (t7 kind o z.1).length z.2.2 (B2 (t7 kind o z.1))]) (λz=>t.b-z.1) ((0,none,0)) (j8 _) λz hI=>?_;obtain⟨k,a1,c1⟩:=z;dsimp only at hI ⊢;refine J.qd (λ_ h2=>?_) λ_ h2=>?_
 ·simp only[d6,i6]at h2;have hkl:=a0G kind o k;refine J.q λ_=>?_;cases ho:((k:Int) !=o)with
  | false=>
   refine J.v (.bool false) rfl rfl (λhg a w he hs=>absurd hg (by simp[G.on])) ?_;refine J.qF λ_=>?_;have hs:t7 kind o (k+1)=t7 kind o k:=by rw[a1w,d4 (by rw[ho];simp)]
   rw[<- hs];refine J.q λ_=>?_;refine J.n ((k+1,a1,c1)) (by dsimp only;omega) (by dsimp only;omega) [0,1,2,3]
  | true=>
   refine J.call hX hcal (hf (k:Int)) [1,2] 0 rfl rfl rfl rfl (by(repeat' (first | exact Conj.nil | refine Conj.cons ?_ ?_ | omega | exact hq0 | (simpa using hq0) | (exactλh=>h) | exact rfl | (intro hq;have hq0:=hq;try simp only[f8,j7,d6,i4,c8]at hq) | (simp;done) | (simp;omega) | decide))) rfl rfl (λ_=>rfl) ?_;refine cpq ⟨_,rfl,trivial,?_⟩;refine J.qd (λ_ h3=>?_) λ_ h3=>?_
   ·have hs:t7 kind o (k+1)=t7 kind o k++[(k:Int)]:=by rw[a1w,d7 (by rw[ho];exact h3)]
    refine J.q λ_=>?_;refine J.append hX tk 3 4 0 rfl rfl rfl rfl rfl rfl rfl rfl rfl rfl rfl rfl rfl rfl rfl rfl ?_ ?_ (λ_=>rfl) λa3 c3=>⟨_,(congrArg (λz=>V2 _ 3 (l9 _ _ _ _ _ z)) (a1z _ (k:Int)).symm).trans rfl,trivial,?_⟩
    ·simp only[maxLen];omega
    ·omega
    rw[<- hs,show(t7 kind o k).length+1=(t7 kind o (k+1)).length from by rw[hs];simp];refine J.q λ_=>?_;refine J.n ((k+1,a3,c3)) (by dsimp only;omega) (by dsimp only;omega) [0,1,2,3]
   ·have hs:t7 kind o (k+1)=t7 kind o k:=by rw[a1w,d4 (by rw[ho,h3];simp)]
    rw[<- hs];refine J.q λ_=>?_;refine J.n ((k+1,a1,c1)) (by dsimp only;omega) (by dsimp only;omega) [0,1,2,3]
 ·simp only[c8,i6]at h2;obtain rfl:k=t.b:=by omega
  refine J.qr [1,2,3] λ_=>?_;exact⟨a1,c1,rfl,rfl⟩
def a1I (f:Int->Int->Int):List Int->Int->Int
 | [],m=>m
 | x::l,m=>a1I f l (if f x m<0 then x else m)
theorem c2D (c:Nat) (cs:List Value) (f:Int->Int->Int) (A:Atom) (hcal:K0 Tryz.prog c=true) (hf:∀x y,Fn Tryz.prog c (iI x::iI y::cs) [A] (Ps (iI (f x y)) [A]))
  (a:Option Nat) (cap:Nat) (x:Int) (l:List Int) (hn:l.length<1000000):FP 223 [slv a (x::l).length cap,fnC c cs] [l9 3 1 a (x::l).length cap (B2 (x::l)),A]
  (Ps (iI (a1I f l x)) [l9 3 1 a (x::l).length cap (B2 (x::l)),A]):=by
 refine FE [0,0] Tryz.func223 λX F hX=>?_;cases a with
 | none=>
  refine J.know (λh' s=>(s.get (i:=1) rfl).2.1) λhn0=>?_;simp at hn0
 | some g=>
  refine J.qd (λ_ h0=>?_) λ_ h0=>?_
  ·simp only[d6,l6]at h0;omega
  refine J.q λ_=>?_;refine J.v (iI x) rfl rfl (λhg a w he hs=>?_) ?_
  ·exact I4 tk rfl rfl he rfl rfl rfl (hs.get (i:=1) rfl) rfl
  refine J.q λ_=>?_;refine J.l (α:=(Nat×Int)) (λz=>z.1<=l.length/\a1I f (l.drop z.1) z.2=a1I f l x) (λz=>[⟨6,iI ((z.1+1:Nat):Int),0, .tt⟩,si 5 z.2,sv 0 (slv (some g) (x::l).length cap),⟨1,fnC c cs,0, .tt⟩]) [] (λz=>[]) (λz=>l.length-z.1) ((0,x)) (⟨j8 _,rfl⟩) λz hI=>?_;obtain⟨j,m⟩:=z;dsimp only at hI ⊢;refine J.qd (λ_ h1=>?_) λ_ h1=>?_
  ·simp only[d6,i6,l6]at h1;have hj:j<l.length:=by omega
   have hk:(x::l)[j+1]? =some (l.getD j 0):=by rw[X0,d5,c9 hj,j4]
   have hget:(B2 (x::l))[0+((j+1:Nat):Int).toNat*1]? =some (iI (l.getD j 0)):=by
    rw[show 0+((j+1:Nat):Int).toNat*1=j+1 from by omega,B2,i5,hk];rfl
   have hstep:a1I f (l.drop (j+1)) (if f (l.getD j 0) m<0 then l.getD j 0 else m)=a1I f l x:=by
    rw[<- hI.2,y8 hj,a1I];have:l.getD j 0=l[j]:=by rw[d5,c9 hj,j4]
    rw[this]
   refine J.q λ_=>?_;refine J.v (iI (l.getD j 0)) rfl rfl (λhg a w he hs=>?_) ?_
   ·exact I4 tk rfl rfl he rfl rfl rfl (hs.get (i:=1) rfl) hget
   refine J.q λ_=>?_;refine J.call hX hcal (hf (l.getD j 0) m) [2] 0 rfl rfl rfl rfl (by(repeat' (first | exact Conj.nil | refine Conj.cons ?_ ?_ | omega | exact hq0 | (simpa using hq0) | (exactλh=>h) | exact rfl | (intro hq;have hq0:=hq;try simp only[f8,j7,d6,i4,c8]at hq) | (simp;done) | (simp;omega) | decide))) rfl rfl (λ_=>rfl) ?_;refine cpq ⟨_,rfl,trivial,?_⟩;refine J.qd (λ_ h2=>?_) λ_ h2=>?_
   ·simp only[d6]at h2;refine J.q λ_=>?_;refine J.v (iI (l.getD j 0)) rfl rfl (λhg a w he hs=>?_) ?_
    ·exact I4 tk rfl rfl he rfl rfl rfl (hs.get (i:=1) rfl) hget
    rw[d7 h2]at hstep;refine J.q λ_=>?_;refine J.n ((j+1,l.getD j 0)) (⟨by dsimp only;omega,hstep⟩) (by dsimp only;omega) [0,1,2]
   ·simp only[c8]at h2;rw[d4 h2]at hstep;refine J.q λ_=>?_;refine J.n ((j+1,m)) (⟨by dsimp only;omega,hstep⟩) (by dsimp only;omega) [0,1,2]
  ·simp only[c8,i6,l6]at h1;obtain rfl:j=l.length:=by omega
   have:=hI.2;rw[List.drop_length,a1I]at this;refine J.qr [1,2] λ_=>?_;exact⟨by rw[this],rfl⟩
def a0E (f:Int->Int->Int) (l:List Int):Int:=match l with
 | []=> -1
 | x::l=>a1I f l x
theorem b4p (c:Nat) (cs:List Value) (f:Int->Int->Int) (A:Atom) (hcal:K0 Tryz.prog c=true) (hf:∀x y,Fn Tryz.prog c (iI x::iI y::cs) [A] (Ps (iI (f x y)) [A]))
  (a:Option Nat) (cap:Nat) (l:List Int) (hn:l.length<1000000):FP 183 [slv a l.length cap,fnC c cs] [l9 3 1 a l.length cap (B2 l),A]
  (Ps (iI (a0E f l)) [l9 3 1 a l.length cap (B2 l),A]):=by
 refine FE [0,0] Tryz.func183 λX F hX=>?_;cases l with
 | nil=>
  refine J.qT λ_=>?_;exact J.qx [1,2]
 | cons x l=>
  refine J.qd (λ_ h0=>?_) λ_ h0=>?_
  ·simp only[B4,l6]at h0;omega
  refine J.qp (c2D c cs f A hcal hf a cap x l (by simp at hn;omega)) [1,2] λ_=>?_;exact J.qx [1,2]
def PkE (bt q bl r:Nat) (T:Tb):Atom:= .hp (HP.of [.pt bt 93 [pp q], .pt bl 94 [pp r],TbA r T])
theorem PkE_un {bt q bl r:Nat} {T:Tb} {h:Hl}:Sep [PkE bt q bl r T] h↔Sep [.pt bt 93 [pp q], .pt bl 94 [pp r],TbA r T] h:=Sep.hpOf
def U1 (t:Tl) (T:Tb) (k:Int):Bool:=t.usable k&&t.blank k&&(T.count k==0)
def Q8 (t:Tl) (T:Tb) (k:Int):Bool:=decide (T.count k>0)&& !t.held k
def D3 (t:Tl) (T:Tb) (k:Int):Bool:=t.usable k&& !t.blank k&& !t.held k&&(T.count k==0)
theorem b9X (q:Nat) (t:Tl) (hb:t.b<=1000) (hl:t.l.length=t.b) (bt bl r:Nat) (T:Tb) (k:Int):FP 222 [iI k,pp bt,pp bl] [TlA q t,PkE bt q bl r T]
  (Ps (.bool (U1 t T k)) [TlA q t,PkE bt q bl r T]):=by
 refine FE [0,3,4] Tryz.func222 λX F hX=>?_;refine J.turn1 [2] rfl (λh s=>PkE_un.1 s) rfl ?_;refine J.qp (a4u q t hb hl k) [1] λ_=>?_;cases h3:t.usable k with
 | false=>
  refine J.q λ_=>?_;refine J.v (.bool false) rfl rfl (λhg a w he hs=>absurd hg (by simp[G.on])) ?_;refine J.q λ_=>?_;refine J.v (iI 0) rfl rfl (λhg a w he hs=>absurd hg (by simp[G.on])) ?_;refine J.q λ_=>?_;refine J.turn1 [2,3,4] rfl (λh s=>PkE_un.2 s) rfl ?_;refine J.qr [1,2] λ_=>?_;exact⟨by simp[U1,h3],rfl⟩
 | true=>
  refine J.qp (a7O q t hb hl k) [1] λ_=>?_;cases h2:t.blank k with
  | false=>
   refine J.q λ_=>?_;refine J.v (iI 0) rfl rfl (λhg a w he hs=>absurd hg (by simp[G.on])) ?_;refine J.q λ_=>?_;refine J.turn1 [2,3,4] rfl (λh s=>PkE_un.2 s) rfl ?_;refine J.qr [1,2] λ_=>?_;exact⟨by simp[U1,h3,h2],rfl⟩
  | true=>
   refine J.qp (a0x r T k) [4] λ_=>?_;refine J.q λ_=>?_;refine J.turn1 [2,3,4] rfl (λh s=>PkE_un.2 s) rfl ?_;refine J.qr [1,2] λ_=>?_;exact⟨by simp[U1,h3,h2],rfl⟩
theorem b7v (q:Nat) (t:Tl) (hb:t.b<=1000) (hl:t.l.length=t.b) (bt bl r:Nat) (T:Tb) (k:Int):FP 175 [iI k,pp bt,pp bl] [TlA q t,PkE bt q bl r T]
  (Ps (.bool (D3 t T k)) [TlA q t,PkE bt q bl r T]):=by
 refine FE [0,3,4] Tryz.func175 λX F hX=>?_;refine J.turn1 [2] rfl (λh s=>PkE_un.1 s) rfl ?_;refine J.qp (a4u q t hb hl k) [1] λ_=>?_;cases h4:t.usable k with
 | false=>
  refine J.q λ_=>?_;refine J.v (.bool false) rfl rfl (λhg a w he hs=>absurd hg (by simp[G.on])) ?_;refine J.q λ_=>?_;refine J.v (.bool false) rfl rfl (λhg a w he hs=>absurd hg (by simp[G.on])) ?_;refine J.q λ_=>?_;refine J.v (iI 0) rfl rfl (λhg a w he hs=>absurd hg (by simp[G.on])) ?_;refine J.q λ_=>?_;refine J.turn1 [2,3,4] rfl (λh s=>PkE_un.2 s) rfl ?_;refine J.qr [1,2] λ_=>?_;exact⟨by simp[D3,h4],rfl⟩
 | true=>
  refine J.qp (a7O q t hb hl k) [1] λ_=>?_;cases h3:t.blank k with
  | true=>
   refine J.q λ_=>?_;refine J.v (.bool false) rfl rfl (λhg a w he hs=>absurd hg (by simp[G.on])) ?_;refine J.q λ_=>?_;refine J.v (iI 0) rfl rfl (λhg a w he hs=>absurd hg (by simp[G.on])) ?_;refine J.q λ_=>?_;refine J.turn1 [2,3,4] rfl (λh s=>PkE_un.2 s) rfl ?_;refine J.qr [1,2] λ_=>?_;exact⟨by simp[D3,h4,h3],rfl⟩
  | false=>
   refine J.qp (b4h q t hb hl k) [1] λ_=>?_;cases h2:t.held k with
   | true=>
    refine J.q λ_=>?_;refine J.v (iI 0) rfl rfl (λhg a w he hs=>absurd hg (by simp[G.on])) ?_;refine J.q λ_=>?_;refine J.turn1 [2,3,4] rfl (λh s=>PkE_un.2 s) rfl ?_;refine J.qr [1,2] λ_=>?_;exact⟨by simp[D3,h4,h3,h2],rfl⟩
   | false=>
    refine J.qp (a0x r T k) [4] λ_=>?_;refine J.q λ_=>?_;refine J.turn1 [2,3,4] rfl (λh s=>PkE_un.2 s) rfl ?_;refine J.qr [1,2] λ_=>?_;exact⟨by simp[D3,h4,h3,h2],rfl⟩
theorem b9W (q:Nat) (t:Tl) (hb:t.b<=1000) (hl:t.l.length=t.b) (bt bl r:Nat) (T:Tb) (k:Int):FP 182 [iI k,pp bl,pp bt] [TlA q t,PkE bt q bl r T]
  (Ps (.bool (Q8 t T k)) [TlA q t,PkE bt q bl r T]):=by
 refine FE [0,4,3] Tryz.func182 λX F hX=>?_;refine J.turn1 [2] rfl (λh s=>PkE_un.1 s) rfl ?_;refine J.qp (a0x r T k) [4] λ_=>?_;refine J.q λ_=>?_;cases hc:decide (T.count k>0)with
 | false=>
  refine J.v (.bool false) rfl rfl (λhg a w he hs=>absurd hg (by simp[G.on])) ?_;refine J.q λ_=>?_;refine J.turn1 [2,3,4] rfl (λh s=>PkE_un.2 s) rfl ?_;refine J.qr [1,2] λ_=>?_;exact⟨by simp only[Q8,hc];rfl,rfl⟩
 | true=>
  refine J.qp (b4h q t hb hl k) [1] λ_=>?_;refine J.q λ_=>?_;refine J.turn1 [2,3,4] rfl (λh s=>PkE_un.2 s) rfl ?_;refine J.qr [1,2] λ_=>?_;exact⟨by simp only[Q8,hc],rfl⟩
def b8t (p:Int->Bool) (l:List Int):Int:=match l.findIdx? p with
 | some k=>k
 | none=> -1
theorem b5X {p:Int->Bool} {l:List Int} {k:Nat} {x:Int} (h:l[k]? =some x) (h0:∀i<k,p (l.getD i 0)=false) (hp:p x=true):l.findIdx? p=some k:=by
 rw[o0];obtain⟨h1,h2⟩:=List.getElem?_eq_some_iff.1 h;refine⟨h1,by rw[h2];exact hp,λj hj=>?_⟩;have:=h0 j hj;rw[d5,c9 (by omega),j4]at this;simp[this]
theorem b5Y {p:Int->Bool} {l:List Int} (h0:∀i<l.length,p (l.getD i 0)=false):l.findIdx? p=none:=by
 rw[D4];intro x hx;obtain⟨i,hi,rfl⟩:=List.mem_iff_getElem.1 hx;have:=h0 i hi
 rwa [d5,c9 hi,j4]at this
theorem b8s (p:Int->Bool) (l:List Int):decide (b8t p l>=0)=l.any p:=by
 unfold b8t;cases h:l.findIdx? p with
 | none=>
  rw[D4]at h;have:l.any p=false:=by rw[X1];exactλx hx=>by simp[h x hx]
  rw[this];rfl
 | some k=>
  rw[o0]at h;obtain⟨h1,h2,_⟩:=h;have:l.any p=true:=List.any_eq_true.2 ⟨l[k],I2 _,h2⟩;rw[this];simp
theorem b6C (c:Nat) (cs:List Value) (p:Int->Bool) (A:Atom) (hcal:K0 Tryz.prog c=true) (l:List Int) (hf:∀x∈l,Fn Tryz.prog c (iI x::cs) [A] (Ps (.bool (p x)) [A]))
  (a:Option Nat) (n cap:Nat) (hl:l.length=n) (hn:n<=4611686018427387904):FP 202 [slv a n cap,fnC c cs] [l9 3 1 a n cap (B2 l),A]
  (Ps (iI (b8t p l)) [l9 3 1 a n cap (B2 l),A]):=by
 refine FE [0,0] Tryz.func202 λX F hX=>?_;refine J.q λ_=>?_;refine J.l (α:=Nat) (λk=>k<=n/\∀i<k,p (l.getD i 0)=false) (λk=>[si 8 k,si 7 n,sv 0 (slv a n cap),⟨1,fnC c cs,0, .tt⟩]) [] (λk=>[]) (λk=>n-k) (0) (⟨by omega,by omega⟩) λk hI=>?_;refine J.qd (λ_ h1=>?_) λ_ h1=>?_
 ·simp only[d6,i6]at h1;cases a with
  | none=>
   refine J.know (λh' s=>(s.get (i:=1) rfl).2.1) λhn0=>?_;omega
  | some g=>
   have hk:l[k]? =some (l.getD k 0):=by rw[d5,c9 (by omega),j4]
   refine J.q λ_=>?_;refine J.v (iI (l.getD k 0)) rfl rfl (λhg a w he hs=>?_) ?_
   ·exact I4 tk rfl rfl he rfl rfl rfl (hs.get (i:=1) rfl) (by rw[show 0+(k:Int).toNat*1=k from by omega,B2,i5,hk];rfl)
   refine J.q λ_=>?_;refine J.call hX hcal (hf (l.getD k 0) (j9 hk)) [2] 0 rfl rfl rfl rfl (by(repeat' (first | exact Conj.nil | refine Conj.cons ?_ ?_ | omega | exact hq0 | (simpa using hq0) | (exactλh=>h) | exact rfl | (intro hq;have hq0:=hq;try simp only[f8,j7,d6,i4,c8]at hq) | (simp;done) | (simp;omega) | decide))) rfl rfl (λ_=>rfl) ?_;refine cpq ⟨_,rfl,trivial,?_⟩;refine J.qd (λ_ h2=>?_) λ_ h2=>?_
   ·refine J.qr [1,2] λ_=>?_;exact⟨by rw[b8t,b5X hk hI.2 h2],rfl⟩
   ·refine J.q λ_=>?_;refine J.nx (k+1) (⟨by omega,λi hi=>by
     rcases Nat.lt_succ_iff_lt_or_eq.1 hi with h3 | h3
     ·exact hI.2 i h3
     ·rw[h3];exact h2⟩) (by omega) (λ_ s=>s)
 ·simp only[c8,i6]at h1;refine J.qr [1,2] λ_=>?_;exact⟨by rw[b8t,b5Y (λi hi=>hI.2 i (by omega))],rfl⟩
theorem a6B (c:Nat) (cs:List Value) (p:Int->Bool) (A:Atom) (hcal:K0 Tryz.prog c=true) (l:List Int) (hf:∀x∈l,Fn Tryz.prog c (iI x::cs) [A] (Ps (.bool (p x)) [A]))
  (a:Option Nat) (n cap:Nat) (hl:l.length=n) (hn:n<=4611686018427387904):FP 156 [slv a n cap,fnC c cs] [l9 3 1 a n cap (B2 l),A]
  (Ps (.bool (l.any p)) [l9 3 1 a n cap (B2 l),A]):=by
 refine FE [0,0] Tryz.func156 λX F hX=>?_;refine J.qp (b6C c cs p A hcal l hf a n cap hl hn) [1,2] λ_=>?_;refine J.qr [1,2] λ_=>?_;exact⟨by rw[<- b8s],rfl⟩
theorem b7w (q:Nat) (t:Tl) (hb:t.b<=1000) (hl:t.l.length=t.b) (r:Nat) (T:Tb) (o:Int):FP 181 [pp q,pp r,iI o] [TlA q t,TbA r T]
  (λv As=>∃a c,v=slv a (t7 (U1 t T) o t.b).length c/\As=[TlA q t,TbA r T,l9 3 1 a (t7 (U1 t T) o t.b).length c (B2 (t7 (U1 t T) o t.b))]):=by
 refine FE [2,3,0] Tryz.func181 λX F hX=>?_;refine J.q λbb=>?_;refine J.turn1 [3,4,2] rfl (As:=[PkE (bb 0) q (bb (0+1)) r T]) (λh s=>PkE_un.2 s) rfl ?_;refine J.qc (b0X q t hb o 222 [pp (bb 0),pp (bb (0+1))] (U1 t T) (PkE (bb 0) q (bb (0+1)) r T) (by kernel_rfl) (λx=>b9X q t hb hl (bb 0) (bb (0+1)) r T x)) [1,3] λ_=>?_;rintro v As ⟨a,c,rfl,rfl⟩;refine⟨_,rfl,trivial,?_⟩;refine J.turn1 [3] rfl (λh s=>PkE_un.1 s) rfl ?_;refine J.qr [1,7,5] λ_=>?_;exact⟨a,c,rfl,rfl⟩
theorem b7y (q:Nat) (t:Tl) (hb:t.b<=1000) (hl:t.l.length=t.b) (r:Nat) (T:Tb) (o:Int):FP 118 [pp q,pp r,iI o] [TlA q t,TbA r T]
  (λv As=>v=iI (t7 (U1 t T) o t.b).length/\As=[TlA q t,TbA r T]):=by
 refine FE [2,3,0] Tryz.func118 λX F hX=>?_;refine J.qc (b7w q t hb hl r T o) [1,2] λ_=>?_;rintro v As ⟨a,c,rfl,rfl⟩;refine⟨_,rfl,trivial,?_⟩;exact J.qx [1,2]
theorem c0a (q:Nat) (t:Tl) (hb:t.b<=1000) (hl:t.l.length=t.b) (bt:Nat) (x y:Int):FP 197 [iI x,iI y,pp bt] [.pt bt 93 [pp q],TlA q t]
  (λv As=>v=iI (R7 (t.wear x) (t.wear y))/\As=[.pt bt 93 [pp q],TlA q t]):=by
 refine FE [0,0,2] Tryz.func197 λX F hX=>?_;refine J.p (.of [1,4,13,16,10,23,27,28]) [5,6,7] [1,2] λ_=>?_;refine J.qp (a5o q t hb hl x) [2] λ_=>?_;refine J.qp (a5o q t hb hl y) [2] λ_=>?_;refine J.qp (a1p (t.wear x) (t.wear y)) [] λ_=>?_;exact J.qx [1,2]
theorem b3s (q:Nat) (t:Tl) (hb:t.b<=1000) (hl:t.l.length=t.b) (r:Nat) (T:Tb) (o:Int):FP 143 [pp q,pp r,iI o] [TlA q t,TbA r T]
  (λv As=>v=iI (a0E (λx y=>R7 (t.wear x) (t.wear y)) (t7 (U1 t T) o t.b))/\As=[TlA q t,TbA r T]):=by
 have hlen:=a0G (U1 t T) o t.b;refine FE [2,3,0] Tryz.func143 λX F hX=>?_;refine J.q λbb=>?_;refine J.cb (b7w q t hb hl r T o) [1,2] ?_;rintro v As ⟨a,c,rfl,rfl⟩;refine⟨_,rfl,trivial,?_⟩;refine J.q λ_=>?_;refine J.turn1 [3,1] rfl (As:=[.hp (HP.of [.pt (bb 0) 93 [pp q],TlA q t])]) (λh s=>Sep.hpOf.2 s) rfl ?_;refine J.q λ_=>?_;refine J.ca hX (by kernel_rfl) (b4p 197 [pp (bb 0)] (λx y=>R7 (t.wear x) (t.wear y)) _ (by kernel_rfl) (λx y=>Fn.pack (c0a q t hb hl (bb 0) x y)) a c (t7 (U1 t T) o t.b) (by omega)) [4,3] 0 rfl rfl rfl rfl rfl rfl (λ_=>rfl) ?_;refine cpq ⟨_,rfl,trivial,?_⟩;refine J.turn1 [3] rfl (As:=[.pt (bb 0) 93 [pp q],TlA q t]) (λh s=>Sep.hpOf.1 s) rfl ?_;exact J.qx [5,2]
theorem c3d (b:Nat) (x y:Int):FP 185 [.slice (some ⟨b,0,none⟩) 2 2] [.pt b 3 [iI x,iI y]] (λv As=>v=iI (orI [x,y])/\As=[.pt b 3 [iI x,iI y]]):=by
 refine FE [2] Tryz.func185 λX F hX=>?_;refine J.q λ_=>?_;refine J.l (α:=Nat) (λk=>k<=2/\orI ([x,y].drop k)=orI [x,y]) (λk=>[si 8 k,si 7 2,⟨6, .slice (some ⟨b,0,none⟩) 2 2,2, .tt⟩,si 3 0]) [] (λk=>[]) (λk=>2-k) (0) (⟨by omega,rfl⟩) λk hI=>?_;refine J.qd (λ_ h1=>?_) λ_ h1=>?_
 ·simp only[d6]at h1;obtain⟨v,hv⟩:∃v,([x,y]:List Int)[k]? =some v:=⟨_,c9 (by simp;omega)⟩;have hd:([x,y]:List Int).drop k=v::([x,y]:List Int).drop (k+1):=by
   obtain⟨h2,h3⟩:=List.getElem?_eq_some_iff.1 hv;rw[y8 h2,h3]
  refine J.q λ_=>?_;refine J.v (iI v) rfl rfl (λhg a w he hs=>?_) ?_
  ·exact B6 tk rfl rfl he rfl rfl rfl (hs.get (i:=1) rfl) (by
    rw[show 0+(k:Int).toNat*1=k from by omega,show([iI x,iI y]:List Value)=([x,y]:List Int).map (.int .i64)from rfl,i5,hv];rfl)
  refine J.qd (λ_ h2=>?_) λ_ h2=>?_
  ·simp only[G9,I1]at h2;refine J.qr [1] λ_=>?_;refine⟨?_,rfl⟩;rw[<- hI.2,hd];simp[orI,h2]
  ·simp only[A8]at h2;refine J.q λ_=>?_;refine J.nx (k+1) (⟨by omega,by rw[<- hI.2,hd,orI,d4 (by simp[h2])]⟩) (by omega) (λ_ s=>s)
 ·simp only[c8]at h1;refine J.qr [1] λ_=>?_;refine⟨?_,rfl⟩;rw[<- hI.2,H0 (by simp;omega)];rfl
theorem b5w (q:Nat) (t:Tl) (hb:t.b<=1000) (hl:t.l.length=t.b) (bt bl r:Nat) (T:Tb) (x y:Int):FP 184 [iI x,iI y,pp bl,pp bt] [TlA q t,PkE bt q bl r T]
  (λv As=>v=iI (orI [R7 (T.count x) (T.count y),R7 (t.wear x) (t.wear y)])/\As=[TlA q t,PkE bt q bl r T]):=by
 refine FE [0,0,4,3] Tryz.func184 λX F hX=>?_;refine J.turn1 [2] rfl (λh s=>PkE_un.1 s) rfl ?_;refine J.p (.of [1,4,13,16,29,32,41,44,10,22,26,38,51,55,59,63,64]) [12,13,14,15,16] [1,2,3,4] λ_=>?_;refine J.qp (a0x r T x) [4] λ_=>?_;refine J.qp (a0x r T y) [4] λ_=>?_;refine J.qp (a1p (T.count x) (T.count y)) [] λ_=>?_;refine J.qp (a5o q t hb hl x) [1] λ_=>?_;refine J.qp (a5o q t hb hl y) [1] λ_=>?_;refine J.qp (a1p (t.wear x) (t.wear y)) [] λ_=>?_;refine J.q λbs=>?_;refine J.cb (c3d (bs 0) (R7 (T.count x) (T.count y)) (R7 (t.wear x) (t.wear y))) [5] ?_;refine cpq ⟨_,rfl,stq,?_⟩;refine J.q λ_=>?_;refine J.turn1 [2,3,4] rfl (λh s=>PkE_un.2 s) rfl ?_;exact J.qx [1,2]
theorem b2h (q:Nat) (t:Tl) (hb:t.b<=1000) (hl:t.l.length=t.b) (r:Nat) (T:Tb) (o:Int):FP 119 [pp q,pp r,iI o] [TlA q t,TbA r T]
  (λv As=>v=iI (a0E (λx y=>orI [R7 (T.count x) (T.count y),R7 (t.wear x) (t.wear y)]) (t7 (Q8 t T) o t.b))/\As=[TlA q t,TbA r T]):=by
 have hlen:=a0G (Q8 t T) o t.b;refine FE [2,3,0] Tryz.func119 λX F hX=>?_;refine J.q λbb=>?_;refine J.turn1 [3,4,2] rfl (As:=[PkE (bb 0) q (bb (0+1)) r T]) (λh s=>PkE_un.2 s) rfl ?_;refine J.qc (b0X q t hb o 182 [pp (bb (0+1)),pp (bb 0)] (Q8 t T) (PkE (bb 0) q (bb (0+1)) r T) (by kernel_rfl) (λx=>b9W q t hb hl (bb 0) (bb (0+1)) r T x)) [1,3] λ_=>?_;rintro v As ⟨a,c,rfl,rfl⟩;refine⟨_,rfl,trivial,?_⟩;refine J.q λ_=>?_;refine J.turn1 [1,3] rfl (As:=[.hp (HP.of [TlA q t,PkE (bb 0) q (bb (0+1)) r T])]) (λh s=>Sep.hpOf.2 s) rfl ?_;refine J.q λ_=>?_;refine J.ca hX (by kernel_rfl) (b4p 184 [pp (bb (0+1)),pp (bb 0)] (λx y=>orI [R7 (T.count x) (T.count y),R7 (t.wear x) (t.wear y)]) _ (by kernel_rfl) (λx y=>Fn.pack (b5w q t hb hl (bb 0) (bb (0+1)) r T x y)) a c (t7 (Q8 t T) o t.b) (by omega)) [5,1] 0 rfl rfl rfl rfl rfl rfl (λ_=>rfl) ?_;refine cpq ⟨_,rfl,trivial,?_⟩;refine J.turn1 [1] rfl (As:=[TlA q t,PkE (bb 0) q (bb (0+1)) r T]) (λh s=>Sep.hpOf.1 s) rfl ?_;refine J.turn1 [6] rfl (λh s=>PkE_un.1 s) rfl ?_;exact J.qx [1,8]
theorem b4q (q:Nat) (t:Tl) (hb:t.b<=1000) (hl:t.l.length=t.b) (r:Nat) (T:Tb) (o:Int):FP 116 [pp q,pp r,iI o] [TlA q t,TbA r T]
  (λv As=>∃a c,v=slv a (t7 (D3 t T) o t.b).length c/\As=[TlA q t,TbA r T,l9 3 1 a (t7 (D3 t T) o t.b).length c (B2 (t7 (D3 t T) o t.b))]):=by
 refine FE [2,3,0] Tryz.func116 λX F hX=>?_;refine J.q λbb=>?_;refine J.turn1 [3,4,2] rfl (As:=[PkE (bb 0) q (bb (0+1)) r T]) (λh s=>PkE_un.2 s) rfl ?_;refine J.qc (b0X q t hb o 175 [pp (bb 0),pp (bb (0+1))] (D3 t T) (PkE (bb 0) q (bb (0+1)) r T) (by kernel_rfl) (λx=>b7v q t hb hl (bb 0) (bb (0+1)) r T x)) [1,3] λ_=>?_;rintro v As ⟨a,c,rfl,rfl⟩;refine⟨_,rfl,trivial,?_⟩;refine J.turn1 [3] rfl (λh s=>PkE_un.1 s) rfl ?_;refine J.qr [1,7,5] λ_=>?_;exact⟨a,c,rfl,rfl⟩
def a8g (t:Tl) (T:Tb) (b i:Int):Bool:=IntKind.i64.wrap ((BitVec.ofInt IntKind.i64.bits ((Tb.look T.at_ i).getD AtV.zero).mask&&& BitVec.ofInt IntKind.i64.bits (Tl.andN (L.all t.d) (t.mask b))).toNat:Int) !=0
theorem c0b (q:Nat) (t:Tl) (hb:t.b<=1000) (hl:t.l.length=t.b) (bt bl bb r:Nat) (T:Tb) (b i:Int):FP 158 [iI i,pp bl,pp bt,pp bb] [TlA q t, .pt bt 93 [pp q], .pt bl 94 [pp r],TbA r T, .pt bb 3 [iI b]]
  (λv As=>v= .bool (a8g t T b i)/\As=[TlA q t, .pt bt 93 [pp q], .pt bl 94 [pp r],TbA r T, .pt bb 3 [iI b]]):=by
 refine FE [0,4,3,6] Tryz.func158 λX F hX=>?_;refine J.qp (a6d r T i) [4] λ_=>?_;refine J.p (.of [1,17,21,6,8,14,27,28,32]) [6,7,8] [1,2,3,4,5] λ_=>?_;refine J.qp (a7M q t) [1] λ_=>?_;refine J.qp (b2w t.d) [] λ_=>?_;refine J.qp (a2w q t hb hl b) [1] λ_=>?_;exact J.qx [1,2,3,4,5]
def a1i (t:Tl) (T:Tb) (b:Int):Bool:=(T.ins b).any (a8g t T b)
theorem c0c (q:Nat) (t:Tl) (hb:t.b<=1000) (hl:t.l.length=t.b) (bt bl r:Nat) (T:Tb) (n:Nat) (hlog:T.logical=(n:Int)) (hn:n<=65536) (b:Int):FP 155 [iI b,pp bl,pp bt] [TlA q t,PkE bt q bl r T]
  (λv As=>v= .bool (a1i t T b)/\As=[TlA q t,PkE bt q bl r T]):=by
 have hlen:(T.ins b).length<=65536:=by
  unfold Tb.ins;split
  ·simp
  ·refine E9 (T.inK_len b _) ?_;rw[hlog];omega
 refine FE [0,4,3] Tryz.func155 λX F hX=>?_;refine J.turn1 [2] rfl (λh s=>PkE_un.1 s) rfl ?_;refine J.q λbb=>?_;refine J.cb (b6X r T n hlog hn b) [4] ?_;rintro v As ⟨a,c,rfl,rfl⟩;refine⟨_,rfl,trivial,?_⟩;refine J.q λ_=>?_;refine J.turn1 [1,2,3,4,5] rfl (As:=[.hp (HP.of [TlA q t, .pt bt 93 [pp q], .pt bl 94 [pp r],TbA r T, .pt (bb 0) 3 [iI b]])]) (λh s=>Sep.hpOf.2 s) rfl ?_;refine J.q λ_=>?_;refine J.ca hX (by kernel_rfl) (a6B 158 [pp bl,pp bt,pp (bb 0)] (a8g t T b) _ (by kernel_rfl) (T.ins b) (λi _=>Fn.pack (c0b q t hb hl bt bl (bb 0) r T b i)) a (T.ins b).length c rfl (by omega)) [6,1] 0 rfl rfl rfl rfl rfl rfl (λ_=>rfl) ?_;refine cpq ⟨_,rfl,trivial,?_⟩;refine J.turn1 [1] rfl (As:=[TlA q t, .pt bt 93 [pp q], .pt bl 94 [pp r],TbA r T, .pt (bb 0) 3 [iI b]]) (λh s=>Sep.hpOf.1 s) rfl ?_;refine J.turn1 [7,8,9] rfl (λh s=>PkE_un.2 s) rfl ?_;exact J.qx [1,7]
theorem b3t (q:Nat) (t:Tl) (hb:t.b<=1000) (hl:t.l.length=t.b) (r:Nat) (T:Tb) (n:Nat) (hlog:T.logical=(n:Int)) (hn:n<=65536):FP 98 [pp q,pp r] [TlA q t,TbA r T]
  (λv As=>∃a c,v=slv a (t7 (a1i t T) (-1) t.b).length c/\As=[TlA q t,TbA r T,l9 3 1 a (t7 (a1i t T) (-1) t.b).length c (B2 (t7 (a1i t T) (-1) t.b))]):=by
 refine FE [2,3] Tryz.func98 λX F hX=>?_;refine J.q λbb=>?_;refine J.turn1 [3,4,2] rfl (As:=[PkE (bb 0) q (bb (0+1)) r T]) (λh s=>PkE_un.2 s) rfl ?_;refine J.qc (b0X q t hb (-1) 155 [pp (bb (0+1)),pp (bb 0)] (a1i t T) (PkE (bb 0) q (bb (0+1)) r T) (by kernel_rfl) (λx=>c0c q t hb hl (bb 0) (bb (0+1)) r T n hlog hn x)) [1,3] λ_=>?_;rintro v As ⟨a,c,rfl,rfl⟩;refine⟨_,rfl,trivial,?_⟩;refine J.turn1 [3] rfl (λh s=>PkE_un.1 s) rfl ?_;refine J.qr [1,7,5] λ_=>?_;exact⟨a,c,rfl,rfl⟩
end
end Go.Proofs.YtmafiplddapokaaGreat
