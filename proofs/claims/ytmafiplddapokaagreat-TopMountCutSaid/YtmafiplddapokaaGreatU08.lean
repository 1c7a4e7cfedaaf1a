/- Helpers. No condition. -/
import Derived.Test.YtmafiplddapokaaGreatU07
set_option maxRecDepth 20000
set_option linter.all false
namespace Go.Proofs.YtmafiplddapokaaGreat
section
open Go Go.RowKit
def o0 (kind:Int->Bool) (open_:Int) (k:Nat):List Int:=((List.range k).filter λi:Nat=>((i:Int) !=open_)&&kind i).map λi:Nat=>(i:Int)
theorem a1l (kind:Int->Bool) (o:Int) (k:Nat):o0 kind o (k+1)=if(((k:Int) !=o)&&kind k)=true then o0 kind o k++[(k:Int)]else o0 kind o k:=by
 unfold o0;rw[s9,R7,t7];cases h:(((k:Int) !=o)&&kind k)<;>simp[W9,h]
theorem a0q (kind:Int->Bool) (o:Int) (k:Nat):(o0 kind o k).length<=k:=by
 unfold o0;rw[l7];exact I7 (H8 _ _) (by rw[M5];exact i7 _)
theorem b0y (q:Nat) (t:Tl) (hb:t.b<=1000) (o:Int) (c:Nat) (cs:List Value) (kind:Int->Bool) (A:Atom) (hcal:K0 Tryz.prog c=true) (hf:∀x,Fn Tryz.prog c (iI x::cs) [TlA q t,A] (Ps (.bool (kind x)) [TlA q t,A])):FP 154 [pp q,iI o,fnC c cs] [TlA q t,A]
  (λv As=>∃a cc,v=slv a (o0 kind o t.b).length cc/\As=[TlA q t,A,m9 3 1 a (o0 kind o t.b).length cc (A5 (o0 kind o t.b))]):=by
 refine FE [2,0,0] Tryz.func154 λX F hX=>?_;refine J.qp (a7r q t) [1] λ_=>?_;refine J.turn1 [] rfl (As:=[m9 3 1 none 0 0 (A5 [])]) (λh s=>Sep.one ⟨rfl,rfl,rfl⟩) rfl ?_;refine J.q λ_=>?_;refine J.l (α:=(Nat×Option Nat×Nat)) (λz=>z.1<=t.b) (λz=>[si 12 z.1,si 11 t.b,sv 7 (slv z.2.1 (o0 kind o z.1).length z.2.2),si 1 o,⟨2,fnC c cs,0, .tt⟩]) [3] (λz=>[m9 3 1 z.2.1 (o0 kind o z.1).length z.2.2 (A5 (o0 kind o z.1))]) (λz=>t.b-z.1) ((0,none,0)) (j7 _) λz hI=>?_;obtain⟨k,a1,c1⟩:=z;dsimp only at hI ⊢;refine J.qd (λ_ h2=>?_) λ_ h2=>?_
 ·simp only[d5,i5]at h2;have hkl:=a0q kind o k;refine J.q λ_=>?_;cases ho:((k:Int) !=o)with
  | false=>
   refine J.v (.bool false) rfl rfl (λhg a w he hs=>absurd hg (by simp[G.on])) ?_;refine J.qF λ_=>?_;have hs:o0 kind o (k+1)=o0 kind o k:=by rw[a1l,d6 (by rw[ho];simp)]
   rw[<- hs];refine J.q λ_=>?_;refine J.n ((k+1,a1,c1)) (by dsimp only;omega) (by dsimp only;omega) [0,1,2,3]
  | true=>
   refine J.call hX hcal (hf (k:Int)) [1,2] 0 rfl rfl rfl rfl (by(repeat' (first | exact Conj.nil | refine Conj.cons ?_ ?_ | omega | exact hq0 | (simpa using hq0) | (exactλh=>h) | exact rfl | (intro hq;have hq0:=hq;try simp only[f7,j6,d5,i4,c8]at hq) | (simp;done) | (simp;omega) | decide))) rfl rfl (λ_=>rfl) ?_;refine cpq ⟨_,rfl,trivial,?_⟩;refine J.qd (λ_ h3=>?_) λ_ h3=>?_
   ·have hs:o0 kind o (k+1)=o0 kind o k++[(k:Int)]:=by rw[a1l,d8 (by rw[ho];exact h3)]
    refine J.q λ_=>?_;refine J.append hX tk 3 4 0 rfl rfl rfl rfl rfl rfl rfl rfl rfl rfl rfl rfl rfl rfl rfl rfl ?_ ?_ (λ_=>rfl) λa3 c3=>⟨_,(congrArg (λz=>U3 _ 3 (m9 _ _ _ _ _ z)) (a1p _ (k:Int)).symm).trans rfl,trivial,?_⟩
    ·simp only[maxLen];omega
    ·omega
    rw[<- hs,show(o0 kind o k).length+1=(o0 kind o (k+1)).length from by rw[hs];simp];refine J.q λ_=>?_;refine J.n ((k+1,a3,c3)) (by dsimp only;omega) (by dsimp only;omega) [0,1,2,3]
   ·have hs:o0 kind o (k+1)=o0 kind o k:=by rw[a1l,d6 (by rw[ho,h3];simp)]
    rw[<- hs];refine J.q λ_=>?_;refine J.n ((k+1,a1,c1)) (by dsimp only;omega) (by dsimp only;omega) [0,1,2,3]
 ·simp only[c8,i5]at h2;obtain rfl:k=t.b:=by omega
  refine J.qr [1,2,3] λ_=>?_;exact⟨a1,c1,rfl,rfl⟩
def a1x (f:Int->Int->Int):List Int->Int->Int
 | [],m=>m
 | x::l,m=>a1x f l (if f x m<0 then x else m)
theorem c1I (c:Nat) (cs:List Value) (f:Int->Int->Int) (A:Atom) (hcal:K0 Tryz.prog c=true) (hf:∀x y,Fn Tryz.prog c (iI x::iI y::cs) [A] (Ps (iI (f x y)) [A]))
  (a:Option Nat) (cap:Nat) (x:Int) (l:List Int) (hn:l.length<1000000):FP 223 [slv a (x::l).length cap,fnC c cs] [m9 3 1 a (x::l).length cap (A5 (x::l)),A]
  (Ps (iI (a1x f l x)) [m9 3 1 a (x::l).length cap (A5 (x::l)),A]):=by
 refine FE [0,0] Tryz.func223 λX F hX=>?_;cases a with
 | none=>
  refine J.know (λh' s=>(s.get (i:=1) rfl).2.1) λhn0=>?_;simp at hn0
 | some g=>
  refine J.qd (λ_ h0=>?_) λ_ h0=>?_
  ·simp only[d5,l5]at h0;omega
  refine J.q λ_=>?_;refine J.v (iI x) rfl rfl (λhg a w he hs=>?_) ?_
  ·exact I2 tk rfl rfl he rfl rfl rfl (hs.get (i:=1) rfl) rfl
  refine J.q λ_=>?_;refine J.l (α:=(Nat×Int)) (λz=>z.1<=l.length/\a1x f (l.drop z.1) z.2=a1x f l x) (λz=>[⟨6,iI ((z.1+1:Nat):Int),0, .tt⟩,si 5 z.2,sv 0 (slv (some g) (x::l).length cap),⟨1,fnC c cs,0, .tt⟩]) [] (λz=>[]) (λz=>l.length-z.1) ((0,x)) (⟨j7 _,rfl⟩) λz hI=>?_;obtain⟨j,m⟩:=z;dsimp only at hI ⊢;refine J.qd (λ_ h1=>?_) λ_ h1=>?_
  ·simp only[d5,i5,l5]at h1;have hj:j<l.length:=by omega
   have hk:(x::l)[j+1]? =some (l.getD j 0):=by rw[V5,d7,c9 hj,j3]
   have hget:(A5 (x::l))[0+((j+1:Nat):Int).toNat*1]? =some (iI (l.getD j 0)):=by
    rw[show 0+((j+1:Nat):Int).toNat*1=j+1 from by omega,A5,i9,hk];rfl
   have hstep:a1x f (l.drop (j+1)) (if f (l.getD j 0) m<0 then l.getD j 0 else m)=a1x f l x:=by
    rw[<- hI.2,t6 hj,a1x];have:l.getD j 0=l[j]:=by rw[d7,c9 hj,j3]
    rw[this]
   refine J.q λ_=>?_;refine J.v (iI (l.getD j 0)) rfl rfl (λhg a w he hs=>?_) ?_
   ·exact I2 tk rfl rfl he rfl rfl rfl (hs.get (i:=1) rfl) hget
   refine J.q λ_=>?_;refine J.call hX hcal (hf (l.getD j 0) m) [2] 0 rfl rfl rfl rfl (by(repeat' (first | exact Conj.nil | refine Conj.cons ?_ ?_ | omega | exact hq0 | (simpa using hq0) | (exactλh=>h) | exact rfl | (intro hq;have hq0:=hq;try simp only[f7,j6,d5,i4,c8]at hq) | (simp;done) | (simp;omega) | decide))) rfl rfl (λ_=>rfl) ?_;refine cpq ⟨_,rfl,trivial,?_⟩;refine J.qd (λ_ h2=>?_) λ_ h2=>?_
   ·simp only[d5]at h2;refine J.q λ_=>?_;refine J.v (iI (l.getD j 0)) rfl rfl (λhg a w he hs=>?_) ?_
    ·exact I2 tk rfl rfl he rfl rfl rfl (hs.get (i:=1) rfl) hget
    rw[d8 h2]at hstep;refine J.q λ_=>?_;refine J.n ((j+1,l.getD j 0)) (⟨by dsimp only;omega,hstep⟩) (by dsimp only;omega) [0,1,2]
   ·simp only[c8]at h2;rw[d6 h2]at hstep;refine J.q λ_=>?_;refine J.n ((j+1,m)) (⟨by dsimp only;omega,hstep⟩) (by dsimp only;omega) [0,1,2]
  ·simp only[c8,i5,l5]at h1;obtain rfl:j=l.length:=by omega
   have:=hI.2;rw[List.drop_length,a1x]at this;refine J.qr [1,2] λ_=>?_;exact⟨by rw[this],rfl⟩
def a0o (f:Int->Int->Int) (l:List Int):Int:=match l with
 | []=> -1
 | x::l=>a1x f l x
theorem b3F (c:Nat) (cs:List Value) (f:Int->Int->Int) (A:Atom) (hcal:K0 Tryz.prog c=true) (hf:∀x y,Fn Tryz.prog c (iI x::iI y::cs) [A] (Ps (iI (f x y)) [A]))
  (a:Option Nat) (cap:Nat) (l:List Int) (hn:l.length<1000000):FP 183 [slv a l.length cap,fnC c cs] [m9 3 1 a l.length cap (A5 l),A]
  (Ps (iI (a0o f l)) [m9 3 1 a l.length cap (A5 l),A]):=by
 refine FE [0,0] Tryz.func183 λX F hX=>?_;cases l with
 | nil=>
  refine J.qT λ_=>?_;exact J.qx [1,2]
 | cons x l=>
  refine J.qd (λ_ h0=>?_) λ_ h0=>?_
  ·simp only[A4,l5]at h0;omega
  refine J.qp (c1I c cs f A hcal hf a cap x l (by simp at hn;omega)) [1,2] λ_=>?_;exact J.qx [1,2]
def PkE (bt q bl r:Nat) (T:Tb):Atom:= .hp (HP.of [.pt bt 93 [pp q], .pt bl 94 [pp r],TbA r T])
theorem PkE_un {bt q bl r:Nat} {T:Tb} {h:Hl}:Sep [PkE bt q bl r T] h↔Sep [.pt bt 93 [pp q], .pt bl 94 [pp r],TbA r T] h:=Sep.hpOf
def T4 (t:Tl) (T:Tb) (k:Int):Bool:=t.usable k&&t.blank k&&(T.count k==0)
def O2 (t:Tl) (T:Tb) (k:Int):Bool:=decide (T.count k>0)&& !t.held k
def C3 (t:Tl) (T:Tb) (k:Int):Bool:=t.usable k&& !t.blank k&& !t.held k&&(T.count k==0)
theorem b9g (q:Nat) (t:Tl) (hb:t.b<=1000) (hl:t.l.length=t.b) (bt bl r:Nat) (T:Tb) (k:Int):FP 222 [iI k,pp bt,pp bl] [TlA q t,PkE bt q bl r T]
  (Ps (.bool (T4 t T k)) [TlA q t,PkE bt q bl r T]):=by
 refine FE [0,3,4] Tryz.func222 λX F hX=>?_;refine J.turn1 [2] rfl (λh s=>PkE_un.1 s) rfl ?_;refine J.qp (a3Y q t hb hl k) [1] λ_=>?_;cases h3:t.usable k with
 | false=>
  refine J.q λ_=>?_;refine J.v (.bool false) rfl rfl (λhg a w he hs=>absurd hg (by simp[G.on])) ?_;refine J.q λ_=>?_;refine J.v (iI 0) rfl rfl (λhg a w he hs=>absurd hg (by simp[G.on])) ?_;refine J.q λ_=>?_;refine J.turn1 [2,3,4] rfl (λh s=>PkE_un.2 s) rfl ?_;refine J.qr [1,2] λ_=>?_;exact⟨by simp[T4,h3],rfl⟩
 | true=>
  refine J.qp (a7t q t hb hl k) [1] λ_=>?_;cases h2:t.blank k with
  | false=>
   refine J.q λ_=>?_;refine J.v (iI 0) rfl rfl (λhg a w he hs=>absurd hg (by simp[G.on])) ?_;refine J.q λ_=>?_;refine J.turn1 [2,3,4] rfl (λh s=>PkE_un.2 s) rfl ?_;refine J.qr [1,2] λ_=>?_;exact⟨by simp[T4,h3,h2],rfl⟩
  | true=>
   refine J.qp (a0k r T k) [4] λ_=>?_;refine J.q λ_=>?_;refine J.turn1 [2,3,4] rfl (λh s=>PkE_un.2 s) rfl ?_;refine J.qr [1,2] λ_=>?_;exact⟨by simp[T4,h3,h2],rfl⟩
theorem b6J (q:Nat) (t:Tl) (hb:t.b<=1000) (hl:t.l.length=t.b) (bt bl r:Nat) (T:Tb) (k:Int):FP 175 [iI k,pp bt,pp bl] [TlA q t,PkE bt q bl r T]
  (Ps (.bool (C3 t T k)) [TlA q t,PkE bt q bl r T]):=by
 refine FE [0,3,4] Tryz.func175 λX F hX=>?_;refine J.turn1 [2] rfl (λh s=>PkE_un.1 s) rfl ?_;refine J.qp (a3Y q t hb hl k) [1] λ_=>?_;cases h4:t.usable k with
 | false=>
  refine J.q λ_=>?_;refine J.v (.bool false) rfl rfl (λhg a w he hs=>absurd hg (by simp[G.on])) ?_;refine J.q λ_=>?_;refine J.v (.bool false) rfl rfl (λhg a w he hs=>absurd hg (by simp[G.on])) ?_;refine J.q λ_=>?_;refine J.v (iI 0) rfl rfl (λhg a w he hs=>absurd hg (by simp[G.on])) ?_;refine J.q λ_=>?_;refine J.turn1 [2,3,4] rfl (λh s=>PkE_un.2 s) rfl ?_;refine J.qr [1,2] λ_=>?_;exact⟨by simp[C3,h4],rfl⟩
 | true=>
  refine J.qp (a7t q t hb hl k) [1] λ_=>?_;cases h3:t.blank k with
  | true=>
   refine J.q λ_=>?_;refine J.v (.bool false) rfl rfl (λhg a w he hs=>absurd hg (by simp[G.on])) ?_;refine J.q λ_=>?_;refine J.v (iI 0) rfl rfl (λhg a w he hs=>absurd hg (by simp[G.on])) ?_;refine J.q λ_=>?_;refine J.turn1 [2,3,4] rfl (λh s=>PkE_un.2 s) rfl ?_;refine J.qr [1,2] λ_=>?_;exact⟨by simp[C3,h4,h3],rfl⟩
  | false=>
   refine J.qp (b3w q t hb hl k) [1] λ_=>?_;cases h2:t.held k with
   | true=>
    refine J.q λ_=>?_;refine J.v (iI 0) rfl rfl (λhg a w he hs=>absurd hg (by simp[G.on])) ?_;refine J.q λ_=>?_;refine J.turn1 [2,3,4] rfl (λh s=>PkE_un.2 s) rfl ?_;refine J.qr [1,2] λ_=>?_;exact⟨by simp[C3,h4,h3,h2],rfl⟩
   | false=>
    refine J.qp (a0k r T k) [4] λ_=>?_;refine J.q λ_=>?_;refine J.turn1 [2,3,4] rfl (λh s=>PkE_un.2 s) rfl ?_;refine J.qr [1,2] λ_=>?_;exact⟨by simp[C3,h4,h3,h2],rfl⟩
theorem b9f (q:Nat) (t:Tl) (hb:t.b<=1000) (hl:t.l.length=t.b) (bt bl r:Nat) (T:Tb) (k:Int):FP 182 [iI k,pp bl,pp bt] [TlA q t,PkE bt q bl r T]
  (Ps (.bool (O2 t T k)) [TlA q t,PkE bt q bl r T]):=by
 refine FE [0,4,3] Tryz.func182 λX F hX=>?_;refine J.turn1 [2] rfl (λh s=>PkE_un.1 s) rfl ?_;refine J.qp (a0k r T k) [4] λ_=>?_;refine J.q λ_=>?_;cases hc:decide (T.count k>0)with
 | false=>
  refine J.v (.bool false) rfl rfl (λhg a w he hs=>absurd hg (by simp[G.on])) ?_;refine J.q λ_=>?_;refine J.turn1 [2,3,4] rfl (λh s=>PkE_un.2 s) rfl ?_;refine J.qr [1,2] λ_=>?_;exact⟨by simp only[O2,hc];rfl,rfl⟩
 | true=>
  refine J.qp (b3w q t hb hl k) [1] λ_=>?_;refine J.q λ_=>?_;refine J.turn1 [2,3,4] rfl (λh s=>PkE_un.2 s) rfl ?_;refine J.qr [1,2] λ_=>?_;exact⟨by simp only[O2,hc],rfl⟩
def b7G (p:Int->Bool) (l:List Int):Int:=match l.findIdx? p with
 | some k=>k
 | none=> -1
theorem b5h {p:Int->Bool} {l:List Int} {k:Nat} {x:Int} (h:l[k]? =some x) (h0:∀i<k,p (l.getD i 0)=false) (hp:p x=true):l.findIdx? p=some k:=by
 rw[n9];obtain⟨h1,h2⟩:=List.getElem?_eq_some_iff.1 h;refine⟨h1,by rw[h2];exact hp,λj hj=>?_⟩;have:=h0 j hj;rw[d7,c9 (by omega),j3]at this;simp[this]
theorem b5i {p:Int->Bool} {l:List Int} (h0:∀i<l.length,p (l.getD i 0)=false):l.findIdx? p=none:=by
 rw[D0];intro x hx;obtain⟨i,hi,rfl⟩:=List.mem_iff_getElem.1 hx;have:=h0 i hi
 rwa [d7,c9 hi,j3]at this
theorem b7F (p:Int->Bool) (l:List Int):decide (b7G p l>=0)=l.any p:=by
 unfold b7G;cases h:l.findIdx? p with
 | none=>
  rw[D0]at h;have:l.any p=false:=by rw[a0c];exactλx hx=>by simp[h x hx]
  rw[this];rfl
 | some k=>
  rw[n9]at h;obtain⟨h1,h2,_⟩:=h;have:l.any p=true:=List.any_eq_true.2 ⟨l[k],H6 _,h2⟩;rw[this];simp
theorem b5L (c:Nat) (cs:List Value) (p:Int->Bool) (A:Atom) (hcal:K0 Tryz.prog c=true) (l:List Int) (hf:∀x∈l,Fn Tryz.prog c (iI x::cs) [A] (Ps (.bool (p x)) [A]))
  (a:Option Nat) (n cap:Nat) (hl:l.length=n) (hn:n<=4611686018427387904):FP 202 [slv a n cap,fnC c cs] [m9 3 1 a n cap (A5 l),A]
  (Ps (iI (b7G p l)) [m9 3 1 a n cap (A5 l),A]):=by
 refine FE [0,0] Tryz.func202 λX F hX=>?_;refine J.q λ_=>?_;refine J.l (α:=Nat) (λk=>k<=n/\∀i<k,p (l.getD i 0)=false) (λk=>[si 8 k,si 7 n,sv 0 (slv a n cap),⟨1,fnC c cs,0, .tt⟩]) [] (λk=>[]) (λk=>n-k) (0) (⟨by omega,by omega⟩) λk hI=>?_;refine J.qd (λ_ h1=>?_) λ_ h1=>?_
 ·simp only[d5,i5]at h1;cases a with
  | none=>
   refine J.know (λh' s=>(s.get (i:=1) rfl).2.1) λhn0=>?_;omega
  | some g=>
   have hk:l[k]? =some (l.getD k 0):=by rw[d7,c9 (by omega),j3]
   refine J.q λ_=>?_;refine J.v (iI (l.getD k 0)) rfl rfl (λhg a w he hs=>?_) ?_
   ·exact I2 tk rfl rfl he rfl rfl rfl (hs.get (i:=1) rfl) (by rw[show 0+(k:Int).toNat*1=k from by omega,A5,i9,hk];rfl)
   refine J.q λ_=>?_;refine J.call hX hcal (hf (l.getD k 0) (j8 hk)) [2] 0 rfl rfl rfl rfl (by(repeat' (first | exact Conj.nil | refine Conj.cons ?_ ?_ | omega | exact hq0 | (simpa using hq0) | (exactλh=>h) | exact rfl | (intro hq;have hq0:=hq;try simp only[f7,j6,d5,i4,c8]at hq) | (simp;done) | (simp;omega) | decide))) rfl rfl (λ_=>rfl) ?_;refine cpq ⟨_,rfl,trivial,?_⟩;refine J.qd (λ_ h2=>?_) λ_ h2=>?_
   ·refine J.qr [1,2] λ_=>?_;exact⟨by rw[b7G,b5h hk hI.2 h2],rfl⟩
   ·refine J.q λ_=>?_;refine J.nx (k+1) (⟨by omega,λi hi=>by
     rcases Nat.lt_succ_iff_lt_or_eq.1 hi with h3 | h3
     ·exact hI.2 i h3
     ·rw[h3];exact h2⟩) (by omega) (λ_ s=>s)
 ·simp only[c8,i5]at h1;refine J.qr [1,2] λ_=>?_;exact⟨by rw[b7G,b5i (λi hi=>hI.2 i (by omega))],rfl⟩
theorem a6k (c:Nat) (cs:List Value) (p:Int->Bool) (A:Atom) (hcal:K0 Tryz.prog c=true) (l:List Int) (hf:∀x∈l,Fn Tryz.prog c (iI x::cs) [A] (Ps (.bool (p x)) [A]))
  (a:Option Nat) (n cap:Nat) (hl:l.length=n) (hn:n<=4611686018427387904):FP 156 [slv a n cap,fnC c cs] [m9 3 1 a n cap (A5 l),A]
  (Ps (.bool (l.any p)) [m9 3 1 a n cap (A5 l),A]):=by
 refine FE [0,0] Tryz.func156 λX F hX=>?_;refine J.qp (b5L c cs p A hcal l hf a n cap hl hn) [1,2] λ_=>?_;refine J.qr [1,2] λ_=>?_;exact⟨by rw[<- b7F],rfl⟩
theorem b6K (q:Nat) (t:Tl) (hb:t.b<=1000) (hl:t.l.length=t.b) (r:Nat) (T:Tb) (o:Int):FP 181 [pp q,pp r,iI o] [TlA q t,TbA r T]
  (λv As=>∃a c,v=slv a (o0 (T4 t T) o t.b).length c/\As=[TlA q t,TbA r T,m9 3 1 a (o0 (T4 t T) o t.b).length c (A5 (o0 (T4 t T) o t.b))]):=by
 refine FE [2,3,0] Tryz.func181 λX F hX=>?_;refine J.q λbb=>?_;refine J.turn1 [3,4,2] rfl (As:=[PkE (bb 0) q (bb (0+1)) r T]) (λh s=>PkE_un.2 s) rfl ?_;refine J.qc (b0y q t hb o 222 [pp (bb 0),pp (bb (0+1))] (T4 t T) (PkE (bb 0) q (bb (0+1)) r T) (by kernel_rfl) (λx=>b9g q t hb hl (bb 0) (bb (0+1)) r T x)) [1,3] λ_=>?_;rintro v As ⟨a,c,rfl,rfl⟩;refine⟨_,rfl,trivial,?_⟩;refine J.turn1 [3] rfl (λh s=>PkE_un.1 s) rfl ?_;refine J.qr [1,7,5] λ_=>?_;exact⟨a,c,rfl,rfl⟩
theorem b6M (q:Nat) (t:Tl) (hb:t.b<=1000) (hl:t.l.length=t.b) (r:Nat) (T:Tb) (o:Int):FP 118 [pp q,pp r,iI o] [TlA q t,TbA r T]
  (λv As=>v=iI (o0 (T4 t T) o t.b).length/\As=[TlA q t,TbA r T]):=by
 refine FE [2,3,0] Tryz.func118 λX F hX=>?_;refine J.qc (b6K q t hb hl r T o) [1,2] λ_=>?_;rintro v As ⟨a,c,rfl,rfl⟩;refine⟨_,rfl,trivial,?_⟩;exact J.qx [1,2]
theorem b9j (q:Nat) (t:Tl) (hb:t.b<=1000) (hl:t.l.length=t.b) (bt:Nat) (x y:Int):FP 197 [iI x,iI y,pp bt] [.pt bt 93 [pp q],TlA q t]
  (λv As=>v=iI (Q9 (t.wear x) (t.wear y))/\As=[.pt bt 93 [pp q],TlA q t]):=by
 refine FE [0,0,2] Tryz.func197 λX F hX=>?_;refine J.p (.of [1,4,13,16,10,23,27,28]) [5,6,7] [1,2] λ_=>?_;refine J.qp (a4R q t hb hl x) [2] λ_=>?_;refine J.qp (a4R q t hb hl y) [2] λ_=>?_;refine J.qp (a1c (t.wear x) (t.wear y)) [] λ_=>?_;exact J.qx [1,2]
theorem b2J (q:Nat) (t:Tl) (hb:t.b<=1000) (hl:t.l.length=t.b) (r:Nat) (T:Tb) (o:Int):FP 143 [pp q,pp r,iI o] [TlA q t,TbA r T]
  (λv As=>v=iI (a0o (λx y=>Q9 (t.wear x) (t.wear y)) (o0 (T4 t T) o t.b))/\As=[TlA q t,TbA r T]):=by
 have hlen:=a0q (T4 t T) o t.b;refine FE [2,3,0] Tryz.func143 λX F hX=>?_;refine J.q λbb=>?_;refine J.cb (b6K q t hb hl r T o) [1,2] ?_;rintro v As ⟨a,c,rfl,rfl⟩;refine⟨_,rfl,trivial,?_⟩;refine J.q λ_=>?_;refine J.turn1 [3,1] rfl (As:=[.hp (HP.of [.pt (bb 0) 93 [pp q],TlA q t])]) (λh s=>Sep.hpOf.2 s) rfl ?_;refine J.q λ_=>?_;refine J.ca hX (by kernel_rfl) (b3F 197 [pp (bb 0)] (λx y=>Q9 (t.wear x) (t.wear y)) _ (by kernel_rfl) (λx y=>Fn.pack (b9j q t hb hl (bb 0) x y)) a c (o0 (T4 t T) o t.b) (by omega)) [4,3] 0 rfl rfl rfl rfl rfl rfl (λ_=>rfl) ?_;refine cpq ⟨_,rfl,trivial,?_⟩;refine J.turn1 [3] rfl (As:=[.pt (bb 0) 93 [pp q],TlA q t]) (λh s=>Sep.hpOf.1 s) rfl ?_;exact J.qx [5,2]
theorem c2h (b:Nat) (x y:Int):FP 185 [.slice (some ⟨b,0,none⟩) 2 2] [.pt b 3 [iI x,iI y]] (λv As=>v=iI (orI [x,y])/\As=[.pt b 3 [iI x,iI y]]):=by
 refine FE [2] Tryz.func185 λX F hX=>?_;refine J.q λ_=>?_;refine J.l (α:=Nat) (λk=>k<=2/\orI ([x,y].drop k)=orI [x,y]) (λk=>[si 8 k,si 7 2,⟨6, .slice (some ⟨b,0,none⟩) 2 2,2, .tt⟩,si 3 0]) [] (λk=>[]) (λk=>2-k) (0) (⟨by omega,rfl⟩) λk hI=>?_;refine J.qd (λ_ h1=>?_) λ_ h1=>?_
 ·simp only[d5]at h1;obtain⟨v,hv⟩:∃v,([x,y]:List Int)[k]? =some v:=⟨_,c9 (by simp;omega)⟩;have hd:([x,y]:List Int).drop k=v::([x,y]:List Int).drop (k+1):=by
   obtain⟨h2,h3⟩:=List.getElem?_eq_some_iff.1 hv;rw[t6 h2,h3]
  refine J.q λ_=>?_;refine J.v (iI v) rfl rfl (λhg a w he hs=>?_) ?_
  ·exact D4 tk rfl rfl he rfl rfl rfl (hs.get (i:=1) rfl) (by
    rw[show 0+(k:Int).toNat*1=k from by omega,show([iI x,iI y]:List Value)=([x,y]:List Int).map (.int .i64)from rfl,i9,hv];rfl)
  refine J.qd (λ_ h2=>?_) λ_ h2=>?_
  ·simp only[E6,H5]at h2;refine J.qr [1] λ_=>?_;refine⟨?_,rfl⟩;rw[<- hI.2,hd];simp[orI,h2]
  ·simp only[z7]at h2;refine J.q λ_=>?_;refine J.nx (k+1) (⟨by omega,by rw[<- hI.2,hd,orI,d6 (by simp[h2])]⟩) (by omega) (λ_ s=>s)
 ·simp only[c8]at h1;refine J.qr [1] λ_=>?_;refine⟨?_,rfl⟩;rw[<- hI.2,E7 (by simp;omega)];rfl
theorem b4F (q:Nat) (t:Tl) (hb:t.b<=1000) (hl:t.l.length=t.b) (bt bl r:Nat) (T:Tb) (x y:Int):FP 184 [iI x,iI y,pp bl,pp bt] [TlA q t,PkE bt q bl r T]
  (λv As=>v=iI (orI [Q9 (T.count x) (T.count y),Q9 (t.wear x) (t.wear y)])/\As=[TlA q t,PkE bt q bl r T]):=by
 refine FE [0,0,4,3] Tryz.func184 λX F hX=>?_;refine J.turn1 [2] rfl (λh s=>PkE_un.1 s) rfl ?_;refine J.p (.of [1,4,13,16,29,32,41,44,10,22,26,38,51,55,59,63,64]) [12,13,14,15,16] [1,2,3,4] λ_=>?_;refine J.qp (a0k r T x) [4] λ_=>?_;refine J.qp (a0k r T y) [4] λ_=>?_;refine J.qp (a1c (T.count x) (T.count y)) [] λ_=>?_;refine J.qp (a4R q t hb hl x) [1] λ_=>?_;refine J.qp (a4R q t hb hl y) [1] λ_=>?_;refine J.qp (a1c (t.wear x) (t.wear y)) [] λ_=>?_;refine J.q λbs=>?_;refine J.cb (c2h (bs 0) (Q9 (T.count x) (T.count y)) (Q9 (t.wear x) (t.wear y))) [5] ?_;refine cpq ⟨_,rfl,stq,?_⟩;refine J.q λ_=>?_;refine J.turn1 [2,3,4] rfl (λh s=>PkE_un.2 s) rfl ?_;exact J.qx [1,2]
theorem b1D (q:Nat) (t:Tl) (hb:t.b<=1000) (hl:t.l.length=t.b) (r:Nat) (T:Tb) (o:Int):FP 119 [pp q,pp r,iI o] [TlA q t,TbA r T]
  (λv As=>v=iI (a0o (λx y=>orI [Q9 (T.count x) (T.count y),Q9 (t.wear x) (t.wear y)]) (o0 (O2 t T) o t.b))/\As=[TlA q t,TbA r T]):=by
 have hlen:=a0q (O2 t T) o t.b;refine FE [2,3,0] Tryz.func119 λX F hX=>?_;refine J.q λbb=>?_;refine J.turn1 [3,4,2] rfl (As:=[PkE (bb 0) q (bb (0+1)) r T]) (λh s=>PkE_un.2 s) rfl ?_;refine J.qc (b0y q t hb o 182 [pp (bb (0+1)),pp (bb 0)] (O2 t T) (PkE (bb 0) q (bb (0+1)) r T) (by kernel_rfl) (λx=>b9f q t hb hl (bb 0) (bb (0+1)) r T x)) [1,3] λ_=>?_;rintro v As ⟨a,c,rfl,rfl⟩;refine⟨_,rfl,trivial,?_⟩;refine J.q λ_=>?_;refine J.turn1 [1,3] rfl (As:=[.hp (HP.of [TlA q t,PkE (bb 0) q (bb (0+1)) r T])]) (λh s=>Sep.hpOf.2 s) rfl ?_;refine J.q λ_=>?_;refine J.ca hX (by kernel_rfl) (b3F 184 [pp (bb (0+1)),pp (bb 0)] (λx y=>orI [Q9 (T.count x) (T.count y),Q9 (t.wear x) (t.wear y)]) _ (by kernel_rfl) (λx y=>Fn.pack (b4F q t hb hl (bb 0) (bb (0+1)) r T x y)) a c (o0 (O2 t T) o t.b) (by omega)) [5,1] 0 rfl rfl rfl rfl rfl rfl (λ_=>rfl) ?_;refine cpq ⟨_,rfl,trivial,?_⟩;refine J.turn1 [1] rfl (As:=[TlA q t,PkE (bb 0) q (bb (0+1)) r T]) (λh s=>Sep.hpOf.1 s) rfl ?_;refine J.turn1 [6] rfl (λh s=>PkE_un.1 s) rfl ?_;exact J.qx [1,8]
theorem b3G (q:Nat) (t:Tl) (hb:t.b<=1000) (hl:t.l.length=t.b) (r:Nat) (T:Tb) (o:Int):FP 116 [pp q,pp r,iI o] [TlA q t,TbA r T]
  (λv As=>∃a c,v=slv a (o0 (C3 t T) o t.b).length c/\As=[TlA q t,TbA r T,m9 3 1 a (o0 (C3 t T) o t.b).length c (A5 (o0 (C3 t T) o t.b))]):=by
 refine FE [2,3,0] Tryz.func116 λX F hX=>?_;refine J.q λbb=>?_;refine J.turn1 [3,4,2] rfl (As:=[PkE (bb 0) q (bb (0+1)) r T]) (λh s=>PkE_un.2 s) rfl ?_;refine J.qc (b0y q t hb o 175 [pp (bb 0),pp (bb (0+1))] (C3 t T) (PkE (bb 0) q (bb (0+1)) r T) (by kernel_rfl) (λx=>b6J q t hb hl (bb 0) (bb (0+1)) r T x)) [1,3] λ_=>?_;rintro v As ⟨a,c,rfl,rfl⟩;refine⟨_,rfl,trivial,?_⟩;refine J.turn1 [3] rfl (λh s=>PkE_un.1 s) rfl ?_;refine J.qr [1,7,5] λ_=>?_;exact⟨a,c,rfl,rfl⟩
def b2G (t:Tl) (T:Tb) (b i:Int):Bool:=IntKind.i64.wrap ((BitVec.ofInt IntKind.i64.bits ((Tb.look T.at_ i).getD AtV.zero).mask&&& BitVec.ofInt IntKind.i64.bits (Tl.andN (L.all t.d) (t.mask b))).toNat:Int) !=0
theorem b9k (q:Nat) (t:Tl) (hb:t.b<=1000) (hl:t.l.length=t.b) (bt bl bb r:Nat) (T:Tb) (b i:Int):FP 158 [iI i,pp bl,pp bt,pp bb] [TlA q t, .pt bt 93 [pp q], .pt bl 94 [pp r],TbA r T, .pt bb 3 [iI b]]
  (λv As=>v= .bool (b2G t T b i)/\As=[TlA q t, .pt bt 93 [pp q], .pt bl 94 [pp r],TbA r T, .pt bb 3 [iI b]]):=by
 refine FE [0,4,3,6] Tryz.func158 λX F hX=>?_;refine J.qp (a5M r T i) [4] λ_=>?_;refine J.p (.of [1,17,21,6,8,14,27,28,32]) [6,7,8] [1,2,3,4,5] λ_=>?_;refine J.qp (a7r q t) [1] λ_=>?_;refine J.qp (b1R t.d) [] λ_=>?_;refine J.qp (a2e q t hb hl b) [1] λ_=>?_;exact J.qx [1,2,3,4,5]
def a1I (t:Tl) (T:Tb) (b:Int):Bool:=(T.ins b).any (b2G t T b)
theorem b9l (q:Nat) (t:Tl) (hb:t.b<=1000) (hl:t.l.length=t.b) (bt bl r:Nat) (T:Tb) (n:Nat) (hlog:T.logical=(n:Int)) (hn:n<=65536) (b:Int):FP 155 [iI b,pp bl,pp bt] [TlA q t,PkE bt q bl r T]
  (λv As=>v= .bool (a1I t T b)/\As=[TlA q t,PkE bt q bl r T]):=by
 have hlen:(T.ins b).length<=65536:=by
  unfold Tb.ins;split
  ·simp
  ·refine I7 (T.inK_len b _) ?_;rw[hlog];omega
 refine FE [0,4,3] Tryz.func155 λX F hX=>?_;refine J.turn1 [2] rfl (λh s=>PkE_un.1 s) rfl ?_;refine J.q λbb=>?_;refine J.cb (b6j r T n hlog hn b) [4] ?_;rintro v As ⟨a,c,rfl,rfl⟩;refine⟨_,rfl,trivial,?_⟩;refine J.q λ_=>?_;refine J.turn1 [1,2,3,4,5] rfl (As:=[.hp (HP.of [TlA q t, .pt bt 93 [pp q], .pt bl 94 [pp r],TbA r T, .pt (bb 0) 3 [iI b]])]) (λh s=>Sep.hpOf.2 s) rfl ?_;refine J.q λ_=>?_;refine J.ca hX (by kernel_rfl) (a6k 158 [pp bl,pp bt,pp (bb 0)] (b2G t T b) _ (by kernel_rfl) (T.ins b) (λi _=>Fn.pack (b9k q t hb hl bt bl (bb 0) r T b i)) a (T.ins b).length c rfl (by omega)) [6,1] 0 rfl rfl rfl rfl rfl rfl (λ_=>rfl) ?_;refine cpq ⟨_,rfl,trivial,?_⟩;refine J.turn1 [1] rfl (As:=[TlA q t, .pt bt 93 [pp q], .pt bl 94 [pp r],TbA r T, .pt (bb 0) 3 [iI b]]) (λh s=>Sep.hpOf.1 s) rfl ?_;refine J.turn1 [7,8,9] rfl (λh s=>PkE_un.2 s) rfl ?_;exact J.qx [1,7]
theorem b2K (q:Nat) (t:Tl) (hb:t.b<=1000) (hl:t.l.length=t.b) (r:Nat) (T:Tb) (n:Nat) (hlog:T.logical=(n:Int)) (hn:n<=65536):FP 98 [pp q,pp r] [TlA q t,TbA r T]
  (λv As=>∃a c,v=slv a (o0 (a1I t T) (-1) t.b).length c/\As=[TlA q t,TbA r T,m9 3 1 a (o0 (a1I t T) (-1) t.b).length c (A5 (o0 (a1I t T) (-1) t.b))]):=by
 refine FE [2,3] Tryz.func98 λX F hX=>?_;refine J.q λbb=>?_;refine J.turn1 [3,4,2] rfl (As:=[PkE (bb 0) q (bb (0+1)) r T]) (λh s=>PkE_un.2 s) rfl ?_;refine J.qc (b0y q t hb (-1) 155 [pp (bb (0+1)),pp (bb 0)] (a1I t T) (PkE (bb 0) q (bb (0+1)) r T) (by kernel_rfl) (λx=>b9l q t hb hl (bb 0) (bb (0+1)) r T n hlog hn x)) [1,3] λ_=>?_;rintro v As ⟨a,c,rfl,rfl⟩;refine⟨_,rfl,trivial,?_⟩;refine J.turn1 [3] rfl (λh s=>PkE_un.1 s) rfl ?_;refine J.qr [1,7,5] λ_=>?_;exact⟨a,c,rfl,rfl⟩
end
section
namespace Tb
def cntB (l:List (Int×AtV)) (b:Int):Nat:=l.countP λx=>x.2.block==b
structure Ok (t:Tb):Prop where
 keys:(t.at_.map (·.1)).Nodup
 rng:∀x∈t.at_,0<=x.1/\x.1<t.logical
 cnt:∀b,t.count b=(cntB t.at_ b:Int)
 log:0<=t.logical/\t.logical<=65536
theorem look_none {α:Type} {k:Int}:∀{l:List (Int×α)},look l k=none↔k∉l.map (·.1)
 | []=>by simp[look]
 | x::l=>by
  simp only[look,n4,H7,not_or];split
  ·rename_i h;simp[h]
  ·rename_i h;rw[look_none];simp[h]
theorem look_mem {α:Type} {k:Int} {a:α}:∀{l:List (Int×α)},look l k=some a->(k,a)∈l
 | [],h=>by simp[look]at h
 | x::l,h=>by
  simp only[look]at h;split at h
  ·rename_i e;injection h with h;subst h;subst e;exact H1 ..
  ·exact E8 _ (look_mem h)
theorem put1_new {α:Type} {k:Int} {v:α}:∀{l:List (Int×α)},look l k=none->put1 l k v=l++[(k,v)]
 | [],_=>rfl
 | x::l,h=>by
  simp only[look]at h;split at h
  ·cases h
  ·rename_i e;simp only[put1,d6 e,put1_new h,U6]
theorem put1_keys {α:Type} {k:Int} {v:α}:∀{l:List (Int×α)},(look l k).isSome=true->(put1 l k v).map (·.1)=l.map (·.1)
 | [],h=>by simp[look]at h
 | x::l,h=>by
  simp only[look]at h;simp only[put1];split
  ·rename_i e;simp[e]
  ·rename_i e;rw[d6 e]at h;simp only[n4,put1_keys h]
theorem cntB_put {k:Int} {v:AtV} (b:Int):∀{l:List (Int×AtV)},(l.map (·.1)).Nodup->(cntB (put1 l k v) b:Int)=(cntB l b:Int)-(match look l k with | some a=>if a.block=b then 1 else 0 | none=>0)+(if v.block=b then 1 else 0)
 | [],_=>by simp[put1,look,cntB];split<;>simp_all
 | x::l,h=>by
  simp only[put1,look]
  by_cases e:k=x.1
  ·rw[d8 e,d8 e];simp only[cntB,O5,A4];split<;>split<;>omega
  ·rw[d6 e,d6 e];have:=cntB_put (k:=k) (v:=v) b (l:=l) (by simp only[n4,List.nodup_cons]at h;exact h.2);simp only[cntB,O5]at this ⊢;rw[a2b,a2b,this];omega
theorem count_put1 (c:List (Int×Int)) (k v b:Int):(look (put1 c k v) b).getD 0=if b=k then v else(look c b).getD 0:=by
 rw[look_put1];split<;>rfl
theorem ok_spec {t:Tb} {e:En} (h:t.ok e=true):0<=e.lpn/\e.lpn<t.logical:=by
 simp only[ok,i4,E5,c8]at h;omega
theorem Ok.new (n:Int):(Tb.new n).Ok:=⟨by simp[Tb.new],by simp[Tb.new],λb=>rfl,by simp only[Tb.new];omega⟩
theorem Ok.put {t:Tb} (h:t.Ok) (e:En) (b r s m:Int):(t.put e b r s m).Ok:=by
 unfold Tb.put;split
 ·rename_i hp;simp only[putB,f7]at hp;have ho:=ok_spec hp.1;have hk:(put1 t.at_ e.lpn ⟨b,r,s,m,e.seq,e.role⟩).map (·.1)=t.at_.map (·.1)\/look t.at_ e.lpn=none/\(put1 t.at_ e.lpn ⟨b,r,s,m,e.seq,e.role⟩).map (·.1)=t.at_.map (·.1)++[e.lpn]:=by
   cases hl:look t.at_ e.lpn with
   | none=>right;exact⟨rfl,by rw[put1_new hl];simp⟩
   | some a=>left;exact put1_keys (by rw[hl];rfl)
  refine⟨?_,?_,?_,h.log⟩
  ·rcases hk with hk | ⟨hn,hk⟩
   ·show((put1 _ _ _).map _).Nodup;rw[hk];exact h.keys
   ·show((put1 _ _ _).map _).Nodup;rw[hk,M4];exact⟨h.keys,by simp,λa ha c hc=>by simp at hc;subst hc;exactλe=>look_none.1 hn (e▸ha)⟩
  ·intro x hx;have hx:x.1∈(put1 t.at_ e.lpn ⟨b,r,s,m,e.seq,e.role⟩).map (·.1):=L6 hx;have hr:∀k∈t.at_.map (·.1),0<=k/\k<t.logical:=λk hk=>by
    obtain⟨y,hy,rfl⟩:=List.mem_map.1 hk;exact h.rng y hy
   rcases hk with hk | ⟨_,hk⟩
   ·rw[hk]at hx;exact hr _ hx
   ·rw[hk,L9]at hx;rcases hx with hx | hx
    ·exact hr _ hx
    ·simp at hx;rw[hx];exact ho
  ·intro c;show(look (cnt2 t e b) c).getD 0=(cntB (put1 t.at_ e.lpn ⟨b,r,s,m,e.seq,e.role⟩) c:Int);rw[cntB_put c h.keys];have h1:∀d,(look (cnt1 t e) d).getD 0=(cntB t.at_ d:Int)-(match look t.at_ e.lpn with | some a=>if a.block=d then 1 else 0 | none=>0):=by
    intro d;have hd:(look t.cnt d).getD 0=(cntB t.at_ d:Int):=h.cnt d;unfold cnt1;cases hl:look t.at_ e.lpn with
    | none=>dsimp only;rw[hd];omega
    | some a=>
     dsimp only;rw[count_put1];split
     ·rename_i e1;subst e1;rw[d8 rfl,h.cnt]
     ·rename_i e1;rw[d6 (λe=>e1 e.symm),hd];omega
   unfold cnt2;rw[count_put1,h1 b,h1 c];dsimp only
   by_cases e1:c=b
   ·subst e1;rw[d8 rfl,d8 rfl]
   ·rw[d6 e1,d6 (λe=>e1 e.symm)];omega
 ·exact h
theorem countP_one {p q:Nat->Bool} {i0:Nat} (h1:∀i,i≠i0->p i=q i) (h2:q i0=false):∀n,(List.range n).countP p=(List.range n).countP q+(if i0<n/\p i0=true then 1 else 0)
 | 0=>by simp
 | n+1=>by
  rw[s9,a2p,a2p,countP_one h1 h2 n];simp only[List.countP_singleton]
  by_cases e:n=i0
  ·subst e;rw[h2];cases p n<;>simp
  ·rw[h1 n e]
   by_cases e2:i0<n
   ·simp[e2,show i0<n+1 by omega];omega
   ·simp[e2,show¬i0<n+1 by omega]
theorem at_cnt {α:Type} (n:Nat):∀l:List (Int×α),(l.map (·.1)).Nodup->(∀x∈l,0<=x.1/\x.1<(n:Int))->l.length=(List.range n).countP λi:Nat=>(look l (i:Int)).isSome
 | [],_,_=>by simp[look]
 | x::l,h1,h2=>by
  simp only[n4,List.nodup_cons]at h1;have ih:=at_cnt n l h1.2 (λy hy=>h2 y (E8 _ hy));have hx:=h2 x (H1 ..);have hn:look l x.1=none:=look_none.2 h1.1;rw[countP_one (q:=λi:Nat=>(look l (i:Int)).isSome) (i0:=x.1.toNat)]
  ·rw[<- ih];have:((x.1.toNat:Nat):Int)=x.1:=by omega
   simp only[this,look,X7,a2m,and_true,l5];rw[d8 (by omega)]
  ·intro i hi;simp only[look];rw[d6 (by omega)]
  ·have:((x.1.toNat:Nat):Int)=x.1:=by omega
   simp only[this,hn];rfl
theorem len_le {α:Type} (n:Nat) (l:List (Int×α)) (h1:(l.map (·.1)).Nodup) (h2:∀x∈l,0<=x.1/\x.1<(n:Int)):l.length<=n:=by
 rw[at_cnt n l h1 h2];have:=List.countP_le_length (p:=λi:Nat=>(look l (i:Int)).isSome) (l:=List.range n)
 rwa [M5]at this
theorem Ok.len {t:Tb} (h:t.Ok):t.at_.length<=65536:=by
 have:=len_le t.logical.toNat t.at_ h.keys (λx hx=>by have:=h.rng x hx;omega);have:=h.log;omega
theorem Ok.bd {t:Tb} (h:t.Ok) (k:Int):0<=t.count k/\t.count k<=1000000:=by
 rw[h.cnt];have:cntB t.at_ k<=t.at_.length:=List.countP_le_length;have:=h.len;omega
theorem range_cnt (b:Int) (n:Nat):∀l:List (Int×AtV),(l.map (·.1)).Nodup->(∀x∈l,0<=x.1/\x.1<(n:Int))->(List.range n).countP (λi:Nat=>match look l (i:Int)with | some a=>a.block==b | none=>false)=cntB l b
 | [],_,_=>by simp[look,cntB]
 | x::l,h1,h2=>by
  simp only[n4,List.nodup_cons]at h1;have ih:=range_cnt b n l h1.2 (λy hy=>h2 y (E8 _ hy));have hx:=h2 x (H1 ..);have hn:look l x.1=none:=look_none.2 h1.1;rw[countP_one (q:=λi:Nat=>match look l (i:Int)with | some a=>a.block==b | none=>false) (i0:=x.1.toNat)]
  ·rw[ih,cntB,cntB,O5];have:((x.1.toNat:Nat):Int)=x.1:=by omega
   simp only[this,look,X7];have hlt:x.1.toNat<n:=by omega
   simp only[hlt,true_and]
  ·intro i hi;simp only[look];rw[d6 (by omega)]
  ·have:((x.1.toNat:Nat):Int)=x.1:=by omega
   simp only[this,hn]
theorem Ok.inK_len {t:Tb} (h:t.Ok) (b:Int):((inK t b t.logical.toNat).length:Int)=t.count b:=by
 rw[h.cnt,inK,l7,<- List.countP_eq_length_filter,<- range_cnt b t.logical.toNat t.at_ h.keys (λx hx=>by have:=h.rng x hx;omega)];rfl
theorem Ok.ins {t:Tb} (h:t.Ok) (b:Int):t.ins b=inK t b t.logical.toNat:=by
 unfold Tb.ins;split
 ·rename_i h0;have:=h.inK_len b;rw[h0]at this;have:(inK t b t.logical.toNat).length=0:=by omega
  exact(n5 this).symm
 ·rfl
theorem Ok.ins_len {t:Tb} (h:t.Ok) (b:Int):((t.ins b).length:Int)=t.count b:=by rw[h.ins,h.inK_len]
theorem put_logical (t:Tb) (e:En) (b r s m:Int):(t.put e b r s m).logical=t.logical:=by unfold Tb.put;split<;>rfl
end Tb
end
section
structure Nand.Gd (N:Nand) (k m:Nat):Prop where
 ok:N.Ok
 ops:N.ops+k<4611686018427387904
 broken:N.broken+k<4611686018427387904
 nodup:N.plan.Nodup
 few:N.plan.length<=m
namespace Nand
variable {N : Nand} {k m : Nat}
theorem Gd.room (h:N.Gd k m):N.Room:=⟨by have:=h.ops;omega,by have:=h.broken;omega⟩
theorem Gd.less (h:N.Gd k m) {k' m':Nat} (hk:k'<=k) (hm:m<=m'):N.Gd k' m':=⟨h.ok,by have:=h.ops;omega,by have:=h.broken;omega,h.nodup,by have:=h.few;omega⟩
theorem Ok.setBlk (h:N.Ok) (i j:Nat) (B:NBlock) (h1:B.cells.length<=N.pages) (h2:∀c∈B.cells,c.p.length=32) (h3:0<=B.worn/\B.worn<=N.ops):(N.setBlk i j B).Ok:=by
 refine⟨h.geo,h.dead,λa b ha hb=>?_,⟨h.num.1,h.num.2.1,λa b=>?_⟩,h.lft,h.lf2,h.kp⟩
 ·show(if a=i/\b=j then B else N.blk a b).cells.length<=N.pages/\∀c∈(if a=i/\b=j then B else N.blk a b).cells,c.p.length=32;split
  ·exact⟨h1,h2⟩
  ·exact h.cells a b ha hb
 ·show 0<=(if a=i/\b=j then B else N.blk a b).worn/\(if a=i/\b=j then B else N.blk a b).worn<=N.ops;split
  ·exact h3
  ·exact h.num.2.2 a b
theorem Ok.cutN (h:N.Ok):N.cutN.Ok:=by
 have h1:=h.num;have h2:=h.lft;have h3:=h.lf2;refine⟨h.geo,h.dead,h.cells,⟨by show 0<=N.ops+1;omega,h1.2.1,λa b=>⟨(h1.2.2 a b).1,by show _<=N.ops+1;have:=(h1.2.2 a b).2;exact Int.le_trans this (by omega)⟩⟩,λhc=>?_,?_,h.kp⟩
 ·have hc:(if N.cutB then false else N.cuts)=true:=hc;show 0<=(if N.cuts then N.left-1 else N.left)/\(if N.cuts then N.left-1 else N.left)<=9223372036854775807;split at hc
  ·cases hc
  ·rename_i hb;simp[cutB,hc]at hb;have:=h2 hc;rw[d8 hc];omega
 ·show-9223372036854775808<=(if N.cuts then N.left-1 else N.left)/\(if N.cuts then N.left-1 else N.left)<=9223372036854775807;split
  ·rename_i hc;have:=h2 hc;omega
  ·exact h3
theorem Ok.push (h:N.Ok) (i j:Nat) (c:NCell) (h1:(N.blk i j).cells.length<N.pages) (h2:c.p.length=32) (hi:i<N.dies) (hj:j<N.blocks):(N.push i j c).Ok:=by
 refine h.setBlk i j _ ?_ ?_ (h.num.2.2 i j)
 ·simp;omega
 ·intro x hx;simp only[L9,J4]at hx;rcases hx with hx | hx
  ·exact(h.cells i j hi hj).2 x hx
  ·rw[hx];exact h2
theorem Ok.plan (h:N.Ok) (l:List A3'):Ok {N with plan:=l}:=⟨h.geo,h.dead,h.cells,h.num,h.lft,h.lf2,h.kp⟩
theorem fillP_len (k:Nat) (p:List UInt8) (h:p.length=32) (hk:k<=32):(fillP k p).length=32:=by simp[fillP,h];omega
theorem Ok.prog (h:N.Ok) (x y z:Int) (pg:List UInt8) (hp:pg.length=32):(N.progN x y z pg).Ok:=by
 unfold progN;split
 ·exact h
 ·rename_i h0;simp only[H5,a1e]at h0;obtain⟨_,_,hr⟩:=refuses_zero h0;split
  ·exact⟨h.geo,h.dead,h.cells,⟨h.num.1,by show 0<=N.broken+1;have:=h.num.2.1;omega,h.num.2.2⟩,h.lft,h.lf2,h.kp⟩
  ·rename_i h1;simp only[H5,a1e]at h1;have hlt:(N.blk x.toNat y.toNat).cells.length<N.pages:=by omega
   have hi:x.toNat<N.dies:=by omega
   have hj:y.toNat<N.blocks:=by omega
   split
   ·exact h.cutN.push _ _ _ hlt (fillP_len _ _ hp (by have:=h.kp;omega)) hi hj
   ·exact(h.cutN.plan _).push _ _ _ hlt hp hi hj
theorem Gd.prog (h:N.Gd (k+1) m) (x y z:Int) (pg:List UInt8) (hp:pg.length=32):(N.progN x y z pg).Gd k m:=by
 have h1:=h.ops;have h2:=h.broken;refine⟨h.ok.prog x y z pg hp,?_,?_,?_,?_⟩
 ·unfold progN;split
  ·omega
  ·split
   ·show N.ops+_<_;omega
   ·split<;>(show N.ops+1+(k:Int)<_;omega)
 ·unfold progN;split
  ·omega
  ·split
   ·show N.broken+1+(k:Int)<_;omega
   ·split<;>(show N.broken+(k:Int)<_;omega)
 ·unfold progN;split
  ·exact h.nodup
  ·split
   ·exact h.nodup
   ·split
    ·exact h.nodup
    ·exact h.nodup.erase _
 ·have h3:=h.few;unfold progN;split
  ·exact h3
  ·split
   ·exact h3
   ·split
    ·exact h3
    ·show(N.plan.erase _).length<=m;rw[List.length_erase];split<;>omega
theorem Ok.erase (h:N.Ok) (x y:Int):(N.eraseN x y).Ok:=by
 unfold eraseN;dsimp only;split
 ·exact h
 ·rename_i h0;simp only[H5,a1e]at h0;obtain⟨_,_,hr⟩:=refuses_zero h0;have hi:x.toNat<N.dies:=by omega
  have hj:y.toNat<N.blocks:=by omega
  have hc:=h.cells _ _ hi hj;split
  ·refine h.cutN.setBlk _ _ _ ?_ ?_ (h.cutN.num.2.2 _ _)
   ·show _<=N.pages;simp;omega
   ·intro c hcm;simp only[P9,L9,List.mem_replicate]at hcm;obtain⟨a,ha,rfl⟩:=hcm;rcases ha with ha | ha
    ·exact hc.2 a ha
    ·rw[ha.2];rfl
  ·split
   ·exact h.cutN.setBlk _ _ _ hc.1 hc.2 (h.cutN.num.2.2 _ _)
   ·refine(h.cutN.setBlk _ _ _ (by simp) (by simp) ?_).plan _;show 0<=(N.blk x.toNat y.toNat).worn+1/\(N.blk x.toNat y.toNat).worn+1<=N.ops+1;have:=h.num.2.2 x.toNat y.toNat
    omega
theorem Gd.erase (h:N.Gd (k+1) m) (x y:Int):(N.eraseN x y).Gd k m:=by
 have h1:=h.ops;have h2:=h.broken;refine⟨h.ok.erase x y,?_,?_,?_,?_⟩
 ·unfold eraseN;dsimp only;split
  ·omega
  ·(repeat' split)<;>(show N.ops+1+(k:Int)<_;omega)
 ·unfold eraseN;dsimp only;split
  ·omega
  ·(repeat' split)<;>(show N.broken+(k:Int)<_;omega)
 ·unfold eraseN;dsimp only
  (repeat' split)<;>first | exact h.nodup | exact h.nodup.filter _
 ·have h3:=h.few;unfold eraseN;dsimp only
  (repeat' split)<;>first | exact h3 | exact I7 (H8 _ _) h3
theorem xorAt_len (p:List UInt8) (n:Nat) (x:UInt8):(xorAt p n x).length=p.length:=by simp[xorAt]
theorem Ok.setCell (h:N.Ok) (x y z:Int) (f:NCell->NCell) (hf:∀c,(f c).p.length=c.p.length) (hi:x.toNat<N.dies) (hj:y.toNat<N.blocks):(N.setCell x y z f).Ok:=by
 have hc:=h.cells _ _ hi hj;refine h.setBlk _ _ _ (by simpa using hc.1) ?_ (h.num.2.2 _ _);intro c hm;obtain⟨i,hi',rfl⟩:=List.mem_iff_getElem.1 hm;simp only[O1]at hi';rw[List.getElem_modify];split
 ·rw[hf];exact hc.2 _ (H6 _)
 ·exact hc.2 _ (H6 _)
theorem Ok.fault (h:N.Ok) (kind x y z n xx:Int):(N.fault kind x y z n xx).2.Ok:=by
 unfold Nand.fault;split
 ·exact h
 ·rename_i h0;have hr:0<=x/\x<N.dies/\0<=y/\y<N.blocks:=by simp[V8]at h0;omega
  have hi:x.toNat<N.dies:=by omega
  have hj:y.toNat<N.blocks:=by omega
  have hc:=h.cells _ _ hi hj;split
  ·exact h.plan _
  ·split
   ·exact h.setBlk _ _ _ hc.1 hc.2 (h.num.2.2 _ _)
   ·split
    ·exact h.setCell _ _ _ _ (λ_=>rfl) hi hj
    ·split
     ·exact⟨h.geo,by show(N.dead.set _ _).length=_;rw[A7];exact h.dead,h.cells,h.num,h.lft,h.lf2,h.kp⟩
     ·split
      ·split
       ·exact h
       ·split
        ·exact h
        ·split
         ·exact h
         ·split
          ·exact h
          ·exact h.setCell _ _ _ _ (λc=>xorAt_len _ _ _) hi hj
      ·exact h
theorem Gd.fault (h:N.Gd k m) (kind x y z n xx:Int):(N.fault kind x y z n xx).2.Gd k (m+1):=by
 refine⟨h.ok.fault ..,?_,?_,?_,?_⟩
 ·unfold Nand.fault
  (repeat' split)<;>exact h.ops
 ·unfold Nand.fault
  (repeat' split)<;>exact h.broken
 ·unfold Nand.fault;have h1:∀a,(addP N.plan a).Nodup:=λa=>by
   unfold addP;split
   ·exact h.nodup
   ·rename_i hn;rw[M4];exact⟨h.nodup,by simp,λb hb c hc=>by simp at hc;subst hc;rintro rfl;exact hn hb⟩
  (repeat' split)<;>first | exact h.nodup | exact h1 _
 ·unfold Nand.fault;have h3:=h.few;have h1:∀a,(addP N.plan a).length<=m+1:=λa=>by
   unfold addP;split
   ·omega
   ·simp;omega
  (repeat' split)<;>first | exact h1 _ | exact Nat.le_succ_of_le h3
theorem Gd.fault0 (h:N.Gd k m) (kind x y z n xx:Int) (hk:kind≠1):(N.fault kind x y z n xx).2.Gd k m:=by
 have h1:=h.fault kind x y z n xx;refine⟨h1.ok,h1.ops,h1.broken,h1.nodup,?_⟩;unfold Nand.fault;rw[d6 hk]
 (repeat' split)<;>exact h.few
theorem Gd.cut (h:N.Gd k m) (x kk:Int) (h1: -9223372036854775808<=x) (h2:x<=9223372036854775807):(N.setCut x kk).Gd k m:=by
 unfold setCut;split
 ·exact h
 ·exact⟨⟨h.ok.geo,h.ok.dead,h.ok.cells,h.ok.num,λhc=>by simp at hc;exact⟨hc,h2⟩,⟨h1,h2⟩,by show 0<=min (max kk 0) 32/\min (max kk 0) 32<=32;omega⟩,h.ops,h.broken,h.nodup,h.few⟩
theorem Gd.on (h:N.Gd k m):N.onN.Gd k m:=⟨⟨h.ok.geo,h.ok.dead,h.ok.cells,h.ok.num,λhc=>(by cases hc),h.ok.lf2,h.ok.kp⟩,h.ops,h.broken,h.nodup,h.few⟩
theorem Gd.new (d b p:Nat) (h:O8 d b p=true) (k:Nat) (hk:k<=1000000):(Nand.new d b p).Gd k 0:=
 ⟨⟨h,by simp[Nand.new],λi j _ _=>by simp[Nand.new],⟨by simp[Nand.new],by simp[Nand.new],λi j=>by simp[Nand.new]⟩,λhc=>(by cases hc),by simp[Nand.new],by simp[Nand.new]⟩,by simp[Nand.new];omega,by simp[Nand.new];omega,by simp[Nand.new],by simp[Nand.new]⟩
structure Like (N N':Nand):Prop where
 dies:N'.dies=N.dies
 blocks:N'.blocks=N.blocks
 pages:N'.pages=N.pages
theorem Like.refl (N:Nand):Like N N:=⟨rfl,rfl,rfl⟩
theorem Like.trans {A B C:Nand} (h:Like A B) (h':Like B C):Like A C:=⟨h'.dies.trans h.dies,h'.blocks.trans h.blocks,h'.pages.trans h.pages⟩
theorem like_prog (N:Nand) (x y z:Int) (pg:List UInt8):Like N (N.progN x y z pg):=by
 unfold progN;(repeat' split)<;>exact⟨rfl,rfl,rfl⟩
theorem like_erase (N:Nand) (x y:Int):Like N (N.eraseN x y):=by
 unfold eraseN;dsimp only;(repeat' split)<;>exact⟨rfl,rfl,rfl⟩
theorem like_fault (N:Nand) (kind x y z n xx:Int):Like N (N.fault kind x y z n xx).2:=by
 unfold fault;(repeat' split)<;>exact⟨rfl,rfl,rfl⟩
theorem like_cut (N:Nand) (x kk:Int):Like N (N.setCut x kk):=by
 unfold setCut;(repeat' split)<;>exact⟨rfl,rfl,rfl⟩
end Nand
end
section
open Go Go.RowKit
theorem a4f (b r m:Int) (l:List En):(R.job b r m l).length=l.length+1:=by simp[R.job]
theorem a2Y (b r m:Int) (l:List En) (k:Nat) (h:k<l.length):(R.job b r m l)[k]? =some (G.die m b r (k:Nat),W.sh b r m (l.getD k En.zero)):=by
 rw[R.job,D8 (by simpa using h)];simp[h]
theorem X0 (b r m:Int) (l:List En):(R.job b r m l)[l.length]? =some (G.parity m b r,W.parS b r m l):=by
 rw[R.job,B2 (by simp)];simp
theorem b7v {b r m:Int} {l:List En} {k:Nat} {x:Int×Sh} (h:(R.job b r m l)[k]? =some x):(R.job b r m l).drop k=x::(R.job b r m l).drop (k+1):=by
 obtain⟨h1,h2⟩:=List.getElem?_eq_some_iff.1 h;rw[t6 h1,h2]
theorem a7b (p:Nat) (N:Nand) (A:Atom) (b r m:Int) (a:Option Addr) (n cap mm:Nat) (l:List En) (hA:Rd A a 19 n (n7 l)) (hl:l.length=n) (hd:∀s∈l,s.data.length=16) (hG:N.Gd 8 mm):
  FP 149 [pp p,iI b,iI r,iI m, .slice a n cap] [B8 p N,A]
  (λv As=>v= .tuple #[iI (R.write N b r m l).2.1,iI (R.write N b r m l).2.2]/\As=[B8 p (R.write N b r m l).1,A]):=by
 have hsb:=a0A m;refine FE [2,0,0,0,0] Tryz.func149 λX F hX=>?_;refine J.qp (b1i b r m A a n cap l hA hl hd) [2] λ_=>?_;refine J.q λbb=>?_;refine J.cond rfl (λh0=>?_) (λh0=>?_)
 ·simp only[i4]at h0;refine J.qr [1,2] λ_=>?_;simp only[R.write,h0];exact⟨rfl,rfl⟩
 simp only[A9]at h0;have hw:R.write N b r m l=R.go b r (R.job b r m l) N 0:=by rw[R.write,d8 h0]
 have hB:=h0;simp only[W.parB,f7,d5,D9]at hB;have hn:n<=7:=by have:=hB.1.1;omega
 refine J.q λb5=>?_;refine J.l (α:=(Nat×Nand×Int)) (λz=>z.1<=n+1/\z.2.1.Gd (n+1-z.1) mm/\R.go b r ((R.job b r m l).drop z.1) z.2.1 z.2.2=R.write N b r m l) (λz=>[si 33 z.1,⟨32,iI ((n:Int)+1),0, .tt⟩,si 14 z.2.2,⟨12,pp (bb 0),4, .tt⟩,⟨0,pp p,2, .tt⟩,si 1 b,si 2 r,si 3 m,sv 4 (.slice a n cap)]) [1] (λz=>[B8 p z.2.1]) (λz=>n+1-z.1) ((0,N,0)) (⟨j7 _,hG.less (by dsimp only;omega) (i7 _),hw.symm⟩) λz hI=>?_;obtain⟨k,Nk,f⟩:=z;dsimp only at hI ⊢;obtain⟨hI1,hI2,hI3⟩:=hI;refine J.qd (λ_ h1=>?_) λ_ h1=>?_
 ·simp only[d5]at h1;have h1:k<n+1:=by omega
  refine J.p (.take true 0 (.take true 1 (.take true 2 (.take false 4 (.alt false 3 ((.of [22,24,31])) (.alt false 5 ((.of [14,24,31])) .non)))))) [7] [3] λ_=>?_;refine J.join (α:=Nat) (λx=>[si 16 (G.parity m b r),⟨17,pp x,5, .tt⟩,si 15 k,si 33 k,⟨32,iI ((n:Int)+1),0, .tt⟩,si 14 f,⟨12,pp (bb 0),4, .tt⟩,⟨0,pp p,2, .tt⟩,si 1 b,si 2 r,si 3 m,sv 4 (.slice a n cap)]) (λx=>[.hp F,B8 p Nk,A, .pt (bb 0) 212 (shL (W.par b r m l)), .pt x 212 (shL (W.par b r m l))]) (λhj=>?_) (λx=>?_)
  ·skip
   refine J.qn 4 λ_=>?_;refine J.alts ?_ ?_
   ·skip
    refine J.qp (a1m m b r) [] λ_=>?_;refine J.qn 1 λb5=>?_;refine J.qn 3 λ_=>?_;exact J.goto [0,1,2,3,4] (hj (b5 0)) ⟨rfl,rfl,rfl,rfl,rfl,rfl,rfl,rfl,rfl,rfl,rfl,rfl,trivial⟩ rfl rfl
   ·skip
    refine J.qn 1 λb5=>?_;refine J.qp (a1m m b r) [] λ_=>?_;refine J.qn 3 λ_=>?_;exact J.goto [0,1,2,3,4] (hj (b5 0)) ⟨rfl,rfl,rfl,rfl,rfl,rfl,rfl,rfl,rfl,rfl,rfl,rfl,trivial⟩ rfl rfl
  obtain⟨⟨d,s⟩,hjob⟩:∃x,(R.job b r m l)[k]? =some x:=⟨_,c9 (by rw[a4f];omega)⟩;have hsl:s.data.length=16:=by
   by_cases hk:k<l.length
   ·rw[a2Y b r m l k hk]at hjob;injection hjob with hjob;injection hjob with _ hjob;rw[<- hjob];refine hd _ ?_;rw[d7,c9 hk];exact H6 _
   ·rw[show k=l.length by omega,X0]at hjob;injection hjob with hjob;injection hjob with _ hjob;rw[<- hjob];exact a2H (λt ht=>by obtain⟨e,he,rfl⟩:=List.mem_map.1 ht;exact hd e he) _ rfl
  refine J.q λ_=>?_;refine J.join (α:=Unit) (λ_=>[si 16 d,⟨17,pp x,5, .tt⟩,si 33 k,⟨32,iI ((n:Int)+1),0, .tt⟩,si 14 f,⟨12,pp (bb 0),4, .tt⟩,⟨0,pp p,2, .tt⟩,si 1 b,si 2 r,si 3 m,sv 4 (.slice a n cap)]) (λ_=>[.hp F,B8 p Nk,A, .pt (bb 0) 212 (shL (W.par b r m l)), .pt x 212 (shL s)]) (λhj=>?_) (λ_=>?_)
  ·refine J.qd (λ_ h2=>?_) λ_ h2=>?_
   ·simp only[d5,i5]at h2;have hkl:k<l.length:=by omega
    rw[a2Y b r m l k hkl]at hjob;simp only[l6,C4]at hjob;obtain⟨hd1,hs1⟩:=hjob;have hget:l[k]? =some (l.getD k En.zero):=by rw[d7,c9 hkl,j3]
    have hel:(l.getD k En.zero).data.length=16:=hd _ (j8 hget);have hok:W.ok b r m (l.getD k En.zero)=true:=hB.2 _ (j8 hget);refine J.qp (b3V m b r k (by omega) (by omega)) [] λ_=>?_;refine J.know (p:=∃g o,a=some ⟨g,o,none⟩) (λh' s=>Rd.addr (hA _ (s.get (i:=2) rfl)) (by omega)) λhk=>?_;obtain⟨g,o,rfl⟩:=hk;refine J.q λ_=>?_;refine J.v (enV (l.getD k En.zero)) rfl rfl (λhg a w he hw=>?_) ?_
    ·exact a3Z tk rfl rfl he rfl rfl rfl (hA _ (hw.get (i:=2) rfl)) (by omega) (j:=k*19) (by omega) (by have:=a0e l [] k _ hget;rwa [m6]at this) rfl
    refine J.qp (b1j b r m (l.getD k En.zero) hel) [] λ_=>?_;rw[show W.own b r m (l.getD k En.zero)=s from by rw[W.own,d8 hok,hs1],hd1];refine J.qn 5 λ_=>?_;exact J.goto [0,1,2,3,4] (hj ()) ⟨rfl,rfl,rfl,rfl,rfl,rfl,rfl,rfl,rfl,rfl,rfl,trivial⟩ rfl rfl
   ·simp only[c8,i5]at h2;have hkl:k=l.length:=by omega
    rw[hkl,X0]at hjob;simp only[l6,C4]at hjob;obtain⟨hd1,hs1⟩:=hjob;rw[hd1,show W.par b r m l=s from by rw[W.par,d8 h0,hs1]]at*;refine J.qn 1 λ_=>?_;exact J.goto [0,1,2,3,4] (hj ()) ⟨rfl,rfl,rfl,rfl,rfl,rfl,rfl,rfl,rfl,rfl,rfl,trivial⟩ rfl rfl
  have hj2:=b7v hjob;rw[hj2]at hI3;rw[R.go]at hI3;have hG0:Nk.Gd (n-k+1) mm:=hI2.less (by omega) (i7 _);have hG1:(Nk.progN d b r (O9 s)).Gd (n+1-(k+1)) mm:=(hG0.prog d b r _ (a3E s hsl)).less (by omega) (i7 _);refine J.qp (b7M s hsl) [] λ_=>?_;refine J.qp (a4b p Nk hI2.ok hI2.room d b r (O9 s) (a3E s hsl)) [1] λ_=>?_;refine J.qd (λ_ h3=>?_) λ_ h3=>?_
  ·simp only[A4]at h3;rw[d8 h3]at hI3;refine J.q λ_=>?_;refine J.n ((k+1,Nk.progN d b r (O9 s),f)) (⟨by dsimp only;omega,hG1,hI3⟩) (by dsimp only;omega) [0,1,2,3]
  ·simp only[l8,H5]at h3;rw[d6 h3]at hI3;refine J.qd (λ_ h4=>?_) λ_ h4=>?_
   ·simp only[A4]at h4;rw[d8 h4]at hI3;refine J.qr [1,2] λ_=>?_;rw[<- hI3];exact⟨rfl,rfl⟩
   ·simp only[l8,H5]at h4;rw[d6 h4]at hI3;refine J.qp (b0H f d) [] λ_=>?_;refine J.q λ_=>?_;refine J.n ((k+1,Nk.progN d b r (O9 s),L.with_ f d)) (⟨by dsimp only;omega,hG1,hI3⟩) (by dsimp only;omega) [0,1,2,3]
 ·simp only[c8]at h1;have:k=n+1:=by omega
  subst this;rw[E7 (by rw[a4f];omega),R.go]at hI3;refine J.qd (λ_ h5=>?_) λ_ h5=>?_
  ·simp only[E6,H5]at h5;rw[d6 h5]at hI3;refine J.qr [1,2] λ_=>?_;rw[<- hI3];exact⟨rfl,rfl⟩
  ·simp only[z7]at h5;rw[d8 h5]at hI3;refine J.qr [1,2] λ_=>?_;rw[<- hI3,h5];exact⟨rfl,rfl⟩
def W.backC (p:Sh) (l:List Sh):Bool:=p.kind==2&&S.may p&& !l.any (alien p)&&decide ((l.length:Int)=G.slots p.mask-1)
def b7E (p:Sh->Bool) (l:List Sh):Int:=match l.findIdx? p with
 | some k=>k
 | none=> -1
theorem b5f {p:Sh->Bool} {l:List Sh} {k:Nat} {x:Sh} (h:l[k]? =some x) (h0:∀i<k,p (l.getD i Sh.zero)=false) (hp:p x=true):l.findIdx? p=some k:=by
 rw[n9];obtain⟨h1,h2⟩:=List.getElem?_eq_some_iff.1 h;refine⟨h1,by rw[h2];exact hp,λj hj=>?_⟩;have:=h0 j hj;rw[d7,c9 (by omega),j3]at this;simp[this]
theorem b5g {p:Sh->Bool} {l:List Sh} (h0:∀i<l.length,p (l.getD i Sh.zero)=false):l.findIdx? p=none:=by
 rw[D0];intro x hx;obtain⟨i,hi,rfl⟩:=List.mem_iff_getElem.1 hx;have:=h0 i hi
 rwa [d7,c9 hi,j3]at this
theorem b7D (p:Sh->Bool) (l:List Sh):decide (b7E p l>=0)=l.any p:=by
 unfold b7E;cases h:l.findIdx? p with
 | none=>
  rw[D0]at h;have:l.any p=false:=by rw[a0c];exactλx hx=>by simp[h x hx]
  rw[this];rfl
 | some k=>
  rw[n9]at h;obtain⟨h1,h2,_⟩:=h;have:l.any p=true:=List.any_eq_true.2 ⟨l[k],H6 _,h2⟩;rw[this];simp
theorem b5J (c:Nat) (cs:List Value) (p:Sh->Bool) (A:Atom) (hcal:K0 Tryz.prog c=true) (l:List Sh) (hf:∀x∈l,Fn Tryz.prog c (shV x::cs) [A] (Ps (.bool (p x)) [A]))
  (a:Option Nat) (n cap:Nat) (hl:l.length=n) (hn:n<=4611686018427387904):FP 253 [slv a n cap,fnC c cs] [m9 212 23 a n cap (J1 l),A]
  (Ps (iI (b7E p l)) [m9 212 23 a n cap (J1 l),A]):=by
 refine FE [0,0] Tryz.func253 λX F hX=>?_;refine J.q λ_=>?_;refine J.l (α:=Nat) (λk=>k<=n/\∀i<k,p (l.getD i Sh.zero)=false) (λk=>[si 8 k,si 7 n,sv 0 (slv a n cap),⟨1,fnC c cs,0, .tt⟩]) [] (λk=>[]) (λk=>n-k) (0) (⟨by omega,by omega⟩) λk hI=>?_;refine J.qd (λ_ h1=>?_) λ_ h1=>?_
 ·simp only[d5,i5]at h1;cases a with
  | none=>
   refine J.know (λh' s=>(s.get (i:=1) rfl).2.1) λhn0=>?_;omega
  | some g=>
   have hk:l[k]? =some (l.getD k Sh.zero):=by rw[d7,c9 (by omega),j3]
   refine J.q λ_=>?_;refine J.v (shV (l.getD k Sh.zero)) rfl rfl (λhg a w he hs=>?_) ?_
   ·exact J8 tk rfl rfl he rfl rfl rfl (hs.get (i:=1) rfl) (by rw[show 0+(k:Int).toNat*23=k*23 from by omega];have:=a4k l [] k _ hk;rwa [m6]at this) rfl
   refine J.q λ_=>?_;refine J.call hX hcal (hf (l.getD k Sh.zero) (j8 hk)) [2] 0 rfl rfl rfl rfl (by(repeat' (first | exact Conj.nil | refine Conj.cons ?_ ?_ | omega | exact hq0 | (simpa using hq0) | (exactλh=>h) | exact rfl | (intro hq;have hq0:=hq;try simp only[f7,j6,d5,i4,c8]at hq) | (simp;done) | (simp;omega) | decide))) rfl rfl (λ_=>rfl) ?_;refine cpq ⟨_,rfl,trivial,?_⟩;refine J.qd (λ_ h2=>?_) λ_ h2=>?_
   ·refine J.qr [1,2] λ_=>?_;exact⟨by rw[b7E,b5f hk hI.2 h2],rfl⟩
   ·refine J.q λ_=>?_;refine J.nx (k+1) (⟨by omega,λi hi=>by
     rcases Nat.lt_succ_iff_lt_or_eq.1 hi with h3 | h3
     ·exact hI.2 i h3
     ·rw[h3];exact h2⟩) (by omega) (λ_ s=>s)
 ·simp only[c8,i5]at h1;refine J.qr [1,2] λ_=>?_;exact⟨by rw[b7E,b5g (λi hi=>hI.2 i (by omega))],rfl⟩
theorem b1e (c:Nat) (cs:List Value) (p:Sh->Bool) (A:Atom) (hcal:K0 Tryz.prog c=true) (l:List Sh) (hf:∀x∈l,Fn Tryz.prog c (shV x::cs) [A] (Ps (.bool (p x)) [A]))
  (a:Option Nat) (n cap:Nat) (hl:l.length=n) (hn:n<=4611686018427387904):FP 225 [slv a n cap,fnC c cs] [m9 212 23 a n cap (J1 l),A]
  (Ps (.bool (l.any p)) [m9 212 23 a n cap (J1 l),A]):=by
 refine FE [0,0] Tryz.func225 λX F hX=>?_;refine J.qp (b5J c cs p A hcal l hf a n cap hl hn) [1,2] λ_=>?_;refine J.qr [1,2] λ_=>?_;exact⟨by rw[<- b7D],rfl⟩
theorem b3e (l:List Sh):∀u∈J1 l,u.oneCell'=true:=by
 intro u hu;simp only[J1,K5]at hu;obtain⟨s,_,hu⟩:=hu;simp only[shL,H7,U5,a5A]at hu;rcases hu with rfl | rfl | rfl | rfl | rfl | rfl | rfl | rfl | rfl | rfl | rfl | rfl | rfl | rfl | rfl | rfl | rfl | rfl | rfl | rfl | rfl | rfl | rfl<;>rfl
theorem a3z (a:Option Nat) (n cap:Nat) (l:List Sh) (hl:l.length=n) (hn:n<=1000000):FP 229 [slv a n cap] [m9 212 23 a n cap (J1 l)]
  (λv As=>∃a' c',v=slv a' n c'/\As=[m9 212 23 a n cap (J1 l),m9 212 23 a' n c' (J1 l)]):=by
 refine FE [0] Tryz.func229 λX F hX=>?_;cases a with
 | none=>
  refine J.know (λh' s=>(s.get (i:=1) rfl).2) λhn0=>?_;obtain⟨rfl,rfl⟩:=hn0;have:l=[]:=n5 hl;subst this;refine J.qT λ_=>?_;refine J.turn1 [] rfl (As:=[m9 212 23 none 0 0 (J1 [])]) (λh s=>Sep.one ⟨rfl,rfl,rfl⟩) rfl ?_;refine J.qr [1,2] λ_=>?_;exact⟨none,0,rfl,rfl⟩
 | some g=>
  refine J.qF λ_=>?_;refine J.qn 5 λbb=>?_;refine J.closeOwn (e:=212) (size:=23) (n:=0) (cap:=0) (xs:=[]) 2 rfl rfl rfl (i7 _) (j7 _) rfl rfl rfl ?_;refine J.q λ_=>?_;refine J.appendR hX tk (a:=some (bb 0)) (n:=0) (cap:=0) (xs:=[]) (oo:=0) (Ay:=m9 212 23 (some g) n cap (J1 l)) 2 1 0 rfl rfl rfl rfl rfl rfl rfl rfl rfl rfl (Y5 _ _ (some g) _ _ _) rfl rfl rfl rfl (b3e l) ?_ ?_ (λ_=>rfl) λa' c'=>⟨_,rfl,trivial,?_⟩
  ·simp only[maxLen];omega
  ·omega
  rw[J6 n,R4];refine J.qr [1,2] λ_=>?_;exact⟨a',c',rfl,rfl⟩
theorem b8B (b2:Nat) (p s:Sh) (h:s.data.length=16):FP 226 [shV s,pp b2] [.pt b2 212 (shL p)] (Ps (.bool (W.alien p s)) [.pt b2 212 (shL p)]):=by
 refine FE [0,2] Tryz.func226 λX F hX=>?_;refine J.q λ_=>?_;refine J.gcase hX rfl rfl rfl trivial (λhb=>?_) (λhb=>?_)
 ·have hb2:(s.kind !=1)=false:=by rwa [i4]at hb
  rw[hb2];refine J.qp (a9J s h) [] λ_=>?_;refine J.qr [1] λ_=>?_;exact⟨by simp only[W.alien];rw[hb2],rfl⟩
 ·have hb2:(s.kind !=1)=true:=by rwa [A9]at hb
  rw[hb2];refine J.q λ_=>?_;refine J.v (.bool false) rfl rfl (λhg a w he hw=>by simp[G.on]at hg) ?_;refine J.qr [1] λ_=>?_;exact⟨by simp only[W.alien];rw[hb2];simp,rfl⟩
theorem b6O {l:List Sh} (hd:∀s∈l,s.data.length=16):(W.over l).1.length=16:=a2H hd _ rfl
theorem b5R (p:Sh) (hp:p.data.length=16) (a:Option Nat) (n cap:Nat) (l:List Sh) (hl:l.length=n) (hn:n<=100) (hd:∀s∈l,s.data.length=16):FP 191 [shV p,slv a n cap] [m9 212 23 a n cap (J1 l)]
  (Ps (.tuple #[enV (W.back p l), .bool (W.backB p l)]) [m9 212 23 a n cap (J1 l)]):=by
 have hsb:=a0A p.mask;have hdp:∀s∈l++[p],s.data.length=16:=λs hs=>by
  rw[L9,J4]at hs;rcases hs with hs | rfl
  ·exact hd s hs
  ·exact hp
 have key:∀(b:Bool),W.backB p l=b->W.back p l=if b then W.backS p l else En.zero:=λb hb=>by rw[W.back,hb]
 refine FE [0,0] Tryz.func191 λX F hX=>?_;refine J.q λbb=>?_;refine J.ca hX (by kernel_rfl) (b1e 226 [pp (bb 0)] (W.alien p) _ (by kernel_rfl) l (λx hx=>b8B (bb 0) p x (hd x hx)) a n cap hl (by omega)) [1,2] 0 rfl rfl rfl rfl rfl rfl (λ_=>rfl) ?_;refine cpq ⟨_,rfl,trivial,?_⟩;refine J.q λ_=>?_;refine J.join (α:=Unit) (λ_=>[sv 34 (.bool (!W.backC p l)),sv 1 (slv a n cap),sv 5 (.bool false),⟨2,pp (bb 0),3, .tt⟩,⟨4,pp (bb (0+1)),4, .tt⟩]) (λ_=>[.hp F,m9 212 23 a n cap (J1 l), .pt (bb 0) 212 (shL p), .pt (bb (0+1)) 101 (enL En.zero)]) (λhj=>?_) (λ_=>?_)
 ·have hnil:∀b:Bool,(!W.backC p l)=b->∀x:Bool,b=x->(!W.backC p l)=x:=λb h x e=>h.trans e;have hC:(!W.backC p l)=((p.kind !=2)|| !S.may p||l.any (W.alien p)||((n:Int) !=G.slots p.mask-1)):=by
   simp only[W.backC,Bool.not_and,Bool.not_not,hl,bne];congr 1
  refine J.gcase hX rfl rfl rfl trivial (λhb=>?_) (λhb=>?_)
  ·have hb2:(p.kind !=2)=false:=by rwa [i4]at hb
   rw[hb2]at hC ⊢;refine J.qp (a9J p hp) [] λ_=>?_;refine J.q λ_=>?_;refine J.gcase hX rfl rfl rfl trivial (λhb=>?_) (λhb=>?_)
   ·have hb3:(false|| !S.may p||l.any (W.alien p))=false:=by rwa [i4]at hb
    rw[hb3]at hC ⊢;refine J.qp (a1i p.mask) [] λ_=>?_;refine J.q λ_=>?_;exact J.goto [0,1,2,3] (hj ()) ⟨congrArg (λb=>some (Value.bool b)) hC.symm,rfl,rfl,rfl,rfl,trivial⟩ rfl rfl
   ·have hb3:(false|| !S.may p||l.any (W.alien p))=true:=by rwa [A9]at hb
    rw[hb3]at hC ⊢;refine J.q λ_=>?_;refine J.v (iI 0) rfl rfl (λhg a w he hw=>by simp[G.on]at hg) ?_;refine J.q λ_=>?_;exact J.goto [0,1,2,3] (hj ()) ⟨congrArg (λb=>some (Value.bool b)) (show _= !W.backC p l from by rw[hC];rfl),rfl,rfl,rfl,rfl,trivial⟩ rfl rfl
  ·have hb2:(p.kind !=2)=true:=by rwa [A9]at hb
   rw[hb2]at hC ⊢;refine J.q λ_=>?_;refine J.v (.bool false) rfl rfl (λhg a w he hw=>by simp[G.on]at hg) ?_;refine J.q λ_=>?_;refine J.gcase hX rfl rfl rfl trivial (λhb=>by simp at hb) (λhb=>?_);refine J.q λ_=>?_;refine J.v (iI 0) rfl rfl (λhg a w he hw=>by simp[G.on]at hg) ?_;refine J.q λ_=>?_;exact J.goto [0,1,2,3] (hj ()) ⟨congrArg (λb=>some (Value.bool b)) (show _= !W.backC p l from by rw[hC];rfl),rfl,rfl,rfl,rfl,trivial⟩ rfl rfl
 refine J.qd (λ_ h1=>?_) λ_ h1=>?_
 ·have hB:W.backB p l=false:=by
   have:W.backB p l=(W.backC p l&&W.ok p.block p.row p.mask (W.backS p l)):=rfl;rw[this,show W.backC p l=false from by simpa using h1];rfl
  refine J.qr [1] λ_=>?_;exact⟨by rw[key _ hB,hB];rfl,rfl⟩
 have h2:W.backC p l=true:=by simpa using h1
 have hB:W.backB p l=W.ok p.block p.row p.mask (W.backS p l):=by
  have:W.backB p l=(W.backC p l&&W.ok p.block p.row p.mask (W.backS p l)):=rfl;rw[this,h2];rfl
 refine J.p (.take true 0 (.take false 2 (.alt false 1 ((.alt false 3 ((.alt false 4 ((.alt false 5 ((.of [24,28,32,38,42,44])) (.alt false 9 ((.of [22,24,28,32,42,44])) .non))) (.alt false 9 ((.of [18,22,24,28,32,42,44])) .non))) (.alt false 9 ((.of [14,18,22,24,28,32,42,44])) .non))) (.alt false 3 ((.alt false 1 ((.alt false 4 ((.alt false 5 ((.of [24,28,32,38,42,44])) (.alt false 9 ((.of [22,24,28,32,42,44])) .non))) (.alt false 9 ((.of [18,22,24,28,32,42,44])) .non))) (.alt false 9 ((.of [6,18,22,24,28,32,42,44])) .non))) (.alt false 9 ((.alt false 1 ((.of [14,18,22,24,28,32,42,44])) (.alt false 3 ((.of [6,18,22,24,28,32,42,44])) .non))) .non))))) [11] [2] λ_=>?_;refine J.join (α:=Nat) (λx=>[⟨7,pp x,5, .tt⟩,⟨8, .int .u64 (W.over (l++[p])).2,0, .tt⟩,⟨2,pp (bb 0),3, .tt⟩,⟨4,pp (bb (0+1)),4, .tt⟩]) (λx=>[.hp F,m9 212 23 a n cap (J1 l), .pt (bb 0) 212 (shL p), .pt (bb (0+1)) 101 (enL En.zero), .pt x 36 (I3 (W.over (l++[p])).1)]) (λhj=>?_) (λx=>?_)
 ·skip
  refine J.qn 2 λ_=>?_;refine J.alts ?_ (J.alts ?_ ?_)
  ·skip
   refine J.qc (a3z a n cap l hl (by omega)) [1] λ_=>?_;rintro v As ⟨a1,c1,rfl,rfl⟩;refine⟨_,rfl,⟨rfl,trivial⟩,?_⟩;refine J.alts ?_ ?_
   ·skip
    refine J.qn 1 λb3=>?_;refine J.alts ?_ ?_
    ·skip
     refine J.append hX tk 4 5 0 rfl rfl rfl rfl rfl rfl rfl rfl rfl rfl rfl rfl rfl rfl rfl rfl ?_ ?_ (λ_=>rfl) λa2 c2=>⟨_,(congrArg (λz=>U3 _ 4 (m9 _ _ _ _ _ z)) (Q5 l p).symm).trans rfl,⟨rfl,trivial⟩,?_⟩
     ·simp only[maxLen];omega
     ·omega
     refine J.alts ?_ ?_
     ·skip
      refine J.qp (a1G a2 (n+1) c2 (l++[p]) (by simp[hl]) (by omega) hdp) [4] λ_=>?_;refine J.qn 3 λ_=>?_;refine J.qn 1 λb9=>?_;refine J.qn 3 λ_=>?_;exact J.goto [0,1,2,3,6] (hj (b9 0)) ⟨rfl,rfl,rfl,rfl,trivial⟩ rfl rfl
     ·skip
      refine J.qn 1 λb9=>?_;refine J.qp (a1G a2 (n+1) c2 (l++[p]) (by simp[hl]) (by omega) hdp) [4] λ_=>?_;refine J.qn 6 λ_=>?_;exact J.goto [0,1,2,3,6] (hj (b9 0)) ⟨rfl,rfl,rfl,rfl,trivial⟩ rfl rfl
    ·skip
     refine J.qn 1 λb9=>?_;refine J.append hX tk 4 5 0 rfl rfl rfl rfl rfl rfl rfl rfl rfl rfl rfl rfl rfl rfl rfl rfl ?_ ?_ (λ_=>rfl) λa2 c2=>⟨_,(congrArg (λz=>U3 _ 4 (m9 _ _ _ _ _ z)) (Q5 l p).symm).trans rfl,⟨rfl,trivial⟩,?_⟩
     ·simp only[maxLen];omega
     ·omega
     refine J.qp (a1G a2 (n+1) c2 (l++[p]) (by simp[hl]) (by omega) hdp) [4] λ_=>?_;refine J.qn 6 λ_=>?_;exact J.goto [0,1,2,3,6] (hj (b9 0)) ⟨rfl,rfl,rfl,rfl,trivial⟩ rfl rfl
   ·skip
    refine J.qn 1 λb9=>?_;refine J.qn 1 λb3=>?_;refine J.append hX tk 4 6 0 rfl rfl rfl rfl rfl rfl rfl rfl rfl rfl rfl rfl rfl rfl rfl rfl ?_ ?_ (λ_=>rfl) λa2 c2=>⟨_,(congrArg (λz=>U3 _ 4 (m9 _ _ _ _ _ z)) (Q5 l p).symm).trans rfl,⟨rfl,trivial⟩,?_⟩
    ·simp only[maxLen];omega
    ·omega
    refine J.qp (a1G a2 (n+1) c2 (l++[p]) (by simp[hl]) (by omega) hdp) [4] λ_=>?_;refine J.qn 6 λ_=>?_;exact J.goto [0,1,2,3,5] (hj (b9 0)) ⟨rfl,rfl,rfl,rfl,trivial⟩ rfl rfl
  ·skip
   refine J.qn 1 λb3=>?_;refine J.alts ?_ ?_
   ·skip
    refine J.qc (a3z a n cap l hl (by omega)) [1] λ_=>?_;rintro v As ⟨a1,c1,rfl,rfl⟩;refine⟨_,rfl,⟨rfl,trivial⟩,?_⟩;refine J.alts ?_ ?_
    ·skip
     refine J.append hX tk 5 4 0 rfl rfl rfl rfl rfl rfl rfl rfl rfl rfl rfl rfl rfl rfl rfl rfl ?_ ?_ (λ_=>rfl) λa2 c2=>⟨_,(congrArg (λz=>U3 _ 5 (m9 _ _ _ _ _ z)) (Q5 l p).symm).trans rfl,⟨rfl,trivial⟩,?_⟩
     ·simp only[maxLen];omega
     ·omega
     refine J.alts ?_ ?_
     ·skip
      refine J.qp (a1G a2 (n+1) c2 (l++[p]) (by simp[hl]) (by omega) hdp) [5] λ_=>?_;refine J.qn 3 λ_=>?_;refine J.qn 1 λb9=>?_;refine J.qn 3 λ_=>?_;exact J.goto [0,1,2,3,6] (hj (b9 0)) ⟨rfl,rfl,rfl,rfl,trivial⟩ rfl rfl
     ·skip
      refine J.qn 1 λb9=>?_;refine J.qp (a1G a2 (n+1) c2 (l++[p]) (by simp[hl]) (by omega) hdp) [5] λ_=>?_;refine J.qn 6 λ_=>?_;exact J.goto [0,1,2,3,6] (hj (b9 0)) ⟨rfl,rfl,rfl,rfl,trivial⟩ rfl rfl
    ·skip
     refine J.qn 1 λb9=>?_;refine J.append hX tk 5 4 0 rfl rfl rfl rfl rfl rfl rfl rfl rfl rfl rfl rfl rfl rfl rfl rfl ?_ ?_ (λ_=>rfl) λa2 c2=>⟨_,(congrArg (λz=>U3 _ 5 (m9 _ _ _ _ _ z)) (Q5 l p).symm).trans rfl,⟨rfl,trivial⟩,?_⟩
     ·simp only[maxLen];omega
     ·omega
     refine J.qp (a1G a2 (n+1) c2 (l++[p]) (by simp[hl]) (by omega) hdp) [5] λ_=>?_;refine J.qn 6 λ_=>?_;exact J.goto [0,1,2,3,6] (hj (b9 0)) ⟨rfl,rfl,rfl,rfl,trivial⟩ rfl rfl
   ·skip
    refine J.qn 1 λb9=>?_;refine J.qc (a3z a n cap l hl (by omega)) [1] λ_=>?_;rintro v As ⟨a1,c1,rfl,rfl⟩;refine⟨_,rfl,⟨rfl,trivial⟩,?_⟩;refine J.append hX tk 6 4 0 rfl rfl rfl rfl rfl rfl rfl rfl rfl rfl rfl rfl rfl rfl rfl rfl ?_ ?_ (λ_=>rfl) λa2 c2=>⟨_,(congrArg (λz=>U3 _ 6 (m9 _ _ _ _ _ z)) (Q5 l p).symm).trans rfl,⟨rfl,trivial⟩,?_⟩
    ·simp only[maxLen];omega
    ·omega
    refine J.qp (a1G a2 (n+1) c2 (l++[p]) (by simp[hl]) (by omega) hdp) [6] λ_=>?_;refine J.qn 6 λ_=>?_;exact J.goto [0,1,2,3,5] (hj (b9 0)) ⟨rfl,rfl,rfl,rfl,trivial⟩ rfl rfl
  ·skip
   refine J.qn 1 λb9=>?_;refine J.alts ?_ ?_
   ·skip
    refine J.qc (a3z a n cap l hl (by omega)) [1] λ_=>?_;rintro v As ⟨a1,c1,rfl,rfl⟩;refine⟨_,rfl,⟨rfl,trivial⟩,?_⟩;refine J.qn 1 λb3=>?_;refine J.append hX tk 5 6 0 rfl rfl rfl rfl rfl rfl rfl rfl rfl rfl rfl rfl rfl rfl rfl rfl ?_ ?_ (λ_=>rfl) λa2 c2=>⟨_,(congrArg (λz=>U3 _ 5 (m9 _ _ _ _ _ z)) (Q5 l p).symm).trans rfl,⟨rfl,trivial⟩,?_⟩
    ·simp only[maxLen];omega
    ·omega
    refine J.qp (a1G a2 (n+1) c2 (l++[p]) (by simp[hl]) (by omega) hdp) [5] λ_=>?_;refine J.qn 6 λ_=>?_;exact J.goto [0,1,2,3,4] (hj (b9 0)) ⟨rfl,rfl,rfl,rfl,trivial⟩ rfl rfl
   ·skip
    refine J.qn 1 λb3=>?_;refine J.qc (a3z a n cap l hl (by omega)) [1] λ_=>?_;rintro v As ⟨a1,c1,rfl,rfl⟩;refine⟨_,rfl,⟨rfl,trivial⟩,?_⟩;refine J.append hX tk 6 5 0 rfl rfl rfl rfl rfl rfl rfl rfl rfl rfl rfl rfl rfl rfl rfl rfl ?_ ?_ (λ_=>rfl) λa2 c2=>⟨_,(congrArg (λz=>U3 _ 6 (m9 _ _ _ _ _ z)) (Q5 l p).symm).trans rfl,⟨rfl,trivial⟩,?_⟩
    ·simp only[maxLen];omega
    ·omega
    refine J.qp (a1G a2 (n+1) c2 (l++[p]) (by simp[hl]) (by omega) hdp) [6] λ_=>?_;refine J.qn 6 λ_=>?_;exact J.goto [0,1,2,3,4] (hj (b9 0)) ⟨rfl,rfl,rfl,rfl,trivial⟩ rfl rfl

 obtain⟨mm,hm1,hm2⟩:=a5b (l++[p]) (zeros16,0) ⟨by decide,by decide⟩;have hm1:(W.over (l++[p])).2=(mm:Int):=hm1;have hS:W.backS p l=⟨(mm/1099511627776 % 65536:Nat),(mm % 1099511627776:Nat),(mm/72057594037927936:Nat),(W.over (l++[p])).1⟩:=by
  have hx:mm=(W.over (l++[p])).2.toNat:=by rw[hm1];rfl
  rw[W.backS,<- hx]
 rw[hm1];refine J.qp (c1g mm hm2) [] λ_=>?_;refine J.qp (b1j p.block p.row p.mask ⟨(mm/1099511627776 % 65536:Nat),(mm % 1099511627776:Nat),(mm/72057594037927936:Nat),(W.over (l++[p])).1⟩ (b6O hdp)) [] λ_=>?_;rw[<- hS,<- hB];refine J.qd (λ_ h3=>?_) λ_ h3=>?_
 ·simp only[i4]at h3;refine J.qr [1] λ_=>?_;exact⟨by rw[key _ h3,h3];rfl,rfl⟩
 ·simp only[A9]at h3;refine J.qr [1] λ_=>?_;exact⟨by rw[key _ h3,h3,d8 rfl,hS];rfl,rfl⟩
def a0u (l:List Bool):List Value:=l.map .bool
theorem b2o (l:List Bool) (x:Bool):a0u (l++[x])=a0u l++[.bool x]:=by simp[a0u]
theorem a3j {l:List Bool} {k:Nat} {x:Bool} (h:l[k]? =some x):(a0u l)[k]? =some (.bool x):=by simp[a0u,h]
def fdL (a1:Option Nat) (c1:Nat) (a2:Option Nat) (c2 n:Nat) (s:Sh) (w:Bool):List Value:=[slv a1 n c1,slv a2 n c2,byC s.data 0,byC s.data 1,byC s.data 2,byC s.data 3,byC s.data 4,byC s.data 5,byC s.data 6,byC s.data 7,byC s.data 8,byC s.data 9,byC s.data 10,byC s.data 11,byC s.data 12,byC s.data 13,byC s.data 14,byC s.data 15,
 iI s.role,iI s.lpn,iI s.seq,iI s.kind,iI s.block,iI s.row,iI s.mask, .bool w]
theorem b0u (s:Sh):FP 126 [shV s] [] (Ps (enV s.en) []):=by
 refine FE [0] Tryz.func126 λX F hX=>?_;exact J.qx []
theorem b3D (p:Nat) (N:Nand) (hN:N.Ok) (hR:N.Room) (b r m d:Int) (b1 b2 b3 b4:Nat):FP 190 [iI d,pp b1,pp b2,pp b3,pp b4] [B8 p N, .pt b1 27 [pp p], .pt b2 3 [iI b], .pt b3 3 [iI r], .pt b4 3 [iI m]]
  (Ps (.tuple #[shV (R.one N b r m d).1, .bool (R.one N b r m d).2]) [B8 p N, .pt b1 27 [pp p], .pt b2 3 [iI b], .pt b3 3 [iI r], .pt b4 3 [iI m]]):=by
 refine FE [0,3,4,5,6] Tryz.func190 λX F hX=>?_;refine J.q λb2=>?_;refine J.q λb3=>?_;refine J.cb (a5U p N hN hR d b r) [1] ?_;refine cpq ⟨_,rfl,trivial,?_⟩;refine J.q λb4=>?_;refine J.plan (.of [1,4,8,12,16,21,25,28,32,38,40]) [10] [5,7] (by rw[hX.hP];kernel_rfl) (by kernel_rfl) ?_;exact J.qx [1,2,3,4,5]
theorem a9r (N:Nand) (b r m:Int) (k:Nat):R.ones N b r m (k+1)=R.ones N b r m k++[R.one N b r m (G.die m b r (k:Nat))]:=by simp[R.ones,s9]
theorem b6C (p:Nat) (N:Nand) (hN:N.Ok) (hR:N.Room) (b r m:Int):FP 125 [pp p,iI b,iI r,iI m] [B8 p N]
  (λv As=>∃a1 c1 a2 c2,v= .agg (fdL a1 c1 a2 c2 (G.slots m).toNat (R.look N b r m).parity (R.look N b r m).whole).toArray/\As=[B8 p N,m9 212 23 a1 (G.slots m).toNat c1 (J1 (R.look N b r m).slots),m9 4 1 a2 (G.slots m).toNat c2 (a0u (R.look N b r m).good)]):=by
 have hsb:=a0A m;obtain⟨P,hP⟩:∃P,R.one N b r m (G.parity m b r)=P:=⟨_,rfl⟩;refine FE [2,0,0,0] Tryz.func125 λX F hX=>?_;refine J.q λbb=>?_;refine J.cb (a1m m b r) [] ?_;refine cpq ⟨_,rfl,trivial,?_⟩;refine J.q λb8=>?_;refine J.cb (b3D p N hN hR b r m (G.parity m b r) (bb 0) (bb 1) (bb 2) (bb 3)) [1,2,3,4,5] ?_;refine cpq ⟨_,rfl,trivial,?_⟩;rw[hP];refine J.qp (a1i m) [] λ_=>?_;refine J.turn1 [] rfl (As:=[m9 212 23 none 0 0 (J1 []),m9 4 1 none 0 0 (a0u [])]) (λh s=>⟨λ_=>0,λi A hA=>by
  match i,hA with
  | 0,hA=>simp at hA;subst hA;exact⟨rfl,rfl,rfl⟩
  | 1,hA=>simp at hA;subst hA;exact⟨rfl,rfl,rfl⟩
  | k+2,hA=>simp at hA⟩) rfl ?_
 refine J.q λ_=>?_;refine J.l (α:=(Nat×Option Nat×Nat×Option Nat×Nat)) (λz=>z.1<=(G.slots m).toNat) (λz=>[si 28 z.1,si 27 (G.slots m),⟨9,fnC 190 [pp (bb 0),pp (bb 1),pp (bb 2),pp (bb 3)],0, .tt⟩,⟨4,pp (bb 0),3, .tt⟩,⟨5,pp (bb 1),4, .tt⟩,⟨6,pp (bb 2),5, .tt⟩,⟨7,pp (bb 3),6, .tt⟩,⟨8,pp (bb 4),7, .tt⟩,⟨10,pp (bb 5),8, .tt⟩]) [7,8,9] (λz=>[.pt (bb 5) 214 (fdL z.2.1 z.2.2.1 z.2.2.2.1 z.2.2.2.2 z.1 P.1 P.2),m9 212 23 z.2.1 z.1 z.2.2.1 (J1 ((R.ones N b r m z.1).map (·.1))),m9 4 1 z.2.2.2.1 z.1 z.2.2.2.2 (a0u ((R.ones N b r m z.1).map (·.2)))]) (λz=>(G.slots m).toNat-z.1) ((0,none,0,none,0)) (j7 _) λz hI=>?_;obtain⟨k,a1,c1,a2,c2⟩:=z;dsimp only at hI ⊢;refine J.qd (λ_ h1=>?_) λ_ h1=>?_
 ·simp only[d5]at h1;have hS1:J1 ((R.ones N b r m k).map (·.1))++shL (R.one N b r m (G.die m b r k)).1=J1 ((R.ones N b r m (k+1)).map (·.1)):=by rw[a9r,t7,<- Q5];rfl
  have hS2:a0u ((R.ones N b r m k).map (·.2))++[.bool (R.one N b r m (G.die m b r k)).2]=a0u ((R.ones N b r m (k+1)).map (·.2)):=by rw[a9r,t7,<- b2o];rfl
  refine J.qp (b3V m b r k (by omega) (by omega)) [] λ_=>?_;refine J.qp (b3D p N hN hR b r m (G.die m b r k) (bb 0) (bb 1) (bb 2) (bb 3)) [1,2,3,4,5] λ_=>?_;refine J.p (.take true 0 (.take false 1 (.take false 2 (.take true 5 (.take false 6 (.take true 7 (.alt false 3 ((.alt false 4 ((.of [40,34,38,47,48,55])) (.alt false 8 ((.of [18,40,38,47,48,55])) .non))) (.alt false 8 ((.of [14,18,40,38,47,48,55])) .non)))))))) [11,12,13] [7,10] λ_=>?_;refine J.join (α:=Option Nat×Nat×Option Nat×Nat) (λx=>[si 28 k,si 27 (G.slots m),⟨9,fnC 190 [pp (bb 0),pp (bb 1),pp (bb 2),pp (bb 3)],0, .tt⟩,⟨4,pp (bb 0),3, .tt⟩,⟨5,pp (bb 1),4, .tt⟩,⟨6,pp (bb 2),5, .tt⟩,⟨7,pp (bb 3),6, .tt⟩,⟨8,pp (bb 4),7, .tt⟩,⟨10,pp (bb 5),8, .tt⟩]) (λx=>[.hp F,B8 p N, .pt (bb 0) 27 [pp p], .pt (bb 1) 3 [iI b], .pt (bb 2) 3 [iI r], .pt (bb 3) 3 [iI m], .pt (bb 4) 214 (fdL none 0 none 0 0 Sh.zero false), .pt (bb 5) 214 (fdL x.1 x.2.1 x.2.2.1 x.2.2.2 (k+1) P.1 P.2),m9 212 23 x.1 (k+1) x.2.1 (J1 ((R.ones N b r m (k+1)).map (·.1))),m9 4 1 x.2.2.1 (k+1) x.2.2.2 (a0u ((R.ones N b r m (k+1)).map (·.2)))]) (λhj=>?_) (λx=>?_)
  ·skip
   refine J.qn 6 λ_=>?_;refine J.alts ?_ ?_
   ·skip
    refine J.qn 1 λb3=>?_;refine J.alts ?_ ?_
    ·skip
     refine J.ap 8 11 0 hS1 λa3 c3=>?_;refine J.qn 1 λ_=>?_;refine J.qn 1 λb8=>?_;refine J.ap 9 12 0 hS2 λa4 c4=>?_;refine J.qn 4 λ_=>?_;exact J.goto [0,1,2,3,4,5,6,7,8,9] (hj (a3,c3,a4,c4)) ⟨rfl,rfl,rfl,rfl,rfl,rfl,rfl,rfl,rfl,trivial⟩ rfl rfl
    ·skip
     refine J.qn 1 λb8=>?_;refine J.ap 8 11 0 hS1 λa3 c3=>?_;refine J.qn 1 λ_=>?_;refine J.ap 9 12 0 hS2 λa4 c4=>?_;refine J.qn 4 λ_=>?_;exact J.goto [0,1,2,3,4,5,6,7,8,9] (hj (a3,c3,a4,c4)) ⟨rfl,rfl,rfl,rfl,rfl,rfl,rfl,rfl,rfl,trivial⟩ rfl rfl
   ·skip
    refine J.qn 1 λb8=>?_;refine J.qn 1 λb3=>?_;refine J.ap 8 12 0 hS1 λa3 c3=>?_;refine J.qn 1 λ_=>?_;refine J.ap 9 11 0 hS2 λa4 c4=>?_;refine J.qn 4 λ_=>?_;exact J.goto [0,1,2,3,4,5,6,7,8,9] (hj (a3,c3,a4,c4)) ⟨rfl,rfl,rfl,rfl,rfl,rfl,rfl,rfl,rfl,trivial⟩ rfl rfl
  obtain⟨a3,c3,a4,c4⟩:=x;dsimp only;refine J.q λ_=>?_;refine J.n ((k+1,a3,c3,a4,c4)) (by dsimp only;omega) (by dsimp only;omega) [0,1,2,3,4,5,6,7,8,9]
 ·simp only[c8]at h1;have hk:k=(G.slots m).toNat:=by omega
  subst hk;refine J.qr [1,8,9] λ_=>?_;refine⟨a1,c1,a2,c2,?_,rfl⟩;rw[show(R.look N b r m).parity=P.1 from congrArg Prod.fst hP,show(R.look N b r m).whole=P.2 from congrArg Prod.snd hP];rfl
def a2V (l:List Sh) (k i:Nat):List Sh:=(l.take i).eraseIdx k
theorem b9n (l:List Sh) (i:Nat) (h:i<l.length):a2V l i (i+1)=a2V l i i:=by
 unfold a2V;have hl:(l.take i).length=i:=by rw[j9];omega
 rw[List.eraseIdx_of_length_le (l:=l.take i) (by omega),D3,c9 h,K7];rw[List.eraseIdx_append_of_length_le (by omega),hl,Z7];simp
theorem b9m (l:List Sh) (k i:Nat) (x:Sh) (h:l[i]? =some x) (hk:i≠k):a2V l k (i+1)=a2V l k i++[x]:=by
 unfold a2V;rw[D3,h,K7];have hi:=(List.getElem?_eq_some_iff.1 h).1;have hl:(l.take i).length=i:=by rw[j9];omega
 by_cases hlt:k<i
 ·rw[List.eraseIdx_append_of_lt_length (by omega)]
 ·rw[List.eraseIdx_of_length_le (l:=l.take i++[x]) (by rw[f8,U0];omega),List.eraseIdx_of_length_le (by omega)]
theorem b6T (l:List Sh) (k i:Nat):(a2V l k i).length<=l.length:=by
 unfold a2V;refine I7 (List.length_eraseIdx_le _ _) ?_;rw[j9];omega
theorem b6S {l:List Sh} {k i:Nat} {x:Sh} (h:x∈a2V l k i):x∈l:=I8 (R2 h)
theorem b1v (f:Fd) (n:Nat) (hn:n<=8) (h1l:f.slots.length=n) (h2l:f.good.length=n) (hd:∀s∈f.slots,s.data.length=16) (hp:f.parity.data.length=16) (a1 a2:Option Nat) (c1 c2 k:Nat):FP 127 [.agg (fdL a1 c1 a2 c2 n f.parity f.whole).toArray,iI k] [m9 212 23 a1 n c1 (J1 f.slots),m9 4 1 a2 n c2 (a0u f.good)]
  (λv As=>v= .tuple #[enV (R.mend f k), .bool (R.mendB f k)]/\As=[m9 212 23 a1 n c1 (J1 f.slots),m9 4 1 a2 n c2 (a0u f.good)]):=by
 refine FE [0,0] Tryz.func127 λX F hX=>?_;refine J.q λbb=>?_;refine J.turn1 [] rfl (As:=[m9 212 23 none 0 0 (J1 (a2V f.slots k 0))]) (λh s=>Sep.one ⟨rfl,rfl,rfl⟩) rfl ?_;refine J.q λ_=>?_;refine J.l (α:=(Nat×Option Nat×Nat)) (λz=>z.1<=n/\∀j<z.1,j=k\/f.good.getD j false=true) (λz=>[si 12 z.1,si 11 n,sv 10 (slv a1 n c1),si 1 k,⟨2,pp (bb 0),4, .tt⟩,⟨4,pp (bb 1),5, .tt⟩,sv 5 (.bool false),sv 6 (slv z.2.1 (a2V f.slots k z.1).length z.2.2)]) [5] (λz=>[m9 212 23 z.2.1 (a2V f.slots k z.1).length z.2.2 (J1 (a2V f.slots k z.1))]) (λz=>n-z.1) ((0,none,0)) (⟨j7 _,by omega⟩) λz hI=>?_;obtain⟨i,a3,c3⟩:=z;dsimp only at hI ⊢;have hol:=b6T f.slots k i;refine J.qd (λ_ h1=>?_) λ_ h1=>?_
 ·simp only[d5,i5]at h1;refine J.know (λh' s=>D1 (c:=(a1,c1)) (by omega) (s.get (i:=1) rfl)) λhg=>?_;obtain⟨g1,rfl⟩:=hg;refine J.know (λh' s=>D1 (c:=(a2,c2)) (by omega) (s.get (i:=2) rfl)) λhg=>?_;obtain⟨g2,rfl⟩:=hg;obtain⟨s,hs⟩:∃s,f.slots[i]? =some s:=⟨_,c9 (by omega)⟩;have hgd:f.good[i]? =some (f.good.getD i false):=by rw[d7,c9 (by omega),j3]
  refine J.q λ_=>?_;refine J.v (shV s) rfl rfl (λhg a w he hw=>?_) ?_
  ·exact J8 tk rfl rfl he rfl rfl rfl (hw.get (i:=1) rfl) (by rw[show 0+(i:Int).toNat*23=i*23 from by omega];exact a3g hs) rfl
  refine J.qd (λ_ h2=>?_) λ_ h2=>?_
  ·simp only[A4,a4s]at h2;subst h2;rw[<- b9n f.slots i (by omega)];refine J.q λ_=>?_;refine J.nS ((i+1,a3,c3)) (⟨by dsimp only;omega,λj hj=>by
    rcases Nat.lt_succ_iff_lt_or_eq.1 hj with h | h
    ·exact hI.2 j h
    ·exact .inl h⟩) (by dsimp only;omega) [0,1,2,3,4,5] rfl rfl
  simp only[l8,H5,a4s]at h2;refine J.q λ_=>?_;refine J.v (.bool (f.good.getD i false)) rfl rfl (λhg a w he hw=>?_) ?_
  ·exact I2 tk rfl rfl he rfl rfl rfl (hw.get (i:=2) rfl) (by rw[show 0+(i:Int).toNat*1=i from by omega];exact a3j hgd)
  refine J.qd (λ_ h3=>?_) λ_ h3=>?_
  ·simp only[i4]at h3;refine J.qr [1,2] λ_=>?_;have hr:R.rest f k=false:=by
    unfold R.rest;rw[List.all_eq_false];exact⟨i,by rw[J5];omega,by rw[h3];simpa using h2⟩
   simp only[R.mend,R.mendB,hr,X6];exact⟨rfl,rfl⟩
  ·simp only[A9]at h3;have hsn:=b9m f.slots k i s hs h2;have hsl:(a2V f.slots k i).length+1=(a2V f.slots k (i+1)).length:=by rw[hsn];simp
   refine J.q λ_=>?_;refine J.ap 5 7 0 ((Q5 _ s).symm.trans (congrArg J1 hsn.symm)) λa4 c4=>?_;rw[hsl];refine J.q λ_=>?_;refine J.nS ((i+1,a4,c4)) (⟨by dsimp only;omega,λj hj=>by
    rcases Nat.lt_succ_iff_lt_or_eq.1 hj with h | h
    ·exact hI.2 j h
    ·exact .inr (h▸h3)⟩) (by dsimp only;omega) [0,1,2,3,4,5] rfl rfl
 ·simp only[c8,i5]at h1;obtain rfl:i=n:=by omega
  have hr:R.rest f k=true:=by
   unfold R.rest;rw[D9];intro j hj;rcases hI.2 j (by simp at hj;omega)with h | h
   ·simp[h]
   ·rw[h];simp
  have ho:a2V f.slots k i=f.slots.eraseIdx k:=by unfold a2V;rw[B1 (by omega)]
  refine J.qd (λ_ h4=>?_) λ_ h4=>?_
  ·simp only[i4]at h4;refine J.qr [1,2] λ_=>?_;simp only[R.mend,R.mendB,h4,Bool.and_false,X6];exact⟨rfl,rfl⟩
  ·simp only[A9]at h4;refine J.qp (b5R f.parity hp a3 (a2V f.slots k i).length c3 (a2V f.slots k i) rfl (by omega) (λs hs=>hd s (b6S hs))) [5] λ_=>?_;refine J.qr [1,2] λ_=>?_;simp only[R.mend,R.mendB,hr,h4,Bool.and_self,q9,X7,<- ho];exact⟨rfl,rfl⟩
theorem a8I:∀m,m<256->∀k,k<8->0<=L.at_ (m:Nat) (k:Nat)->L.count (L.without (m:Nat) (L.at_ (m:Nat) (k:Nat)))=L.count (m:Nat)-1:=by decide+kernel
theorem c1o {m b r s:Int} (h:0<=G.die m b r s):0<=s/\s<G.slots m:=by
 unfold G.die at h;split at h
 ·omega
 ·rename_i hp;have hp0:0<=G.parity m b r:=by omega
  have hs:0<=s/\s<(L.count (L.without m (G.parity m b r)):Int):=by
   by_cases hh:s<0\/(L.count (L.without m (G.parity m b r)):Int)<=s
   ·rw[L.at_ge _ _ hh]at h;omega
   ·omega
  unfold G.parity at hp0 hs;split at hp0
  ·omega
  ·rename_i hc;rw[d6 hc]at hs;have hm:0<=m/\m<256:=by
    by_cases hh:0<=m/\m<256
    ·exact hh
    ·have:=L.count_no m hh;omega
   obtain⟨M,rfl⟩:=f9 hm.1;have hcl:=L.count_le (M:Int);have hq:0<=(b+r) % (L.count (M:Int):Int)/\(b+r) % (L.count (M:Int):Int)<L.count (M:Int):=⟨a2c _ (by omega),a0I _ (by omega)⟩;obtain⟨q,hq2⟩:=f9 hq.1;rw[hq2]at hs hp0 hq;rw[a8I M (by omega) q (by omega) hp0]at hs;unfold G.slots;rw[d6 (by omega)];omega
theorem a2D {N:Nand} (hN:N.Ok) (b r m:Int):(∀s∈(R.look N b r m).slots,s.data.length=16)/\(R.look N b r m).parity.data.length=16:=by
 refine⟨λs hs=>?_,a9w hN _ _ _⟩;simp only[R.look,R.ones,b0d,P9]at hs;obtain⟨k,_,rfl⟩:=hs;exact a9w hN _ _ _
theorem b0v (p:Nat) (N:Nand) (hN:N.Ok) (hR:N.Room) (b r s m:Int) (h0: -1000000<=s) (h1:s<=1000000):FP 68 [pp p, .agg #[iI b,iI r,iI s],iI m] [B8 p N]
  (Ps (.tuple #[enV (R.read N b r s m).1,iI (R.read N b r s m).2]) [B8 p N]):=by
 have hbd:=hN.bd;refine FE [2,0,0] Tryz.func68 λX F hX=>?_;refine J.q λbb=>?_;refine J.join (α:=Unit) (λ_=>[⟨30, .bool (decide (G.die m b r s<0)|| !V8 N.dies N.blocks N.pages 0 b r),0, .tt⟩,⟨0,pp p,2, .tt⟩,si 2 m,⟨4,pp (bb 0),3, .tt⟩,⟨6,pp (bb 1),4, .tt⟩]) (λ_=>[.hp F,B8 p N, .pt (bb 0) 131 [iI b,iI r,iI s], .pt (bb 1) 101 (enL En.zero)]) (λhj=>?_) (λ_=>?_)
 ·refine J.p (.of [0,4,9,12,17,20,25,30,32,36,40,48,53,56,61,64,46,70,72,76]) [] [2] λ_=>?_;refine J.qp (b3V m b r s h0 h1) [] λ_=>?_;refine J.q λ_=>?_;refine J.gcase hX rfl rfl rfl ⟨rfl,trivial⟩ (λhb=>?_) (λhb=>?_)
  ·have hb2:decide (G.die m b r s<0)=false:=by rwa [i4]at hb
   rw[hb2]at hj ⊢;refine J.qp (a2B p N) [1] λ_=>?_;refine J.qp (b2c N.dies N.blocks N.pages 0 b r (by omega) (by omega) (by omega)) [] λ_=>?_;refine J.q λ_=>?_;exact J.goto [0,1,2,3] (hj ()) ⟨rfl,rfl,rfl,rfl,rfl,trivial⟩ rfl rfl
  ·have hb2:decide (G.die m b r s<0)=true:=by rwa [A9]at hb
   rw[hb2]at hj ⊢;refine J.q λ_=>?_;refine J.gcase hX rfl rfl rfl ⟨rfl,trivial⟩ (λhb=>by simp at hb) (λhb=>?_);refine J.q λ_=>?_;refine J.vT (.bool false) rfl rfl (λhg a w he hw=>by simp[G.on]at hg) ?_;refine J.q λ_=>?_;exact J.goto [0,1,2,3] (hj ()) ⟨rfl,rfl,rfl,rfl,rfl,trivial⟩ rfl rfl
 refine J.qd (λ_ h2=>?_) λ_ h2=>?_
 ·refine J.qr [1] λ_=>?_;have:G.die m b r s<0\/V8 N.dies N.blocks N.pages 0 b r=false:=by simpa using h2
  rw[R.read,d8 this];exact⟨rfl,rfl⟩
 have hc:¬(G.die m b r s<0\/V8 N.dies N.blocks N.pages 0 b r=false):=by simpa using h2
 have hd:=c1o (m:=m) (b:=b) (r:=r) (s:=s) (by omega);have hsb:=a0A m;refine J.qp (a5d p N) [1] λ_=>?_;refine J.qd (λ_ h3=>?_) λ_ h3=>?_
 ·refine J.qr [1] λ_=>?_;have:N.off=true:=by simpa using h3
  rw[R.read,d6 hc,d8 this];exact⟨rfl,rfl⟩
 have hoff:¬N.off=true:=by simpa using h3
 obtain⟨k,rfl⟩:=f9 hd.1;have hlen:=Y6 N b r m;have hdat:=a2D hN b r m;have hkn:k<(G.slots m).toNat:=by omega
 refine J.qc (b6C p N hN hR b r m) [1] λ_=>?_;rintro v As ⟨a1,c1,a2,c2,rfl,rfl⟩;refine⟨_,rfl,trivial,?_⟩;refine J.know (λh' s=>D1 (c:=(a1,c1)) (by omega) (s.get (i:=4) rfl)) λhg=>?_;obtain⟨g1,rfl⟩:=hg;refine J.know (λh' s=>D1 (c:=(a2,c2)) (by omega) (s.get (i:=5) rfl)) λhg=>?_;obtain⟨g2,rfl⟩:=hg;have hgd:(R.look N b r m).good[k]? =some ((R.look N b r m).good.getD k false):=by rw[d7,c9 (by omega),j3]
 have hsd:(R.look N b r m).slots[k]? =some ((R.look N b r m).slots.getD k Sh.zero):=by rw[d7,c9 (by omega),j3]
 have hr:R.read N b r k m=if(R.look N b r m).good.getD k false then(((R.look N b r m).slots.getD k Sh.zero).en,0)else if R.mendB (R.look N b r m) k then(R.mend (R.look N b r m) k,0)else(En.zero,10):=by
  rw[R.read,d6 hc,d6 hoff,j4]
 refine J.q λ_=>?_;refine J.v (.bool ((R.look N b r m).good.getD k false)) rfl rfl (λhg a w he hw=>?_) ?_
 ·exact I2 tk rfl rfl he rfl rfl rfl (hw.get (i:=5) rfl) (by rw[show 0+(k:Int).toNat*1=k from by omega];exact a3j hgd)
 refine J.qd (λ_ h4=>?_) λ_ h4=>?_
 ·refine J.q λ_=>?_;refine J.v (shV ((R.look N b r m).slots.getD k Sh.zero)) rfl rfl (λhg a w he hw=>?_) ?_
  ·exact J8 tk rfl rfl he rfl rfl rfl (hw.get (i:=4) rfl) (by rw[show 0+(k:Int).toNat*23=k*23 from by omega];exact a3g hsd) rfl
  refine J.qp (b0u ((R.look N b r m).slots.getD k Sh.zero)) [] λ_=>?_;refine J.qr [1] λ_=>?_;rw[hr,d8 h4];exact⟨rfl,rfl⟩
 refine J.qp (b1v (R.look N b r m) (G.slots m).toNat (by omega) hlen.1 hlen.2 hdat.1 hdat.2 (some g1) (some g2) c1 c2 k) [4,5] λ_=>?_;refine J.qd (λ_ h5=>?_) λ_ h5=>?_
 ·refine J.qr [1] λ_=>?_;rw[hr,d6 (by rw[h4];exact l9),d8 h5];exact⟨rfl,rfl⟩
 ·refine J.qr [1] λ_=>?_;rw[hr,d6 (by rw[h4];exact l9),d6 (by rw[h5];exact l9)];exact⟨rfl,rfl⟩
end
end Go.Proofs.YtmafiplddapokaaGreat
