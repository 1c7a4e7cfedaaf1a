/- Helpers. No condition. -/
import Derived.Test.YtpakpgkdpofbhaaGreatE00
import Derived.Test.YtpakpgkdpofbhaaGreatE03
import Derived.Test.YtpakpgkdpofbhaaGreatE04
import Derived.Test.YtpakpgkdpofbhaaGreatE06
import Derived.Test.YtpakpgkdpofbhaaGreatE07
import Derived.Test.YtpakpgkdpofbhaaGreatE08
import Derived.Test.YtpakpgkdpofbhaaGreatE09
import Derived.Test.YtpakpgkdpofbhaaGreatE11
set_option maxRecDepth 20000
set_option linter.all false
namespace Go.Proofs.YtpakpgkdpofbhaaGreat
open Go Go.RowKit
theorem a7U:∀(l:List En) (r:List Value) (k:Nat) (x:En),k<l.length->(p9 l++r).take (k*19)++enL x++(p9 l++r).drop (k*19+19)=p9 (l.set k x)++r
 | [],_,_,_,h=>by simp at h
 | y::l,r,0,x,h=>by simp[p9,enL]
 | y::l,r,k+1,x,h=>by
  have:=a7U l r k x (by simpa using h);have hy:(enL y).length=19:=rfl;have e1:p9 (y::l)++r=enL y++(p9 l++r):=by simp[p9]
  have e2:p9 ((y::l).set (k+1) x)++r=enL y++(p9 (l.set k x)++r):=by simp[p9]
  rw[e1,e2,<- this,show(k+1)*19=(enL y).length+k*19 from by omega,R2,show(enL y).length+k*19+19=(enL y).length+(k*19+19)from by omega,<- A9,R7 rfl];simp only[n8]
theorem X8:∀l:List En,(p9 l).length=l.length*19
 | []=>rfl
 | x::l=>by
  have:=X8 l;have e1:p9 (x::l)=enL x++p9 l:=by simp[p9]
  have hy:(enL x).length=19:=rfl;rw[e1,i5,this,hy,n4];omega
def a8o (p:En->Bool) (l:List En):Int:=match l.findIdx? p with
 | some k=>k
 | none=> -1
theorem a9f {p:En->Bool} {l:List En} {k:Nat} {x:En} (h:l[k]? =some x) (h0:∀i<k,p (l.getD i En.zero)=false) (hp:p x=true):l.findIdx? p=some k:=by
 rw[q9];obtain⟨h1,h2⟩:=List.getElem?_eq_some_iff.1 h;refine⟨h1,by rw[h2];exact hp,λj hj=>?_⟩;have:=h0 j hj;rw[f9,d6 (by omega),j6]at this;simp[this]
theorem a9g {p:En->Bool} {l:List En} (h0:∀i<l.length,p (l.getD i En.zero)=false):l.findIdx? p=none:=by
 rw[C2];intro x hx;obtain⟨i,hi,rfl⟩:=List.mem_iff_getElem.1 hx;have:=h0 i hi
 rwa [f9,d6 hi,j6]at this
theorem b7h (p:En->Bool) (l:List En):decide (a8o p l>=0)=l.any p:=by
 unfold a8o;cases h:l.findIdx? p with
 | none=>
  rw[C2]at h;have:l.any p=false:=by rw[a0K];exactλx hx=>by simp[h x hx]
  rw[this];rfl
 | some k=>
  rw[q9]at h;obtain⟨h1,h2,_⟩:=h;have:l.any p=true:=List.any_eq_true.2 ⟨l[k],E6 _,h2⟩;rw[this];simp
theorem b0A (c:Nat) (cs:List Value) (p:En->Bool) (A:Atom) (hcal:I7 Tryz.prog c=true) (l:List En) (hf:∀x∈l,Fn Tryz.prog c (enV x::cs) [A] (λv As=>v= .bool (p x)/\As=[A]))
  (a:Option Nat) (n cap:Nat) (hl:l.length=n) (hn:n<=4611686018427387904):FP 163 [slv a n cap,fnC c cs] [n9 113 19 a n cap (p9 l),A]
  (λv As=>v=iI (a8o p l)/\As=[n9 113 19 a n cap (p9 l),A]):=by
 refine FE [0,0] Tryz.func163 λX F hX=>?_;refine J.q λ_=>?_;refine J.l (α:=Nat) (λk=>k<=n/\∀i<k,p (l.getD i En.zero)=false) (λk=>[si 8 k,si 7 n,sv 0 (slv a n cap),⟨1,fnC c cs,0, .tt⟩]) [] (λk=>[]) (λk=>n-k) (0) (⟨by omega,by omega⟩) λk hI=>?_;refine J.qd (λ_ h1=>?_) λ_ h1=>?_
 ·simp only[d7,j3]at h1;cases a with
  | none=>
   refine J.know (λh' s=>(s.get (i:=1) rfl).2.1) λhn0=>?_;omega
  | some g=>
   have hk:l[k]? =some (l.getD k En.zero):=by rw[f9,d6 (by omega),j6]
   refine J.q λ_=>?_;refine J.v (enV (l.getD k En.zero)) rfl rfl (λhg a w he hs=>?_) ?_
   ·exact K1 tk rfl rfl he rfl rfl rfl (hs.get (i:=1) rfl) (by rw[show 0+(k:Int).toNat*19=k*19 from by omega];have:=Y9 l [] k _ hk;rwa [y9]at this) rfl
   refine J.q λ_=>?_;refine J.call hX hcal (hf (l.getD k En.zero) (p6 hk)) [2] 0 rfl rfl rfl rfl (by(repeat' (first | exact Conj.nil | refine Conj.cons ?_ ?_ | omega | exact hq0 | (simpa using hq0) | (exactλh=>h) | exact rfl | (intro hq;have hq0:=hq;try simp only[i4,j8,d7,i7,c9]at hq) | (simp;done) | (simp;omega) | decide))) rfl rfl (λ_=>rfl) ?_;refine cpq ⟨_,rfl,trivial,?_⟩;refine J.qd (λ_ h2=>?_) λ_ h2=>?_
   ·refine J.qr [1,2] λ_=>?_;exact⟨by rw[a8o,a9f hk hI.2 h2],rfl⟩
   ·refine J.q λ_=>?_;refine J.nx (k+1) (⟨by omega,λi hi=>by
     rcases Nat.lt_succ_iff_lt_or_eq.1 hi with h3 | h3
     ·exact hI.2 i h3
     ·rw[h3];exact h2⟩) (by omega) (λ_ s=>s)
 ·simp only[c9,j3]at h1;refine J.qr [1,2] λ_=>?_;exact⟨by rw[a8o,a9g (λi hi=>hI.2 i (by omega))],rfl⟩
theorem a7V (l:List En):∀u∈p9 l,u.oneCell'=true:=by
 intro u hu;simp only[p9,J1]at hu;obtain⟨s,_,hu⟩:=hu;simp only[enL,H0,T4,a4W]at hu;rcases hu with rfl | rfl | rfl | rfl | rfl | rfl | rfl | rfl | rfl | rfl | rfl | rfl | rfl | rfl | rfl | rfl | rfl | rfl | rfl<;>rfl
def DelE (p:En->Bool) (l m:List En) (i j:Nat):Prop:=m.length=l.length/\i<j/\j<=l.length/\m.drop j=l.drop j/\m.take i++(l.drop j).filter (λx=>!p x)=l.filter (λx=>!p x)
theorem DelE.start {p:En->Bool} {l:List En} {k:Nat} (h:l.findIdx? p=some k):DelE p l l k (k+1):=by
 rw[q9]at h;obtain⟨h1,h2,h3⟩:=h;refine⟨rfl,by omega,by omega,rfl,?_⟩;have e:l=l.take k++l[k]::l.drop (k+1):=by rw[<- t7 h1,C5]
 have e2:(l.take k).filter (λx=>!p x)=l.take k:=by
  rw[U8];intro x hx;obtain⟨i,hi,rfl⟩:=List.mem_iff_getElem.1 hx;rw[Y6];have:=h3 i (by simp at hi;omega);simpa using this
 conv=>rhs;rw[e]
 rw[Q7,e2,R1 (by simp[h2])]
theorem DelE.skip {p:En->Bool} {l m:List En} {i j:Nat} (h:DelE p l m i j) (hj:j<l.length) (hp:p (m.getD j En.zero)=true):DelE p l m i (j+1):=by
 obtain⟨h1,h2,h3,h4,h5⟩:=h;have e1:m[j]? =l[j]?:=by have:=congrArg (λz=>z[0]?) h4;simpa using this
 have hx:l[j]=m.getD j En.zero:=by rw[f9,e1,d6 hj,j6]
 refine⟨h1,by omega,by omega,?_,?_⟩
 ·have:=congrArg (List.drop 1) h4;simpa[A9]using this
 ·rw[<- h5,t7 hj,R1 (by rw[hx,hp];simp)]
theorem DelE.keep {p:En->Bool} {l m:List En} {i j:Nat} (h:DelE p l m i j) (hj:j<l.length) (hp:p (m.getD j En.zero)=false):DelE p l (m.set i (m.getD j En.zero)) (i+1) (j+1):=by
 obtain⟨h1,h2,h3,h4,h5⟩:=h;have e1:m[j]? =l[j]?:=by have:=congrArg (λz=>z[0]?) h4;simpa using this
 have hx:l[j]=m.getD j En.zero:=by rw[f9,e1,d6 hj,j6]
 refine⟨by simp[h1],by omega,by omega,?_,?_⟩
 ·rw[List.drop_set_of_lt (by omega)];have:=congrArg (List.drop 1) h4;simpa[A9]using this
 ·rw[<- h5,t7 hj,a2a (by rw[hx,hp];simp),hx,a3x,C6,d6 (by omega)];rw[P8 _ _ (by simp;omega)];simp[m9,L9 (show i<=m.length by omega)]
theorem a8v (c:Nat) (cs:List Value) (p:En->Bool) (A:Atom) (hcal:I7 Tryz.prog c=true) (hf:∀x,Fn Tryz.prog c (enV x::cs) [A] (λv As=>v= .bool (p x)/\As=[A]))
  (a:Option Nat) (n cap:Nat) (l:List En) (hl:l.length=n) (hn:n<=4611686018427387904):FP 184 [slv a n cap,fnC c cs] [n9 113 19 a n cap (p9 l),A]
  (λv As=>∃l',l'=l.filter (λx=>!p x)/\v=slv a l'.length cap/\As=[n9 113 19 a l'.length cap (p9 l'),A]):=by
 refine FE [0,0] Tryz.func184 λX F hX=>?_;refine J.qp (b0A c cs p A hcal l (λx _=>hf x) a n cap hl hn) [1,2] λ_=>?_;rw[a8o];cases hx:l.findIdx? p with
 | none=>
  dsimp only;refine J.qT λ_=>?_;refine J.qr [1,2] λ_=>?_;have:l.filter (λx=>!p x)=l:=by
   rw[U8];intro x hm;rw[C2]at hx;simp[hx x hm]
  exact⟨l,this.symm,by rw[hl],by rw[hl];rfl⟩
 | some k=>
  dsimp only;refine J.qd (λ_ h0=>?_) λ_ h0=>?_
  ·simp only[y6]at h0;omega
  have hk:k<n:=by rw[q9]at hx;obtain⟨h1,_⟩:=hx;omega
  cases a with
  | none=>
   refine J.know (λh' s=>(s.get (i:=1) rfl).2.1) λhn0=>?_;omega
  | some g=>
   refine J.openOwn 1 rfl rfl (λ_=>rfl) λr q1 q2 q3 q4=>?_;refine J.q λ_=>?_;rw[show(k:Int)+1=((k+1:Nat):Int)from by omega];refine J.q λ_=>?_;refine J.l (α:=(Nat×Nat×List En)) (λx=>DelE p l x.2.2 x.1 x.2.1) (λx=>[si 6 x.2.1,si 5 x.1,sv 0 (slv (some g) n cap),⟨1,fnC c cs,0, .tt⟩]) [1] (λx=>[.pt g 113 (p9 x.2.2++r)]) (λx=>n-x.2.1) ((k,k+1,l)) (DelE.start hx) λx hI=>?_;obtain⟨i,j,m⟩:=x;dsimp only at hI ⊢;have hml:m.length=n:=hI.1.trans hl;have hij:i<j:=hI.2.1;have hjn:j<=n:=by have:=hI.2.2.1;omega
   refine J.qd (λ_ h1=>?_) λ_ h1=>?_
   ·simp only[d7,j3]at h1;have hget:m[j]? =some (m.getD j En.zero):=by rw[f9,d6 (by omega),j6]
    refine J.q λ_=>?_;refine J.v (enV (m.getD j En.zero)) rfl rfl (λhg a w he hs=>?_) ?_
    ·exact H1 tk rfl rfl he rfl rfl rfl (hs.get (i:=1) rfl) (by rw[show 0+(j:Int).toNat*19=j*19 from by omega];exact Y9 m r _ _ hget) rfl
    refine J.q λ_=>?_;refine J.call hX hcal (hf (m.getD j En.zero)) [2] 0 rfl rfl rfl rfl (by(repeat' (first | exact Conj.nil | refine Conj.cons ?_ ?_ | omega | exact hq0 | (simpa using hq0) | (exactλh=>h) | exact rfl | (intro hq;have hq0:=hq;try simp only[i4,j8,d7,i7,c9]at hq) | (simp;done) | (simp;omega) | decide))) rfl rfl (λ_=>rfl) ?_;refine cpq ⟨_,rfl,trivial,?_⟩;refine J.qd (λ_ h2=>?_) λ_ h2=>?_
    ·simp only[i7]at h2;refine J.q λ_=>?_;refine J.storeN hX tk 1 rfl rfl rfl rfl rfl rfl rfl rfl rfl rfl rfl rfl rfl ?_ (p9 (m.set i (m.getD j En.zero))++r) ?_ rfl (λ_=>rfl) ⟨trivial,?_⟩
     ·rw[i5,X8];show 0+(i:Int).toNat*19+19<=_;omega
     ·rw[show 0+(i:Int).toNat*19=i*19 from by omega];exact a7U m r i _ (by omega)
     refine J.q λ_=>?_;refine J.n ((i+1,j+1,m.set i (m.getD j En.zero))) (hI.keep (by omega) h2) (by dsimp only;omega) [0,1,2]
    ·simp only[A5]at h2;refine J.q λ_=>?_;refine J.n ((i,j+1,m)) (hI.skip (by omega) h2) (by dsimp only;omega) [0,1,2]
   ·simp only[c9,j3]at h1;obtain rfl:j=n:=by omega
    have hfil:m.take i=l.filter (λx=>!p x):=by
     have h5:=hI.2.2.2.2;rw[D5 (by omega)]at h5;simpa using h5
    refine J.q λ_=>?_;refine J.clear hX tk 1 rfl rfl rfl rfl rfl rfl rfl rfl rfl rfl rfl ?_ (λ_=>rfl) (λ_=>rfl) λcs' z1 z2=>⟨trivial,?_⟩
    ·rw[i5,X8];rw[X8]at q4;show 0+(i:Int).toNat*19+(j-(i:Int).toNat)*19<=_;have:(i:Int).toNat=i:=by omega
     rw[this];omega
    have hilen:(l.filter (λx=>!p x)).length=i:=by rw[<- hfil,m9];omega
    refine J.closeOwn (e:=113) (size:=19) (n:=i) (cap:=cap) (xs:=p9 (l.filter (λx=>!p x))) 1 rfl rfl (by rw[X8,hilen]) (by omega) q3 (by rw[z1,i5,X8,hml];rw[X8,hl]at q4;exact q4) ?_ rfl ?_
    ·have z3:(0+(i:Int).toNat*19)=i*19:=by omega
     rw[z3]at z2;rw[z2,<- hfil];have e:p9 m=p9 (m.take i)++p9 (m.drop i):=by
      conv=>lhs;rw[<- C5 i m]
      simp only[p9,I9]
     rw[e,n8,D1 (by rw[X8,m9,L9 (by omega)])]
    refine J.qr [1,2] λ_=>?_;exact⟨_,rfl,by rw[hilen];rfl,by rw[hilen];rfl⟩
theorem b7G {E:Env} {n:Nat} {ac:Act} {w:World} {o:Oper} {x y:Operand} {k1 k2 t1 t2:Nat} {g1 g2:G} {a:Option Addr} {m c h:Nat} {kk:IntKind} {hI:Int} (hop:o.op= .slice 103 x none (some y) none) (hx:ev E x=some ⟨k1, .slice a m c,t1,g1⟩) (hy:ev E y=some ⟨k2, .int kk hI,t2,g2⟩) (he:EnvOK n E ac) (v1:g1.on=true) (v2:g2.on=true) (hh:hI=(h:Int)) (hc:h<=c):
  (execOp ac.eval o).run Tryz.prog w= .ok (.value (.slice a h c)) w:=by
 subst hh;have e1:=B4 he hx;have e2:=B4 he hy;simp only[Slot.val,v1,v2]at e1 e2;obtain⟨d,f,zv,ok⟩:=A8 (tk.get (t:=103) rfl);obtain⟨fe,rfl,g1,g2⟩:=ok.slice rfl;have h0:∀ad:Addr,ad.add 0=ad:=λad=>by unfold Addr.add;rw[i3 rfl]
 cases a with
 | none=>
  simp only[execOp,hop,B6,L8,e1,e2,Instr.sliceAt,Instr.slice,Instr.sliceBounds,Instr.sliceBound,asIntOf,Sem.run_bind,Sem.run_pure,Result.andThen_ok,s6 ok.hd,H9 g1,g2];simp[hc,h0]
 | some ad=>
  simp only[execOp,hop,B6,L8,e1,e2,Instr.sliceAt,Instr.slice,Instr.sliceBounds,Instr.sliceBound,asIntOf,Sem.run_bind,Sem.run_pure,Result.andThen_ok,s6 ok.hd,H9 g1,g2];simp[hc,h0]
theorem a0v {e size:Nat} {a:Option Nat} {n cap:Nat} {xs:List Value} {h:Hl} (s:a0B e size a n cap xs h):n<=cap:=by
 obtain⟨_,s⟩:=s;cases a with
 | none=>obtain⟨rfl,rfl⟩:=s;exact j7 _
 | some g=>obtain⟨_,_,h,_⟩:=s;exact h
theorem a2K (l:List En):∀k,(p9 l).take (k*19)=p9 (l.take k):=by
 induction l with
 | nil=>intro k;simp[p9]
 | cons x l ih=>
  intro k;cases k with
  | zero=>simp[p9]
  | succ k=>
   have e1:p9 (x::l)=enL x++p9 l:=by simp[p9]
   have e2:p9 (x::l.take k)=enL x++p9 (l.take k):=by simp[p9]
   rw[e1,a4f,e2,<- ih k,show(k+1)*19=(enL x).length+k*19 from by show _=19+k*19;omega,R2]
theorem a0n (l:List En) (e:En):p9 l++enL e=p9 (l++[e]):=by simp[p9]
theorem b5o (a:Option Nat) (N cap cap2 k:Nat) (l:List En) (hl:l.length=N) (hk:k<=N) (hn:N<=1000000):FP 186 [slv a k cap2] [n9 113 19 a N cap (p9 l)]
  (λv As=>∃a' c',v=slv a' k c'/\As=[n9 113 19 a N cap (p9 l),n9 113 19 a' k c' (p9 (l.take k))]):=by
 refine FE [0] Tryz.func186 λX F hX=>?_;cases a with
 | none=>
  refine J.know (λh' s=>(s.get (i:=1) rfl).2) λhn0=>?_;obtain⟨rfl,rfl⟩:=hn0;obtain rfl:k=0:=by omega
  have:l=[]:=l9 hl;subst this;refine J.qT λ_=>?_;refine J.turn1 [] rfl (As:=[n9 113 19 none 0 0 (p9 [])]) (λh s=>Sep.one ⟨rfl,rfl,rfl⟩) rfl ?_;refine J.qr [1,2] λ_=>?_;exact⟨none,0,rfl,rfl⟩
 | some g=>
  refine J.qF λ_=>?_;refine J.qn 5 λbb=>?_;refine J.closeOwn (e:=113) (size:=19) (n:=0) (cap:=0) (xs:=[]) 2 rfl rfl rfl (j7 _) (l8 _) rfl rfl rfl ?_;refine J.q λ_=>?_;have hRd:Rd (n9 113 19 (some g) N cap (p9 l)) (some ⟨g,0,none⟩) 19 k (p9 (l.take k)):=by
   have:=(X1 113 19 (some g) N cap (p9 l)).take k hk
   rwa [a2K]at this
  refine J.appendR hX tk (a:=some (bb 0)) (n:=0) (cap:=0) (xs:=[]) (oo:=0) (Ay:=n9 113 19 (some g) N cap (p9 l)) 2 1 0 rfl rfl rfl rfl rfl rfl rfl rfl rfl rfl hRd rfl rfl rfl rfl (a7V _) ?_ ?_ (λ_=>rfl) λa' c'=>⟨_,rfl,trivial,?_⟩
  ·simp only[maxLen];omega
  ·omega
  rw[H8 k,Q4];refine J.qr [1,2] λ_=>?_;exact⟨a',c',rfl,rfl⟩
theorem b5k (c:Nat) (cs:List Value) (p:En->Bool) (A B:Atom) (hcal:I7 Tryz.prog c=true) (l:List En) (hf:∀x∈l,Fn Tryz.prog c (enV x::cs) [A] (Ps (.bool (p x)) [A]))
  (a:Option Addr) (n cap:Nat) (hB:Rd B a 19 n (p9 l)) (hl:l.length=n) (hn:n<=4611686018427387904):FP 163 [.slice a n cap,fnC c cs] [B,A]
  (Ps (iI (a8o p l)) [B,A]):=by
 refine FE [0,0] Tryz.func163 λX F hX=>?_;refine J.q λ_=>?_;refine J.l (α:=Nat) (λk=>k<=n/\∀i<k,p (l.getD i En.zero)=false) (λk=>[si 8 k,si 7 n,sv 0 (.slice a n cap),⟨1,fnC c cs,0, .tt⟩]) [] (λk=>[]) (λk=>n-k) (0) (⟨by omega,by omega⟩) λk hI=>?_;refine J.qd (λ_ h1=>?_) λ_ h1=>?_
 ·simp only[d7,j3]at h1;refine J.know (p:=∃g o,a=some ⟨g,o,none⟩) (λh' s=>Rd.addr (hB _ (s.get (i:=1) rfl)) (by omega)) λhk=>?_;obtain⟨g,o,rfl⟩:=hk;have hk:l[k]? =some (l.getD k En.zero):=by rw[f9,d6 (by omega),j6]
  refine J.q λ_=>?_;refine J.v (enV (l.getD k En.zero)) rfl rfl (λhg a w he hs=>?_) ?_
  ·exact a3A tk rfl rfl he rfl rfl rfl (hB _ (hs.get (i:=1) rfl)) (by omega) (j:=k*19) (by omega) (by have:=Y9 l [] k _ hk;rwa [y9]at this) rfl
  refine J.q λ_=>?_;refine J.call hX hcal (hf (l.getD k En.zero) (p6 hk)) [2] 0 rfl rfl rfl rfl (by(repeat' (first | exact Conj.nil | refine Conj.cons ?_ ?_ | omega | exact hq0 | (simpa using hq0) | (exactλh=>h) | exact rfl | (intro hq;have hq0:=hq;try simp only[i4,j8,d7,i7,c9]at hq) | (simp;done) | (simp;omega) | decide))) rfl rfl (λ_=>rfl) ?_;refine cpq ⟨_,rfl,trivial,?_⟩;refine J.qd (λ_ h2=>?_) λ_ h2=>?_
  ·refine J.qr [1,2] λ_=>?_;exact⟨by rw[a8o,a9f hk hI.2 h2],rfl⟩
  ·refine J.q λ_=>?_;refine J.nx (k+1) (⟨by omega,λi hi=>by
    rcases Nat.lt_succ_iff_lt_or_eq.1 hi with h3 | h3
    ·exact hI.2 i h3
    ·rw[h3];exact h2⟩) (by omega) (λ_ s=>s)
 ·simp only[c9,j3]at h1;refine J.qr [1,2] λ_=>?_;exact⟨by rw[a8o,a9g (λi hi=>hI.2 i (by omega))],rfl⟩
theorem b0D (c:Nat) (cs:List Value) (p:En->Bool) (A B:Atom) (hcal:I7 Tryz.prog c=true) (l:List En) (hf:∀x∈l,Fn Tryz.prog c (enV x::cs) [A] (Ps (.bool (p x)) [A]))
  (a:Option Addr) (n cap:Nat) (hB:Rd B a 19 n (p9 l)) (hl:l.length=n) (hn:n<=4611686018427387904):FP 190 [.slice a n cap,fnC c cs] [B,A]
  (Ps (.bool (l.any p)) [B,A]):=by
 refine FE [0,0] Tryz.func190 λX F hX=>?_;refine J.qp (b5k c cs p A B hcal l hf a n cap hB hl hn) [1,2] λ_=>?_;refine J.qr [1,2] λ_=>?_;exact⟨by rw[<- b7h],rfl⟩
def a1W (d:Nat) (L:List En):Atom:=exA λx:Option Nat×Nat=>[.pt d 219 [slv x.1 L.length x.2],n9 113 19 x.1 L.length x.2 (p9 L)]
theorem b9X:FP 88 [] [] (λv As=>∃d,v=pp d/\As=[a1W d []]):=by
 refine FE [] Tryz.func88 λX F hX=>?_;refine J.q λbs=>?_;refine J.turn1 [] rfl (As:=[n9 113 19 none 0 0 (p9 [])]) (λh s=>Sep.one ⟨rfl,rfl,rfl⟩) rfl ?_;refine J.cl (λx:Option Nat×Nat=>[.pt (bs 0) 219 [slv x.1 ([]:List En).length x.2],n9 113 19 x.1 ([]:List En).length x.2 (p9 [])]) (none,0) [1,2] ?_;refine J.qr [1] λ_=>?_;exact⟨bs 0,rfl,rfl⟩
theorem b3z (d:Nat) (L:List En):FP 100 [pp d] [a1W d L] (Ps (iI L.length) [a1W d L]):=by
 refine FE [2] Tryz.func100 λX F hX=>?_;refine J.o (α:=(Option Nat×Nat)) 1 λx=>?_;refine J.qF λ_=>?_;refine J.q λ_=>?_;refine J.cl (λx:Option Nat×Nat=>[.pt d 219 [slv x.1 L.length x.2],n9 113 19 x.1 L.length x.2 (p9 L)]) x [1,2] ?_;exact J.qx [1]
theorem c0V (b:Nat) (e x:En):FP 185 [enV x,pp b] [.pt b 113 (enL e)] (Ps (.bool (x.lpn==e.lpn)) [.pt b 113 (enL e)]):=by
 refine FE [0,2] Tryz.func185 λX F hX=>?_;exact J.qx [1]
def a2l (L:List En) (e:En):List En:=(L.filter λx=>!(x.lpn==e.lpn))++[e]
theorem b3y (d:Nat) (L:List En) (hL:L.length<=100000) (e:En):FP 120 [pp d,enV e] [a1W d L] (Ps (.tuple #[]) [a1W d (a2l L e)]):=by
 refine FE [2,0] Tryz.func120 λX F hX=>?_;refine J.o (α:=(Option Nat×Nat)) 1 λx=>?_;obtain⟨a,c⟩:=x;refine J.q λbb=>?_;refine J.cF ?_;refine J.qc (a8v 185 [pp (bb 0)] (λx=>x.lpn==e.lpn) (.pt (bb 0) 113 (enL e)) (by kernel_rfl) (λx=>c0V (bb 0) e x) a L.length c L rfl (by omega)) [2,3] λ_=>?_;rintro v As ⟨l',hl',rfl,rfl⟩;refine⟨_,rfl,trivial,?_⟩;have hll:l'.length<=L.length:=by rw[hl'];exact I5 _ _
 have hput:a2l L e=l'++[e]:=by unfold a2l;rw[hl']
 refine J.pq (.of [0,4,8,12,17,21,26,30,32,36,43]) [8,9,10] [1,3] λ_ _=>?_;refine J.ap 2 4 0 (a0n l' e) λa2 c2=>?_;refine J.q λ_=>?_;rw[show l'.length+1=(a2l L e).length from by rw[hput];simp,<- hput];refine J.cl (λx:Option Nat×Nat=>[.pt d 219 [slv x.1 (a2l L e).length x.2],n9 113 19 x.1 (a2l L e).length x.2 (p9 (a2l L e))]) (a2,c2) [1,2] ?_;refine J.q λ_=>?_;refine J.f [1] ?_;exact⟨rfl,rfl⟩
theorem c0W (b:Nat) (k:Int) (x:En):FP 164 [enV x,pp b] [.pt b 3 [iI k]] (Ps (.bool (x.lpn==k)) [.pt b 3 [iI k]]):=by
 refine FE [0,2] Tryz.func164 λX F hX=>?_;exact J.qx [1]
def a2m (L:List En) (k:Int):En×Bool:=match L.find? (λx=>x.lpn==k)with
 | some e=>(e,true)
 | none=>(En.zero,false)
theorem b7w {p:En->Bool} {l:List En} {k:Nat} (h:l.findIdx? p=some k):l.find? p=some (l.getD k En.zero)/\l[k]? =some (l.getD k En.zero):=by
 rw[q9]at h;obtain⟨h1,h2,h3⟩:=h;have e:l[k]? =some (l.getD k En.zero):=by rw[f9,d6 h1,j6]
 refine⟨?_,e⟩;have e2:l.getD k En.zero=l[k]:=by rw[d6 h1]at e;injection e with e;exact e.symm
 rw[List.find?_eq_some_iff_getElem,e2];exact⟨h2,k,h1,rfl,λj hj=>by simpa using h3 j hj⟩
theorem b9Y (d:Nat) (L:List En) (hL:L.length<=100000) (k:Int):FP 96 [pp d,iI k] [a1W d L] (Ps (.tuple #[enV (a2m L k).1, .bool (a2m L k).2]) [a1W d L]):=by
 refine FE [2,0] Tryz.func96 λX F hX=>?_;refine J.o (α:=(Option Nat×Nat)) 1 λx=>?_;obtain⟨a,c⟩:=x;refine J.q λbb=>?_;refine J.cF ?_;refine J.q λ_=>?_;refine J.ca hX (by kernel_rfl) (b0A 164 [pp (bb 0)] (λx=>x.lpn==k) (.pt (bb 0) 3 [iI k]) (by kernel_rfl) L (λx _=>c0W (bb 0) k x) a L.length c rfl (by omega)) [2,3] 0 rfl rfl rfl rfl rfl rfl (λ_=>rfl) ?_;refine cpq ⟨_,rfl,trivial,?_⟩;rw[a8o];cases hx:L.findIdx? (λx=>x.lpn==k)with
 | none=>
  dsimp only;refine J.qT λ_=>?_;refine J.cl (λx:Option Nat×Nat=>[.pt d 219 [slv x.1 L.length x.2],n9 113 19 x.1 L.length x.2 (p9 L)]) (a,c) [1,2] ?_;refine J.qr [1] λ_=>?_;have:a2m L k=(En.zero,false):=by
   unfold a2m;rw[List.find?_eq_none.2 (λx hm=>by rw[C2]at hx;simp[hx x hm])]
  rw[this];exact⟨rfl,rfl⟩
 | some i=>
  dsimp only;obtain⟨f1,f2⟩:=b7w hx;have hi:i<L.length:=(List.getElem?_eq_some_iff.1 f2).1;refine J.qd (λ_ h0=>?_) λ_ h0=>?_
  ·simp only[d7]at h0;omega
  cases a with
  | none=>
   refine J.know (λh' s=>(s.get (i:=2) rfl).2.1) λhn0=>?_;omega
  | some g=>
   refine J.q λ_=>?_;refine J.v (enV (L.getD i En.zero)) rfl rfl (λhg a w he hs=>?_) ?_
   ·exact K1 tk rfl rfl he rfl rfl rfl (hs.get (i:=2) rfl) (by rw[show 0+(i:Int).toNat*19=i*19 from by omega];have:=Y9 L [] i _ f2;rwa [y9]at this) rfl
   refine J.cl (λx:Option Nat×Nat=>[.pt d 219 [slv x.1 L.length x.2],n9 113 19 x.1 L.length x.2 (p9 L)]) (some g,c) [1,2] ?_;refine J.qr [1] λ_=>?_;have:a2m L k=(L.getD i En.zero,true):=by
    unfold a2m;rw[f1]
   rw[this];exact⟨rfl,rfl⟩
def dkN (L:List En) (n:Int):Nat:=min n.toNat L.length
theorem b3A (d:Nat) (L:List En) (hL:L.length<=100000) (n:Int):FP 121 [pp d,iI n] [a1W d L] (λv As=>∃a' c',v=slv a' (dkN L n) c'/\As=[a1W d L,n9 113 19 a' (dkN L n) c' (p9 (L.take (dkN L n)))]):=by
 refine FE [2,0] Tryz.func121 λX F hX=>?_;refine J.o (α:=(Option Nat×Nat)) 1 λx=>?_;obtain⟨a,c⟩:=x;refine J.qF λ_=>?_;refine J.know (λh' s=>a0v (s.get (i:=2) rfl)) λhcap=>?_;dsimp only at hcap;have hmin:(if(L.length:Int)<(if(0:Int)>n then 0 else n)then(L.length:Int)else(if(0:Int)>n then 0 else n))=(dkN L n:Int):=by
  unfold dkN
  by_cases h:(0:Int)>n
  ·simp only[i3 h];rw[g7 (by omega)];omega
  ·simp only[g7 h];split<;>omega
 have hk:dkN L n<=L.length:=Nat.min_le_right _ _;refine J.pn 12 (.of [0,4,8,13,16,20,24,28,32,37,40,44,48,54,56]) [14] [1,2] λ_ _=>?_;refine J.vT (slv a (dkN L n) c) rfl rfl (λhg aa w he hC=>?_) ?_
 ·exact b7G rfl rfl rfl he rfl rfl hmin (by omega)
 refine J.qc (b5o a L.length c c (dkN L n) L rfl hk (by omega)) [2] λ_=>?_;rintro v As ⟨a',c',rfl,rfl⟩;refine⟨_,rfl,⟨rfl,rfl,trivial⟩,?_⟩;refine J.q λ_=>?_;refine J.cl (λx:Option Nat×Nat=>[.pt d 219 [slv x.1 L.length x.2],n9 113 19 x.1 L.length x.2 (p9 L)]) (a,c) [1,2] ?_;refine J.qr [1,3] λ_=>?_;exact⟨a',c',rfl,rfl⟩
theorem b9D (b be:Nat) (x e:En):FP 191 [enV e,pp b] [.pt b 113 (enL x)] (Ps (.bool (e.lpn==x.lpn&&e.seq==x.seq)) [.pt b 113 (enL x)]):=by
 refine FE [0,2] Tryz.func191 λX F hX=>?_;exact J.qx [1]
theorem b9E (b:Nat) (B:Atom) (al:Option Addr) (nl cl:Nat) (l:List En) (hB:Rd B al 19 nl (p9 l)) (hl:l.length=nl) (hn:nl<=4611686018427387904) (x:En):FP 189 [enV x,pp b] [.pt b 103 [.slice al nl cl],B] (λv As=>v= .bool (l.any λe=>e.lpn==x.lpn&&e.seq==x.seq)/\As=[.pt b 103 [.slice al nl cl],B]):=by
 refine FE [0,2] Tryz.func189 λX F hX=>?_;refine J.q λbb=>?_;refine J.ca hX (by kernel_rfl) (b0D 191 [pp (bb 0)] (λe=>e.lpn==x.lpn&&e.seq==x.seq) (.pt (bb 0) 113 (enL x)) B (by kernel_rfl) l (λe _=>b9D (bb 0) 0 x e) al nl cl hB hl hn) [2,3] 0 rfl rfl rfl rfl rfl rfl (λ_=>rfl) ?_;refine cpq ⟨_,rfl,trivial,?_⟩;exact J.qx [1,2]
def Z6 (L l:List En):List En:=L.filter λx=>!(l.any λe=>e.lpn==x.lpn&&e.seq==x.seq)
theorem b7F (d:Nat) (L:List En) (hL:L.length<=100000) (B:Atom) (al:Option Addr) (nl cl:Nat) (l:List En) (hB:Rd B al 19 nl (p9 l)) (hl:l.length=nl) (hn:nl<=4611686018427387904):FP 125 [pp d, .slice al nl cl] [a1W d L,B] (Ps (iI ((L.length:Int)-(Z6 L l).length)) [a1W d (Z6 L l),B]):=by
 refine FE [2,0] Tryz.func125 λX F hX=>?_;refine J.o (α:=(Option Nat×Nat)) 1 λx=>?_;obtain⟨a,c⟩:=x;refine J.q λbb=>?_;refine J.cF ?_;refine J.q λ_=>?_;refine J.turn1 [4,2] rfl (As:=[.hp (HP.of [.pt (bb 0) 103 [.slice al nl cl],B])]) (λh s=>Sep.hpOf.2 s) rfl ?_;refine J.q λ_=>?_;refine J.ca hX (by kernel_rfl) (a8v 189 [pp (bb 0)] (λx=>l.any λe=>e.lpn==x.lpn&&e.seq==x.seq) _ (by kernel_rfl) (λx=>Fn.pack (b9E (bb 0) B al nl cl l hB hl hn x)) a L.length c L rfl (by omega)) [3,4] 0 rfl rfl rfl rfl rfl rfl (λ_=>rfl) ?_;rintro v As ⟨l',hl',rfl,rfl⟩;refine⟨_,rfl,trivial,?_⟩;have hll:l'.length<=L.length:=by rw[hl'];exact I5 _ _
 have hdn:Z6 L l=l':=hl'.symm;refine J.q λ_=>?_;refine J.turn1 [4] rfl (As:=[.pt (bb 0) 103 [.slice al nl cl],B]) (λh s=>Sep.hpOf.1 s) rfl ?_;refine J.cl (λx:Option Nat×Nat=>[.pt d 219 [slv x.1 l'.length x.2],n9 113 19 x.1 l'.length x.2 (p9 l')]) (a,c) [1,3] ?_;refine J.qr [1,5] λ_=>?_;rw[hdn];exact⟨rfl,rfl⟩
theorem num_snoc (l:List En) (next:Int) (k:Nat):Dv.num l next (k+1)=Dv.num l next k++[Dv.numAt l next k]:=by unfold Dv.num;rw[x6,x7];rfl
theorem b0Z (p n t l:Nat) (S:Dv) (A:Atom) (a:Option Addr) (m c:Nat) (es:List En) (hA:Rd A a 19 m (p9 es)) (hl:es.length=m) (hm:m<=1000000) (hd:∀s∈es,s.data.length=16) (hn:1<=S.next/\S.next<=1099511627776) (sl:Nat) (hsl:sl<=7):
  FP 219 [pp p, .slice a m c,iI sl] [a1F p n t l S,A]
  (λv As=>∃g c',v=slv g sl c'/\As=[a1F p n t l {S with next:=S.next+(min m sl:Nat)},A,n9 113 19 g sl c' (p9 (Dv.num es S.next sl))]):=by
 refine FE [2,0,0] Tryz.func219 λX F hX=>?_;refine J.q λ_=>?_;refine J.turn1 [] rfl (As:=[n9 113 19 none 0 0 (p9 [])]) (λh s=>Sep.one ⟨rfl,rfl,rfl⟩) rfl ?_;refine J.q λ_=>?_;refine J.l (α:=(Nat×Int×Option Nat×Nat)) (λz=>z.1<=sl/\z.2.1=S.next+(min m z.1:Nat)) (λz=>[si 11 z.1,si 10 sl,sv 7 (slv z.2.2.1 (Dv.num es S.next z.1).length z.2.2.2),⟨0,pp p,2, .tt⟩,sv 1 (.slice a m c)]) [1,3] (λz=>[a1F p n t l {S with next:=z.2.1},n9 113 19 z.2.2.1 (Dv.num es S.next z.1).length z.2.2.2 (p9 (Dv.num es S.next z.1))]) (λz=>sl-z.1) ((0,S.next,none,0)) (⟨l8 _,by simp⟩) λz hI=>?_;obtain⟨k,nx,ga,ca⟩:=z;dsimp only at hI ⊢;obtain⟨hk,hnx⟩:=hI;have hlen:(Dv.num es S.next k).length=k:=Dv.num_len _ _ _;refine J.qd (λ_ h1=>?_) λ_ h1=>?_
 ·simp only[d7,j3]at h1;have hs:=num_snoc es S.next k;refine J.qd (λ_ h2=>?_) λ_ h2=>?_
  ·simp only[d7,a0y,Int.ofNat_le]at h2;have hx:Dv.numAt es S.next k=En.pad:=by unfold Dv.numAt;rw[g7 (by omega)]
   refine J.q λ_=>?_;refine J.ap 3 4 0 (a0n (Dv.num es S.next k) En.pad) λa3 c3=>?_;rw[<- hx,<- hs,show(Dv.num es S.next k).length+1=(Dv.num es S.next (k+1)).length from by rw[hs];simp];refine J.q λ_=>?_;refine J.n ((k+1,nx,a3,c3)) (⟨by dsimp only;omega,by dsimp only;rw[hnx];congr 2;omega⟩) (by dsimp only;omega) [0,1,2,3]
  simp only[c9,a0y,Int.ofNat_le]at h2;have hkl:k<es.length:=by omega
  have hx:Dv.numAt es S.next k={es.getD k En.zero with seq:=S.next+k}:=by unfold Dv.numAt;rw[i3 hkl]
  have hget:es[k]? =some (es.getD k En.zero):=by rw[f9,d6 hkl,j6]
  refine J.know (p:=∃g o,a=some ⟨g,o,none⟩) (λh' s=>Rd.addr (hA _ (s.get (i:=2) rfl)) (by omega)) λhk2=>?_;obtain⟨g,o,rfl⟩:=hk2;refine J.q λ_=>?_;refine J.v (enV (es.getD k En.zero)) rfl rfl (λhg a w he hw=>?_) ?_
  ·exact a3A tk rfl rfl he rfl rfl rfl (hA _ (hw.get (i:=2) rfl)) (by omega) (j:=k*19) (by omega) (by have:=Y9 es [] k _ hget;rwa [y9]at this) rfl
  refine J.q λ_=>?_;refine J.ap 3 5 0 (a0n (Dv.num es S.next k) {es.getD k En.zero with seq:=nx}) λa3 c3=>?_;have hnk:nx=S.next+(k:Int):=by rw[hnx,Nat.min_eq_right (by omega)]
  rw[hnk,<- hx,<- hs,show(Dv.num es S.next k).length+1=(Dv.num es S.next (k+1)).length from by rw[hs];simp];refine J.q λ_=>?_;refine J.n ((k+1,S.next+k+1,a3,c3)) (⟨by dsimp only;omega,by dsimp only;rw[Nat.min_eq_right (by omega)];omega⟩) (by dsimp only;omega) [0,1,2,3]
 ·simp only[c9,j3]at h1;obtain rfl:k=sl:=by omega
  rw[hnx];refine J.qr [1,2,3] λ_=>?_;exact⟨ga,ca,by rw[hlen],by rw[hlen];rfl⟩
theorem a3i (p n t l:Nat) (S:Dv) (k mm:Nat) (hO:S.Ok (8*Dv.fuel+k) mm) (A:Atom) (a:Option Addr) (m c:Nat) (es:List En) (hA:Rd A a 19 m (p9 es)) (hl:es.length=m) (hm:m<=1000000) (hd:∀s∈es,s.data.length=16):
  FP 155 [pp p, .slice a m c] (DvP p n t l S++[A])
  (Ps (.tuple #[iI (S.pen es).2.1,iI (S.pen es).2.2]) (DvP p n t l (S.pen es).1++[A])):=by
 have hmu:=Dv.mu_le hO;refine FE [2,0] Tryz.func155 λX F hX=>?_;refine J.qF λ_=>?_;refine J.q λ_=>?_;refine J.l (α:=(Nat×Dv)) (λz=>z.2.Ok (8*z.1+k) mm/\z.2.mu<z.1/\Dv.write z.1 z.2 es=S.pen es) (λz=>[⟨0,pp p,2, .tt⟩,sv 1 (.slice a m c)]) [1,2,3,4] (λz=>DvP p n t l z.2) (λz=>z.1) ((Dv.fuel,S)) (⟨hO,by dsimp only;unfold Dv.fuel;omega,rfl⟩) λz hI=>?_;obtain⟨j,Q⟩:=z;dsimp only at hI ⊢;obtain⟨hQ,hj,hw⟩:=hI;obtain⟨j,rfl⟩:∃i,j=i+1:=⟨j-1,by omega⟩;have hQ1:Q.Ok (8+(8*j+k)) mm:=hQ.less (by omega);have hbd:=hQ.gd.ok.bd16;have hlb:=hQ.t.len;have hbb:Q.t.b<=1000:=by have:=hQ.t.b;omega
 rw[Dv.write_succ]at hw;refine J.qd (λ_ h1=>?_) λ_ h1=>?_
 ·simp only[d7]at h1;have hlen:es.length≠0:=by omega
  rw[g7 hlen]at hw;refine J.qp (b3e p n t l Q) [1,2,3,4] λ_=>?_;refine J.q λ_=>?_
  by_cases hns:Q.left=false/\Q.pick<0
  ·rw[i3 hns]at hw;rw[hns.1];refine J.qT λ_=>?_;refine J.qp (b0Y p n t l Q hbb hlb) [1,2,3,4] λ_=>?_;rw[i3 hns.2,i3 hns.2];refine J.qT λ_=>?_;refine J.qr [1,2,3,4,5] λ_=>?_;rw[<- hw];exact⟨rfl,rfl⟩
  rw[g7 hns]at hw;refine J.join (α:=Unit) (λ_=>[⟨0,pp p,2, .tt⟩,sv 1 (.slice a m c)]) (λ_=>[.hp F,a1F p n t l Q.at1,B1 n Q.at1.N,TlA t Q.at1.t,TbA l Q.at1.T,A]) (λhj=>?_) (λ_=>?_)
  ·refine J.qd (λ_ h2=>?_) λ_ h2=>?_
   ·simp only[i7]at h2;have hp:¬Q.pick<0:=λe=>hns ⟨h2,e⟩;refine J.qp (b0Y p n t l Q hbb hlb) [1,2,3,4] λ_=>?_;rw[g7 hp,g7 hp];have ha:Q.at1=Q.opened:=by unfold Dv.at1;rw[h2];rfl
    rw[ha]at hj;refine J.qF λ_=>?_;refine J.qn 1 λ_=>?_;exact J.goto [0,1,2,3,4,5] (hj ()) ⟨rfl,rfl,trivial⟩ rfl rfl
   ·simp only[A5]at h2;have ha:Q.at1=Q:=by unfold Dv.at1;rw[h2];rfl
    rw[ha]at hj;refine J.qn 1 λ_=>?_;exact J.goto [0,1,2,3,4,5] (hj ()) ⟨rfl,rfl,trivial⟩ rfl rfl
  have h3:=Dv.at1_left' hQ hns;have h4:=Dv.mu_at1 hQ hns;have hQ3:=hQ1.at1;clear hQ1 hlb hbb;generalize Q.at1=P at hw h3 h4 hQ3 ⊢;have hs:=Dv.left_spec h3;have hfit:=Dv.fit_le P es;have hsb:=Dv.slots_le P.mask;have hnx:=hQ3.next;have hrow:=hQ3.row;obtain⟨sl,hsl⟩:∃sl:Nat,G.slots P.mask=(sl:Int):=⟨(G.slots P.mask).toNat,by omega⟩;have hfs:P.fit es=min m sl:=by unfold Dv.fit;rw[hsl,hl,j4]
  have hes:P.es es=Dv.num es P.next sl:=by unfold Dv.es;rw[hsl,j4]
  have hmin:(if(sl:Int)<(m:Int)then(sl:Int)else(m:Int))=(P.fit es:Int):=by rw[hfs];split<;>omega
  refine J.qp (a0N P.mask) [] λ_=>?_;rw[hsl];refine J.qn 8 λ_=>?_;rw[hmin];refine J.qd (λ_ h5=>?_) λ_ h5=>?_
  ·simp only[d7]at h5;have h5:P.next>1099511627775-(P.fit es:Int)+1:=h5;rw[i3 h5]at hw;refine J.qr [1,2,3,4,5] λ_=>?_;rw[<- hw];exact⟨rfl,rfl⟩
  simp only[c9]at h5;have h5:¬P.next>1099511627775-(P.fit es:Int)+1:=h5;rw[g7 h5]at hw;refine J.qc (b0Z p n t l P A a m c es hA hl hm hd hnx sl (by omega)) [1,5] λ_=>?_;rintro v As ⟨g,c1,rfl,rfl⟩;refine⟨_,rfl,trivial,?_⟩;rw[<- hes,<- hfs];have hdn:∀s∈P.es es,s.data.length=16:=Dv.num_data hd _ _;have hlen2:(P.es es).length=sl:=by rw[hes,Dv.num_len]
  refine J.know (λh' s=>C7 (c:=(g,c1)) (by omega) (s.get (i:=6) rfl)) λhg=>?_;obtain⟨ga,rfl⟩:=hg;refine J.know (λh' s=>a0v (show a0B _ _ (some ga) sl c1 _ _ from s.get (i:=6) rfl)) λhcap=>?_;have hRd:Rd (n9 113 19 (some ga) sl c1 (p9 (P.es es))) (some ⟨ga,0,none⟩) 19 sl (p9 (P.es es)):=X1 113 19 (some ga) sl c1 (p9 (P.es es));refine J.pq (.of [0,4,8,13,16,20,24,29,32,36,40,44,49,52,58,60,64,68,72,76]) [19] [1,3,4,5,6] λ_ _=>?_;refine J.ca hX (by kernel_rfl) (a6z n P.N (n9 113 19 (some ga) sl c1 (p9 (P.es es))) P.op P.row P.mask (some ⟨ga,0,none⟩) sl c1 mm (P.es es) hRd hlen2 hdn (hQ3.gd.less (by omega) (j7 _))) [2,6] 0 rfl rfl rfl rfl rfl rfl (λ_=>rfl) ?_;refine cpq ⟨_,rfl,stq,?_⟩;have hwr:R.write P.N P.op P.row P.mask (P.es es)=P.wr es:=rfl;rw[hwr];refine J.qd (λ_ h6=>?_) λ_ h6=>?_
  ·simp only[y6]at h6;rw[i3 h6]at hw;refine J.qr [1,2,3,4,5] λ_=>?_;rw[<- hw];exact⟨by rw[h6],rfl⟩
  simp only[n7,H3]at h6;rw[g7 h6]at hw;refine J.qd (λ_ h7=>?_) λ_ h7=>?_
  ·simp only[y6]at h7;rw[i3 h7]at hw;refine J.q λ_=>?_;have hfn:(P.fit es:Int).toNat-0=P.fit es:=by omega
   rw[hfn];have hpo:=λi (hi:i<=1000)=>Dv.puts_ok hQ3.T hQ3.sl P.op P.row P.mask (P.es es) i hi;refine J.q λ_=>?_;refine J.l (α:=Nat) (λi=>i<=P.fit es) (λi=>[si 109 i,si 108 (P.fit es:Int),sv 107 (.slice (some ⟨ga,0,none⟩) (P.fit es) (c1-0)),⟨0,pp p,2, .tt⟩,si 8 (P.fit es:Int),si 9 P.row]) [4] (λi=>[TbA l (Dv.puts P.T P.op P.row P.mask (P.es es) i)]) (λi=>P.fit es-i) (0) (l8 _) λi hI=>?_;refine J.qd (λ_ h9=>?_) λ_ h9=>?_
   ·simp only[d7,j3]at h9;have hil:i<(P.es es).length:=by omega
    have hget:(P.es es)[i]? =some ((P.es es).getD i En.zero):=by rw[f9,d6 hil,j6]
    have hseq: -9223372036854775808<=((P.es es).getD i En.zero).seq/\((P.es es).getD i En.zero).seq<9223372036854775807:=by
     have:(P.es es).getD i En.zero=Dv.numAt es P.next i:=by
      rw[hes];unfold Dv.num;rw[f9,j5,I8 (by omega)];rfl
     rw[this];unfold Dv.numAt;split
     ·show-9223372036854775808<=P.next+(i:Int)/\P.next+(i:Int)<9223372036854775807;omega
     ·show-9223372036854775808<=(0:Int)/\(0:Int)<9223372036854775807;omega
    refine J.q λ_=>?_;refine J.v (enV ((P.es es).getD i En.zero)) rfl rfl (λhg a w he hw=>?_) ?_
    ·exact a3A tk rfl rfl he rfl rfl rfl (hRd _ (hw.get (i:=6) rfl)) (by omega) (j:=i*19) (by omega) (by have:=Y9 (P.es es) [] i _ hget;rwa [y9]at this) rfl
    refine J.p (.of [0,4,8,13,17,20,24,28,33,36,40,44,48,52,56,61,66]) [] [1,2,3,5,6,7] λ_=>?_;refine J.qp (a6O l (Dv.puts P.T P.op P.row P.mask (P.es es) i) ((P.es es).getD i En.zero) P.op P.row i P.mask hseq (hpo i (by omega)).1.bd) [4] λ_=>?_;rw[<- Dv.puts_succ];refine J.q λ_=>?_;refine J.n (i+1) (by omega) (by omega) [0,1,2,3,4,5,6]
   ·simp only[c9,j3]at h9;obtain rfl:i=P.fit es:=by omega
    refine J.qr [1,2,3,4,5] λ_=>?_;rw[<- hw];exact⟨rfl,rfl⟩
  simp only[n7,H3]at h7;rw[g7 h7]at hw;refine J.qd (λ_ h8=>?_) λ_ h8=>?_
  ·simp only[y6]at h8;rw[i3 h8]at hw;refine J.qr [1,2,3,4,5] λ_=>?_;rw[<- hw];exact⟨by rw[h8],rfl⟩
  simp only[n7,H3]at h8;rw[g7 h8]at hw;have hWO:=hQ3.wrote hd hs.2.1 h5;have hmu2:=Dv.mu_wrote hQ3 h3 es (P.wr es).2.1;refine J.qp (b6g p n t l (P.wrote es) hWO.gd.ok hWO.t (P.wr es).2.1) [1,2,3,4] λ_=>?_;refine J.q λ_=>?_;refine J.n ((j,(P.wrote es).loses (P.wr es).2.1)) (⟨hWO.loses _,by dsimp only;omega,hw⟩) (by dsimp only;omega) [0,1,2,3,4,5]
 ·simp only[c9]at h1;have hlen:es.length=0:=by omega
  rw[i3 hlen]at hw;refine J.qr [1,2,3,4,5] λ_=>?_;rw[<- hw];exact⟨rfl,rfl⟩
theorem a3s {P:Program} {T:Tab} {E:Env} {n:Nat} {ac:Act} {w:World} (hT:TabOK P T) {o:Oper} {t e size:Nat} {x y:Operand} {k1 k2 t1 t2:Nat} {g1 g2:G} {a:Option Addr} {m c h:Nat} {kk:IntKind} {s1 b1 b2:Nat} {z1 z2:List Value} {td:TD} (hop:o.op= .slice t x none (some y) none) (hx:ev E x=some ⟨k1, .slice a m c,t1,g1⟩) (hy:ev E y=some ⟨k2, .int kk h,t2,g2⟩) (he:EnvOK n E ac) (v1:g1.on=true) (v2:g2.on=true)
  (ht:T.get t=some ⟨.slice e size,s1,z1,b1⟩) (hte:T.get e=some ⟨td,size,z2,b2⟩) (hc:h<=c):
  (execOp ac.eval o).run P w= .ok (.value (.slice a h c)) w:=by
 have e1:=B4 he hx;have e2:=B4 he hy;simp only[Slot.val,v1,v2]at e1 e2;obtain⟨d,f,zv,ok⟩:=A8 (hT.get ht);obtain⟨fe,rfl,g1,g2⟩:=ok.slice rfl;have h0:∀ad:Addr,ad.add 0=ad:=λad=>by unfold Addr.add;rw[i3 rfl]
 cases a with
 | none=>
  simp only[execOp,hop,B6,L8,e1,e2,Instr.sliceAt,Instr.slice,Instr.sliceBounds,Instr.sliceBound,asIntOf,Sem.run_bind,Sem.run_pure,Result.andThen_ok,s6 ok.hd,H9 g1,g2];simp[hc,h0]
 | some ad=>
  simp only[execOp,hop,B6,L8,e1,e2,Instr.sliceAt,Instr.slice,Instr.sliceBounds,Instr.sliceBound,asIntOf,Sem.run_bind,Sem.run_pure,Result.andThen_ok,s6 ok.hd,H9 g1,g2];simp[hc,h0]
theorem c1U (x:Int):(if(0:Int)>x then 0 else x)=max x 0:=by split<;>omega
theorem min2 (x y:Int):(if y<x then y else x)=min x y:=by split<;>omega
end Go.Proofs.YtpakpgkdpofbhaaGreat
namespace Go.Proofs.YtpakpgkdpofbhaaGreat
theorem b1k {N:Nand} (hN:N.Ok) (b r m:Int) (k:Nat):(R.mend (R.look N b r m) k).data.length=16:=by
 unfold R.mend;split
 ·unfold W.back;split
  ·unfold W.backS;refine a2j (λt ht=>?_) _ rfl;have hd:=a2g hN b r m;rw[K4,I3]at ht;rcases ht with ht | rfl
   ·exact hd.1 t (P9 ht)
   ·exact hd.2
  ·rfl
 ·rfl
theorem b6a {N:Nand} (hN:N.Ok) (b r s m:Int):(R.read N b r s m).1.data.length=16:=by
 unfold R.read;split
 ·rfl
 split
 ·rfl
 split
 ·rename_i h;have hd:=(a2g hN b r m).1;have hl:=X2 N b r m;rw[f9]at h ⊢
  by_cases hs:s.toNat<(R.look N b r m).slots.length
  ·rw[d6 hs];exact hd _ (E6 _)
  ·rw[j9 (by omega)];rfl
 ·split
  ·exact b1k hN _ _ _ _
  ·rfl
namespace Dv
variable {S : Dv} {k m : Nat}
theorem rd_len (h:S.Ok k m) (i:Int):(S.rd i).1.data.length=16:=by
 unfold rd;dsimp only;split
 ·rfl
 split
 ·rfl
 ·exact b6a h.gd.ok _ _ _ _
theorem rds_len (h:S.Ok k m):∀l:List Int,(∀s∈(S.rds l).1,s.data.length=16)/\(S.rds l).1.length<=l.length/\((S.rds l).2=0->(S.rds l).1.length=l.length)
 | []=>⟨by simp[rds],by simp[rds],λ_=>rfl⟩
 | i::l=>by
  have ih:=rds_len h l;rw[rds];split
  ·rename_i h0;exact⟨by simp,by simp,λe=>absurd e h0⟩
  ·refine⟨λs hs=>?_,by simp only[n4];omega,λe=>by simp only[n4];rw[ih.2.2 e]⟩;rcases List.mem_cons.1 hs with rfl | hs
   ·exact rd_len h i
   ·exact ih.1 s hs
def cost:Nat:=8*fuel
theorem carryGo_keep:∀(f:Nat) (S:Dv) (l:List Int) (d:Int) (k:Nat),S.Ok (cost*f+k) m->(carryGo f S l d).1.Ok k m/\S.N.Like (carryGo f S l d).1.N/\(carryGo f S l d).1.T.logical=S.T.logical
 | 0,S,l,d,k,h=>⟨h.less (by omega),Nand.Like.refl _,rfl⟩
 | f+1,S,l,d,k,h=>by
  rw[carryGo];dsimp only;have hs:S.Ok (8*fuel+(cost*f+k)) m:=h.less (by unfold cost;rw[E9];omega);split
  ·exact⟨h.less (by omega),Nand.Like.refl _,rfl⟩
  split
  ·exact⟨h.less (by omega),Nand.Like.refl _,rfl⟩
  have hp:=pen_keep hs (rds_len h (l.take (max S.slots 1).toNat)).1;split
  ·exact⟨hp.1.less (by omega),hp.2.1,hp.2.2⟩
  ·have ih:=carryGo_keep f _ (l.drop (S.pen (S.rds (l.take (max S.slots 1).toNat)).1).2.1.toNat) (d+(S.pen (S.rds (l.take (max S.slots 1).toNat)).1).2.1) k hp.1;exact⟨ih.1,hp.2.1.trans ih.2.1,ih.2.2.trans hp.2.2⟩
theorem take_le (l:List Int) (n:Nat):(l.take n).length<=l.length:=by rw[m9];omega
theorem ins_le (h:S.Ok k m) (b:Int):(S.T.ins b).length<=65536:=by
 have h1:=h.T.ins_len b;have h2:=h.T.log;rw[h.T.ins]at h1 ⊢;have:=S.T.inK_len b S.T.logical.toNat
 omega
def costC:Nat:=cost*65536
theorem carry_keep (h:S.Ok (costC+k) m) (b most:Int):(S.carry b most).1.Ok k m/\S.N.Like (S.carry b most).1.N/\(S.carry b most).1.T.logical=S.T.logical:=by
 unfold carry;dsimp only;have h1:=ins_le h b;have h2:=take_le (S.T.ins b) (max most 0).toNat
 have h3:cost*((S.T.ins b).take (max most 0).toNat).length<=costC:=x5 _ (by omega);exact carryGo_keep _ S _ 0 k (h.less (by omega))
theorem seeDead_fit {N:Nand} {t:Tl} (N':Nand) (h:t.Fit N):(seeDead N' t).Fit N:=by
 unfold seeDead;generalize List.range t.d=q
 induction q generalizing t with
 | nil=>exact h
 | cons d q ih=>
  rw[x9];apply ih;split
  ·exact h.die _
  ·exact h
theorem Ok.seen (h:S.Ok k m):S.seen.Ok k m:=⟨h.gd,seeDead_fit _ h.t,h.T,h.sl,h.row,h.next⟩
theorem eraseD_keep (b mk:Int) (x:Nand×Tl×Int) (d:Nat) (hN:x.1.Gd (1+k) m) (ht:x.2.1.Fit x.1):(eraseD b mk x d).1.Gd k m/\(eraseD b mk x d).2.1.Fit x.1/\x.1.Like (eraseD b mk x d).1:=by
 unfold eraseD;split
 ·exact⟨hN.less (by omega) (j7 _),ht,Nand.Like.refl _⟩
 split
 ·exact⟨hN.less (by omega) (j7 _),ht,Nand.Like.refl _⟩
 ·refine⟨Nand.Gd.erase (by rw[a1f];exact hN) _ _,?_,Nand.like_erase _ _ _⟩;dsimp only
  (repeat' split)<;>first | exact ht | exact ht.die _ | exact ht.bad _ _
theorem foldl_eraseD (b mk:Int):∀(q:List Nat) (x:Nand×Tl×Int),x.1.Gd (q.length+k) m->x.2.1.Fit x.1->(q.foldl (eraseD b mk) x).1.Gd k m/\(q.foldl (eraseD b mk) x).2.1.Fit x.1/\x.1.Like (q.foldl (eraseD b mk) x).1
 | [],x,h,ht=>⟨h.less (by simp) (j7 _),ht,Nand.Like.refl _⟩
 | d::q,x,h,ht=>by
  have h1:=eraseD_keep b mk x d (k:=q.length+k) (h.less (by simp only[n4];omega) (j7 _)) ht;have ih:=foldl_eraseD b mk q (eraseD b mk x d) h1.1 (h1.2.1.like h1.2.2);rw[x9];exact⟨ih.1,⟨ih.2.1.d.trans h1.2.2.dies,ih.2.1.b.trans h1.2.2.blocks,ih.2.1.p.trans h1.2.2.pages,ih.2.1.len⟩,h1.2.2.trans ih.2.2⟩
theorem eraseB_keep {N:Nand} {t:Tl} (hN:N.Gd (6+k) m) (ht:t.Fit N) (b:Int):(eraseB N t b).1.Gd k m/\(eraseB N t b).2.1.Fit N/\N.Like (eraseB N t b).1:=by
 have:=hN.ok.bd16;exact foldl_eraseD b _ _ _ (hN.less (by rw[K7];omega) (j7 _)) ht
theorem wores_fit {N N':Nand} {t:Tl} (h:t.Fit N) (b:Int):(wores N' t b).Fit N:=by
 unfold wores;generalize List.range N'.dies=q
 induction q generalizing t with
 | nil=>exact h
 | cons d q ih=>rw[x9];exact ih (h.wore _ _)
theorem eraseT_fit {N N':Nand} {t:Tl} (h:t.Fit N) (b:Int):(eraseT N' t b).Fit N:=by
 unfold eraseT;split
 ·exact(wores_fit h b).clean _ _
 ·exact wores_fit h b
theorem erase_keep {N:Nand} {t:Tl} (hN:N.Gd (6+k) m) (ht:t.Fit N) (b:Int):(erase N t b).1.Gd k m/\(erase N t b).2.1.Fit N/\N.Like (erase N t b).1:=by
 have h:=eraseB_keep hN ht b;unfold erase;dsimp only;split
 ·exact h
 ·exact⟨h.1,eraseT_fit h.2.1 b,h.2.2⟩
theorem clearGo_keep:∀(l:List Int) (N:Nand) (t:Tl),N.Gd (6*l.length+k) m->t.Fit N->(clearGo l N t).1.Gd k m/\(clearGo l N t).2.1.Fit N/\N.Like (clearGo l N t).1
 | [],N,t,h,ht=>⟨h.less (by simp) (j7 _),ht,Nand.Like.refl _⟩
 | b::l,N,t,h,ht=>by
  have h1:=erase_keep (k:=6*l.length+k) (h.less (by simp only[n4];omega) (j7 _)) ht b;rw[clearGo];split
  ·exact⟨h1.1.less (by omega) (j7 _),h1.2⟩
  ·have ih:=clearGo_keep l _ _ h1.1 (h1.2.1.like h1.2.2);exact⟨ih.1,⟨ih.2.1.d.trans h1.2.2.dies,ih.2.1.b.trans h1.2.2.blocks,ih.2.1.p.trans h1.2.2.pages,ih.2.1.len⟩,h1.2.2.trans ih.2.2⟩
theorem clearX_keep {N:Nand} {t:Tl} (hN:N.Gd (96+k) m) (ht:t.Fit N) (T:Tb) (o:Int):(clearX N t T o).1.Gd k m/\(clearX N t T o).2.1.Fit N/\N.Like (clearX N t T o).1:=by
 have h1:=hN.ok.bd16;have h2:=ht.b;have h3:=a0e (C9 t T) o t.b;exact clearGo_keep _ N t (hN.less (by omega) (j7 _)) ht
theorem clear_keep (h:S.Ok (96+k) m):S.clear.1.Ok k m/\S.N.Like S.clear.1.N/\S.clear.1.T=S.T:=by
 have h1:=clearX_keep h.gd h.t S.T S.op;exact⟨⟨h1.1,h1.2.1.like h1.2.2,h.T,h.sl,h.row,h.next⟩,h1.2.2,rfl⟩
def costR:Nat:=costC+96
theorem roomGo_keep:∀(f:Nat) (S:Dv) (k:Nat),S.Ok (costR*f+k) m->(roomGo f S).1.Ok k m/\S.N.Like (roomGo f S).1.N/\(roomGo f S).1.T.logical=S.T.logical
 | 0,S,k,h=>⟨h.less (by omega),Nand.Like.refl _,rfl⟩
 | f+1,S,k,h=>by
  rw[roomGo];split
  ·exact⟨h.less (by omega),Nand.Like.refl _,rfl⟩
  split
  ·exact⟨h.less (by omega),Nand.Like.refl _,rfl⟩
  dsimp only;have hc:=carry_keep (S:=S) (k:=96+(costR*f+k)) (m:=m) (h.less (by unfold costR;rw[E9];omega)) S.victim (S.T.count S.victim);split
  ·exact⟨hc.1.less (by omega),hc.2⟩
  have hd:=clear_keep hc.1;split
  ·exact⟨hd.1.less (by omega),hc.2.1.trans hd.2.1,by rw[hd.2.2];exact hc.2.2⟩
  ·have ih:=roomGo_keep f _ k hd.1;exact⟨ih.1,(hc.2.1.trans hd.2.1).trans ih.2.1,by rw[ih.2.2,hd.2.2];exact hc.2.2⟩
def costM:Nat:=costR*16+96
theorem room_keep (h:S.Ok (costM+k) m):S.room.1.Ok k m/\S.N.Like S.room.1.N/\S.room.1.T.logical=S.T.logical:=by
 have hb:=h.gd.ok.bd16;have htb:=h.t.b;have hc:=clear_keep (S:=S) (k:=costR*16+k) (m:=m) (h.less (by unfold costM;omega));unfold room;split
 ·exact⟨hc.1.less (by omega),hc.2.1,by rw[hc.2.2]⟩
 ·have h1:costR*S.t.b<=costR*16:=x5 _ (by omega);have ih:=roomGo_keep S.t.b S.clear.1 k (hc.1.less (by omega));exact⟨ih.1,hc.2.1.trans ih.2.1,by rw[ih.2.2,hc.2.2]⟩
def costS:Nat:=costM+costC
theorem step_keep (h:S.Ok (costS+k) m) (most:Int):(S.step most).1.Ok k m/\S.N.Like (S.step most).1.N/\(S.step most).1.T.logical=S.T.logical:=by
 have hr:=room_keep (S:=S.seen) (k:=costC+k) (m:=m) (h.seen.less (by unfold costS;omega));have e:S.seen.N=S.N:=rfl;have e2:S.seen.T=S.T:=rfl;rw[e,e2]at hr;unfold step;dsimp only;split
 ·exact⟨hr.1.less (by omega),hr.2⟩
 ·split
  ·exact⟨hr.1.less (by omega),hr.2⟩
  ·rename_i b _ _;have hc:=carry_keep hr.1 b most;exact⟨hc.1,hr.2.1.trans hc.2.1,hc.2.2.trans hr.2.2⟩
def costT:Nat:=costM+cost
theorem tornGo_keep:∀(f:Nat) (S:Dv) (l:List En) (k:Nat),S.Ok (costT*f+k) m->(∀s∈l,s.data.length=16)->(tornGo f S l).1.Ok k m/\S.N.Like (tornGo f S l).1.N/\(tornGo f S l).1.T.logical=S.T.logical
 | 0,S,l,k,h,_=>⟨h.less (by omega),Nand.Like.refl _,rfl⟩
 | f+1,S,l,k,h,hd=>by
  rw[tornGo];dsimp only;split
  ·exact⟨h.less (by omega),Nand.Like.refl _,rfl⟩
  have hr:=room_keep (S:=S) (k:=8*fuel+(costT*f+k)) (m:=m) (h.less (by unfold costT cost;rw[E9];omega));split
  ·exact⟨hr.1.less (by omega),hr.2⟩
  have hp:=pen_keep hr.1 hd;split
  ·exact⟨hp.1.less (by omega),hr.2.1.trans hp.2.1,hp.2.2.trans hr.2.2⟩
  ·have ih:=tornGo_keep f _ (l.drop (S.room.1.pen l).2.1.toNat) k hp.1 (λs hs=>hd s (O1 hs));exact⟨ih.1,(hr.2.1.trans hp.2.1).trans ih.2.1,(ih.2.2.trans hp.2.2).trans hr.2.2⟩
end Dv
end Go.Proofs.YtpakpgkdpofbhaaGreat
namespace Go.Proofs.YtpakpgkdpofbhaaGreat
open Go Go.RowKit
theorem b8C {T:Tb} (h:∀x∈T.at_,0<=x.2.slot/\x.2.slot<=1000) (i:Int):0<=((Tb.look T.at_ i).getD AtV.zero).slot/\((Tb.look T.at_ i).getD AtV.zero).slot<=1000:=by
 cases hl:Tb.look T.at_ i with
 | none=>show(0:Int)<=0/\(0:Int)<=1000;omega
 | some a=>exact h _ (Tb.look_mem hl)
theorem b8u (n l:Nat) (S:Dv) (k mm:Nat) (hO:S.Ok k mm) (i:Int):FP 235 [pp n,pp l,iI i] [B1 n S.N,TbA l S.T]
  (Ps (.tuple #[enV (S.rd i).1,iI (S.rd i).2]) [B1 n S.N,TbA l S.T]):=by
 have hsl:=b8C hO.sl i;refine FE [2,3,0] Tryz.func235 λX F hX=>?_;refine J.qp (a5k l S.T i) [2] λ_=>?_;have hrd:S.rd i=(let a:=(Tb.look S.T.at_ i).getD AtV.zero;let x:=R.read S.N a.block a.row a.slot a.mask;if x.2=9 then(En.zero,9)else if x.2≠0\/x.1.lpn≠i\/x.1.seq≠a.seq then(⟨i,0,4,zeros16⟩,0)else(x.1,0)):=rfl;generalize(Tb.look S.T.at_ i).getD AtV.zero=a at hsl hrd ⊢;generalize(Tb.look S.T.at_ i).isSome=is;refine J.qp (a9R n S.N hO.gd.ok hO.gd.room a.block a.row a.slot a.mask (by omega) (by omega)) [1] λ_=>?_;dsimp only at hrd;generalize R.read S.N a.block a.row a.slot a.mask=r at hrd ⊢;obtain⟨e,x⟩:=r;dsimp only at hrd ⊢;refine J.qd (λ_ h1=>?_) λ_ h1=>?_
 ·simp only[y6]at h1;rw[i3 h1]at hrd;refine J.qr [1,2] λ_=>?_;rw[hrd,h1];exact⟨rfl,rfl⟩
 simp only[n7,H3]at h1;rw[g7 h1]at hrd;refine J.qn 4 λ_=>?_;cases hx:(x !=0)with
 | true=>
  have hx':x≠0:=by simpa using hx
  rw[i3 (.inl hx')]at hrd;refine J.qT λ_=>?_;refine J.qr [1,2] λ_=>?_;rw[hrd];exact⟨rfl,rfl⟩
 | false=>
  have hx':x=0:=by simpa using hx
  refine J.qn 5 λ_=>?_;cases hy:(e.lpn !=i)with
  | true=>
   have hy':e.lpn≠i:=by simpa using hy
   rw[i3 (.inr (.inl hy'))]at hrd;refine J.qT λ_=>?_;refine J.qr [1,2] λ_=>?_;rw[hrd];exact⟨rfl,rfl⟩
  | false=>
   have hy':e.lpn=i:=by simpa using hy
   refine J.qd (λ_ h2=>?_) λ_ h2=>?_
   ·have hz:e.seq≠a.seq:=by simpa using h2
    rw[i3 (.inr (.inr hz))]at hrd;refine J.qr [1,2] λ_=>?_;rw[hrd];exact⟨rfl,rfl⟩
   ·have hz:e.seq=a.seq:=by simpa using h2
    rw[g7 (by rw[hx',hy',hz];simp)]at hrd;refine J.qr [1,2] λ_=>?_;rw[hrd];exact⟨rfl,rfl⟩
theorem a6w (a:Option Nat) (n c:Nat):slv a n c= .slice (oad a) n c:=by cases a<;>rfl
theorem b6b (S:Dv) {C:List Int} {E:List En} {i:Nat} {x:Int} (h:S.rds C=(E++(S.rds (C.drop i)).1,(S.rds (C.drop i)).2)) (hx:C[i]? =some x):((S.rd x).2≠0->(S.rds C).2=(S.rd x).2)/\((S.rd x).2=0->S.rds C=((E++[(S.rd x).1])++(S.rds (C.drop (i+1))).1,(S.rds (C.drop (i+1))).2)):=by
 obtain⟨h1,h2⟩:=List.getElem?_eq_some_iff.1 hx;have hd:C.drop i=x::C.drop (i+1):=by rw[t7 h1,h2]
 rw[hd]at h;rw[h];refine⟨λh0=>?_,λh0=>?_⟩
 ·rw[Dv.rds,i3 h0]
 ·rw[Dv.rds,g7 (by simp[h0])];simp
theorem a4k:∀(f:Nat) (S:Dv) (l:List En),0<=(Dv.write f S l).2.1/\(Dv.write f S l).2.1<=7
 | 0,S,l=>by show(0:Int)<=0/\(0:Int)<=7;omega
 | f+1,S,l=>by
  rw[Dv.write_succ];have hf:=Dv.fit_le S.at1 l;split
  ·show(0:Int)<=0/\(0:Int)<=7;omega
  split
  ·show(0:Int)<=0/\(0:Int)<=7;omega
  split
  ·show(0:Int)<=0/\(0:Int)<=7;omega
  split
  ·show(0:Int)<=0/\(0:Int)<=7;omega
  split
  ·show(0:Int)<=(S.at1.fit l:Int)/\(S.at1.fit l:Int)<=7;omega
  split
  ·show(0:Int)<=0/\(0:Int)<=7;omega
  ·exact a4k f _ l
set_option maxHeartbeats 1000000 in
theorem a6Q (n t l p:Nat) (S:Dv) (k mm:Nat) (hO:S.Ok (Dv.costC+k) mm) (b most:Int):FP 162 [pp n,pp l,pp p,iI b,iI most] (DvP p n t l S)
  (Ps (.tuple #[iI (S.carry b most).2.1,iI (S.carry b most).2.2]) (DvP p n t l (S.carry b most).1)):=by
 have hlog:=hO.T.log;have hins:=Dv.ins_le hO b;obtain⟨L,hL⟩:∃L,L=S.T.ins b:=⟨_,rfl⟩;obtain⟨u,hu⟩:∃u:Nat,u=min (max most 0).toNat L.length:=⟨_,rfl⟩;refine FE [3,5,2,0,0] Tryz.func162 λX F hX=>?_;refine J.qF λ_=>?_;refine J.qc (b5K l S.T S.T.logical.toNat (by omega) (by omega) b) [4] λ_=>?_;rintro v As ⟨a,c,rfl,rfl⟩;refine⟨_,rfl,trivial,?_⟩;rw[<- hL];refine J.know (λh' s=>a0v (show a0B _ _ a L.length c _ _ from s.get (i:=5) rfl)) λhcap=>?_;rw[<- hL]at hins;have hmin:(if(L.length:Int)<(if(0:Int)>most then 0 else most)then(L.length:Int)else(if(0:Int)>most then 0 else most))=(u:Int):=by rw[c1U,min2,hu];omega
 have hul:u<=L.length:=by omega
 refine J.qn 10 λ_=>?_;rw[hmin,a6w];refine J.v (.slice (oad a) u c) rfl rfl (λhg aa w he hw=>a3s tk rfl rfl rfl he rfl rfl rfl rfl (by omega)) ?_;refine J.q λ_=>?_;have hcar:S.carry b most=Dv.carryGo (L.take u).length S (L.take u) 0:=by
  unfold Dv.carry;rw[<- hL];have:L.take (max most 0).toNat=L.take u:=by
   rw[hu]
   by_cases hle:(max most 0).toNat<=L.length
   ·rw[L9 hle]
   ·rw[Nat.min_eq_right (by omega),A6 (by omega),A6 (j7 _)]
  rw[this]
 have htl:(L.take u).length=u:=by rw[m9];omega
 rw[htl]at hcar;refine J.q λ_=>?_;refine J.l (α:=(Nat×Nat×Dv)) (λz=>z.1<=u/\u-z.1<=z.2.1/\z.2.2.Ok (Dv.cost*z.2.1+k) mm/\Dv.carryGo z.2.1 z.2.2 ((L.take u).drop z.1) z.1=S.carry b most) (λz=>[si 13 z.1,sv 12 (.slice (oad a) u c),⟨0,pp n,3, .tt⟩,⟨1,pp l,5, .tt⟩,⟨2,pp p,2, .tt⟩]) [1,2,3,4] (λz=>DvP p n t l z.2.2) (λz=>u-z.1) ((0,u,S)) (⟨l8 _,by dsimp only;omega,hO.less (by have:Dv.cost*u<=Dv.costC:=x5 _ (by omega);dsimp only;omega),hcar.symm⟩) λz hI=>?_;obtain⟨d,j,Q⟩:=z;dsimp only at hI ⊢;obtain⟨hd,hj,hQ,hw⟩:=hI;refine J.qd (λ_ h1=>?_) λ_ h1=>?_
 ·simp only[d7,j3]at h1;obtain⟨j,rfl⟩:∃i,j=i+1:=⟨j-1,by omega⟩;have hQ1:Q.Ok (8*Dv.fuel+(Dv.cost*j+k)) mm:=hQ.less (by rw[E9];unfold Dv.cost;omega);have hbd:=hQ.gd.ok.bd16;have hlb:=hQ.t.len;have hbb:Q.t.b<=1000:=by have:=hQ.t.b;omega
  rw[Dv.carryGo,g7 (by rw[B2,htl];omega)]at hw;dsimp only at hw;obtain⟨s,hs⟩:∃s:Nat,s=(max Q.slots 1).toNat:=⟨_,rfl⟩;rw[<- hs]at hw;refine J.know (λh' s=>C7 (c:=(a,c)) (by omega) (s.get (i:=5) rfl)) λhg=>?_;obtain⟨ga,rfl⟩:=hg;refine J.qp (b1a p n t l Q hbb hlb) [1,2,3,4] λ_=>?_;have hsb:0<=Q.slots/\Q.slots<=7:=by
   unfold Dv.slots;split
   ·exact Dv.slots_le _
   ·exact Dv.slots_le _
  have hs1:1<=s/\s<=7:=by omega
  have h51:(if(1:Int)>Q.slots then 1 else Q.slots)=(s:Int):=by rw[hs];split<;>omega
  obtain⟨e,he⟩:∃e:Nat,e=min (d+s) u:=⟨_,rfl⟩;refine J.qn 4 λ_=>?_;rw[h51];have h54:(if(u:Int)<(d:Int)+(s:Int)then(u:Int)else(d:Int)+(s:Int))=(e:Int):=by rw[he];split<;>omega
  refine J.qn 4 λ_=>?_;rw[h54];refine J.q λ_=>?_;have h55:((e:Int).toNat-(d:Int).toNat)=e-d:=by omega
  obtain⟨w,hw0⟩:∃w,e=d+w:=⟨e-d,by omega⟩;have hw1:e-d=w:=by omega
  rw[h55,hw1,show 0+(d:Int).toNat*1=d from by omega,show c-(d:Int).toNat=c-d from by omega];obtain⟨C,hC⟩:∃C,C=((L.take u).drop d).take s:=⟨_,rfl⟩;have hCl:C.length=w:=by rw[hC,m9,B2,htl];omega
  have hCg:∀i,i<w->∃x,C[i]? =some x/\(y7 L)[d+i]? =some (iI x):=λi hi=>by
   have hx:d+i<L.length:=by omega
   refine⟨L[d+i],?_,?_⟩
   ·rw[hC,C4,i3 (by omega),J7,C4,i3 (by omega),d6 hx]
   ·rw[y7,j5,d6 hx];rfl
  rw[<- hC]at hw;refine J.turn1 [] rfl (As:=[n9 113 19 none 0 0 (p9 [])]) (λh s=>Sep.one ⟨rfl,rfl,rfl⟩) rfl ?_;refine J.q λ_=>?_;refine J.l (α:=(Nat×List En×Option Nat×Nat)) (λz=>z.1<=w/\z.2.1.length=z.1/\(∀x∈z.2.1,x.data.length=16)/\Q.rds C=(z.2.1++(Q.rds (C.drop z.1)).1,(Q.rds (C.drop z.1)).2)) (λz=>[si 57 z.1,si 56 w,sv 55 (.slice (some ⟨ga,d,none⟩) w (c-d)),sv 14 (slv z.2.2.1 z.2.1.length z.2.2.2),si 13 d,⟨12, .slice (oad (some ga)) u c,0, .tt⟩,⟨0,pp n,3, .tt⟩,⟨1,pp l,5, .tt⟩,⟨2,pp p,2, .tt⟩]) [6] (λz=>[n9 113 19 z.2.2.1 z.2.1.length z.2.2.2 (p9 z.2.1)]) (λz=>w-z.1) ((0,[],none,0)) (⟨l8 _,rfl,by simp,by simp⟩) λz hI=>?_;obtain⟨i,E,ea,ec⟩:=z;dsimp only at hI ⊢;obtain⟨hi,hE,hEd,hrd⟩:=hI;refine J.qd (λ_ h2=>?_) λ_ h2=>?_
  ·simp only[d7,j3]at h2;obtain⟨x,hx,hx2⟩:=hCg i h2;obtain⟨st1,st2⟩:=b6b Q hrd hx;refine J.q λ_=>?_;refine J.v (iI x) rfl rfl (λhg aa w he hw=>H5 tk rfl rfl he rfl rfl rfl (hw.get (i:=5) rfl) (by rw[show d+(i:Int).toNat*1=d+i from by omega];exact hx2)) ?_;refine J.qp (b8u n l Q _ mm hQ1 x) [2,4] λ_=>?_;have hrl:=Dv.rd_len hQ1 x;refine J.qd (λ_ h3=>?_) λ_ h3=>?_
   ·simp only[D4,H3]at h3;have h4:=st1 h3;rw[i3 (by rw[h4];exact h3)]at hw;refine J.qr [1,2,3,4] λ_=>?_;rw[<- hw,h4];exact⟨rfl,rfl⟩
   simp only[x8]at h3;have h4:=st2 h3;refine J.q λ_=>?_;refine J.ap 6 8 0 (a0n E (Q.rd x).1) λa3 c3=>?_;rw[show E.length+1=(E++[(Q.rd x).1]).length from by simp];refine J.q λ_=>?_;refine J.n ((i+1,E++[(Q.rd x).1],a3,c3)) (⟨by dsimp only;omega,by simp[hE],λy hy=>(List.mem_append.1 hy).elim (hEd y) (λhy=>by rw[List.mem_singleton.1 hy];exact hrl),h4⟩) (by dsimp only;omega) [0,1,2,3,4,5,6]
  simp only[c9,j3]at h2;have hie:i=w:=by omega
  have hrd2:Q.rds C=(E,0):=by
   rw[hrd,D5 (by omega),Dv.rds];simp
  rw[hrd2,g7 (by simp)]at hw;dsimp only at hw;have htook:=λh0=>Dv.pen_took hQ1 hEd h0 (by omega);have hkeep:=Dv.pen_keep hQ1 hEd;refine J.q λ_=>?_;rw[a6w];refine J.q λ_=>?_;refine J.ca hX (by kernel_rfl) (a3i p n t l Q _ mm hQ1 (n9 113 19 ea E.length ec (p9 E)) (oad ea) E.length ec E (X1 113 19 ea E.length ec (p9 E)) rfl (by omega) hEd) [1,2,3,4,6] 0 rfl rfl rfl rfl rfl rfl (λ_=>rfl) ?_;refine cpq ⟨_,rfl,trivial,?_⟩;have hpb:0<=(Q.pen E).2.1/\(Q.pen E).2.1<=7:=a4k _ _ _;generalize Q.pen E=W at hw htook hkeep hpb ⊢;obtain⟨P,nn,er⟩:=W;dsimp only at hw htook hkeep hpb ⊢;refine J.qd (λ_ h5=>?_) λ_ h5=>?_
  ·simp only[D4,H3]at h5;rw[i3 h5]at hw;refine J.qr [1,2,3,4] λ_=>?_;rw[<- hw];exact⟨rfl,rfl⟩
  ·simp only[x8]at h5;rw[g7 (by rw[h5];decide)]at hw;have htk:=htook h5;obtain⟨v,rfl⟩:=i6 hpb.1;have hEl:E.length=w:=by omega
   have hvw:v<=w:=by have:=htk.2.1;omega
   rw[A9]at hw;refine J.q λ_=>?_;refine J.n ((d+v,j,P)) (⟨by dsimp only;omega,by dsimp only;omega,hkeep.1,hw⟩) (by dsimp only;omega) [0,1,2,3,4,5]
 ·simp only[c9,j3]at h1;obtain rfl:d=u:=by omega
  have hz:(L.take d).drop d=[]:=D5 (by omega);have hw2:S.carry b most=(Q,(d:Int),0):=by
   rw[<- hw,hz];cases j with
   | zero=>rfl
   | succ j=>rw[Dv.carryGo,i3 a3N]
  refine J.qr [1,2,3,4] λ_=>?_;rw[hw2];exact⟨rfl,rfl⟩
theorem a9m (b m:Int):∀(q:List Nat) (x:Nand×Tl×Int),x.2.2≠0->q.foldl (Dv.eraseD b m) x=x
 | [],x,_=>rfl
 | d::q,x,h=>by
  have:Dv.eraseD b m x d=x:=by unfold Dv.eraseD;rw[i3 h]
  rw[x9,this];exact a9m b m q x h
theorem b0W (f:Nand×Tl×Int->Nat->Nand×Tl×Int) (x:Nand×Tl×Int) {j n:Nat} (h:j<=n):(List.range n).foldl f x=((List.range n).drop j).foldl f ((List.range j).foldl f x):=by
 conv=>lhs;rw[<- C5 j (List.range n)]
 rw[A7];congr 2;rw[List.take_range,L9 h]
theorem b5O (n t:Nat) (N:Nand) (tl:Tl) (k mm:Nat) (hG:N.Gd (6+k) mm) (hmm:mm<=1000) (hF:tl.Fit N) (b:Int):FP 157 [pp n,pp t,iI b] [B1 n N,TlA t tl]
  (Ps (iI (Dv.erase N tl b).2.2) [B1 n (Dv.erase N tl b).1,TlA t (Dv.erase N tl b).2.1]):=by
 have hbd:=hG.ok.bd16;have hb0:=hF.b;refine FE [2,3,0] Tryz.func157 λX F hX=>?_;refine J.qp (a1M t tl (by omega) hF.len b) [2] λ_=>?_;refine J.qp (a1s n N) [1] λ_=>?_;obtain⟨m,hm⟩:∃m,m=tl.mask b:=⟨_,rfl⟩;rw[<- hm];refine J.q λ_=>?_;refine J.l (α:=(Nat×Nand×Tl)) (λz=>z.1<=N.dies/\(List.range z.1).foldl (Dv.eraseD b m) (N,tl,0)=(z.2.1,z.2.2,0)/\z.2.1.Gd (6-z.1+k) mm/\z.2.2.Fit z.2.1/\N.Like z.2.1) (λz=>[si 16 z.1,si 15 N.dies,si 7 m,⟨0,pp n,2, .tt⟩,⟨1,pp t,3, .tt⟩,si 2 b]) [1,2] (λz=>[B1 n z.2.1,TlA t z.2.2]) (λz=>N.dies-z.1) ((0,N,tl)) (⟨l8 _,rfl,hG,hF,Nand.Like.refl _⟩) λz hI=>?_;obtain⟨d,P,T⟩:=z;dsimp only at hI ⊢;obtain⟨hd,hfo,hP,hT,hlk⟩:=hI;have hTb:T.b<=1000:=by have:=hT.b;have:=hlk.blocks;omega
 refine J.qd (λ_ h1=>?_) λ_ h1=>?_
 ·simp only[d7,j3]at h1;have hsucc:(List.range (d+1)).foldl (Dv.eraseD b m) (N,tl,0)=Dv.eraseD b m (P,T,0) d:=by rw[x6,A7,hfo];rfl
  have hP1:P.Gd (1+(6-(d+1)+k)) mm:=hP.less (by omega) (j7 _);have hk:=Dv.eraseD_keep (k:=6-(d+1)+k) (m:=mm) b m (P,T,0) d hP1 hT;refine J.qp (a9b m d) [] λ_=>?_;refine J.qd (λ_ h2=>?_) λ_ h2=>?_
  ·simp only[i7]at h2;have hz:Dv.eraseD b m (P,T,0) d=(P,T,0):=by unfold Dv.eraseD;rw[g7 (by simp),i3 h2]
   refine J.q λ_=>?_;refine J.n ((d+1,P,T)) (⟨by dsimp only;omega,hsucc.trans hz,hP.less (by dsimp only;omega) (j7 _),hT,hlk⟩) (by dsimp only;omega) [0,1,2]
  simp only[A5]at h2;have hz:Dv.eraseD b m (P,T,0) d=(P.eraseN d b,if P.eraseE d b=0 then T else if P.eraseE d b=9 then T else if P.eraseE d b=8 then T.die d else T.bad d b,if P.eraseE d b=9 then 9 else 0):=by
   unfold Dv.eraseD;rw[g7 (by simp),g7 (by rw[h2];decide)]
  rw[hz]at hsucc hk;refine J.qp (b3k n P hP.ok hP1.room hP.nodup (by have:=hP.few;omega) d b) [1] λ_=>?_;generalize P.eraseE d b=e at hsucc hk;refine J.qd (λ_ h3=>?_) λ_ h3=>?_
  ·simp only[y6]at h3;rw[i3 h3,g7 (by omega)]at hsucc;rw[i3 h3]at hk;refine J.q λ_=>?_;refine J.n ((d+1,P.eraseN d b,T)) (⟨by dsimp only;omega,hsucc,hk.1,hT.like hk.2.2,hlk.trans hk.2.2⟩) (by dsimp only;omega) [0,1,2]
  simp only[n7,H3]at h3;rw[g7 h3]at hsucc hk;refine J.qd (λ_ h4=>?_) λ_ h4=>?_
  ·simp only[y6]at h4;rw[i3 h4,i3 h4]at hsucc;have hall:Dv.eraseB N tl b=(P.eraseN d b,T,9):=by
    unfold Dv.eraseB;rw[<- hm,b0W _ _ (show d+1<=N.dies by omega),hsucc];exact a9m b m _ _ (by simp)
   refine J.qr [1,2] λ_=>?_;unfold Dv.erase;rw[hall];exact⟨rfl,rfl⟩
  simp only[n7,H3]at h4;rw[g7 h4,g7 h4]at hsucc;rw[g7 h4]at hk;refine J.qd (λ_ h5=>?_) λ_ h5=>?_
  ·simp only[y6]at h5;rw[i3 h5]at hsucc hk;refine J.qp (a4q t T d) [2] λ_=>?_;refine J.q λ_=>?_;refine J.n ((d+1,P.eraseN d b,T.die d)) (⟨by dsimp only;omega,hsucc,hk.1,(hT.die d).like hk.2.2,hlk.trans hk.2.2⟩) (by dsimp only;omega) [0,1,2]
  simp only[n7,H3]at h5;rw[g7 h5]at hsucc hk;refine J.qp (b2b t T hTb hT.len d b) [2] λ_=>?_;refine J.q λ_=>?_;refine J.n ((d+1,P.eraseN d b,T.bad d b)) (⟨by dsimp only;omega,hsucc,hk.1,(hT.bad d b).like hk.2.2,hlk.trans hk.2.2⟩) (by dsimp only;omega) [0,1,2]
 simp only[c9,j3]at h1;obtain rfl:d=N.dies:=by omega
 have hall:Dv.eraseB N tl b=(P,T,0):=by unfold Dv.eraseB;rw[<- hm];exact hfo
 have hres:Dv.erase N tl b=(P,Dv.eraseT P T b,0):=by unfold Dv.erase;rw[hall];rfl
 refine J.qp (a1s n P) [1] λ_=>?_;refine J.q λ_=>?_;refine J.l (α:=(Nat×Tl)) (λz=>z.1<=P.dies/\(List.range z.1).foldl (λt (d:Nat)=>t.wore b (P.wornAt d b)) T=z.2/\z.2.Fit P) (λz=>[si 44 z.1,si 43 P.dies,⟨0,pp n,2, .tt⟩,⟨1,pp t,3, .tt⟩,si 2 b]) [2] (λz=>[TlA t z.2]) (λz=>P.dies-z.1) ((0,T)) (⟨l8 _,rfl,hT⟩) λz hI=>?_;clear hfo hT hTb hall;obtain⟨d,U⟩:=z;dsimp only at hI ⊢;obtain⟨hd2,hfo,hU⟩:=hI;have hUb:U.b<=1000:=by have:=hU.b;have:=hlk.blocks;omega
 have hPd:P.dies<=6:=by have:=hlk.dies;omega
 refine J.qd (λ_ h1=>?_) λ_ h1=>?_
 ·simp only[d7,j3]at h1;refine J.qp (b2q n P hP.ok d b) [1] λ_=>?_;refine J.qp (a9F t U hUb hU.len b (P.wornAt d b)) [2] λ_=>?_;refine J.q λ_=>?_;refine J.n ((d+1,U.wore b (P.wornAt d b))) (⟨by dsimp only;omega,by dsimp only;rw[x6,A7,hfo];rfl,hU.wore _ _⟩) (by dsimp only;omega) [0,1,2]
 simp only[c9,j3]at h1;obtain rfl:d=P.dies:=by omega
 have hU2:U=Dv.wores P T b:=hfo.symm;refine J.qp (a3z t U hUb hU.len b) [2] λ_=>?_;refine J.qd (λ_ h2=>?_) λ_ h2=>?_
 ·refine J.qp (a6M t U hUb hU.len b true) [2] λ_=>?_;refine J.qr [1,2] λ_=>?_;rw[hres];unfold Dv.eraseT;rw[<- hU2,i3 h2];exact⟨rfl,rfl⟩
 ·refine J.qr [1,2] λ_=>?_;rw[hres];unfold Dv.eraseT;rw[<- hU2,g7 (by rw[h2];decide)];exact⟨rfl,rfl⟩
theorem a4u (n t l:Nat) (N:Nand) (tl:Tl) (T:Tb) (k mm:Nat) (hG:N.Gd (96+k) mm) (hmm:mm<=1000) (hF:tl.Fit N) (o:Int):FP 92 [pp n,pp t,pp l,iI o] [B1 n N,TlA t tl,TbA l T]
  (Ps (iI (Dv.clearX N tl T o).2.2) [B1 n (Dv.clearX N tl T o).1,TlA t (Dv.clearX N tl T o).2.1,TbA l T]):=by
 have hbd:=hG.ok.bd16;have hb0:=hF.b;have hlen:=a0e (C9 tl T) o tl.b;refine FE [2,3,4,0] Tryz.func92 λX F hX=>?_;refine J.qF λ_=>?_;refine J.qc (b3g t tl (by omega) hF.len l T o) [2,3] λ_=>?_;rintro v As ⟨a,c,rfl,rfl⟩;refine⟨_,rfl,trivial,?_⟩;obtain⟨L,hL⟩:∃L,L=y5 (C9 tl T) o tl.b:=⟨_,rfl⟩;have hX2:Dv.clearX N tl T o=Dv.clearGo L N tl:=by unfold Dv.clearX;rw[hL]
 rw[<- hL]at hlen ⊢;refine J.q λ_=>?_;refine J.l (α:=(Nat×Nand×Tl)) (λz=>z.1<=L.length/\Dv.clearGo (L.drop z.1) z.2.1 z.2.2=Dv.clearX N tl T o/\z.2.1.Gd (6*(L.length-z.1)+k) mm/\z.2.2.Fit z.2.1/\N.Like z.2.1) (λz=>[si 27 z.1,si 26 L.length,sv 25 (slv a L.length c),⟨0,pp n,2, .tt⟩,⟨1,pp t,3, .tt⟩]) [1,2] (λz=>[B1 n z.2.1,TlA t z.2.2]) (λz=>L.length-z.1) ((0,N,tl)) (⟨l8 _,by rw[hX2];rfl,hG.less (by dsimp only;omega) (j7 _),hF,Nand.Like.refl _⟩) λz hI=>?_;obtain⟨i,P,U⟩:=z;dsimp only at hI ⊢;obtain⟨hi,hgo,hP,hU,hlk⟩:=hI;refine J.qd (λ_ h1=>?_) λ_ h1=>?_
 ·simp only[d7,j3]at h1;obtain⟨x,hx⟩:∃x,L[i]? =some x:=⟨_,d6 h1⟩;have hdr:L.drop i=x::L.drop (i+1):=by
   obtain⟨h2,h3⟩:=List.getElem?_eq_some_iff.1 hx;rw[t7 h2,h3]
  rw[hdr,Dv.clearGo]at hgo;have hP1:P.Gd (6+(6*(L.length-(i+1))+k)) mm:=hP.less (by omega) (j7 _);have hk:=Dv.erase_keep hP1 hU x;refine J.know (λh' s=>C7 (c:=(a,c)) (by omega) (s.get (i:=4) rfl)) λhg=>?_;obtain⟨g,rfl⟩:=hg;refine J.q λ_=>?_;refine J.v (iI x) rfl rfl (λhg aa w he hw=>H5 tk rfl rfl he rfl rfl rfl (hw.get (i:=4) rfl) (by rw[show 0+(i:Int).toNat*1=i from by omega,y7,j5,hx];rfl)) ?_;refine J.qp (b5O n t P U _ mm hP1 hmm hU x) [1,2] λ_=>?_;generalize Dv.erase P U x=W at hgo hk ⊢;obtain⟨P',U',er⟩:=W;dsimp only at hgo hk ⊢;refine J.qd (λ_ h2=>?_) λ_ h2=>?_
  ·simp only[D4,H3]at h2;rw[i3 h2]at hgo;refine J.qr [1,2,3] λ_=>?_;rw[<- hgo];exact⟨rfl,rfl⟩
  ·simp only[x8]at h2;rw[g7 (by rw[h2];decide)]at hgo;refine J.q λ_=>?_;refine J.n ((i+1,P',U')) (⟨by dsimp only;omega,hgo,hk.1,hk.2.1.like hk.2.2,hlk.trans hk.2.2⟩) (by dsimp only;omega) [0,1,2,3,4]
 ·simp only[c9,j3]at h1;rw[D5 (by omega),Dv.clearGo]at hgo;refine J.qr [1,2,3] λ_=>?_;rw[<- hgo];exact⟨rfl,rfl⟩
theorem a4t (n t l p:Nat) (S:Dv) (k mm:Nat) (hO:S.Ok (Dv.costM+k) mm) (hmm:mm<=1000):FP 94 [pp n,pp t,pp l,pp p] (DvP p n t l S)
  (Ps (iI S.room.2) (DvP p n t l S.room.1)):=by
 have hbd:=hO.gd.ok.bd16;have htb:=hO.t.b;have hC:=Dv.clear_keep (S:=S) (k:=Dv.costR*16+k) (m:=mm) (hO.less (by unfold Dv.costM;omega));refine FE [3,4,5,2] Tryz.func94 λX F hX=>?_;refine J.qF λ_=>?_;refine J.qp (a2w p n t l S) [1] λ_=>?_;refine J.q λ_=>?_;refine J.ca hX (by kernel_rfl) (a4u n t l S.N S.t S.T (Dv.costR*16+k) mm (hO.gd.less (by unfold Dv.costM;omega) (j7 _)) hmm hO.t S.op) [2,3,4] 0 rfl rfl rfl rfl rfl rfl (λ_=>rfl) ?_;refine cpq ⟨_,rfl,trivial,?_⟩;have hroom:S.room=if S.clear.2≠0 then S.clear else Dv.roomGo S.t.b S.clear.1:=rfl
 refine J.qd (λ_ h1=>?_) λ_ h1=>?_
 ·simp only[D4,H3]at h1;have h1:S.clear.2≠0:=h1;rw[i3 h1]at hroom;refine J.qr [1,2,3,4] λ_=>?_;rw[hroom];exact⟨rfl,rfl⟩
 simp only[x8]at h1;have h1:S.clear.2=0:=h1;rw[g7 (by rw[h1];decide)]at hroom;have hB:S.clear.1.t.b=S.t.b:=by have:=hC.1.t.b;have:=hC.2.1.blocks;omega
 refine J.qp (a6L t S.clear.1.t) [3] λ_=>?_;rw[hB];refine J.q λ_=>?_;refine J.l (α:=(Nat×Dv)) (λz=>z.1<=S.t.b/\Dv.roomGo (S.t.b-z.1) z.2=S.room/\z.2.Ok (Dv.costR*(S.t.b-z.1)+k) mm) (λz=>[si 40 z.1,si 39 S.t.b,⟨0,pp n,3, .tt⟩,⟨1,pp t,4, .tt⟩,⟨2,pp l,5, .tt⟩,⟨3,pp p,2, .tt⟩]) [1,2,3,4] (λz=>DvP p n t l z.2) (λz=>S.t.b-z.1) ((0,S.clear.1)) (⟨l8 _,hroom.symm,hC.1.less (by dsimp only;have:Dv.costR*(S.t.b-0)<=Dv.costR*16:=x5 _ (by omega);omega)⟩) λz hI=>?_;obtain⟨i,Q⟩:=z;dsimp only at hI ⊢;obtain⟨hi,hgo,hQ⟩:=hI;have hQb:=hQ.gd.ok.bd16;have hQt:=hQ.t.b;have hQp:=hQ.t.p;have hlb:=hQ.t.len;refine J.qd (λ_ h2=>?_) λ_ h2=>?_
 ·simp only[d7,j3]at h2;obtain⟨j,hj⟩:∃j,S.t.b-i=j+1:=⟨S.t.b-i-1,by omega⟩;have hj1:S.t.b-(i+1)=j:=by omega
  rw[hj,Dv.roomGo]at hgo;rw[hj]at hQ;refine J.qp (a2w p n t l Q) [1] λ_=>?_;refine J.qp (b6n t Q.t (by omega) hlb l Q.T Q.op) [3,4] λ_=>?_;refine J.qd (λ_ h3=>?_) λ_ h3=>?_
  ·simp only[d7]at h3;have h3:(Q.free:Int)>4:=h3;rw[i3 h3]at hgo;refine J.qr [1,2,3,4] λ_=>?_;rw[<- hgo];exact⟨rfl,rfl⟩
  simp only[c9]at h3;have h3:¬(Q.free:Int)>4:=h3;rw[g7 h3]at hgo;refine J.qp (a2w p n t l Q) [1] λ_=>?_;refine J.qp (b1e t Q.t (by omega) hlb l Q.T Q.op) [3,4] λ_=>?_;rw[show a0b (λx y=>orI [Q0 (Q.T.count x) (Q.T.count y),Q0 (Q.t.wear x) (Q.t.wear y)]) (y5 (T6 Q.t Q.T) Q.op Q.t.b)=Q.victim from rfl];obtain⟨vv,hvv⟩:∃v,v=Q.victim:=⟨_,rfl⟩;rw[<- hvv]at hgo ⊢;refine J.qn 7 λ_=>?_;cases h4:decide (vv<0)with
  | true=>
   have h4':vv<0:=by simpa using h4
   rw[i3 (.inl h4')]at hgo;refine J.q λ_=>?_;refine J.v (iI 0) rfl rfl (λhg a w he hs=>absurd hg (by simp[G.on])) ?_;refine J.q λ_=>?_;refine J.v (.agg #[iI 0,iI 0,iI 0]) rfl rfl (λhg a w he hs=>absurd hg (by simp[G.on])) ?_;refine J.q λ_=>?_;refine J.v (iI 0) rfl rfl (λhg a w he hs=>absurd hg (by simp[G.on])) ?_;refine J.q λ_=>?_;refine J.v (iI 0) rfl rfl (λhg a w he hs=>absurd hg (by simp[G.on])) ?_;refine J.qT λ_=>?_;refine J.qr [1,2,3,4] λ_=>?_;rw[<- hgo];exact⟨rfl,rfl⟩
  | false=>
   have h4':¬vv<0:=by simpa using h4
   have hsb:=Dv.slots_le (Q.t.mask vv);have hmul:0<=(Q.t.p:Int)*G.slots (Q.t.mask vv)/\(Q.t.p:Int)*G.slots (Q.t.mask vv)<=8*7:=⟨a5c (by omega) hsb.1,a5d (by omega) hsb.2 hsb.1 (by omega)⟩;refine J.qp (Z8 l Q.T vv) [4] λ_=>?_;refine J.qp (a6L t Q.t) [3] λ_=>?_;refine J.qp (a1M t Q.t (by omega) hlb vv) [3] λ_=>?_;refine J.qp (a0N (Q.t.mask vv)) [] λ_=>?_;refine J.qd (λ_ h5=>?_) λ_ h5=>?_
   ·have h5':Q.T.count vv>=Q.t.p*G.slots (Q.t.mask vv):=by simpa using h5
    rw[i3 (.inr h5')]at hgo;refine J.qr [1,2,3,4] λ_=>?_;rw[<- hgo];exact⟨rfl,rfl⟩
   have h5':¬Q.T.count vv>=Q.t.p*G.slots (Q.t.mask vv):=by simpa using h5
   rw[g7 (by rintro(e | e)<;>contradiction)]at hgo;dsimp only at hgo;have hQ1:Q.Ok (Dv.costC+(96+(Dv.costR*j+k))) mm:=hQ.less (by unfold Dv.costR;rw[E9];omega);have hc:=Dv.carry_keep hQ1 vv (Q.T.count vv);refine J.qp (Z8 l Q.T vv) [4] λ_=>?_;refine J.qp (a6Q n t l p Q _ mm hQ1 vv (Q.T.count vv)) [1,2,3,4] λ_=>?_;generalize Q.carry vv (Q.T.count vv)=W at hgo hc ⊢;obtain⟨P,cn,er⟩:=W;dsimp only at hgo hc ⊢;refine J.qd (λ_ h6=>?_) λ_ h6=>?_
   ·simp only[D4,H3]at h6;rw[i3 h6]at hgo;refine J.qr [1,2,3,4] λ_=>?_;rw[<- hgo];exact⟨rfl,rfl⟩
   simp only[x8]at h6;rw[g7 (by rw[h6];decide)]at hgo;have hcl:=Dv.clear_keep hc.1;refine J.qp (a2w p n t l P) [1] λ_=>?_;refine J.qp (a4u n t l P.N P.t P.T (Dv.costR*j+k) mm hc.1.gd hmm hc.1.t P.op) [2,3,4] λ_=>?_;refine J.qd (λ_ h7=>?_) λ_ h7=>?_
   ·simp only[D4,H3]at h7;have h7:P.clear.2≠0:=h7;rw[i3 h7]at hgo;refine J.qr [1,2,3,4] λ_=>?_;rw[<- hgo];exact⟨rfl,rfl⟩
   ·simp only[x8]at h7;have h7:P.clear.2=0:=h7;rw[g7 (by rw[h7];decide)]at hgo;refine J.q λ_=>?_;refine J.n ((i+1,P.clear.1)) (⟨by dsimp only;omega,by dsimp only;rw[hj1];exact hgo,by dsimp only;rw[hj1];exact hcl.1⟩) (by dsimp only;omega) [0,1,2,3,4]
 ·simp only[c9,j3]at h2;have hz:S.t.b-i=0:=by omega
  rw[hz,Dv.roomGo]at hgo;refine J.qr [1,2,3,4] λ_=>?_;rw[<- hgo];exact⟨rfl,rfl⟩
theorem a8j (l:List Int) (f:Int->Int) (i:Nat) (x:Int) (h:l[i]? =some x):((l.take (i+1)).map f).sum=((l.take i).map f).sum+f x:=by
 rw[C6,h,J5,x7,List.sum_append];simp
theorem c0k (l:List Int) (f:Int->Int) (c:Int) (hc:0<=c) (hf:∀x,0<=f x/\f x<=c):0<=(l.map f).sum/\(l.map f).sum<=c*l.length:=by
 induction l with
 | nil=>simp
 | cons x l ih=>
  have:=hf x;simp only[o0,a1G,n4,a1J,Int.mul_add];omega
theorem b3m (t l:Nat) (S:Dv) (k mm:Nat) (hO:S.Ok k mm):FP 105 [pp t,pp l] [TlA t S.t,TbA l S.T]
  (Ps (iI S.leftN) [TlA t S.t,TbA l S.T]):=by
 have hbd:=hO.gd.ok.bd16;have htb:=hO.t.b;have hlog:=hO.T.log;obtain⟨L,hL⟩:∃L,L=S.hurts:=⟨_,rfl⟩;have hLl:L.length<=16:=by have:=a0e (a1q S.t S.T) (-1) S.t.b;rw[hL];unfold Dv.hurts;omega
 have hs:=λi=>c0k (L.take i) S.T.count 1000000 (by omega) (λx=>hO.T.bd x);refine FE [2,3] Tryz.func105 λX F hX=>?_;refine J.qc (b2m t S.t (by omega) hO.t.len l S.T S.T.logical.toNat (by omega) (by omega)) [1,2] λ_=>?_;rintro v As ⟨a,c,rfl,rfl⟩;refine⟨_,rfl,trivial,?_⟩;rw[show y5 (a1q S.t S.T) (-1) S.t.b=L from hL.symm];refine J.q λ_=>?_;refine J.l (α:=Nat) (λi=>i<=L.length) (λi=>[si 12 i,si 11 L.length,sv 10 (slv a L.length c),⟨5,iI ((L.take i).map S.T.count).sum,0, .tt⟩,⟨1,pp l,3, .tt⟩]) [] (λi=>[]) (λi=>L.length-i) (0) (l8 _) λi hI=>?_;have hsi:=hs i;have htl:((L.take i).length:Int)<=16:=by rw[m9];omega
 refine J.qd (λ_ h1=>?_) λ_ h1=>?_
 ·simp only[d7,j3]at h1;obtain⟨x,hx⟩:∃x,L[i]? =some x:=⟨_,d6 h1⟩;have hxb:=hO.T.bd x;have hsu:=a8j L S.T.count i x hx;refine J.know (λh' s=>C7 (c:=(a,c)) (by omega) (s.get (i:=3) rfl)) λhg=>?_;obtain⟨g,rfl⟩:=hg;refine J.q λ_=>?_;refine J.v (iI x) rfl rfl (λhg aa w he hw=>H5 tk rfl rfl he rfl rfl rfl (hw.get (i:=3) rfl) (by rw[show 0+(i:Int).toNat*1=i from by omega,y7,j5,hx];rfl)) ?_;refine J.qp (Z8 l S.T x) [2] λ_=>?_;refine J.q λ_=>?_;rw[<- hsu];refine J.q λ_=>?_;refine J.n (i+1) (by omega) (by omega) [0,1,2,3]
 ·simp only[c9,j3]at h1;refine J.qr [1,2] λ_=>?_;rw[A6 (by omega),hL];exact⟨rfl,rfl⟩
theorem b3l (n t l p:Nat) (S:Dv) (k mm:Nat) (hO:S.Ok (Dv.costS+k) mm) (hmm:mm<=1000) (most:Int):FP 102 [pp n,pp t,pp l,pp p,iI most] (DvP p n t l S)
  (Ps (.tuple #[iI (S.step most).2.1,iI (S.step most).2.2]) (DvP p n t l (S.step most).1)):=by
 have hbd:=hO.gd.ok.bd16;have htd:=hO.t.d;have htb:=hO.t.b;refine FE [3,4,5,2,0] Tryz.func102 λX F hX=>?_;refine J.qp (a6L t S.t) [3] λ_=>?_;refine J.q λ_=>?_;refine J.l (α:=(Nat×Tl)) (λz=>z.1<=S.t.d/\(List.range z.1).foldl (λt (d:Nat)=>if S.N.deadAt d then t.die d else t) S.t=z.2/\z.2.Fit S.N) (λz=>[si 18 z.1,si 17 S.t.d,⟨0,pp n,3, .tt⟩,⟨1,pp t,4, .tt⟩,⟨2,pp l,5, .tt⟩,⟨3,pp p,2, .tt⟩,si 4 most]) [3] (λz=>[TlA t z.2]) (λz=>S.t.d-z.1) ((0,S.t)) (⟨l8 _,rfl,hO.t⟩) λz hI=>?_;obtain⟨d,U⟩:=z;dsimp only at hI ⊢;obtain⟨hd,hfo,hU⟩:=hI;refine J.qd (λ_ h1=>?_) λ_ h1=>?_
 ·simp only[d7,j3]at h1;have hsu:(List.range (d+1)).foldl (λt (d:Nat)=>if S.N.deadAt d then t.die d else t) S.t=if S.N.deadAt d then U.die d else U:=by rw[x6,A7,hfo];rfl
  refine J.qp (a7o n S.N hO.gd.ok d) [2] λ_=>?_;refine J.qd (λ_ h2=>?_) λ_ h2=>?_
  ·rw[i3 h2]at hsu;refine J.qp (a4q t U d) [3] λ_=>?_;refine J.q λ_=>?_;refine J.n ((d+1,U.die d)) (⟨by dsimp only;omega,hsu,hU.die d⟩) (by dsimp only;omega) [0,1,2,3,4]
  ·rw[g7 (by rw[h2];decide)]at hsu;refine J.q λ_=>?_;refine J.n ((d+1,U)) (⟨by dsimp only;omega,hsu,hU⟩) (by dsimp only;omega) [0,1,2,3,4]
 simp only[c9,j3]at h1;obtain rfl:d=S.t.d:=by omega
 have hseen:S.seen={S with t:=U}:=by unfold Dv.seen Dv.seeDead;rw[hfo]
 have hO1:S.seen.Ok (Dv.costM+(Dv.costC+k)) mm:=hO.seen.less (by unfold Dv.costS;omega);have hr:=Dv.room_keep hO1;obtain⟨Q,hQ⟩:∃Q,Q=S.seen:=⟨_,rfl⟩;have hQO:Q.Ok (Dv.costM+(Dv.costC+k)) mm:=by rw[hQ];exact hO1
 have hst:S.step most=(let r:=Q.room;if r.2≠0 then(r.1,0,r.2)else match r.1.hurts with | []=>(r.1,0,0) | b::_=>r.1.carry b most):=by rw[hQ];rfl
 rw[show B1 n S.N=B1 n Q.N from by rw[hQ];rfl,show TbA l S.T=TbA l Q.T from by rw[hQ];rfl,show TlA t U=TlA t Q.t from by rw[hQ,hseen],show a1F p n t l S=a1F p n t l Q from by rw[hQ];rfl];rw[<- hQ]at hr;refine J.qp (a4t n t l p Q _ mm hQO hmm) [1,2,3,4] λ_=>?_;dsimp only at hst;generalize Q.room=W at hst hr ⊢;obtain⟨P,er⟩:=W;dsimp only at hst hr ⊢;refine J.qd (λ_ h2=>?_) λ_ h2=>?_
 ·simp only[D4,H3]at h2;rw[i3 h2]at hst;refine J.qr [1,2,3,4] λ_=>?_;rw[hst];exact⟨rfl,rfl⟩
 simp only[x8]at h2;rw[g7 (by rw[h2];decide)]at hst;have hPb:=hr.1.gd.ok.bd16;have hPt:=hr.1.t.b;have hlog:=hr.1.T.log;have hLl:=a0e (a1q P.t P.T) (-1) P.t.b;refine J.qc (b2m t P.t (by omega) hr.1.t.len l P.T P.T.logical.toNat (by omega) (by omega)) [3,4] λ_=>?_;rintro v As ⟨a,c,rfl,rfl⟩;refine⟨_,rfl,trivial,?_⟩;have hh:y5 (a1q P.t P.T) (-1) P.t.b=P.hurts:=rfl;rw[hh]at hLl ⊢;generalize P.hurts=L at hst hLl ⊢;cases L with
 | nil=>
  refine J.qT λ_=>?_;refine J.qr [1,2,3,4] λ_=>?_;rw[hst];exact⟨rfl,rfl⟩
 | cons b L=>
  refine J.know (λh' s=>C7 (c:=(a,c)) (by simp) (s.get (i:=5) rfl)) λhg=>?_;obtain⟨g,rfl⟩:=hg;refine J.q λ_=>?_;refine J.cond rfl (λh=>absurd h (by rw[y6,n4];omega)) (λ_=>?_);refine J.q λ_=>?_;refine J.v (iI b) rfl rfl (λhg aa w he hw=>H5 tk rfl rfl he rfl rfl rfl (hw.get (i:=5) rfl) rfl) ?_;dsimp only at hst;refine J.qp (a6Q n t l p P _ mm hr.1 b most) [1,2,3,4] λ_=>?_;refine J.qr [1,2,3,4] λ_=>?_;rw[hst];exact⟨rfl,rfl⟩
end Go.Proofs.YtpakpgkdpofbhaaGreat
namespace Go.Proofs.YtpakpgkdpofbhaaGreat
open Go.RowKit
set_option maxRecDepth 100000 in
theorem c1i (w:World):Calls Tryz.prog 366 #[.int .i64 (-1)] w λe w'=>e= .returned (.int .u64 1)/\w=w':=by
 go_enter Tryz.func366,Tryz.ntmps366
 go_wp2
 go_ret
 exact⟨by kernel_rfl,rfl⟩
set_option maxRecDepth 100000 in
theorem c1l (w:World):Calls Tryz.prog 367 #[.int .u64 1] w λe w'=>e= .returned (.int .i64 (-1))/\w=w':=by
 go_enter Tryz.func367,Tryz.ntmps367
 go_wp2
 go_ret
 exact⟨by kernel_rfl,rfl⟩
set_option maxRecDepth 100000 in
theorem b6x (w:World):Calls Tryz.prog 368 #[.int .i64 255, .int .i64 8] w λe w'=>e= .returned (.int .i64 (-1))/\w=w':=by
 go_enter Tryz.func368,Tryz.ntmps368
 go_wp2
 go_ret
 exact⟨by kernel_rfl,rfl⟩
set_option maxRecDepth 100000 in
theorem b6w (w:World):Calls Tryz.prog 368 #[.int .i64 1, .int .i64 0] w λe w'=>e= .returned (.int .i64 0)/\w=w':=by
 go_enter Tryz.func368,Tryz.ntmps368
 go_wp2
 go_ret
 exact⟨by kernel_rfl,rfl⟩
end Go.Proofs.YtpakpgkdpofbhaaGreat
namespace Go.Proofs.YtpakpgkdpofbhaaGreat
open Go Go.RowKit
def nk (k:Nat):Nat:=match k with | 0=>0 | _+1=>1
theorem c1c (g:Nat):FP 251 [pp g, .int .u64 2,iI 1] [a4V g ([]++Bt.bits 5 3)]
  (Ps (.bool false) [a4V g ([]++Bt.bits 5 3)]):=by
 refine FE [2,0,0] Tryz.func251 λX F hX=>?_;refine J.qp (b3C 1) [] λ_=>?_;refine J.o (α:=(Option Nat×Nat)) 1 λx=>?_;refine J.qT λ_=>?_;refine J.cl (b1f g ([]++Bt.bits 5 3)) x [1,2] ?_;exact J.qx [1]
theorem c1D (g:Nat) (l:List Bool):FP 370 [pp g] [a4V g l]
  (Ps (iI l.length) [a4V g l]):=by
 refine FE [2] Tryz.func370 λX F hX=>?_;refine J.qF λ_=>?_;refine J.o (α:=(Option Nat×Nat)) 1 λx=>?_;refine J.q λ_=>?_;refine J.cl (b1f g l) x [1,2] ?_;exact J.qx [1]
theorem c1d (g b:Nat):FP 300 [pp g,iI 9] [.pt g 355 [.slice (some ⟨b,0,none⟩) 1 1,iI 4]]
  (Ps (.tuple #[.int .u64 0, .bool false]) [.pt g 355 [.slice (some ⟨b,0,none⟩) 1 1,iI 4]]):=by
 refine FE [2,0] Tryz.func300 λX F hX=>?_;refine J.qp (b3C 9) [] λ_=>?_;refine J.qp (b2M g (some ⟨b,0,none⟩) 1 1 4 (by decide) (by decide)) [1] λ_=>?_;refine J.qT λ_=>?_;exact J.qx [1]
theorem c1e (g b:Nat):FP 300 [pp g,iI 4] [.pt g 355 [.slice (some ⟨b,0,none⟩) 1 1,iI 0], .pt b 5 [.int .u8 165]]
  (Ps (.tuple #[.int .u64 10, .bool true]) [.pt g 355 [.slice (some ⟨b,0,none⟩) 1 1,iI 4], .pt b 5 [.int .u8 165]]):=by
 have:=b7P g (.pt b 5 [.int .u8 165]) (some ⟨b,0,none⟩) 1 1 [165] (a2O b _ _ 1 1 rfl) rfl (by decide) 0 4 (by decide) (by decide) (by decide);rw[show((Bt.numAt [165] 0 4:Nat):Int)=10 from by decide+kernel]at this;exact this
theorem c1I:FP 254 [.slice none 0 0] [] (Ps (.int .u32 4294967295) []):=by
 refine FE [0] Tryz.func254 λX F hX=>?_;refine J.q λ_=>?_;refine J.l (α:=Nat) (λk=>k<=0) (λk=>[si 8 0,si 7 0,⟨3, .int .u32 4294967295,0, .tt⟩]) [] (λk=>[]) (λk=>0) (0) (l8 _) λk hI=>?_;refine J.qF λ_=>?_;exact J.qx []
theorem c0H:FP 296 [.int .u32 0, .int .u8 128] [] (Ps (.int .u32 (K.step 0 128:Nat)) []):=Fn.of_same (a9c 0 128 (by decide) (by decide))
theorem c1m:FP 366 [iI (-1)] [] (Ps (.int .u64 1) []):=Fn.of_same c1i
theorem c1n:FP 367 [.int .u64 1] [] (Ps (iI (-1)) []):=Fn.of_same c1l
theorem b3I:FP 368 [iI 255,iI 8] [] (Ps (iI (-1)) []):=Fn.of_same b6x
theorem b3H:FP 368 [iI 1,iI 0] [] (Ps (iI 0) []):=Fn.of_same b6w
theorem c0a:FP 369 [.int .u32 1,iI 33] [] (Ps (.int .u32 2) []):=by
 refine FE [0,0] Tryz.func369 λX F hX=>?_;refine J.p (.of [0,4,8,12,16,20,24,28,32]) [7,8] [] λ_=>?_;exact J.qx []
theorem b6U:FP 361 [] [] (Ps (.bool true) []):=by
 refine FE [] Tryz.func361 λX F hX=>?_;refine J.q λb1=>?_;refine J.turn1 [] rfl (As:=[n9 5 1 none 0 0 []]) (λh s=>Sep.one ⟨rfl,rfl,rfl⟩) rfl ?_;refine J.cl (b1f (b1 0) []) (none,0) [1,2] ?_;refine J.qp (b3D (b1 0) 5 3 [] (by decide) (by decide) (by decide) (by decide)) [1] λ_=>?_;refine J.qp (c1c (b1 0)) [1] λ_=>?_;refine J.q λb2=>?_;refine J.cb (b7O (some ⟨b2 0,0,none⟩) 1 1) [] ?_;rintro v As ⟨g,rfl,rfl⟩;refine⟨_,rfl,trivial,?_⟩;refine J.qp (c1e g (b2 0)) [4,3] λ_=>?_;refine J.qp (c1d g (b2 0)) [4] λ_=>?_;refine J.qc (b0u (b1 0) ([]++Bt.bits 5 3) (by decide)) [1] λ_=>?_;rintro v As ⟨a2,c2,rfl,rfl⟩;refine⟨_,rfl,trivial,?_⟩;rw[show((([]:List Bool)++Bt.bits 5 3).length+7)/8=1 from rfl];refine J.know (λh' s=>C7 (c:=(a2,c2)) (by decide) (s.get (i:=5) rfl)) λhg=>?_;obtain⟨g2,rfl⟩:=hg;refine J.qp (c1m) [] λ_=>?_;refine J.qp (c1n) [] λ_=>?_;refine J.qp (b3I) [] λ_=>?_;refine J.qp (b3H) [] λ_=>?_;refine J.qp (c0a) [] λ_=>?_;refine J.qp (c1D (b1 0) ([]++Bt.bits 5 3)) [1] λ_=>?_;refine J.q λ_=>?_;refine J.v (.int .u8 160) rfl rfl (λhg a w he hw=>?_) ?_
 ·exact H5 tk rfl rfl he hg rfl rfl (hw.get (i:=5) rfl) (by kernel_rfl)
 refine J.qp (b2M g (some ⟨b2 0,0,none⟩) 1 1 4 (by decide) (by decide)) [4] λ_=>?_;refine J.qp (c1I) [] λ_=>?_;refine J.qp (c0H) [] λ_=>?_;refine J.qp (b1t 3) [] λ_=>?_;refine J.qp (c0F 6 0 (by decide) (by decide)) [] λ_=>?_;refine J.qp (b6O 6 2) [] λ_=>?_;refine J.qp (a4E 6) [] λ_=>?_;refine J.qr [] λ_=>?_;exact⟨by kernel_rfl,rfl⟩
theorem b6V:FP 349 [] [] (Ps (.bool true) []):=by
 refine FE [] Tryz.func349 λX F hX=>?_;refine J.qp (b6U) [] λ_=>?_;exact J.qx []
end Go.Proofs.YtpakpgkdpofbhaaGreat
