/- Helpers. No condition. -/
import Derived.Test.YtpakpgkdpofbhaaGreatC00
import Derived.Test.YtpakpgkdpofbhaaGreatC04
import Derived.Test.YtpakpgkdpofbhaaGreatC11
import Derived.Test.YtpakpgkdpofbhaaGreatC12
import Derived.Test.YtpakpgkdpofbhaaGreatC13
import Derived.Test.YtpakpgkdpofbhaaGreatC14
set_option maxRecDepth 20000
set_option linter.all false
namespace Go.Proofs.YtpakpgkdpofbhaaGreat
open Go Go.RowKit
def Fl.turn (f:Fl):Bool:=if f.kind≠5 then decide (f.n=0)&&decide (f.xx=0)else decide (f.n>=0)&&decide (f.n<32)&&decide (f.xx>=1)&&decide (f.xx<=255)
def Fl.may (D B P:Nat) (f:Fl):Bool:=decide (f.at_>=0)&&decide (f.kind>=1)&&decide (f.kind<=5)&&V9 D B P f.x f.y f.z&&f.turn
theorem c1N (x y:Fl):FP 175 [flV x,flV y] [] (Ps (iI (T8 x.at_ y.at_)) []):=by
 refine FE [0,0] Tryz.func175 λX F hX=>?_;refine J.qp (a0T x.at_ y.at_) [] λ_=>?_;exact J.qx []
theorem c3i (D B P:Nat) (hD:D<=1000) (hB:B<=1000) (hP:P<=1000) (f:Fl):FP 173 [.agg #[iI D,iI B,iI P],flV f] [] (Ps (.bool (f.may D B P)) []):=by
 refine FE [0,0] Tryz.func173 λX F hX=>?_;have fin:∀(T:Bool),T=f.turn->Fl.may D B P f=(decide (f.at_>=0)&&decide (f.kind>=1)&&decide (f.kind<=5)&&V9 D B P f.x f.y f.z&&T):=λT h=>by rw[h];rfl
 refine J.run hX tk 400 (λb4=>rfl) (λb4=>?_) (λb4=>?_)
 ·(repeat' (first | exact Conj.nil | refine Conj.cons ?_ ?_ | exact rfl | exact hq | (exact Bool.noConfusion hq) | (rw[hq];rfl) | (rw[(i7 _).mp hq]) | intro hq | omega | (simp;done)))
 refine J.qd (λ_ h1=>?_) λ_ h1=>?_
 ·have hk:f.kind≠5:=by simpa using h1
  have hT:(decide (f.n=0)&&decide (f.xx=0))=f.turn:=by unfold Fl.turn;rw[d8 hk]
  have fin:=fin _ hT;refine J.run hX tk 400 (λb6=>rfl) (λb6=>?_) (λb6=>?_)
  ·(repeat' (first | exact Conj.nil | refine Conj.cons ?_ ?_ | exact rfl | exact hq | (exact Bool.noConfusion hq) | (rw[hq];rfl) | (rw[(i7 _).mp hq]) | intro hq | omega | (simp;done)))
  cases hb:(decide (f.at_>=0)&&decide (f.kind>=1)&&decide (f.kind<=5))with
  | true=>
   rw[hb,o0]at fin;refine J.qp (b2f D B P f.x f.y f.z (by omega) (by omega) (by omega)) [] λ_=>?_;refine J.run hX tk 400 (λb8=>rfl) (λb8=>?_) (λb8=>?_)
   ·(repeat' (first | exact Conj.nil | refine Conj.cons ?_ ?_ | exact rfl | exact hq | (exact Bool.noConfusion hq) | (rw[hq];rfl) | (rw[(i7 _).mp hq]) | intro hq | omega | (simp;done)))
   refine J.qr [] λ_=>?_;exact⟨by rw[fin];rfl,rfl⟩
  | false=>
   rw[hb,O0,O0]at fin;refine J.v (.bool false) rfl rfl (λhg a w he hw=>by simp[G.on]at hg) ?_;refine J.run hX tk 400 (λb10=>rfl) (λb10=>?_) (λb10=>?_)
   ·(repeat' (first | exact Conj.nil | refine Conj.cons ?_ ?_ | exact rfl | exact hq | (exact Bool.noConfusion hq) | (rw[hq];rfl) | (rw[(i7 _).mp hq]) | intro hq | omega | (simp;done)))
   refine J.qr [] λ_=>?_;exact⟨by rw[fin];rfl,rfl⟩
 ·have hk:¬f.kind≠5:=by simpa using h1
  have hT:(decide (f.n>=0)&&decide (f.n<32)&&decide (f.xx>=1)&&decide (f.xx<=255))=f.turn:=by unfold Fl.turn;rw[d7 hk]
  have fin:=fin _ hT;refine J.run hX tk 400 (λb12=>rfl) (λb12=>?_) (λb12=>?_)
  ·(repeat' (first | exact Conj.nil | refine Conj.cons ?_ ?_ | exact rfl | exact hq | (exact Bool.noConfusion hq) | (rw[hq];rfl) | (rw[(i7 _).mp hq]) | intro hq | omega | (simp;done)))
  cases hb:(decide (f.at_>=0)&&decide (f.kind>=1)&&decide (f.kind<=5))with
  | true=>
   rw[hb,o0]at fin;refine J.qp (b2f D B P f.x f.y f.z (by omega) (by omega) (by omega)) [] λ_=>?_;refine J.run hX tk 400 (λb14=>rfl) (λb14=>?_) (λb14=>?_)
   ·(repeat' (first | exact Conj.nil | refine Conj.cons ?_ ?_ | exact rfl | exact hq | (exact Bool.noConfusion hq) | (rw[hq];rfl) | (rw[(i7 _).mp hq]) | intro hq | omega | (simp;done)))
   refine J.qr [] λ_=>?_;exact⟨by rw[fin];rfl,rfl⟩
  | false=>
   rw[hb,O0,O0]at fin;refine J.v (.bool false) rfl rfl (λhg a w he hw=>by simp[G.on]at hg) ?_;refine J.run hX tk 400 (λb16=>rfl) (λb16=>?_) (λb16=>?_)
   ·(repeat' (first | exact Conj.nil | refine Conj.cons ?_ ?_ | exact rfl | exact hq | (exact Bool.noConfusion hq) | (rw[hq];rfl) | (rw[(i7 _).mp hq]) | intro hq | omega | (simp;done)))
   refine J.qr [] λ_=>?_;exact⟨by rw[fin];rfl,rfl⟩
theorem b8A (c:Nat) (a:Option Nat) (cap:Nat):FP 290 [slv a 0 cap,iI 0,iI 0,fnV c] [] (Ps (.tuple #[]) []):=by
 refine FE [0,0,0,0] Tryz.func290 λX F hX=>?_;refine J.q λ_=>?_;refine J.l (α:=Unit) (λ_u=>True) (λ_u=>[si 8 1,si 2 0]) [] (λ_u=>[]) (λ_u=>0) (()) (trivial) λ_u hI=>?_;refine J.qF λ_=>?_;refine J.q λ_=>?_;refine J.f [] ?_;exact⟨rfl,rfl⟩
def a2P (x y:Fl):Int:=T8 x.at_ y.at_
theorem b6H (g n cap:Nat) (l:List Fl) (hl:l.length=n) (hn:n<=15) (r:List Value):FP 244 [.slice (some ⟨g,0,none⟩) n cap,iI n,fnV 175] [.pt g 57 (x8 l++r)] (Ps (.tuple #[]) [.pt g 57 (x8 (U5 a2P l)++r)]):=by
 refine FE [2,0,0] Tryz.func244 λX F hX=>?_;refine J.q λ_=>?_;refine J.l (α:=Unit) (λ_u=>True) (λ_u=>[si 8 20,si 7 0,si 6 20,⟨0, .slice (some ⟨g,0,none⟩) n cap,2, .tt⟩,si 1 n,⟨2,fnV 175,0, .tt⟩]) [] (λ_u=>[]) (λ_u=>0) (()) (trivial) λ_u hI=>?_;refine J.qd (λ_ h1=>?_) λ_ h1=>?_
 ·simp only[c9]at h1;omega
 refine J.qp (c0N 175 a2P (by kernel_rfl) c1N g n cap l hl (by omega) r) [1] λ_=>?_;refine J.q λ_=>?_;refine J.l (α:=Unit) (λ_u=>True) (λ_u=>[si 6 20,⟨0, .slice (some ⟨g,0,none⟩) n cap,2, .tt⟩,si 1 n,⟨2,fnV 175,0, .tt⟩]) [] (λ_u=>[]) (λ_u=>0) (()) (trivial) λ_u hI=>?_;refine J.qd (λ_ h2=>?_) λ_ h2=>?_
 ·simp only[c9]at h2;omega
 refine J.q λ_=>?_;refine J.f [1] ?_;exact⟨rfl,rfl⟩
theorem b4S (a:Option Nat) (cap:Nat):FP 244 [slv a 0 cap,iI 0,fnV 175] [] (Ps (.tuple #[]) []):=by
 refine FE [0,0,0] Tryz.func244 λX F hX=>?_;refine J.q λ_=>?_;refine J.l (α:=Unit) (λ_u=>True) (λ_u=>[si 8 20,si 7 0,si 6 20,sv 0 (slv a 0 cap),si 1 0,⟨2,fnV 175,0, .tt⟩]) [] (λ_u=>[]) (λ_u=>0) (()) (trivial) λ_u hI=>?_;refine J.qF λ_=>?_;refine J.qp (b8A 175 a cap) [] λ_=>?_;refine J.q λ_=>?_;refine J.l (α:=Unit) (λ_u=>True) (λ_u=>[si 6 20,si 1 0]) [] (λ_u=>[]) (λ_u=>0) (()) (trivial) λ_u hI=>?_;refine J.qF λ_=>?_;refine J.q λ_=>?_;refine J.f [] ?_;exact⟨rfl,rfl⟩
theorem c1M (a:Option Nat) (n cap:Nat) (l:List Fl) (hl:l.length=n) (hn:n<=15):FP 174 [slv a n cap,fnV 175] [l5 57 7 a n cap (x8 l)] (Ps (.tuple #[]) [l5 57 7 a n cap (x8 (U5 a2P l))]):=by
 refine FE [0,0] Tryz.func174 λX F hX=>?_;refine J.q λ_=>?_;rcases K7 n with h0 | h0
 ·subst h0;obtain rfl:l=[]:=List.length_eq_zero_iff.1 hl;refine J.qp (b4S a cap) [] λ_=>?_;refine J.q λ_=>?_;refine J.f [1] ?_;exact⟨rfl,rfl⟩
 refine J.know (λh' s=>u7 (c:=(a,cap)) (by omega) (s.get (i:=1) rfl)) λhg=>?_;obtain⟨g,rfl⟩:=hg;refine J.openOwn 1 rfl rfl (λ_=>rfl) λr q1 q2 q3 q4=>?_;refine J.qp (b6H g n cap l hl hn r) [1] λ_=>?_;have hlen:(U5 a2P l).length=n:=by rw[(a3O a2P l).length_eq,hl]
 refine J.closeOwn (e:=57) (size:=7) (n:=n) (cap:=cap) (xs:=x8 (U5 a2P l)) 1 rfl rfl (by rw[W0,hlen]) q2 q3 (by rw[f9,W0,hlen];rw[W0,hl]at q4;exact q4) (B6 (by rw[W0,hlen])) rfl ?_;refine J.q λ_=>?_;refine J.f [1] ?_;exact⟨rfl,rfl⟩
def plF (D B P:Nat) (l:List Fl):List Fl:=l.filter (Fl.may D B P)
theorem b7u (D B P:Nat) (l:List Fl) (k:Nat) (x:Fl) (h:l[k]? =some x):plF D B P (l.take (k+1))=if x.may D B P then plF D B P (l.take k)++[x]else plF D B P (l.take k):=by
 unfold plF;rw[s6,h,y9,H2]
 by_cases hx:x.may D B P
 ·rw[d8 hx,M2 hx];rfl
 ·rw[d7 hx,J7 hx,List.filter_nil,n9]
theorem b7v (D B P:Nat) (l:List Fl):(plF D B P l).length<=l.length:=B4 _ _
theorem b0M (l:List Fl) (x:Fl):x8 l++flC x=x8 (l++[x]):=by unfold x8;rw[C5];simp
theorem c1r (D B P:Nat) (hD:D<=1000) (hB:B<=1000) (hP:P<=1000) (A:Atom) (ad:Option Addr) (n c:Nat) (l:List Fl) (hA:Rd A ad 7 n (x8 l)) (hl:l.length=n) (hn:n<=15):FP 106 [.agg #[iI D,iI B,iI P], .slice ad n c] [A]
  (λv As=>∃p a c,v=pp p/\As=[A, .pt p 247 [slv a (plF D B P l).length c],l5 57 7 a (plF D B P l).length c (x8 (U5 a2P (plF D B P l)))]):=by
 refine FE [0,0] Tryz.func106 λX F hX=>?_;refine J.q λbp=>?_;refine J.turn1 [] rfl (As:=[l5 57 7 none 0 0 (x8 [])]) (λh s=>Sep.one ⟨rfl,rfl,rfl⟩) rfl ?_;refine J.q λ_=>?_;refine J.l (α:=(Nat×Option Nat×Nat)) (λz=>z.1<=n) (λz=>[si 12 z.1,si 11 n,sv 10 (.slice ad n c),⟨5,pp (bp (0+1)),4, .tt⟩,⟨2,pp (bp 0),3, .tt⟩]) [3,4] (λz=>[.pt (bp (0+1)) 247 [slv z.2.1 (plF D B P (l.take z.1)).length z.2.2],l5 57 7 z.2.1 (plF D B P (l.take z.1)).length z.2.2 (x8 (plF D B P (l.take z.1)))]) (λz=>n-z.1) ((0,none,0)) (j4 _) λz hI=>?_;obtain⟨k,ga,ca⟩:=z;dsimp only at hI ⊢;refine J.qd (λ_ h1=>?_) λ_ h1=>?_
 ·simp only[c9,g6]at h1;obtain⟨x,hx⟩:∃x,l[k]? =some x:=⟨_,d5 (by omega)⟩;have hsn:=b7u D B P l k x hx;have hle:=b7v D B P (l.take k);rw[l9]at hle;refine J.know (p:=∃g o,ad=some ⟨g,o,none⟩) (λh' s=>Rd.addr (hA _ (s.get (i:=1) rfl)) (by omega)) λhk2=>?_;obtain⟨g,o,rfl⟩:=hk2;refine J.q λ_=>?_;refine J.v (flV x) rfl rfl (λhg a w he hw=>?_) ?_
  ·exact V4 tk rfl rfl he rfl rfl rfl (hA _ (hw.get (i:=1) rfl)) (by omega) (j:=k*7) (by omega) (by have:=Y4 l [] k _ hx;rwa [n9]at this) rfl
  refine J.qp (c3i D B P hD hB hP x) [] λ_=>?_;refine J.qd (λ_ h2=>?_) λ_ h2=>?_
  ·rw[d8 h2]at hsn;refine J.pq (.of [0,4,8,12,17,21,26,30,32,36,43]) [8,9,10] [3,5] λ_ _=>?_;refine J.ap 4 6 0 (b0M (plF D B P (l.take k)) x) λa3 c3=>?_;refine J.q λ_=>?_;rw[show(plF D B P (l.take k)).length+1=(plF D B P (l.take (k+1))).length from by rw[hsn,f9];rfl,<- hsn];refine J.q λ_=>?_;refine J.n ((k+1,a3,c3)) (by dsimp only;omega) (by dsimp only;omega) [0,1,2,3,4]
  ·rw[d7 (by rw[h2];decide)]at hsn;refine J.q λ_=>?_;rw[<- hsn];refine J.q λ_=>?_;refine J.n ((k+1,ga,ca)) (by dsimp only;omega) (by dsimp only;omega) [0,1,2,3,4]
 simp only[c8,g6]at h1;obtain rfl:k=n:=by omega
 rw[m7 (by omega)];have hle:=b7v D B P l;refine J.q λ_=>?_;refine J.ca hX (by kernel_rfl) (c1M ga _ ca (plF D B P l) rfl (by omega)) [4] 0 rfl rfl rfl rfl rfl rfl (λ_=>rfl) ?_;refine cpq ⟨_,rfl,trivial,?_⟩;refine J.qr [1,3,4] λ_=>?_;exact⟨bp (0+1),ga,ca,rfl,rfl⟩
theorem a5u (L:List Fl):∀k,(x8 L).drop (k*7)=x8 (L.drop k):=by
 induction L with
 | nil=>intro k;simp[x8]
 | cons x l ih=>
  intro k;cases k with
  | zero=>simp
  | succ k=>
   have e1:x8 (x::l)=flC x++x8 l:=by simp[x8]
   rw[e1,P4,<- ih k,show(k+1)*7=(flC x).length+k*7 from by show _=7+k*7;omega,<- A4,T4 rfl]
theorem b0L (L:List Fl):∀k,(x8 L).take (k*7)=x8 (L.take k):=by
 induction L with
 | nil=>intro k;simp[x8]
 | cons x l ih=>
  intro k;cases k with
  | zero=>simp[x8]
  | succ k=>
   have e1:∀m,x8 (x::m)=flC x++x8 m:=λm=>by simp[x8]
   rw[e1,S8,e1,<- ih k,show(k+1)*7=(flC x).length+k*7 from by show _=7+k*7;omega,R2]
theorem b2s (L:List Fl):∀u∈x8 L,u.oneCell'=true:=by
 intro u hu;unfold x8 at hu;obtain⟨x,_,hx⟩:=List.mem_flatMap.1 hu;simp only[flC,D6,T9,a5z]at hx;rcases hx with rfl | rfl | rfl | rfl | rfl | rfl | rfl<;>rfl
theorem b3M {α:Type} (p:α->Bool):∀(L:List α) (k:Nat) (x:α),k<=(L.takeWhile p).length->L[k]? =some x->(p x=true->k+1<=(L.takeWhile p).length)/\(p x=false->k=(L.takeWhile p).length)
 | [],k,x,_,h=>by simp at h
 | y::L,0,x,_,h=>by
  simp only[R0,l8]at h;subst h;rw[a4R];constructor
  ·intro e;rw[d8 e,m6];omega
  ·intro e;rw[d7 (by rw[e];decide)];rfl
 | y::L,k+1,x,hk,h=>by
  rw[a4R]at hk ⊢
  by_cases e:p y=true
  ·rw[d8 e]at hk ⊢;rw[m6]at hk ⊢;have:=b3M p L k x (by omega) (by simpa using h);constructor
   ·intro h1;have:=this.1 h1;omega
   ·intro h1;have:=this.2 h1;omega
  ·rw[d7 e]at hk;simp at hk
theorem c1s {α:Type} (p:α->Bool) (L:List α):(L.takeWhile p).length<=L.length:=by
 have:=congrArg List.length (List.takeWhile_append_dropWhile (p:=p) (l:=L));rw[f9]at this;omega
theorem b9O {α:Type} (p:α->Bool) (L:List α):L.take (L.takeWhile p).length=L.takeWhile p/\L.drop (L.takeWhile p).length=L.dropWhile p:=by
 have h:=List.takeWhile_append_dropWhile (p:=p) (l:=L);constructor
 ·conv=>lhs;arg 2;rw[<- h]
  exact B6 rfl
 ·conv=>lhs;arg 2;rw[<- h]
  exact T4 rfl
def a9U (p:Nat) (a:Option (Nat×Nat)) (c:Nat) (L:List Fl):List Atom:=[.pt p 247 [.slice (K4 a) L.length c],rdA (K4 a) 7 L.length (x8 L)]
theorem a8Y (a:Option (Nat×Nat)) (n c k:Nat) (L:List Fl) (hl:L.length=n) (hz:a=none->c=0) (hk:k<=n) (hc:n<=c) (hn:n<=1000000):FP 246 [.slice (K4 a) k c] [rdA (K4 a) 7 n (x8 L)]
  (λv As=>∃a' c',v=slv a' k c'/\As=[rdA (K4 a) 7 n (x8 L),l5 57 7 a' k c' (x8 (L.take k))]):=by
 refine FE [0] Tryz.func246 λX F hX=>?_;cases a with
 | none=>
  have:=hz rfl;obtain rfl:k=0:=by omega
  refine J.qT λ_=>?_;refine J.turn1 [] rfl (As:=[l5 57 7 none 0 0 (x8 [])]) (λh s=>Sep.one ⟨rfl,rfl,rfl⟩) rfl ?_;refine J.qr [1,2] λ_=>?_;exact⟨none,0,rfl,rfl⟩
 | some g=>
  refine J.qF λ_=>?_;refine J.qn 5 λbb=>?_;refine J.closeOwn (e:=57) (size:=7) (n:=0) (cap:=0) (xs:=[]) 2 rfl rfl rfl (j7 _) (j4 _) rfl rfl rfl ?_;refine J.q λ_=>?_;have hRd:Rd (rdA (K4 (some g)) 7 n (x8 L)) (K4 (some g)) 7 k (x8 (L.take k)):=by
   have:=(b0j (K4 (some g)) 7 n (x8 L)).take k hk
   rwa [b0L]at this
  refine J.appendRO hX tk (a:=some (bb 0)) (n:=0) (cap:=0) (xs:=[]) (Ay:=rdA (K4 (some g)) 7 n (x8 L)) 2 1 (λe=>by cases e) rfl rfl rfl rfl rfl rfl rfl rfl rfl hRd rfl rfl rfl rfl (b2s _) ?_ ?_ (λ_=>rfl) λa' c'=>⟨_,rfl,trivial,?_⟩
  ·simp only[maxLen];omega
  ·omega
  rw[I8 k,J6];refine J.qr [1,2] λ_=>?_;exact⟨a',c',rfl,rfl⟩
def b9f (ops:Int) (f:Fl):Bool:=decide (f.at_<=ops)
def R3 (ops:Int) (L:List Fl):List Fl:=L.takeWhile (b9f ops)
def a2m (ops:Int) (L:List Fl):List Fl:=L.dropWhile (b9f ops)
theorem c3j (p:Nat) (a:Option (Nat×Nat)) (c:Nat) (L:List Fl) (hz:a=none->c=0) (hc:L.length<=c) (hn:L.length<=1000) (ops:Int):FP 177 [pp p,iI ops] (a9U p a c L)
  (λv As=>∃a' c' a2 c2,(a'=none->c'=0)/\(a2m ops L).length<=c'/\v=slv a2 (R3 ops L).length c2/\As=a9U p a' c' (a2m ops L)++[l5 57 7 a2 (R3 ops L).length c2 (x8 (R3 ops L))]):=by
 refine FE [2,0] Tryz.func177 λX F hX=>?_;refine J.qF λ_=>?_;refine J.q λ_=>?_;refine J.l (α:=Nat) (λk=>k<=(R3 ops L).length) (λk=>[si 5 k,⟨0,pp p,2, .tt⟩,si 1 ops]) [] (λk=>[]) (λk=>L.length-k) (0) (j4 _) λk hI=>?_;have hle:(R3 ops L).length<=L.length:=c1s _ _;obtain⟨htk,hdr⟩:=b9O (b9f ops) L;have htk:L.take (R3 ops L).length=R3 ops L:=htk;have hdr:L.drop (R3 ops L).length=a2m ops L:=hdr;refine J.qn 10 λ_=>?_;rcases Q7 k L.length with h1 | h1
 ·obtain⟨x,hx⟩:∃x,L[k]? =some x:=⟨_,d5 h1⟩;have htw:=b3M (b9f ops) L k x hI hx;refine J.know (λh' s=>b5s (show rdP (K4 a) 7 L.length (x8 L) h' from s.get (i:=2) rfl) (by omega)) λhg=>?_;obtain⟨⟨g,o⟩,rfl⟩:=hg;rw[show decide ((k:Int)<(L.length:Int))=true from j3 (by omega)];refine J.q λ_=>?_;refine J.v (iI x.at_) rfl rfl (λhg aa w he hw=>a2f tk rfl rfl he rfl rfl rfl (b0j _ _ _ _ _ (hw.get (i:=2) rfl)) (by omega) (j:=k*7+0) (by omega) (a0n flC 7 (λ_=>rfl) hx 0 (by omega))) ?_;refine J.qd (λ_ h2=>?_) λ_ h2=>?_
  ·simp only[o0]at h2;have hk:=htw.1 h2;refine J.q λ_=>?_;refine J.n (k+1) (hk) (by omega) [0,1,2]
  ·simp only[o0]at h2;have hk:k=(R3 ops L).length:=htw.2 h2;subst hk;refine J.qn 8 λ_=>?_;refine J.v (.slice (K4 (some (g,o))) (R3 ops L).length c) rfl rfl (λhg aa w he hw=>a3V tk rfl rfl rfl he rfl rfl rfl rfl (by omega)) ?_;refine J.qc (a8Y (some (g,o)) L.length c (R3 ops L).length L rfl hz hle hc (by omega)) [2] λ_=>?_;rintro v As ⟨a2,c2,rfl,rfl⟩;refine⟨_,rfl,trivial,?_⟩;refine J.qn 10 λ_=>?_;refine J.v (.slice (K4 (a1y (some (g,o)) 7 (R3 ops L).length c)) (L.length-(R3 ops L).length) (c-(R3 ops L).length)) rfl rfl (λhg aa w he hw=>a1T tk rfl rfl rfl he rfl rfl rfl rfl rfl hle) ?_;refine J.q λ_=>?_;refine J.turn1 [2] rfl (As:=[rdA (K4 (a1y (some (g,o)) 7 (R3 ops L).length c)) 7 (L.length-(R3 ops L).length) ((x8 L).drop ((R3 ops L).length*7))]) (λh s=>Sep.one (b0i (show rdP (K4 (some (g,o))) 7 L.length (x8 L) h from s.get (i:=0) rfl) hle hc)) rfl ?_;refine J.qr [1,2,3] λ_=>?_;refine⟨a1y (some (g,o)) 7 (R3 ops L).length c,c-(R3 ops L).length,a2,c2,a4s hz,by rw[<- hdr,x4];omega,rfl,?_⟩;unfold a9U;rw[<- hdr,x4,a5u,htk];rfl
 ·have hk:k=(R3 ops L).length:=by omega
  rw[show decide ((k:Int)<(L.length:Int))=false from u9 (by omega)];refine J.qn 6 λ_=>?_;refine J.v (pp 0) rfl rfl (λhg a w he hw=>by simp[G.on]at hg) ?_;refine J.qn 1 λ_=>?_;refine J.v (iI 0) rfl rfl (λhg a w he hw=>by simp[G.on]at hg) ?_;refine J.qF λ_=>?_;subst hk;refine J.qn 8 λ_=>?_;refine J.v (.slice (K4 (a)) (R3 ops L).length c) rfl rfl (λhg aa w he hw=>a3V tk rfl rfl rfl he rfl rfl rfl rfl (by omega)) ?_;refine J.qc (a8Y (a) L.length c (R3 ops L).length L rfl hz hle hc (by omega)) [2] λ_=>?_;rintro v As ⟨a2,c2,rfl,rfl⟩;refine⟨_,rfl,trivial,?_⟩;refine J.qn 10 λ_=>?_;refine J.v (.slice (K4 (a1y (a) 7 (R3 ops L).length c)) (L.length-(R3 ops L).length) (c-(R3 ops L).length)) rfl rfl (λhg aa w he hw=>a1T tk rfl rfl rfl he rfl rfl rfl rfl rfl hle) ?_;refine J.q λ_=>?_;refine J.turn1 [2] rfl (As:=[rdA (K4 (a1y (a) 7 (R3 ops L).length c)) 7 (L.length-(R3 ops L).length) ((x8 L).drop ((R3 ops L).length*7))]) (λh s=>Sep.one (b0i (show rdP (K4 (a)) 7 L.length (x8 L) h from s.get (i:=0) rfl) hle hc)) rfl ?_;refine J.qr [1,2,3] λ_=>?_;refine⟨a1y (a) 7 (R3 ops L).length c,c-(R3 ops L).length,a2,c2,a4s hz,by rw[<- hdr,x4];omega,rfl,?_⟩;unfold a9U;rw[<- hdr,x4,a5u,htk];rfl
def flN (N:Nand) (f:Fl):Nand:=(N.fault f.kind f.x f.y f.z f.n f.xx).2
def a0Q (N:Nand) (l:List Fl):Nand:=l.foldl flN N
theorem b5Z (N:Nand) (l:List Fl) {k:Nat} {x:Fl} (h:l[k]? =some x):a0Q N (l.take (k+1))=flN (a0Q N (l.take k)) x:=by
 unfold a0Q;rw[s6,h,y9,z8];rfl
theorem a4n {N:Nand} {k m:Nat} (h:N.Gd k m):∀(l:List Fl),(a0Q N l).Gd k (m+l.length)
 | []=>h
 | f::l=>by
  have:=a4n (h.fault f.kind f.x f.y f.z f.n f.xx) l;rw[m6,show m+(l.length+1)=m+1+l.length from by omega];exact this
theorem c1q (p n:Nat) (a:Option (Nat×Nat)) (c:Nat) (L:List Fl) (hz:a=none->c=0) (hc:L.length<=c) (hn:L.length<=1000) (N:Nand) (k m:Nat) (hG:N.Gd k m):FP 107 [pp p,pp n] (a9U p a c L++[x6 n N])
  (λv As=>∃a' c',(a'=none->c'=0)/\(a2m N.ops L).length<=c'/\v=iI (R3 N.ops L).length/\As=a9U p a' c' (a2m N.ops L)++[x6 n (a0Q N (R3 N.ops L))]):=by
 refine FE [2,4] Tryz.func107 λX F hX=>?_;refine J.qp (b7O n N) [3] λ_=>?_;refine J.qc (c3j p a c L hz hc hn N.ops) [1,2] λ_=>?_;rintro v As ⟨a',c',a2,c2,hz',hc',rfl,rfl⟩;refine⟨_,rfl,trivial,?_⟩;have hle:(R3 N.ops L).length<=L.length:=c1s _ _;obtain⟨R,hR⟩:∃R,a2m N.ops L=R:=⟨_,rfl⟩;obtain⟨D,hD⟩:∃D,R3 N.ops L=D:=⟨_,rfl⟩;rw[hR]at hc' ⊢;rw[hD]at hle ⊢;refine J.q λ_=>?_;refine J.l (α:=Nat) (λj=>j<=D.length) (λj=>[si 14 j,si 13 D.length,sv 12 (slv a2 D.length c2),sv 5 (slv a2 D.length c2),⟨1,pp n,4, .tt⟩]) [3] (λj=>[x6 n (a0Q N (D.take j))]) (λj=>D.length-j) (0) (j4 _) λj hI=>?_;refine J.qd (λ_ h1=>?_) λ_ h1=>?_
 ·simp only[c9,g6]at h1;obtain⟨x,hx⟩:∃x,D[j]? =some x:=⟨_,d5 (by omega)⟩;have hsn:=b5Z N D hx;have hOk:=(a4n hG (D.take j)).ok;refine J.know (λh' s=>u7 (c:=(a2,c2)) (by omega) (s.get (i:=4) rfl)) λhg=>?_;obtain⟨g,rfl⟩:=hg;refine J.q λ_=>?_;refine J.v (flV x) rfl rfl (λhg aa w he hw=>E6 tk rfl rfl he rfl rfl rfl (hw.get (i:=4) rfl) (by rw[show 0+(j:Int).toNat*7=j*7 from by omega];exact O4 flC 7 (λ_=>rfl) D j x hx) rfl) ?_;refine J.qp (a2i n (a0Q N (D.take j)) hOk x.at_ x.kind x.x x.y x.z x.n x.xx) [3] λ_=>?_;rw[show((a0Q N (D.take j)).fault x.kind x.x x.y x.z x.n x.xx).2=a0Q N (D.take (j+1))from hsn.symm];refine J.q λ_=>?_;refine J.n (j+1) (by omega) (by omega) [0,1,2,3,4]
 simp only[c8,g6]at h1;obtain rfl:j=D.length:=by omega
 rw[m7 (j7 _)];refine J.qr [1,2,3] λ_=>?_;rw[hR,hD];exact⟨a',c',hz',hc',rfl,rfl⟩
structure MPv where
 now:List UInt8
 op:Bool
 may:List (List UInt8)
 ever:List (List UInt8)
namespace Mv
def z16:List UInt8:=[0,0,0,0,0,0,0,0,0,0,0,0,0,0,0,0]
def page0:MPv:=⟨z16,false,[z16],[z16]⟩
def new (n:Int):List MPv:=List.replicate (min (max n 0) 65536).toNat page0
def inR (M:List MPv) (i:Int):Bool:=decide (0<=i)&&decide (i<M.length)
def pg (M:List MPv) (i:Int):MPv:=M.getD i.toNat page0
def wr (v:MPv) (d:List UInt8):MPv:=⟨d,false,v.may++[d],v.ever++[d]⟩
def write (M:List MPv) (i:Int) (d:List UInt8):List MPv:=if inR M i then M.set i.toNat (wr (pg M i) d)else M
def flush (M:List MPv):List MPv:=M.map λv=>if v.op then v else {v with may:=[v.now]}
def cut (M:List MPv):List MPv:=M.map λv=>{v with op:=true}
def may (M:List MPv) (i:Int) (d:List UInt8):Bool:=inR M i&&(if(pg M i).op then(pg M i).may.contains d else(pg M i).now==d)
def seen (v:MPv) (d:List UInt8):MPv:=if v.op then⟨d,false,[d],v.ever⟩else v
def saw (M:List MPv) (i:Int) (d:List UInt8):List MPv:=if may M i d then M.set i.toNat (seen (pg M i) d)else M
def once (M:List MPv) (i:Int) (d:List UInt8):Bool:=inR M i&&(pg M i).ever.contains d
end Mv
end Go.Proofs.YtpakpgkdpofbhaaGreat
namespace Go.Proofs.YtpakpgkdpofbhaaGreat
structure Td where
 err:Int
 data:List UInt8
structure Stp where
 fn:Int
 lpn:Int
 data:List UInt8
 n:Int
 keep:Int
 f:Fl
def zd:List UInt8:=Mv.z16
structure Pv where
 L:List Fl
 log:List Td
 Z:Option Fv
 M:Nand
def Fv.setN (Z:Fv) (N:Nand):Fv:={Z with S:={Z.S with N:=N}}
namespace Pv
def nd (P:Pv):Nand:=match P.Z with | some Z=>Z.S.N | none=>P.M
def setN (P:Pv) (N:Nand):Pv:=match P.Z with | some Z=>{P with Z:=some (Z.setN N)} | none=>{P with M:=N}
def run (P:Pv):Pv:={P.setN (a0Q P.nd (R3 P.nd.ops P.L))with L:=a2m P.nd.ops P.L}
def mounts (P:Pv):Pv×Int:=
 let N1:=if P.nd.off then P.nd else P.nd.setCut (-1) 0
 let r:=M4 N1.onN
 if r.2=0 then({P with Z:=some (Fv.of r.1)},0)else({P with Z:=none,M:=r.1.N},r.2)
def does (P:Pv) (s:Stp):Pv×Td:=
 if s.fn=1 then(match P.Z with | some Z=>({P with Z:=some (Z.read s.lpn).1},⟨(Z.read s.lpn).2.2,(Z.read s.lpn).2.1⟩) | none=>(P,⟨12,zd⟩))
 else if s.fn=2 then(match P.Z with | some Z=>({P with Z:=some (Z.write s.lpn s.data).1},⟨(Z.write s.lpn s.data).2,zd⟩) | none=>(P,⟨12,zd⟩))
 else if s.fn=3 then(match P.Z with | some Z=>({P with Z:=some (Z.trim s.lpn).1},⟨(Z.trim s.lpn).2,zd⟩) | none=>(P,⟨12,zd⟩))
 else if s.fn=4 then(match P.Z with | some Z=>({P with Z:=some Z.flush.1},⟨Z.flush.2,zd⟩) | none=>(P,⟨12,zd⟩))
 else if s.fn=5 then(match P.Z with | some Z=>({P with Z:=some Z.tick.1},⟨Z.tick.2,zd⟩) | none=>(P,⟨12,zd⟩))
 else if s.fn=6 then(P.setN (P.nd.setCut s.n s.keep),⟨0,zd⟩)
 else if s.fn=7 then(P.mounts.1,⟨P.mounts.2,zd⟩)
 else if s.fn=8 then(P.setN (P.nd.fault s.f.kind s.f.x s.f.y s.f.z s.f.n s.f.xx).2,if(P.nd.fault s.f.kind s.f.x s.f.y s.f.z s.f.n s.f.xx).1 then⟨0,zd⟩else⟨1,zd⟩)
 else(P,⟨1,zd⟩)
def step (P:Pv) (s:Stp):Pv×Td:=({(P.run.does s).1 with log:=(P.run.does s).1.log++[(P.run.does s).2]},(P.run.does s).2)
def new (D B Pg:Nat) (l:List Fl):Pv:=⟨U5 a2P (plF D B Pg l),[],if(M4 (Nand.new D B Pg)).2=0 then some (Fv.of (M4 (Nand.new D B Pg)).1)else none,(M4 (Nand.new D B Pg)).1.N⟩
end Pv
end Go.Proofs.YtpakpgkdpofbhaaGreat
namespace Go.Proofs.YtpakpgkdpofbhaaGreat
open Go Go.RowKit
structure MSl where
 v:MPv
 a1:Option Nat
 c1:Nat
 a2:Option Nat
 c2:Nat
def J8 (l:List (List UInt8)):List Value:=l.flatMap B1
def MSl.cells (z:MSl):List Value:=[byC z.v.now 0,byC z.v.now 1,byC z.v.now 2,byC z.v.now 3,byC z.v.now 4,byC z.v.now 5,byC z.v.now 6,byC z.v.now 7,byC z.v.now 8,byC z.v.now 9,byC z.v.now 10,byC z.v.now 11,byC z.v.now 12,byC z.v.now 13,byC z.v.now 14,byC z.v.now 15, .bool z.v.op,slv z.a1 z.v.may.length z.c1,slv z.a2 z.v.ever.length z.c2]
theorem MSl.cells_len (z:MSl):z.cells.length=19:=rfl
def MSl.m1 (z:MSl):Atom:=l5 30 16 z.a1 z.v.may.length z.c1 (J8 z.v.may)
def MSl.m2 (z:MSl):Atom:=l5 30 16 z.a2 z.v.ever.length z.c2 (J8 z.v.ever)
def a3j (q g:Nat) (Z:List MSl):List Atom:=[.pt q 118 [.slice (some ⟨g,0,none⟩) Z.length Z.length], .pt g 120 (Z.flatMap MSl.cells), .hp (HP.of (Z.map MSl.m1)), .hp (HP.of (Z.map MSl.m2))]
def Mv.adr (n g:Nat) (i:Int):Option Addr:=if 0<=i/\i<n then some ⟨g,i.toNat*19,none⟩else none
theorem b4o (q g n:Nat) (hn:n<=65536) (i:Int):FP 83 [pp q,iI i] [.pt q 118 [.slice (some ⟨g,0,none⟩) n n]] (Ps (.pointer (Mv.adr n g i)) [.pt q 118 [.slice (some ⟨g,0,none⟩) n n]]):=by
 refine FE [2,0] Tryz.func83 λX F hX=>?_;refine J.qd (λ_ h1=>?_) λ_ h1=>?_
 ·simp only[D1,j8,c9,a0F]at h1;have ha:Mv.adr n g i=none:=by unfold Mv.adr;rw[d7 (by omega)]
  refine J.qr [1] λ_=>?_;rw[ha];exact⟨rfl,rfl⟩
 ·simp only[D1,A5,c8,a0F]at h1;have ha:Mv.adr n g i=some ⟨g,i.toNat*19,none⟩:=by unfold Mv.adr;rw[d8 (by omega)]
  refine J.qr [1] λ_=>?_;rw[ha];exact⟨by simp,rfl⟩
def MSl.none0:MSl:=⟨⟨Mv.z16,false,[],[]⟩,none,0,none,0⟩
theorem MSl.cells_zero (m:Nat):(List.replicate m [Value.int .u8 0, .int .u8 0, .int .u8 0, .int .u8 0, .int .u8 0, .int .u8 0, .int .u8 0, .int .u8 0, .int .u8 0, .int .u8 0, .int .u8 0, .int .u8 0, .int .u8 0, .int .u8 0, .int .u8 0, .int .u8 0, .bool false, .slice none 0 0, .slice none 0 0]).flatten=(List.replicate m MSl.none0).flatMap MSl.cells:=by
 induction m with
 | zero=>rfl
 | succ m ih=>rw[Z9,Z9,List.flatten_cons,q9,ih];rfl
theorem MSl.flat_len (Z:List MSl):(Z.flatMap MSl.cells).length=19*Z.length:=by
 induction Z with
 | nil=>rfl
 | cons z Z ih=>rw[q9,f9,ih,MSl.cells_len,m6];omega
theorem MSl.hps (m:Nat) (h:Hl):Sep [.hp (HP.of ((List.replicate m MSl.none0).map MSl.m1)), .hp (HP.of ((List.replicate m MSl.none0).map MSl.m2))] h:=by
 refine Sep.ofAll λA hA h=>?_;have hx:∀f:MSl->Atom,(∀h,(f MSl.none0).sat h)->(Atom.hp (HP.of ((List.replicate m MSl.none0).map f))).sat h:=λf hf=>by
  exact(Sep.hpOf.2 (Sep.ofAll λA hA h=>by
   rw[X0,List.mem_replicate]at hA;rw[hA.2];exact hf h)).get (i:=0) rfl
 simp only[D6,T9,a5z]at hA;rcases hA with rfl | rfl
 ·exact hx MSl.m1 λh=>⟨rfl,rfl,rfl⟩
 ·exact hx MSl.m2 λh=>⟨rfl,rfl,rfl⟩
theorem b3f (n:Int):FP 31 [iI n] [] (λv As=>∃q g Z,v=pp q/\As=a3j q g Z/\Z.map (·.v)=Mv.new n):=by
 refine FE [0] Tryz.func31 λX F hX=>?_;refine J.qn 9 λ_=>?_;rw[b6O];obtain⟨m,hm⟩:∃m:Nat,min (max n 0) 65536=(m:Int):=⟨(min (max n 0) 65536).toNat,by omega⟩;have hm1:m<=65536:=by omega
 rw[hm];refine J.mk 2 λg=>?_;have hz:(List.replicate m _).flatten=(List.replicate m MSl.none0).flatMap MSl.cells:=MSl.cells_zero m;rw[hz];refine J.q λbq=>?_;refine J.turn1 [] rfl (As:=[.hp (HP.of ((List.replicate m MSl.none0).map MSl.m1)), .hp (HP.of ((List.replicate m MSl.none0).map MSl.m2))]) (λh s=>MSl.hps m h) rfl ?_;refine J.q λ_=>?_;refine J.l (α:=(Nat×List MSl)) (λz=>z.1<=m/\z.2.length=m/\z.2.map (·.v)=List.replicate z.1 Mv.page0++List.replicate (m-z.1) MSl.none0.v) (λz=>[si 16 z.1,si 15 m,⟨3,pp (bq 0),3, .tt⟩]) [1,3,4] (λz=>[.pt g 120 (z.2.flatMap MSl.cells), .hp (HP.of (z.2.map MSl.m1)), .hp (HP.of (z.2.map MSl.m2))]) (λz=>m-z.1) ((0,List.replicate m MSl.none0)) (⟨j4 _,T7,by simp⟩) λz hI=>?_;obtain⟨k,Z⟩:=z;dsimp only at hI ⊢;obtain⟨hk,hZl,hZ⟩:=hI;refine J.qd (λ_ h1=>?_) λ_ h1=>?_
 ·simp only[c9,g6]at h1;obtain⟨z,hz⟩:∃z,Z[k]? =some z:=⟨_,d5 (by omega)⟩;refine J.openAt 3 k rfl rfl (by rw[j6,hz];rfl) rfl ?_;refine J.openAt 4 k rfl rfl (by rw[j6,hz];rfl) rfl ?_;refine J.p (.take true 0 (.take true 1 (.take true 2 (.take false 3 (.take true 4 (.take true 5 (.take true 6 (.take true 7 (.take false 8 (.take true 9 (.alt false 10 ((.take true 12 (.take true 13 (.alt false 11 ((.of [58,60,64,71])) (.alt false 14 ((.of [46,60,64,71])) .non))))) (.alt false 11 ((.of [42,48,52,58,60,64,71])) .non)))))))))))) [15,16,17] [2] λ_=>?_;have hoff:∀j,0+(k:Int).toNat*19+j=k*19+j:=λj=>by omega
  have hlt:∀j,j<19->0+(k:Int).toNat*19+j<(Z.flatMap MSl.cells).length:=λj hj=>by
   rw[MSl.flat_len,hoff];have:k*19+19<=19*Z.length:=by omega
   omega
  have Q9:∀y:MSl,(Z.set k y)[k]? =some y:=λy=>by rw[r9,d8 rfl,d8 (by omega)]
  refine J.join (α:=Nat×Nat) (λ_=>[si 16 k,si 15 m,⟨3,pp (bq 0),3, .tt⟩]) (λx=>[.hp F, .pt g 120 ((Z.set k ⟨⟨z.v.now,z.v.op,[Mv.z16],[Mv.z16]⟩,some x.1,1,some x.2,1⟩).flatMap MSl.cells), .pt (bq 0) 118 [.slice (some ⟨g,0,none⟩) m m], .hp (HP.of ((Z.map MSl.m1).set k .emp)), .hp (HP.of ((Z.map MSl.m2).set k .emp)),l5 30 16 (some x.1) 1 1 (J8 [Mv.z16]),l5 30 16 (some x.2) 1 1 (J8 [Mv.z16])]) (λhj=>?_) (λx=>?_)
  ·refine J.q λ_=>?_;refine J.alts ?_ ?_
   ·skip
    refine J.mk 8 λga=>?_;refine J.cO 30 16 1 1 (J8 [Mv.z16]) 7 ?_;refine J.q λ_=>?_;refine J.alts ?_ ?_
    ·skip
     refine J.mk 9 λgb=>?_;refine J.cO 30 16 1 1 (J8 [Mv.z16]) 8 ?_;refine J.s1 1 ((Z.set k ⟨⟨z.v.now,z.v.op,[Mv.z16],z.v.ever⟩,some ga,1,z.a2,z.c2⟩).flatMap MSl.cells) ?_ ?_ ?_
     ·exact hlt 17 (by omega)
     ·rw[hoff 17];exact I2 MSl.cells 19 MSl.cells_len 17 _ hz (by omega) rfl
     refine J.qn 2 λ_=>?_;refine J.s1 1 ((Z.set k ⟨⟨z.v.now,z.v.op,[Mv.z16],[Mv.z16]⟩,some ga,1,some gb,1⟩).flatMap MSl.cells) ?_ ?_ ?_
     ·rw[MSl.flat_len,n8,<- MSl.flat_len];exact hlt 18 (by omega)
     ·rw[hoff 18];exact(I2 MSl.cells 19 MSl.cells_len 18 (y:=⟨⟨z.v.now,z.v.op,[Mv.z16],[Mv.z16]⟩,some ga,1,some gb,1⟩) _ (Q9 ⟨⟨z.v.now,z.v.op,[Mv.z16],z.v.ever⟩,some ga,1,z.a2,z.c2⟩) (by omega) rfl).trans (by rw[L9])
     exact J.goto [0,1,2,3,4,7,8] (hj (ga,gb)) ⟨rfl,rfl,rfl,trivial⟩ rfl rfl
    ·skip
     refine J.s1 1 ((Z.set k ⟨⟨z.v.now,z.v.op,[Mv.z16],z.v.ever⟩,some ga,1,z.a2,z.c2⟩).flatMap MSl.cells) ?_ ?_ ?_
     ·exact hlt 17 (by omega)
     ·rw[hoff 17];exact I2 MSl.cells 19 MSl.cells_len 17 _ hz (by omega) rfl
     refine J.mk 9 λgb=>?_;refine J.cO 30 16 1 1 (J8 [Mv.z16]) 8 ?_;refine J.qn 2 λ_=>?_;refine J.s1 1 ((Z.set k ⟨⟨z.v.now,z.v.op,[Mv.z16],[Mv.z16]⟩,some ga,1,some gb,1⟩).flatMap MSl.cells) ?_ ?_ ?_
     ·rw[MSl.flat_len,n8,<- MSl.flat_len];exact hlt 18 (by omega)
     ·rw[hoff 18];exact(I2 MSl.cells 19 MSl.cells_len 18 (y:=⟨⟨z.v.now,z.v.op,[Mv.z16],[Mv.z16]⟩,some ga,1,some gb,1⟩) _ (Q9 ⟨⟨z.v.now,z.v.op,[Mv.z16],z.v.ever⟩,some ga,1,z.a2,z.c2⟩) (by omega) rfl).trans (by rw[L9])
     exact J.goto [0,1,2,3,4,7,8] (hj (ga,gb)) ⟨rfl,rfl,rfl,trivial⟩ rfl rfl
   ·skip
    refine J.mk 8 λgb=>?_;refine J.cO 30 16 1 1 (J8 [Mv.z16]) 7 ?_;refine J.mk 9 λga=>?_;refine J.cO 30 16 1 1 (J8 [Mv.z16]) 8 ?_;refine J.qn 2 λ_=>?_;refine J.s1 1 ((Z.set k ⟨⟨z.v.now,z.v.op,[Mv.z16],z.v.ever⟩,some ga,1,z.a2,z.c2⟩).flatMap MSl.cells) ?_ ?_ ?_
    ·exact hlt 17 (by omega)
    ·rw[hoff 17];exact I2 MSl.cells 19 MSl.cells_len 17 _ hz (by omega) rfl
    refine J.qn 2 λ_=>?_;refine J.s1 1 ((Z.set k ⟨⟨z.v.now,z.v.op,[Mv.z16],[Mv.z16]⟩,some ga,1,some gb,1⟩).flatMap MSl.cells) ?_ ?_ ?_
    ·rw[MSl.flat_len,n8,<- MSl.flat_len];exact hlt 18 (by omega)
    ·rw[hoff 18];exact(I2 MSl.cells 19 MSl.cells_len 18 (y:=⟨⟨z.v.now,z.v.op,[Mv.z16],[Mv.z16]⟩,some ga,1,some gb,1⟩) _ (Q9 ⟨⟨z.v.now,z.v.op,[Mv.z16],z.v.ever⟩,some ga,1,z.a2,z.c2⟩) (by omega) rfl).trans (by rw[L9])
    exact J.goto [0,1,2,3,4,8,7] (hj (ga,gb)) ⟨rfl,rfl,rfl,trivial⟩ rfl rfl
  obtain⟨ga,gb⟩:=x;dsimp only;obtain⟨y,hy⟩:∃y:MSl,y=⟨⟨z.v.now,z.v.op,[Mv.z16],[Mv.z16]⟩,some ga,1,some gb,1⟩:=⟨_,rfl⟩;rw[<- hy,show l5 30 16 (some ga) 1 1 (J8 [Mv.z16])=y.m1 from by rw[hy];rfl,show l5 30 16 (some gb) 1 1 (J8 [Mv.z16])=y.m2 from by rw[hy];rfl];refine J.closeAt (A:=y.m1) 3 5 k rfl rfl rfl ?_;refine J.closeAt (A:=y.m2) 4 6 k rfl rfl rfl ?_;rw[<- D7,<- D7];have hzv:z.v=MSl.none0.v:=by
   have h2:(Z.map (·.v))[k]? =some z.v:=by rw[j6,hz];rfl
   rw[hZ,y6 (by simp),T7,D3,d8 (by omega)]at h2;injection h2 with h2;exact h2.symm
  have hyv:y.v=Mv.page0:=by rw[hy];show(⟨z.v.now,z.v.op,[Mv.z16],[Mv.z16]⟩:MPv)=_;rw[hzv];rfl
  have hZ2:(Z.set k y).map (·.v)=List.replicate (k+1) Mv.page0++List.replicate (m-(k+1)) MSl.none0.v:=by
   rw[D7,hZ,hyv,show m-k=(m-(k+1))+1 from by omega,Z9 (n:=m-(k+1)),P8 _ _ (by simp),T7,U6,a0r,a4u (n:=k),s8];rfl
  refine J.q λ_=>?_;refine J.n ((k+1,Z.set k y)) (⟨by dsimp only;omega,by dsimp only;rw[n8];exact hZl,hZ2⟩) (by dsimp only;omega) [0,1,2,3,4]
 simp only[c8,g6]at h1;obtain rfl:k=m:=by omega
 refine J.qr [2,1,3,4] λ_=>?_;refine⟨bq 0,g,Z,rfl,?_,?_⟩
 ·rw[<- hZl];rfl
 ·rw[hZ,U6];unfold Mv.new;rw[hm];simp
structure Pad where
 f:Nat
 p:Nat
 t:Nat
 l:Nat
 d:Nat
 fp:Nat
 a:Option (Nat×Nat)
 c:Nat
 a2:Option Nat
 c2:Nat
def tdC (t:Td):List Value:=[iI t.err,byC t.data 0,byC t.data 1,byC t.data 2,byC t.data 3,byC t.data 4,byC t.data 5,byC t.data 6,byC t.data 7,byC t.data 8,byC t.data 9,byC t.data 10,byC t.data 11,byC t.data 12,byC t.data 13,byC t.data 14,byC t.data 15]
def tdV (t:Td):Value:= .agg (tdC t).toArray
def J3 (l:List Td):List Value:=l.flatMap tdC
def flP (o:Option Fv) (f:Nat):Value:=match o with | some _=>pp f | none=> .pointer none
def a0z (n:Nat) (A:Pad) (P:Pv):List Atom:=match P.Z with | some Z=>FvP A.f A.p n A.t A.l A.d Z | none=>[x6 n P.M]
def a0K (q n:Nat) (A:Pad) (P:Pv):List Atom:=[.pt q 165 [pp n,flP P.Z A.f,pp A.fp,slv A.a2 P.log.length A.c2], .pt A.fp 247 [.slice (K4 A.a) P.L.length A.c],rdA (K4 A.a) 7 P.L.length (x8 P.L),l5 61 17 A.a2 P.log.length A.c2 (J3 P.log)]++a0z n A P
structure Pad.Ok (A:Pad) (P:Pv):Prop where
 z:A.a=none->A.c=0
 c:P.L.length<=A.c
theorem c0i (q n:Nat) (r:Value) (r2 r3:Value):FP 50 [pp q] [.pt q 165 [pp n,r,r2,r3]] (λv As=>v=pp n/\As=[.pt q 165 [pp n,r,r2,r3]]):=by
 refine FE [2] Tryz.func50 λX F hX=>?_;refine J.qF λ_=>?_;exact J.qx [1]
theorem b7r (q n:Nat) (o:Option Fv) (f:Nat) (r2 r3:Value):FP 60 [pp q] [.pt q 165 [pp n,flP o f,r2,r3]] (λv As=>v=flP o f/\As=[.pt q 165 [pp n,flP o f,r2,r3]]):=by
 refine FE [2] Tryz.func60 λX F hX=>?_;refine J.qF λ_=>?_;cases o with
 | none=>
  exact J.qx [1]
 | some Z=>
  exact J.qx [1]
theorem b4f (a:Option Nat):oad a=K4 (a.map λg=>(g,0)):=by cases a<;>rfl
theorem a3k (d b p:Nat) (h:D8 d b p=true) (k:Nat) (hk:k<4611686018427387904):(Nand.new d b p).Gd k 0:=by
 have g:=Nand.Gd.new d b p h 0 (by omega);exact⟨g.ok,by show(0:Int)+k<_;omega,by show(0:Int)+k<_;omega,g.nodup,g.few⟩
theorem b7q (D B Pg:Nat) (hg:D8 D B Pg=true) (A:Atom) (ad:Option Addr) (n c:Nat) (l:List Fl) (hA:Rd A ad 7 n (x8 l)) (hl:l.length=n) (hn:n<=15):FP 49 [.agg #[iI D,iI B,iI Pg], .slice ad n c] [A] (λv As=>∃q nn A',v=pp q/\A'.Ok (Pv.new D B Pg l)/\As=A::a0K q nn A' (Pv.new D B Pg l)):=by
 have hbd:(3<=D/\D<=6)/\(8<=B/\B<=16)/\(2<=Pg/\Pg<=8):=by simp[D8]at hg;omega
 refine FE [0,0] Tryz.func49 λX F hX=>?_;refine J.qc (a7M D B Pg hg) [] λ_=>?_;rintro v As ⟨nn,rfl,rfl⟩;refine⟨_,rfl,trivial,?_⟩;refine J.qF λ_=>?_;have hG:(Nand.new D B Pg).Gd (Dv.costK+0) 0:=a3k D B Pg hg _ (by decide);refine J.qc (a1R nn (Nand.new D B Pg) 0 0 hG (by decide) rfl) [3] λ_=>?_;have hlen:(U5 a2P (plF D B Pg l)).length=(plF D B Pg l).length:=(a3O _ _).length_eq;rintro v As (⟨he,f,p,t,ll,d,rfl,rfl⟩ | ⟨he,rfl,rfl⟩)
 ·refine⟨_,rfl,trivial,?_⟩;refine J.qc (c1r D B Pg (by omega) (by omega) (by omega) A ad n c l hA hl hn) [1] λ_=>?_;rintro v As ⟨fp,a,c',rfl,rfl⟩;refine⟨_,rfl,trivial,?_⟩;refine J.know (λh' s=>a0w (show a0E _ _ a (plF D B Pg l).length c' _ _ from s.get (i:=10) rfl)) λhcap=>?_;refine J.know (λh' s=>a7J (show a0E _ _ a (plF D B Pg l).length c' _ _ from s.get (i:=10) rfl)) λhnil=>?_;have hsl:∀n c,slv a n c= .slice (K4 (a.map λg=>(g,0))) n c:=λn c=>by cases a<;>rfl
  rw[hsl];refine J.turn1 [10] rfl (As:=[rdA (K4 (a.map λg=>(g,0))) 7 (plF D B Pg l).length (x8 (U5 a2P (plF D B Pg l)))]) (λh s=>Sep.one (by have:=R8 57 7 a (plF D B Pg l).length c' (x8 (U5 a2P (plF D B Pg l))) _ (s.get (i:=0) rfl);rw[b4f]at this;exact this)) rfl ?_;refine J.turn1 [] rfl (As:=[l5 61 17 none 0 0 (J3 [])]) (λh s=>Sep.one ⟨rfl,rfl,rfl⟩) rfl ?_;refine J.q λbq=>?_;refine J.ru hX [1,12,9,10,11,3,4,5,6,7,8] ?_;refine⟨bq 0,nn,⟨f,p,t,ll,d,fp,a.map λg=>(g,0),c',none,0⟩,rfl,⟨λe=>hnil (by cases a with | none=>rfl | some g=>cases e),by show(U5 a2P (plF D B Pg l)).length<=_;rw[hlen];exact hcap⟩,?_⟩;unfold a0K a0z;show _=A::([.pt (bq 0) 165 [pp nn,flP (if(M4 (Nand.new D B Pg)).2=0 then some (Fv.of (M4 (Nand.new D B Pg)).1)else none) _,_,_], .pt fp _ [.slice _ (U5 a2P (plF D B Pg l)).length _],rdA _ 7 (U5 a2P (plF D B Pg l)).length _,_]++(match(if(M4 (Nand.new D B Pg)).2=0 then some (Fv.of (M4 (Nand.new D B Pg)).1)else none)with | some Z=>_ | none=>_));rw[d8 he,hlen];rfl
 ·refine⟨_,rfl,trivial,?_⟩;refine J.qc (c1r D B Pg (by omega) (by omega) (by omega) A ad n c l hA hl hn) [1] λ_=>?_;rintro v As ⟨fp,a,c',rfl,rfl⟩;refine⟨_,rfl,trivial,?_⟩;refine J.know (λh' s=>a0w (show a0E _ _ a (plF D B Pg l).length c' _ _ from s.get (i:=5) rfl)) λhcap=>?_;refine J.know (λh' s=>a7J (show a0E _ _ a (plF D B Pg l).length c' _ _ from s.get (i:=5) rfl)) λhnil=>?_;have hsl:∀n c,slv a n c= .slice (K4 (a.map λg=>(g,0))) n c:=λn c=>by cases a<;>rfl
  rw[hsl];refine J.turn1 [5] rfl (As:=[rdA (K4 (a.map λg=>(g,0))) 7 (plF D B Pg l).length (x8 (U5 a2P (plF D B Pg l)))]) (λh s=>Sep.one (by have:=R8 57 7 a (plF D B Pg l).length c' (x8 (U5 a2P (plF D B Pg l))) _ (s.get (i:=0) rfl);rw[b4f]at this;exact this)) rfl ?_;refine J.turn1 [] rfl (As:=[l5 61 17 none 0 0 (J3 [])]) (λh s=>Sep.one ⟨rfl,rfl,rfl⟩) rfl ?_;refine J.q λbq=>?_;refine J.ru hX [1,7,4,5,6,3] ?_;refine⟨bq 0,nn,⟨0,0,0,0,0,fp,a.map λg=>(g,0),c',none,0⟩,rfl,⟨λe=>hnil (by cases a with | none=>rfl | some g=>cases e),by show(U5 a2P (plF D B Pg l)).length<=_;rw[hlen];exact hcap⟩,?_⟩;unfold a0K a0z;show _=A::([.pt (bq 0) 165 [pp nn,flP (if(M4 (Nand.new D B Pg)).2=0 then some (Fv.of (M4 (Nand.new D B Pg)).1)else none) _,_,_], .pt fp _ [.slice _ (U5 a2P (plF D B Pg l)).length _],rdA _ 7 (U5 a2P (plF D B Pg l)).length _,_]++(match(if(M4 (Nand.new D B Pg)).2=0 then some (Fv.of (M4 (Nand.new D B Pg)).1)else none)with | some Z=>_ | none=>_));rw[d7 he,hlen];rfl
def stC (s:Stp):List Value:=[iI s.fn,iI s.lpn,byC s.data 0,byC s.data 1,byC s.data 2,byC s.data 3,byC s.data 4,byC s.data 5,byC s.data 6,byC s.data 7,byC s.data 8,byC s.data 9,byC s.data 10,byC s.data 11,byC s.data 12,byC s.data 13,byC s.data 14,byC s.data 15,iI s.n,iI s.keep,iI s.f.at_,iI s.f.kind,iI s.f.x,iI s.f.y,iI s.f.z,iI s.f.n,iI s.f.xx]
def stV (s:Stp):Value:= .agg (stC s).toArray
def PlQ (q n:Nat) (o:Option Fv) (f:Nat) (r2 r3:Value):Atom:= .pt q 165 [pp n,flP o f,r2,r3]
theorem b5f (q n:Nat) (A:Pad) (P:Pv) (Z:Fv) (hZ:P.Z=some Z) (r2 r3:Value) (k m:Nat) (hG:Z.S.N.Gd (Dv.costK+k) m) (hm:m<=1000):FP 178 [pp q] (PlQ q n P.Z A.f r2 r3::a0z n A P) (λv As=>∃A':Pad,v=iI P.mounts.2/\(A'.fp=A.fp/\A'.a=A.a/\A'.c=A.c/\A'.a2=A.a2/\A'.c2=A.c2)/\((∃Y,P.mounts.1={P with Z:=some Y}/\As=PlQ q n (some Y) A'.f r2 r3::FvP A'.f A'.p n A'.t A'.l A'.d Y)\/∃M,P.mounts.1={P with Z:=none,M:=M}/\As=[PlQ q n none A'.f r2 r3,x6 n M])):=by
 have hnd:P.nd=Z.S.N:=by unfold Pv.nd;rw[hZ]
 have hms:P.mounts=if(M4 ((if Z.S.N.off then Z.S.N else Z.S.N.setCut (-1) 0).onN)).2=0 then({P with Z:=some (Fv.of (M4 ((if Z.S.N.off then Z.S.N else Z.S.N.setCut (-1) 0).onN)).1)},0)else({P with Z:=none,M:=(M4 ((if Z.S.N.off then Z.S.N else Z.S.N.setCut (-1) 0).onN)).1.N},(M4 ((if Z.S.N.off then Z.S.N else Z.S.N.setCut (-1) 0).onN)).2):=by unfold Pv.mounts;rw[hnd]
 rw[show a0z n A P=FvP A.f A.p n A.t A.l A.d Z from by unfold a0z;rw[hZ],hZ];refine FE [2] Tryz.func178 λX F hX=>?_;refine J.qp (a4e n Z.S.N) [4] λ_=>?_;refine J.qd (λ_ h1=>?_) λ_ h1=>?_
 ·have hoff:Z.S.N.off=false:=by simpa using h1
  have e:(if Z.S.N.off=true then Z.S.N else Z.S.N.setCut (-1) 0)=Z.S.N.setCut (-1) 0:=d7 (by rw[hoff];decide);rw[e]at hms;have hG2:(Z.S.N.setCut (-1) 0).onN.Gd (Dv.costK+k) m:=(hG.cut (-1) 0 (by decide) (by decide)).on;refine J.qp (a9o n Z.S.N (-1) 0) [4] λ_=>?_;refine J.qp (b5w n (Z.S.N.setCut (-1) 0)) [4] λ_=>?_;refine J.qc (a1R n ((Z.S.N.setCut (-1) 0)).onN k m hG2 hm rfl) [4] λ_=>?_;rintro v As (⟨he,f,p,t,ll,d,rfl,rfl⟩ | ⟨he,rfl,rfl⟩)
  ·refine⟨_,rfl,trivial,?_⟩;rw[d8 he]at hms;refine J.qr [1,4,8,9,10,11,12] λ_=>?_;exact⟨⟨f,p,t,ll,d,A.fp,A.a,A.c,A.a2,A.c2⟩,by rw[hms],⟨rfl,rfl,rfl,rfl,rfl⟩, .inl ⟨_,by rw[hms],rfl⟩⟩
  ·refine⟨_,rfl,trivial,?_⟩;rw[d7 he]at hms;refine J.qr [1,4] λ_=>?_;exact⟨A,by rw[hms],⟨rfl,rfl,rfl,rfl,rfl⟩, .inr ⟨_,by rw[hms],rfl⟩⟩
 ·have hoff:Z.S.N.off=true:=by simpa using h1
  have e:(if Z.S.N.off=true then Z.S.N else Z.S.N.setCut (-1) 0)=Z.S.N:=d8 hoff;rw[e]at hms;have hG2:Z.S.N.onN.Gd (Dv.costK+k) m:=hG.on;refine J.qp (b5w n Z.S.N) [4] λ_=>?_;refine J.qc (a1R n (Z.S.N).onN k m hG2 hm rfl) [4] λ_=>?_;rintro v As (⟨he,f,p,t,ll,d,rfl,rfl⟩ | ⟨he,rfl,rfl⟩)
  ·refine⟨_,rfl,trivial,?_⟩;rw[d8 he]at hms;refine J.qr [1,4,8,9,10,11,12] λ_=>?_;exact⟨⟨f,p,t,ll,d,A.fp,A.a,A.c,A.a2,A.c2⟩,by rw[hms],⟨rfl,rfl,rfl,rfl,rfl⟩, .inl ⟨_,by rw[hms],rfl⟩⟩
  ·refine⟨_,rfl,trivial,?_⟩;rw[d7 he]at hms;refine J.qr [1,4] λ_=>?_;exact⟨A,by rw[hms],⟨rfl,rfl,rfl,rfl,rfl⟩, .inr ⟨_,by rw[hms],rfl⟩⟩
theorem c0h (q n:Nat) (A:Pad) (P:Pv) (Z:Fv) (hZ:P.Z=some Z) (r2 r3:Value) (k m:Nat) (hO:Z.Ok (Fv.cW*200+(Dv.costS+(Dv.costK+(1+k)))) m) (hm:m<=1000) (s:Stp) (hs:s.data.length=16):FP 108 [pp q,stV s] (PlQ q n P.Z A.f r2 r3::a0z n A P) (λv As=>∃A':Pad,v=tdV (P.does s).2/\(A'.fp=A.fp/\A'.a=A.a/\A'.c=A.c/\A'.a2=A.a2/\A'.c2=A.c2)/\((∃Y,(P.does s).1={P with Z:=some Y}/\As=PlQ q n (some Y) A'.f r2 r3::FvP A'.f A'.p n A'.t A'.l A'.d Y)\/∃M,(P.does s).1={P with Z:=none,M:=M}/\As=[PlQ q n none A'.f r2 r3,x6 n M])):=by
 have hnd:P.nd=Z.S.N:=by unfold Pv.nd;rw[hZ]
 have hdv:∀Y,a0z n A {P with Z:=some Y}=FvP A.f A.p n A.t A.l A.d Y:=λY=>rfl;have hs1:∀b,s.fn=b->True:=λ_ _=>trivial;rw[show a0z n A P=FvP A.f A.p n A.t A.l A.d Z from by unfold a0z;rw[hZ],hZ];refine FE [2,0] Tryz.func108 λX F hX=>?_;refine J.qd (λ_ h1=>?_) λ_ h1=>?_
 ·have e1:s.fn=1:=by simpa using h1
  have hd:P.does s=({P with Z:=some (Z.read s.lpn).1},⟨(Z.read s.lpn).2.2,(Z.read s.lpn).2.1⟩):=by unfold Pv.does;rw[d8 e1,hZ]
  refine J.pn 7 (.take true 0 (.take true 1 (.take true 2 (.take false 3 (.take true 4 (.take false 5 (.alt false 6 ((.of [28,32,36,42,46,48])) (.alt false 10 ((.of [26,28,32,36,46,48])) .non)))))))) [12] [1,8] λ_ _=>?_;refine J.alts ?_ ?_
  ·skip
   refine J.qp (a4m A.f A.p n A.t A.l A.d Z _ m hO s.lpn) [2,3,4,5,6,7] λ_=>?_;refine J.qr [1,2,3,4,5,6,7] λ_=>?_;refine⟨A,?_,⟨rfl,rfl,rfl,rfl,rfl⟩, .inl ⟨_,by rw[hd],rfl⟩⟩;rw[hd];rfl
  ·skip
   refine J.qn 1 λ_=>?_;refine J.qp (a4m A.f A.p n A.t A.l A.d Z _ m hO s.lpn) [2,3,4,5,6,7] λ_=>?_;refine J.qr [1,2,3,4,5,6,7] λ_=>?_;refine⟨A,?_,⟨rfl,rfl,rfl,rfl,rfl⟩, .inl ⟨_,by rw[hd],rfl⟩⟩;rw[hd];rfl
 have e1:s.fn≠1:=by simpa using h1
 refine J.qd (λ_ h2=>?_) λ_ h2=>?_
 ·have e2:s.fn=2:=by simpa using h2
  have hd:P.does s=({P with Z:=some (Z.write s.lpn s.data).1},⟨(Z.write s.lpn s.data).2,zd⟩):=by unfold Pv.does;rw[d7 e1,d8 e2,hZ]
  refine J.pq (.of [0,4,8,13,16,21,24,29,34,36,43]) [10] [1,8] λ_ _=>?_;refine J.ca hX (by kernel_rfl) (a8e A.f A.p n A.t A.l A.d Z _ m (hO.less (k':=Fv.cW+(1+k)) (by omega)) hm s.lpn s.data hs) [2,3,4,5,6,7] 0 rfl rfl rfl rfl rfl rfl (λ_=>rfl) ?_;refine cpq ⟨_,rfl,stq,?_⟩;refine J.qr [1,2,3,4,5,6,7] λ_=>?_;refine⟨A,?_,⟨rfl,rfl,rfl,rfl,rfl⟩, .inl ⟨_,by rw[hd],rfl⟩⟩;rw[hd];rfl
 have e2:s.fn≠2:=by simpa using h2
 refine J.qd (λ_ h3=>?_) λ_ h3=>?_
 ·have e3:s.fn=3:=by simpa using h3
  have hd:P.does s=({P with Z:=some (Z.trim s.lpn).1},⟨(Z.trim s.lpn).2,zd⟩):=by unfold Pv.does;rw[d7 e1,d7 e2,d8 e3,hZ]
  refine J.pq (.of [0,4,8,13,16,21,26,28,35]) [8] [1,8] λ_ _=>?_;refine J.ca hX (by kernel_rfl) (b4v A.f A.p n A.t A.l A.d Z _ m (hO.less (k':=Fv.cW+(1+k)) (by omega)) hm s.lpn) [2,3,4,5,6,7] 0 rfl rfl rfl rfl rfl rfl (λ_=>rfl) ?_;refine cpq ⟨_,rfl,stq,?_⟩;refine J.qr [1,2,3,4,5,6,7] λ_=>?_;refine⟨A,?_,⟨rfl,rfl,rfl,rfl,rfl⟩, .inl ⟨_,by rw[hd],rfl⟩⟩;rw[hd];rfl
 have e3:s.fn≠3:=by simpa using h3
 refine J.qd (λ_ h4=>?_) λ_ h4=>?_
 ·have e4:s.fn=4:=by simpa using h4
  have hd:P.does s=({P with Z:=some Z.flush.1},⟨Z.flush.2,zd⟩):=by unfold Pv.does;rw[d7 e1,d7 e2,d7 e3,d8 e4,hZ]
  refine J.q λ_=>?_;refine J.ca hX (by kernel_rfl) (b2e A.f A.p n A.t A.l A.d Z _ m (hO.less (k':=Fv.cW*200+k) (by omega)) hm) [2,3,4,5,6,7] 0 rfl rfl rfl rfl rfl rfl (λ_=>rfl) ?_;refine cpq ⟨_,rfl,trivial,?_⟩;refine J.qr [1,2,3,4,5,6,7] λ_=>?_;refine⟨A,?_,⟨rfl,rfl,rfl,rfl,rfl⟩, .inl ⟨_,by rw[hd],rfl⟩⟩;rw[hd];rfl
 have e4:s.fn≠4:=by simpa using h4
 refine J.qd (λ_ h5=>?_) λ_ h5=>?_
 ·have e5:s.fn=5:=by simpa using h5
  have hd:P.does s=({P with Z:=some Z.tick.1},⟨Z.tick.2,zd⟩):=by unfold Pv.does;rw[d7 e1,d7 e2,d7 e3,d7 e4,d8 e5,hZ]
  refine J.q λ_=>?_;refine J.ca hX (by kernel_rfl) (b4w A.f A.p n A.t A.l A.d Z _ m (hO.less (k':=Dv.costS+k) (by omega)) hm) [2,3,4,5,6,7] 0 rfl rfl rfl rfl rfl rfl (λ_=>rfl) ?_;refine cpq ⟨_,rfl,trivial,?_⟩;refine J.qr [1,2,3,4,5,6,7] λ_=>?_;refine⟨A,?_,⟨rfl,rfl,rfl,rfl,rfl⟩, .inl ⟨_,by rw[hd],rfl⟩⟩;rw[hd];rfl
 have e5:s.fn≠5:=by simpa using h5
 refine J.qd (λ_ h6=>?_) λ_ h6=>?_
 ·have e6:s.fn=6:=by simpa using h6
  have hd:P.does s=(P.setN (Z.S.N.setCut s.n s.keep),⟨0,zd⟩):=by unfold Pv.does;rw[d7 e1,d7 e2,d7 e3,d7 e4,d7 e5,d8 e6,hnd]
  have hsn:P.setN (Z.S.N.setCut s.n s.keep)={P with Z:=some (Z.setN (Z.S.N.setCut s.n s.keep))}:=by unfold Pv.setN;rw[hZ]
  rw[hsn]at hd;refine J.p (.of [0,4,8,13,16,21,24,29,34]) [] [1,8] λ_=>?_;refine J.qp (a9o n Z.S.N s.n s.keep) [4] λ_=>?_;refine J.qr [1,2,3,4,5,6,7] λ_=>?_;refine⟨A,?_,⟨rfl,rfl,rfl,rfl,rfl⟩, .inl ⟨_,by rw[hd],rfl⟩⟩;rw[hd];rfl
 have e6:s.fn≠6:=by simpa using h6
 refine J.qd (λ_ h7=>?_) λ_ h7=>?_
 ·have e7:s.fn=7:=by simpa using h7
  have hd:P.does s=(P.mounts.1,⟨P.mounts.2,zd⟩):=by unfold Pv.does;rw[d7 e1,d7 e2,d7 e3,d7 e4,d7 e5,d7 e6,d8 e7]
  have hmm:=b5f q n A P Z hZ r2 r3 _ m (hO.dv.gd.less (k':=Dv.costK+(1+k)) (by omega) (j7 m)) hm;rw[show a0z n A P=FvP A.f A.p n A.t A.l A.d Z from by unfold a0z;rw[hZ],hZ]at hmm;refine J.qc (hmm) [1,2,3,4,5,6,7] λ_=>?_;rintro v As ⟨A',rfl,hA',(⟨Y,hY,rfl⟩ | ⟨M,hY,rfl⟩)⟩
  ·refine⟨_,rfl,trivial,?_⟩;refine J.qr [1,2,3,4,5,6,7] λ_=>?_;refine⟨A',?_,hA', .inl ⟨Y,by rw[hd,hY],rfl⟩⟩;rw[hd];rfl
  ·refine⟨_,rfl,trivial,?_⟩;refine J.qr [1,2] λ_=>?_;refine⟨A',?_,hA', .inr ⟨M,by rw[hd,hY],rfl⟩⟩;rw[hd];rfl
 have e7:s.fn≠7:=by simpa using h7
 refine J.qd (λ_ h8=>?_) λ_ h8=>?_
 ·have e8:s.fn=8:=by simpa using h8
  obtain⟨Q,hQ⟩:∃Q,Q=Z.S.N.fault s.f.kind s.f.x s.f.y s.f.z s.f.n s.f.xx:=⟨_,rfl⟩;have hd:P.does s=({P with Z:=some (Z.setN Q.2)},if Q.1 then⟨0,zd⟩else⟨1,zd⟩):=by unfold Pv.does;rw[d7 e1,d7 e2,d7 e3,d7 e4,d7 e5,d7 e6,d7 e7,d8 e8,hnd,<- hQ];unfold Pv.setN;rw[hZ]
  refine J.p (.of [0,4,8,13,16,21,26]) [] [1,8] λ_=>?_;refine J.qp (a2i n Z.S.N hO.dv.gd.ok s.f.at_ s.f.kind s.f.x s.f.y s.f.z s.f.n s.f.xx) [4] λ_=>?_;rw[<- hQ];refine J.qd (λ_ h9=>?_) λ_ h9=>?_
  ·rw[d8 h9]at hd;refine J.qr [1,2,3,4,5,6,7] λ_=>?_;refine⟨A,?_,⟨rfl,rfl,rfl,rfl,rfl⟩, .inl ⟨_,by rw[hd],rfl⟩⟩;rw[hd];rfl
  ·rw[d7 (by rw[h9];decide)]at hd;refine J.qr [1,2,3,4,5,6,7] λ_=>?_;refine⟨A,?_,⟨rfl,rfl,rfl,rfl,rfl⟩, .inl ⟨_,by rw[hd],rfl⟩⟩;rw[hd];rfl
 have e8:s.fn≠8:=by simpa using h8
 have hd:P.does s=(P,⟨1,zd⟩):=by unfold Pv.does;rw[d7 e1,d7 e2,d7 e3,d7 e4,d7 e5,d7 e6,d7 e7,d7 e8]
 refine J.qr [1,2,3,4,5,6,7] λ_=>?_;refine⟨A,?_,⟨rfl,rfl,rfl,rfl,rfl⟩, .inl ⟨Z,?_,rfl⟩⟩
 ·rw[hd];rfl
 ·rw[hd];show P={P with Z:=some Z};rw[<- hZ]
theorem Dv.Ok.setN {S:Dv} {k m m':Nat} {N:Nand} (h:S.Ok k m) (hl:S.N.Like N) (hG:N.Gd k m'):({S with N:=N}:Dv).Ok k m':=⟨hG,h.t.like hl,h.T,h.sl,h.row,h.next⟩
theorem Fv.Ok.setN {Z:Fv} {k m m':Nat} {N:Nand} (h:Z.Ok k m) (hl:Z.S.N.Like N) (hG:N.Gd k m'):(Z.setN N).Ok k m':=⟨h.dv.setN hl hG,h.dat,λe he=>by have:=h.rng e he;unfold Fv.lg at this ⊢;rw[show(Z.setN N).S.N=N from rfl,b1S hl];exact this,h.nd,h.nx⟩
theorem a5f (N:Nand):∀(l:List Fl),N.Like (a0Q N l)
 | []=>Nand.Like.refl N
 | f::l=>(Nand.like_fault N f.kind f.x f.y f.z f.n f.xx).trans (a5f (flN N f) l)
theorem a0B (l:List Td) (x:Td):J3 l++tdC x=J3 (l++[x]):=by unfold J3;rw[C5];simp
theorem a6U (q n:Nat) (A:Pad) (P:Pv) (hA:A.Ok P) (Z:Fv) (hZ:P.Z=some Z) (k m:Nat) (hO:Z.Ok (Fv.cW*200+(Dv.costS+(Dv.costK+(1+k)))) m) (hm:m+(R3 Z.S.N.ops P.L).length<=1000) (hL:P.L.length<=1000) (hlg:P.log.length<=1000) (s:Stp) (hs:s.data.length=16):FP 53 [pp q,stV s] (a0K q n A P) (λv As=>∃A':Pad,v=tdV (P.step s).2/\A'.Ok (P.step s).1/\As=a0K q n A' (P.step s).1):=by
 have hnd:P.nd=Z.S.N:=by unfold Pv.nd;rw[hZ]
 obtain⟨D,hD⟩:∃D,R3 Z.S.N.ops P.L=D:=⟨_,rfl⟩;obtain⟨R,hR⟩:∃R,a2m Z.S.N.ops P.L=R:=⟨_,rfl⟩;rw[hD]at hm;have hrun:P.run=⟨R,P.log,some (Z.setN (a0Q Z.S.N D)),P.M⟩:=by unfold Pv.run;rw[hnd,hD,hR];unfold Pv.setN;rw[hZ]
 have hO2:(Z.setN (a0Q Z.S.N D)).Ok (Fv.cW*200+(Dv.costS+(Dv.costK+(1+k)))) (m+D.length):=hO.setN (a5f _ _) (a4n hO.dv.gd D);have hst:P.step s=({(P.run.does s).1 with log:=(P.run.does s).1.log++[(P.run.does s).2]},(P.run.does s).2):=rfl;unfold a0K;rw[show a0z n A P=FvP A.f A.p n A.t A.l A.d Z from by unfold a0z;rw[hZ],hZ];refine FE [2,0] Tryz.func53 λX F hX=>?_;refine J.qF λ_=>?_;refine J.p (.of [0,4,8,13,16,20,24,29,34]) [] [1] λ_=>?_;refine J.qc (c1q A.fp n A.a A.c P.L hA.z hA.c hL Z.S.N _ m hO.dv.gd) [2,3,7] λ_=>?_;rintro v As ⟨a',c',hz',hc',rfl,rfl⟩;refine⟨_,rfl,stq,?_⟩;rw[hR]at hc' ⊢;rw[hD];have hdo:=c0h q n A ⟨R,P.log,some (Z.setN (a0Q Z.S.N D)),P.M⟩ (Z.setN (a0Q Z.S.N D)) rfl (pp A.fp) (slv A.a2 P.log.length A.c2) k (m+D.length) hO2 hm s hs;rw[<- hrun]at hdo;rw[hrun]at hdo;obtain⟨W,hW⟩:∃W,(⟨R,P.log,some (Z.setN (a0Q Z.S.N D)),P.M⟩:Pv).does s=W:=⟨_,rfl⟩;rw[hrun,hW]at hst;rw[hW]at hdo;obtain⟨Wp,wt⟩:=W;dsimp only at hdo hst;refine J.qc (hdo) [1,5,6,7,8,9,10] λ_=>?_;rintro v As ⟨A',rfl,⟨q1,q2,q3,q4,q5⟩,(⟨Y,hY,rfl⟩ | ⟨M,hY,rfl⟩)⟩
 ·refine⟨_,rfl,trivial,?_⟩;refine J.pq (.of [0,4,8,12,17,21,26,30,32,36,43]) [8,9,10] [1,13] λ_ _=>?_;refine J.ap 4 14 0 (a0B P.log wt) λa3 c3=>?_;refine J.qr [1,2,3,4,5,6,7,8,9,10] λ_=>?_;refine⟨⟨A'.f,A'.p,A'.t,A'.l,A'.d,A.fp,a',c',a3,c3⟩,?_,?_,?_⟩
  ·rw[hst];rfl
  ·rw[hst,hY];exact⟨hz',hc'⟩
  ·rw[hst,hY];dsimp only;rw[f9];rfl
 ·refine⟨_,rfl,trivial,?_⟩;refine J.pq (.of [0,4,8,12,17,21,26,30,32,36,43]) [8,9,10] [1,13] λ_ _=>?_;refine J.ap 4 14 0 (a0B P.log wt) λa3 c3=>?_;refine J.qr [1,2,3,4,5] λ_=>?_;refine⟨⟨A'.f,A'.p,A'.t,A'.l,A'.d,A.fp,a',c',a3,c3⟩,?_,?_,?_⟩
  ·rw[hst];rfl
  ·rw[hst,hY];exact⟨hz',hc'⟩
  ·rw[hst,hY];dsimp only;rw[f9];rfl
theorem b2q (l:List Td):∀u∈J3 l,u.oneCell'=true:=by
 intro u hu;simp only[J3,H0]at hu;obtain⟨s,_,hu⟩:=hu;simp only[tdC,D6,T9,a5z]at hu;rcases hu with rfl | rfl | rfl | rfl | rfl | rfl | rfl | rfl | rfl | rfl | rfl | rfl | rfl | rfl | rfl | rfl | rfl<;>rfl
theorem b4N (a:Option Nat) (n cap:Nat) (l:List Td) (hl:l.length=n) (hn:n<=1000000):FP 115 [slv a n cap] [l5 61 17 a n cap (J3 l)]
  (λv As=>∃a' c',v=slv a' n c'/\As=[l5 61 17 a n cap (J3 l),l5 61 17 a' n c' (J3 l)]):=by
 refine FE [0] Tryz.func115 λX F hX=>?_;cases a with
 | none=>
  refine J.know (λh' s=>(s.get (i:=1) rfl).2) λhn0=>?_;obtain⟨rfl,rfl⟩:=hn0;have:l=[]:=s7 hl;subst this;refine J.qT λ_=>?_;refine J.turn1 [] rfl (As:=[l5 61 17 none 0 0 (J3 [])]) (λh s=>Sep.one ⟨rfl,rfl,rfl⟩) rfl ?_;refine J.qr [1,2] λ_=>?_;exact⟨none,0,rfl,rfl⟩
 | some g=>
  refine J.qF λ_=>?_;refine J.qn 5 λbb=>?_;refine J.closeOwn (e:=61) (size:=17) (n:=0) (cap:=0) (xs:=[]) 2 rfl rfl rfl (j7 _) (j4 _) rfl rfl rfl ?_;refine J.q λ_=>?_;refine J.appendR hX tk (a:=some (bb 0)) (n:=0) (cap:=0) (xs:=[]) (oo:=0) (Ay:=l5 61 17 (some g) n cap (J3 l)) 2 1 0 rfl rfl rfl rfl rfl rfl rfl rfl rfl rfl (R8 _ _ (some g) _ _ _) rfl rfl rfl rfl (b2q l) ?_ ?_ (λ_=>rfl) λa' c'=>⟨_,rfl,trivial,?_⟩
  ·simp only[maxLen];omega
  ·omega
  rw[I8 n,J6];refine J.qr [1,2] λ_=>?_;exact⟨a',c',rfl,rfl⟩
theorem b2T (q n:Nat) (A:Pad) (P:Pv) (hl:P.log.length<=1000):FP 62 [pp q] [PlQ q n P.Z A.f (pp A.fp) (slv A.a2 P.log.length A.c2),l5 61 17 A.a2 P.log.length A.c2 (J3 P.log)]
  (λv As=>∃a' c',v=slv a' P.log.length c'/\As=[PlQ q n P.Z A.f (pp A.fp) (slv A.a2 P.log.length A.c2),l5 61 17 A.a2 P.log.length A.c2 (J3 P.log),l5 61 17 a' P.log.length c' (J3 P.log)]):=by
 refine FE [2] Tryz.func62 λX F hX=>?_;refine J.qF λ_=>?_;refine J.qc (b4N A.a2 P.log.length A.c2 P.log rfl (by omega)) [2] λ_=>?_;rintro v As ⟨a',c',rfl,rfl⟩;refine⟨_,rfl,trivial,?_⟩;refine J.qr [1,2,3] λ_=>?_;exact⟨a',c',rfl,rfl⟩
def a2q (d b p:Int):Int:=if D8 d b p then 12*d*b*p+40 else 0
def a1z (d b p:Int):Int:=if D8 d b p then(lgN d.toNat b.toNat p.toNat:Int)+2*b else 0
theorem a6g (d b p:Int):FP 26 [.agg #[iI d,iI b,iI p]] [] (Ps (iI (a2q d b p)) []):=by
 refine FE [0] Tryz.func26 λX F hX=>?_;refine J.qp (a5o d b p) [] λ_=>?_;refine J.qd (λ_ h1=>?_) λ_ h1=>?_
 ·have hg:D8 d b p=false:=by simpa using h1
  refine J.qr [] λ_=>?_;exact⟨by unfold a2q;rw[hg];rfl,rfl⟩
 ·have hg:D8 d b p=true:=by simpa using h1
  have hbd:(3<=d/\d<=6)/\(8<=b/\b<=16)/\(2<=p/\p<=8):=by simp[D8]at hg;omega
  have m1:0<=12*d*b/\12*d*b<=1152:=by
   have h1:=R7 (show 0<=12*d by omega) (show 0<=b by omega);have h2:=Q1 (show 12*d<=72 by omega) (show b<=16 by omega) (by omega) (by omega);omega
  have m2:0<=12*d*b*p/\12*d*b*p<=9216:=by
   have h1:=R7 m1.1 (show 0<=p by omega);have h2:=Q1 m1.2 (show p<=8 by omega) (by omega) (by omega);omega
  refine J.qr [] λ_=>?_;exact⟨by unfold a2q;rw[hg];rfl,rfl⟩
theorem c3P (d b p:Int):0<=a2q d b p/\a2q d b p<=9256:=by
 unfold a2q
 by_cases hg:D8 d b p=true
 ·rw[d8 hg];have hbd:(3<=d/\d<=6)/\(8<=b/\b<=16)/\(2<=p/\p<=8):=by simp[D8]at hg;omega
  have m1:0<=12*d*b/\12*d*b<=1152:=by
   have h1:=R7 (show 0<=12*d by omega) (show 0<=b by omega);have h2:=Q1 (show 12*d<=72 by omega) (show b<=16 by omega) (by omega) (by omega);omega
  have h1:=R7 m1.1 (show 0<=p by omega);have h2:=Q1 m1.2 (show p<=8 by omega) (by omega) (by omega);omega
 ·rw[d7 hg];omega
theorem a8y (d b p:Int):FP 27 [.agg #[iI d,iI b,iI p]] [] (Ps (iI (2*a2q d b p)) []):=by
 refine FE [0] Tryz.func27 λX F hX=>?_;refine J.qp (a6g d b p) [] λ_=>?_;have:=c3P d b p;exact J.qx []
theorem a8x (d b p:Int):FP 28 [.agg #[iI d,iI b,iI p]] [] (Ps (iI (a1z d b p)) []):=by
 refine FE [0] Tryz.func28 λX F hX=>?_;refine J.qp (a5o d b p) [] λ_=>?_;refine J.qd (λ_ h1=>?_) λ_ h1=>?_
 ·have hg:D8 d b p=false:=by simpa using h1
  refine J.qr [] λ_=>?_;exact⟨by unfold a1z;rw[hg];rfl,rfl⟩
 ·have hg:D8 d b p=true:=by simpa using h1
  have hbd:(3<=d/\d<=6)/\(8<=b/\b<=16)/\(2<=p/\p<=8):=by simp[D8]at hg;omega
  obtain⟨D,rfl⟩:=g7 (show 0<=d by omega);obtain⟨B,rfl⟩:=g7 (show 0<=b by omega);obtain⟨P,rfl⟩:=g7 (show 0<=p by omega);have hlg:=b0w D B P (by omega) (by omega);have h200:1<=lgN D B P/\lgN D B P<=200:=a3d (a3k D B P hg 0 (by decide)).ok;refine J.p (.of [1,8,13,16,6,20,24]) [5,6] [1] λ_=>?_;refine J.qp (a4l D B P hg) [] λ_=>?_;rw[hlg];refine J.qr [] λ_=>?_;exact⟨by unfold a1z;rw[hg];rfl,rfl⟩
def Fv.allG:Nat->Int->Fv->Fv×List (List UInt8)×Int
 | 0,_,Z=>(Z,[],0)
 | n+1,i,Z=>if(Z.read i).2.2≠0 then((Z.read i).1,[],(Z.read i).2.2)else((Fv.allG n (i+1) (Z.read i).1).1,(Z.read i).2.1::(Fv.allG n (i+1) (Z.read i).1).2.1,(Fv.allG n (i+1) (Z.read i).1).2.2)
theorem Fv.allG_succ (n:Nat) (i:Int) (Z:Fv):Fv.allG (n+1) i Z=if(Z.read i).2.2≠0 then((Z.read i).1,[],(Z.read i).2.2)else((Fv.allG n (i+1) (Z.read i).1).1,(Z.read i).2.1::(Fv.allG n (i+1) (Z.read i).1).2.1,(Fv.allG n (i+1) (Z.read i).1).2.2):=rfl
def Fv.all (Z:Fv):Fv×List (List UInt8)×Int:=if(Fv.allG Z.lg.toNat 0 Z).2.2≠0 then((Fv.allG Z.lg.toNat 0 Z).1,[],(Fv.allG Z.lg.toNat 0 Z).2.2)else Fv.allG Z.lg.toNat 0 Z
theorem b0N (l:List (List UInt8)) (d:List UInt8):J8 l++B1 d=J8 (l++[d]):=by unfold J8;rw[C5];simp
theorem c2P (f p n t l d:Nat) (Z:Fv) (k m:Nat) (hO:Z.Ok k m):FP 61 [pp f] (FvP f p n t l d Z)
  (λv As=>∃a c,v= .tuple #[slv a Z.all.2.1.length c,iI Z.all.2.2]/\As=FvP f p n t l d Z.all.1++[l5 30 16 a Z.all.2.1.length c (J8 Z.all.2.1)]):=by
 refine FE [2] Tryz.func61 λX F hX=>?_;refine J.q λb9=>?_;refine J.cF ?_;refine J.qp (a3f f n t l p d Z hO.dv.gd.ok) [1,3] λ_=>?_;have hlb:=Fv.lg_bd (F:=Z) hO.dv.gd.ok;obtain⟨N,hN⟩:=g7 (show 0<=Z.lg by omega);rw[hN];have hall:Z.all=if(Fv.allG N 0 Z).2.2≠0 then((Fv.allG N 0 Z).1,[],(Fv.allG N 0 Z).2.2)else Fv.allG N 0 Z:=by unfold Fv.all;rw[hN];rfl
 refine J.q λ_=>?_;refine J.turn1 [] rfl (As:=[l5 30 16 none 0 0 (J8 [])]) (λh s=>Sep.one ⟨rfl,rfl,rfl⟩) rfl ?_;refine J.q λ_=>?_;refine J.l (α:=(Nat×Fv×List (List UInt8)×Option Nat×Nat)) (λz=>z.1<=N/\z.2.1.Ok k m/\z.2.2.1.length=z.1/\Fv.allG N 0 Z=((Fv.allG (N-z.1) z.1 z.2.1).1,z.2.2.1++(Fv.allG (N-z.1) z.1 z.2.1).2.1,(Fv.allG (N-z.1) z.1 z.2.1).2.2)) (λz=>[si 12 z.1,si 11 N,⟨0,pp f,2, .tt⟩,sv 4 (slv z.2.2.2.1 z.2.2.1.length z.2.2.2.2)]) [1,2,3,4,5,6,7] (λz=>(FvP f p n t l d z.2.1++[l5 30 16 z.2.2.2.1 z.2.2.1.length z.2.2.2.2 (J8 z.2.2.1)])) (λz=>N-z.1) ((0,Z,[],none,0)) (⟨j4 _,hO,rfl,rfl⟩) λz hI=>?_;obtain⟨j,Y,acc,ga,ca⟩:=z;dsimp only at hI ⊢;obtain⟨hj,hY,hacc,hgo⟩:=hI;refine J.qd (λ_ h1=>?_) λ_ h1=>?_
 ·simp only[c9,g6]at h1;have hk:=Fv.read_keep hY j;rw[show N-j=(N-(j+1))+1 from by omega]at hgo;rw[Fv.allG_succ]at hgo;refine J.qp (a4m f p n t l d Y k m hY j) [1,2,3,4,5,6] λ_=>?_;generalize Y.read j=R at hgo hk ⊢;obtain⟨Y2,dd,er⟩:=R;dsimp only at hgo hk ⊢;refine J.qd (λ_ h2=>?_) λ_ h2=>?_
  ·have he:er≠0:=by simpa using h2
   rw[d8 he]at hgo;rw[hgo,d8 he]at hall;refine J.turn1 [] rfl (As:=[l5 30 16 none 0 0 (J8 [])]) (λh s=>Sep.one ⟨rfl,rfl,rfl⟩) rfl ?_;refine J.qr [1,2,3,4,5,6,9] λ_=>?_;rw[hall];exact⟨none,0,rfl,rfl⟩
  ·have he:er=0:=by simpa using h2
   rw[d7 (λh=>h he)]at hgo;refine J.qn 5 λb9=>?_;refine J.ap 7 9 0 (b0N acc dd) λa3 c3=>?_;refine J.q λ_=>?_;rw[show acc.length+1=(acc++[dd]).length from by simp];refine J.q λ_=>?_;refine J.n ((j+1,Y2,acc++[dd],a3,c3)) (⟨by dsimp only;omega,hk.1,by dsimp only;rw[f9];exact congrArg (· +1) hacc,by dsimp only;rw[hgo,s8];rfl⟩) (by dsimp only;omega) [0,1,2,3,4,5,6,7]
 simp only[c8,g6]at h1;obtain rfl:j=N:=by omega
 rw[U6,show Fv.allG 0 (j:Int) Y=(Y,[],0)from rfl,n9]at hgo;rw[hgo,d7 (by simp)]at hall;refine J.qr [1,2,3,4,5,6,7] λ_=>?_;rw[hall];exact⟨ga,ca,rfl,rfl⟩
def Fv.ticksG:Nat->Int->Fv->Fv×Int
 | 0,i,Z=>(Z.whole.1,if Z.whole.2 then i else-1)
 | f+1,i,Z=>if Z.whole.2 then(Z.whole.1,i)else if Z.whole.1.tick.2≠0 then(Z.whole.1.tick.1,-1)else Fv.ticksG f (i+1) Z.whole.1.tick.1
theorem Fv.ticksG_succ (f:Nat) (i:Int) (Z:Fv):Fv.ticksG (f+1) i Z=if Z.whole.2 then(Z.whole.1,i)else if Z.whole.1.tick.2≠0 then(Z.whole.1.tick.1,-1)else Fv.ticksG f (i+1) Z.whole.1.tick.1:=rfl
def a9p (most:Int):Nat:=(min (max most 0) 10000).toNat
def Fv.ticks (Z:Fv) (most:Int):Fv×Int:=Fv.ticksG (a9p most) 0 Z
theorem b9k (f p n t l d:Nat) (Z:Fv) (k m:Nat) (most:Int) (hO:Z.Ok (Dv.costS*a9p most+k) m) (hm:m<=1000):FP 65 [pp f,iI most] (FvP f p n t l d Z)
  (Ps (iI (Z.ticks most).2) (FvP f p n t l d (Z.ticks most).1)):=by
 obtain⟨M,hM⟩:∃M,a9p most=M:=⟨_,rfl⟩;have hMM:min (max most 0) 10000=(M:Int):=by rw[<- hM];unfold a9p;omega
 have hM1:M<=10000:=by omega
 rw[show Z.ticks most=Fv.ticksG M 0 Z from by unfold Fv.ticks;rw[hM]];rw[hM]at hO;refine FE [2,0] Tryz.func65 λX F hX=>?_;refine J.qn 9 λ_=>?_;have e:(if(10000:Int)<if(0:Int)>most then 0 else most then 10000 else if(0:Int)>most then 0 else most)=(M:Int):=by
  rw[<- hMM];split<;>split<;>omega
 rw[e];refine J.q λ_=>?_;refine J.l (α:=(Nat×Fv)) (λz=>(z.1<=M/\z.2.Ok (Dv.costS*(M-z.1)+k) m/\Fv.ticksG M 0 Z=Fv.ticksG (M-z.1) z.1 z.2)\/(z.1=M+1/\Fv.ticksG M 0 Z=(z.2,-1))) (λz=>[si 11 z.1,⟨10,iI ((M:Int)+1),0, .tt⟩,⟨0,pp f,2, .tt⟩,si 1 M]) [1,2,3,4,5,6] (λz=>FvP f p n t l d z.2) (λz=>M+1-z.1) ((0,Z)) (.inl ⟨j4 _,hO,rfl⟩) λz hI=>?_;obtain⟨j,Y⟩:=z;dsimp only at hI ⊢;refine J.qd (λ_ h1=>?_) λ_ h1=>?_
 ·simp only[c9]at h1;obtain⟨hj,hY,hgo⟩:j<=M/\Y.Ok (Dv.costS*(M-j)+k) m/\Fv.ticksG M 0 Z=Fv.ticksG (M-j) j Y:=by
   rcases hI with h | h
   ·exact h
   ·omega
  have hw:=Fv.whole_keep hY;refine J.qp (b8L f p n t l d Y _ m hY) [1,2,3,4,5,6] λ_=>?_;obtain⟨W,hW⟩:∃W,Y.whole=W:=⟨_,rfl⟩;rw[hW]at hw ⊢;obtain⟨Y1,wb⟩:=W;dsimp only at hw ⊢;refine J.qd (λ_ h2=>?_) λ_ h2=>?_
  ·have hr:Fv.ticksG (M-j) j Y=(Y1,(j:Int)):=by
    cases hc:M-j with
    | zero=>show(Y.whole.1,if Y.whole.2 then(j:Int)else-1)=_;rw[hW,d8 h2]
    | succ c=>rw[Fv.ticksG_succ,hW,d8 h2]
   refine J.qr [1,2,3,4,5,6] λ_=>?_;rw[hgo,hr];exact⟨rfl,rfl⟩
  refine J.qn 6 λ_=>?_;rcases Q7 j M with hjM | hjM
  ·rw[show decide ((j:Int)<(M:Int))=true from j3 (by omega)];obtain⟨c,hc⟩:∃c,M-j=c+1:=⟨M-j-1,by omega⟩;have hO1:Y1.Ok (Dv.costS+(Dv.costS*c+k)) m:=hw.1.less (by rw[hc,W2];omega);have htk:=Fv.tick_keep hO1;refine J.qp (b4w f p n t l d Y1 _ m hO1 hm) [1,2,3,4,5,6] λ_=>?_;have hr:Fv.ticksG (M-j) j Y=if Y1.tick.2≠0 then(Y1.tick.1,-1)else Fv.ticksG c (j+1) Y1.tick.1:=by
    rw[hc,Fv.ticksG_succ,hW,d7 (by rw[h2];exact s9)]
   obtain⟨W,hW2⟩:∃W,Y1.tick=W:=⟨_,rfl⟩;rw[hW2]at htk hr ⊢;obtain⟨Y2,er⟩:=W;dsimp only at htk hr ⊢;refine J.qd (λ_ h3=>?_) λ_ h3=>?_
   ·have he:er≠0:=by simpa using h3
    rw[d8 he]at hr;refine J.qr [1,2,3,4,5,6] λ_=>?_;rw[hgo,hr];exact⟨rfl,rfl⟩
   ·have he:er=0:=by simpa using h3
    rw[d7 (λh=>h he)]at hr;refine J.q λ_=>?_;refine J.n ((j+1,Y2)) (.inl ⟨by dsimp only;omega,by dsimp only;rw[show M-(j+1)=c from by omega];exact htk.1,by dsimp only;rw[show M-(j+1)=c from by omega,hgo,hr];rfl⟩) (by dsimp only;omega) [0,1,2,3,4,5,6]
  ·obtain rfl:j=M:=by omega
   rw[show decide ((j:Int)<(j:Int))=false from u9 (by omega)];refine J.q λ_=>?_;refine J.v (iI 0) rfl rfl (λhg a w he hw=>by simp[G.on]at hg) ?_;refine J.qF λ_=>?_;refine J.q λ_=>?_;refine J.n ((j+1,Y1)) (.inr ⟨rfl,by rw[hgo,U6];show(Y.whole.1,if Y.whole.2 then(j:Int)else-1)=_;rw[hW,d7 (by rw[h2];exact s9)]⟩) (by dsimp only;omega) [0,1,2,3,4,5,6]
 simp only[c8]at h1;obtain⟨rfl,hgo⟩:j=M+1/\Fv.ticksG M 0 Z=(Y,-1):=by
  rcases hI with h | h
  ·omega
  ·exact h
 refine J.qr [1,2,3,4,5,6] λ_=>?_;rw[hgo];exact⟨rfl,rfl⟩
def flS:Stp:=⟨4,0,zd,0,0,dF⟩
theorem Pv.step_flush (P:Pv) (Z:Fv) (hZ:P.Z=some Z) (s:Stp) (hs:s.fn=4):P.step s=(⟨a2m Z.S.N.ops P.L,P.log++[⟨(Z.setN (a0Q Z.S.N (R3 Z.S.N.ops P.L))).flush.2,zd⟩],some (Z.setN (a0Q Z.S.N (R3 Z.S.N.ops P.L))).flush.1,P.M⟩,⟨(Z.setN (a0Q Z.S.N (R3 Z.S.N.ops P.L))).flush.2,zd⟩):=by
 have hnd:P.nd=Z.S.N:=by unfold Pv.nd;rw[hZ]
 have hrun:P.run=⟨a2m Z.S.N.ops P.L,P.log,some (Z.setN (a0Q Z.S.N (R3 Z.S.N.ops P.L))),P.M⟩:=by unfold Pv.run;rw[hnd];unfold Pv.setN;rw[hZ]
 have hd:P.run.does s=({P.run with Z:=some (Z.setN (a0Q Z.S.N (R3 Z.S.N.ops P.L))).flush.1},⟨(Z.setN (a0Q Z.S.N (R3 Z.S.N.ops P.L))).flush.2,zd⟩):=by
  rw[hrun];unfold Pv.does;rw[d7 (by rw[hs];decide),d7 (by rw[hs];decide),d7 (by rw[hs];decide),d8 hs]
 unfold Pv.step;rw[hd,hrun]
theorem c1l (q n:Nat) (A:Pad) (P:Pv) (hA:A.Ok P) (Z:Fv) (hZ:P.Z=some Z) (most:Int) (k m:Nat) (hO:Z.Ok (Fv.cW*200+(Dv.costS+(Dv.costK+(1+(Dv.costS*a9p most+k))))) m) (hoff:Z.S.N.off=false) (hm:m+(R3 Z.S.N.ops P.L).length<=1000) (hL:P.L.length<=1000) (hlg:P.log.length<=1000) (Z1:Fv) (hZ1:(P.step flS).1.Z=some Z1):FP 64 [pp q,iI most] (a0K q n A P)
  (λv As=>∃A':Pad,v= .bool (decide ((Z1.ticks most).2>=0))/\A'.Ok {(P.step flS).1 with Z:=some (Z1.ticks most).1}/\As=a0K q n A' {(P.step flS).1 with Z:=some (Z1.ticks most).1}):=by
 have hsf:=Pv.step_flush P Z hZ flS rfl;obtain⟨D,hD⟩:∃D,R3 Z.S.N.ops P.L=D:=⟨_,rfl⟩;rw[hD]at hm hsf;have hO2:(Z.setN (a0Q Z.S.N D)).Ok (Fv.cW*200+(Dv.costS+(Dv.costK+(1+(Dv.costS*a9p most+k))))) (m+D.length):=hO.setN (a5f _ _) (a4n hO.dv.gd D);have hkp:=Fv.flush_keep hO2;have hz1:Z1=(Z.setN (a0Q Z.S.N D)).flush.1:=by rw[hsf]at hZ1;injection hZ1 with e;exact e.symm
 rw[<- hz1]at hkp;have hst:=a6U q n A P hA Z hZ _ m hO (by rw[hD];exact hm) hL hlg flS rfl;have hone:(P.step flS).1=⟨a2m Z.S.N.ops P.L,(P.step flS).1.log,some Z1,P.M⟩:=by rw[hsf,hz1]
 have hpl:a0K q n A P=[PlQ q n (some Z) A.f (pp A.fp) (slv A.a2 P.log.length A.c2), .pt A.fp 247 [.slice (K4 A.a) P.L.length A.c],rdA (K4 A.a) 7 P.L.length (x8 P.L),l5 61 17 A.a2 P.log.length A.c2 (J3 P.log)]++FvP A.f A.p n A.t A.l A.d Z:=by unfold a0K a0z;rw[hZ];rfl
 rw[hpl]at hst ⊢;refine FE [2,0] Tryz.func64 λX F hX=>?_;refine J.qp (c0i q n (flP (some Z) A.f) (pp A.fp) (slv A.a2 P.log.length A.c2)) [1] λ_=>?_;refine J.qp (a4e n Z.S.N) [7] λ_=>?_;rw[hoff];refine J.qp (b7r q n (some Z) A.f (pp A.fp) (slv A.a2 P.log.length A.c2)) [1] λ_=>?_;refine J.qF λ_=>?_;refine J.qc (hst) [1,2,3,4,5,6,7,8,9,10] λ_=>?_;rintro v As ⟨A',rfl,hA',rfl⟩;rw[hone]at hA' ⊢;refine⟨_,rfl,trivial,?_⟩;refine J.qp (b7r q n (some Z1) A'.f (pp A'.fp) (slv A'.a2 (P.step flS).1.log.length A'.c2)) [1] λ_=>?_;refine J.qp (b9k A'.f A'.p n A'.t A'.l A'.d Z1 k (m+D.length) most (hkp.1.less (by omega)) hm) [5,6,7,8,9,10] λ_=>?_;refine J.qr [1,2,3,4,5,6,7,8,9,10] λ_=>?_;refine⟨A',rfl,?_,?_⟩
 ·rw[hone];exact⟨hA'.z,hA'.c⟩
 ·rw[hone];rfl
theorem c1f (x d:List UInt8):decide (d=x)=(x==d):=by
 by_cases h:x=d
 ·rw[h];simp
 ·rw[u9 (λe=>h e.symm),beq_eq_false_iff_ne.2 h]
theorem b6x (a:Option Nat) (n c:Nat) (l:List (List UInt8)) (hl:l.length=n) (hn:n<=1000000) (d:List UInt8) (hd:d.length=16) (hs:∀x∈l,x.length=16):FP 147 [slv a n c,a1m d] [l5 30 16 a n c (J8 l)] (λv As=>v=iI (match l.findIdx? (λx=>x==d)with | some k=>(k:Int) | none=> -1)/\As=[l5 30 16 a n c (J8 l)]):=by
 refine FE [0,0] Tryz.func147 λX F hX=>?_;refine J.q λbb=>?_;refine J.l (α:=Nat) (λk=>k<=n/\∀j,j<k->∀x,l[j]? =some x->(x==d)=false) (λk=>[si 8 k,si 7 n,sv 0 (slv a n c),⟨3,pp (bb 0),3, .tt⟩]) [] (λk=>[]) (λk=>n-k) (0) (⟨j4 _,λj hj=>absurd hj (Nat.not_lt_zero _)⟩) λk hI=>?_;obtain⟨hk,hno⟩:=hI;refine J.qd (λ_ h1=>?_) λ_ h1=>?_
 ·simp only[c9,g6]at h1;obtain⟨x,hx⟩:∃x,l[k]? =some x:=⟨_,d5 (by omega)⟩;refine J.know (λh' s=>u7 (c:=(a,c)) (by omega) (s.get (i:=1) rfl)) λhg=>?_;obtain⟨g,rfl⟩:=hg;refine J.pn 4 (.of [1,4,8,12,17,20]) [] [1,2] λ_ _=>?_;have hxl:=hs x (l7 hx);refine J.vT (a1m x) rfl rfl (λhg aa w he hC=>E6 tk rfl rfl he rfl rfl rfl (hC rfl _ (r8 (i:=1) rfl)) (by rw[show 0+(k:Int).toNat*16=k*16 from by omega];exact O4 B1 16 (λ_=>rfl) l k x hx) rfl) ?_;refine J.vT (.bool (x==d)) rfl rfl (λhg aa w he hC=>(I5 (xs:=B1 d) (ys:=B1 x) rfl rfl rfl he rfl rfl T6 (O5 _) (O5 _) mkD gdD).trans (by rw[eqD _ _ hd hxl,c1f])) ?_;refine J.qd (λ_ h2=>?_) λ_ h2=>?_
  ·have hf:l.findIdx? (λx=>x==d)=some k:=by
    rw[s5];obtain⟨g1,g2⟩:=List.getElem?_eq_some_iff.1 hx;refine⟨g1,by rw[g2];exact h2,λj hj=>?_⟩;have:=hno j hj _ (d5 (by omega));rw[this];exact s9
   refine J.qr [1] λ_=>?_;rw[hf];exact⟨rfl,rfl⟩
  ·refine J.q λ_=>?_;refine J.nS (k+1) (⟨by omega,λj hj y hy=>by
    rcases Q7 j k with h | h
    ·exact hno j h y hy
    ·obtain rfl:j=k:=by omega
     rw[hx]at hy;injection hy with hy;rw[<- hy];exact h2⟩) (by omega) [0,1,2] rfl rfl
 simp only[c8,g6]at h1;have hf:l.findIdx? (λx=>x==d)=none:=by
  rw[B8];intro x hx;obtain⟨j,hj⟩:=List.getElem?_of_mem hx;exact hno j (by have:=(List.getElem?_eq_some_iff.1 hj).1;omega) x hj
 refine J.qr [1] λ_=>?_;rw[hf];exact⟨rfl,rfl⟩
theorem b8u (l:List (List UInt8)) (d:List UInt8):decide ((match l.findIdx? (λx=>x==d)with | some k=>(k:Int) | none=> -1)>=0)=l.contains d:=by
 cases h:l.findIdx? (λx=>x==d)with
 | none=>
  rw[B8]at h;have:l.contains d=false:=by
   rw[List.contains_eq_any_beq,a2T];intro x hx e;have:=h x hx;rw[eq_of_beq e]at this;simp at this
  rw[this];rfl
 | some k=>
  rw[s5]at h;obtain⟨h1,h2,_⟩:=h;have:l.contains d=true:=by
   rw[List.contains_eq_any_beq,List.any_eq_true];exact⟨_,I0 h1,by rw[eq_of_beq h2];simp⟩
  rw[this,j3 (by dsimp only;omega)]
theorem b3J (a:Option Nat) (n c:Nat) (l:List (List UInt8)) (hl:l.length=n) (hn:n<=1000000) (d:List UInt8) (hd:d.length=16) (hs:∀x∈l,x.length=16):FP 84 [slv a n c,a1m d] [l5 30 16 a n c (J8 l)] (Ps (.bool (l.contains d)) [l5 30 16 a n c (J8 l)]):=by
 refine FE [0,0] Tryz.func84 λX F hX=>?_;refine J.qp (b6x a n c l hl hn d hd hs) [1] λ_=>?_;have hc:=b8u l d;refine J.qr [1] λ_=>?_;exact⟨by rw[<- hc],rfl⟩
theorem a5Y {α:Type} (f:α->List Value) (w:Nat) (hw:∀x,(f x).length=w) (vs:List Value):∀{l:List α} {k:Nat} {x y:α},l[k]? =some x->vs.length<=w->vs++(f x).drop vs.length=f y->(l.flatMap f).take (k*w)++vs++(l.flatMap f).drop (k*w+vs.length)=(l.set k y).flatMap f
 | [],k,x,y,h,hj,e=>by simp at h
 | z::l,0,x,y,h,hj,e=>by
  simp only[R0,l8]at h;subst h;rw[L7,I8,W9,J6,q9,List.drop_append_of_le_length (by rw[hw];exact hj),<- s8,e];rfl
 | z::l,k+1,x,y,h,hj,e=>by
  have ih:=a5Y f w hw vs (l:=l) (k:=k) (x:=x) (y:=y) (by simpa using h) hj e;rw[q9,show(k+1)*w=(f z).length+k*w from by rw[hw,Q6];omega,R2,show(f z).length+k*w+vs.length=(f z).length+(k*w+vs.length)from by omega,List.drop_length_add_append,s8,s8,<- s8 (List.take _ _),ih];rfl
def MSl.Fine (z:MSl):Prop:=z.v.now.length=16/\(∀x∈z.v.may,x.length=16)/\(∀x∈z.v.ever,x.length=16)/\z.v.may.length<=1000/\z.v.ever.length<=1000
theorem a2F {α:Type} {l:List α} {k:Nat} {x:α} (h:l[k]? =some x):l.set k x=l:=by
 apply v6;intro i;rw[r9];split
 ·rename_i e;subst e;split
  ·exact h.symm
  ·rename_i e2;rw[l4 (by omega)]
 ·rfl
theorem W6 (x d:List UInt8):decide (x=d)=(x==d):=by
 by_cases h:x=d
 ·rw[h];simp
 ·rw[u9 h,beq_eq_false_iff_ne.2 h]
theorem MSl.now_at {Z:List MSl} {k:Nat} {z:MSl} (hz:Z[k]? =some z):((Z.flatMap MSl.cells).drop (k*19+0)).take 16=B1 z.v.now:=by
 have h:=O4 MSl.cells 19 (λ_=>rfl) Z k z hz;have h2:((Z.flatMap MSl.cells).drop (k*19)).take 16=(((Z.flatMap MSl.cells).drop (k*19)).take 19).take 16:=by rw[a2R];rfl
 rw[L8,h2,h];rfl
theorem a0i (q g:Nat) (Z:List MSl) (hn:Z.length<=65536) (hf:∀z∈Z,z.Fine) (i:Int) (d:List UInt8) (hd:d.length=16):FP 35 [pp q,iI i,a1m d] (a3j q g Z) (Ps (.bool (Mv.may (Z.map (·.v)) i d)) (a3j q g Z)):=by
 refine FE [2,0,0] Tryz.func35 λX F hX=>?_;refine J.qp (b4o q g Z.length hn i) [1] λ_=>?_
 by_cases hi:0<=i/\i<(Z.length:Int)
 ·have ha:Mv.adr Z.length g i=some ⟨g,i.toNat*19,none⟩:=by unfold Mv.adr;rw[d8 hi]
  obtain⟨k,rfl⟩:=g7 hi.1;obtain⟨z,hz⟩:∃z,Z[k]? =some z:=⟨_,d5 (by omega)⟩;obtain⟨f1,f2,f3,f4,f5⟩:=hf z (l7 hz);have hin:Mv.inR (Z.map (·.v)) (k:Int)=true:=by unfold Mv.inR;rw[m9,j3 hi.1,j3 hi.2];rfl
  have hpg:Mv.pg (Z.map (·.v)) (k:Int)=z.v:=by unfold Mv.pg;rw[l6,d6,j6,hz];rfl
  have hmy:Mv.may (Z.map (·.v)) (k:Int) d=if z.v.op then z.v.may.contains d else z.v.now==d:=by unfold Mv.may;rw[hin,hpg,o0]
  rw[ha,l6];refine J.qF λ_=>?_;have hcell:=λj hj=>a0n MSl.cells 19 MSl.cells_len hz j hj;refine J.qn 7 λ_=>?_;refine J.v (.bool z.v.op) rfl rfl (λhg aa w he hw=>x9 tk rfl rfl he rfl rfl rfl (hw.get (i:=2) rfl) (hcell 16 (by omega))) ?_;refine J.qd (λ_ h1=>?_) λ_ h1=>?_
  ·rw[d8 h1]at hmy;refine J.openAt 3 k rfl rfl (by rw[j6,hz];rfl) rfl ?_;refine J.pn 3 (.of [0,4,8,13,17,23,24]) [5,6] [1,2,3,4,5,6] λ_ _=>?_;refine J.vT (slv z.a1 z.v.may.length z.c1) rfl rfl (λhg aa w he hC=>x9 tk rfl rfl he rfl rfl rfl (hC rfl _ (r8 (i:=2) rfl)) (hcell 17 (by omega))) ?_;refine J.qp (b3J z.a1 z.v.may.length z.c1 z.v.may rfl (by omega) d hd f2) [6] λ_=>?_;refine J.q λ_=>?_;refine J.closeAt (A:=z.m1) 3 6 k rfl rfl rfl ?_;have hsame:(Z.map MSl.m1).set k z.m1=Z.map MSl.m1:=a2F (by rw[j6,hz];rfl);rw[hsame];refine J.qr [1,2,3,4] λ_=>?_;rw[hmy];exact⟨rfl,rfl⟩
  ·rw[d7 (by rw[h1];decide)]at hmy;refine J.pn 3 (.of [0,4,8,13,17,20,24]) [5,6] [1,2,3,4,5] λ_ _=>?_;refine J.vT (a1m z.v.now) rfl rfl (λhg aa w he hC=>C7 tk rfl rfl he rfl rfl rfl (hC rfl _ (r8 (i:=2) rfl)) (MSl.now_at hz) rfl) ?_;refine J.qn 1 λ_=>?_;refine J.vT (.bool (z.v.now==d)) rfl rfl (λhg aa w he hC=>(I5 (xs:=B1 z.v.now) (ys:=B1 d) rfl rfl rfl he rfl rfl T6 (O5 _) (O5 _) mkD gdD).trans (by rw[eqD _ _ f1 hd,W6])) ?_;refine J.qr [1,2,3,4] λ_=>?_;rw[hmy];exact⟨rfl,rfl⟩
 ·have ha:Mv.adr Z.length g i=none:=by unfold Mv.adr;rw[d7 hi]
  have hmy:Mv.may (Z.map (·.v)) i d=false:=by
   unfold Mv.may Mv.inR;rw[m9];have:(decide (0<=i)&&decide (i<(Z.length:Int)))=false:=by simp;omega
   rw[this];rfl
  rw[ha];refine J.qT λ_=>?_;refine J.qr [1,2,3,4] λ_=>?_;rw[hmy];exact⟨rfl,rfl⟩
end Go.Proofs.YtpakpgkdpofbhaaGreat
