/- Helpers. No condition. -/
import Derived.Test.YtmafiplddapokaaGreatT08
import Derived.Shelf.Sort.Plain
set_option maxRecDepth 20000
set_option linter.all false
namespace Go.Proofs.YtmafiplddapokaaGreat
section
open Go Go.RowKit
theorem c2B:FP 309 [iI (-1)] [] (Ps (.int .u64 1) []):=Fn.of_same c2x
theorem c2C:FP 310 [.int .u64 1] [] (Ps (iI (-1)) []):=Fn.of_same c2A
theorem b5a:FP 311 [iI 255,iI 8] [] (Ps (iI (-1)) []):=Fn.of_same b7K
theorem b4Z:FP 311 [iI 1,iI 0] [] (Ps (iI 0) []):=Fn.of_same b7J
theorem c1o:FP 312 [.int .u32 1,iI 33] [] (Ps (.int .u32 2) []):=by
 refine FE [0,0] Tryz.func312 λX F hX=>?_;refine J.p (.of [0,4,8,12,16,20,24,28,32]) [7,8] [] λ_=>?_;exact J.qx []
theorem b8g:FP 307 [] [] (Ps (.bool true) []):=by
 refine FE [] Tryz.func307 λX F hX=>?_;refine J.q λb1=>?_;refine J.turn1 [] rfl (As:=[l9 5 1 none 0 0 []]) (λh s=>Sep.one ⟨rfl,rfl,rfl⟩) rfl ?_;refine J.cl (b2i (b1 0) []) (none,0) [1,2] ?_;refine J.qp (b4V (b1 0) 5 3 [] (by decide) (by decide) (by decide) (by decide)) [1] λ_=>?_;refine J.qp (c2r (b1 0)) [1] λ_=>?_;refine J.q λb2=>?_;refine J.cb (b9a (some ⟨b2 0,0,none⟩) 1 1) [] ?_;rintro v As ⟨g,rfl,rfl⟩;refine⟨_,rfl,trivial,?_⟩;refine J.qp (c2t g (b2 0)) [4,3] λ_=>?_;refine J.qp (c2s g (b2 0)) [4] λ_=>?_;refine J.qc (b1w (b1 0) ([]++Bt.bits 5 3) (by decide)) [1] λ_=>?_;rintro v As ⟨a2,c2,rfl,rfl⟩;refine⟨_,rfl,trivial,?_⟩;rw[show((([]:List Bool)++Bt.bits 5 3).length+7)/8=1 from rfl];refine J.know (λh' s=>D7 (c:=(a2,c2)) (by decide) (s.get (i:=5) rfl)) λhg=>?_;obtain⟨g2,rfl⟩:=hg;refine J.qp (c2B) [] λ_=>?_;refine J.qp (c2C) [] λ_=>?_;refine J.qp (b5a) [] λ_=>?_;refine J.qp (b4Z) [] λ_=>?_;refine J.qp (c1o) [] λ_=>?_;refine J.qp (c2S (b1 0) ([]++Bt.bits 5 3)) [1] λ_=>?_;refine J.q λ_=>?_;refine J.v (.int .u8 160) rfl rfl (λhg a w he hw=>?_) ?_
 ·exact I4 tk rfl rfl he hg rfl rfl (hw.get (i:=5) rfl) (by kernel_rfl)
 refine J.qp (b3W g (some ⟨b2 0,0,none⟩) 1 1 4 (by decide) (by decide)) [4] λ_=>?_;refine J.qp (c2X) [] λ_=>?_;refine J.qp (c1V) [] λ_=>?_;refine J.qp (b2w 3) [] λ_=>?_;refine J.qp (c1T 6 0 (by decide) (by decide)) [] λ_=>?_;refine J.qp (b8a 6 2) [] λ_=>?_;refine J.qp (a5B 6) [] λ_=>?_;refine J.qr [] λ_=>?_;exact⟨by kernel_rfl,rfl⟩
theorem b8h:FP 303 [] [] (Ps (.bool true) []):=by
 refine FE [] Tryz.func303 λX F hX=>?_;refine J.qp (b8g) [] λ_=>?_;exact J.qx []
theorem a6q (d b p:Nat) (h:L4 d b p=true):FP 47 [.agg #[iI d,iI b,iI p]] [] (Ps (iI ((((b:Int)-5)*p*((d:Int)-2)+1).tdiv 2)) []):=by
 have hbd:(3<=d/\d<=6)/\(8<=b/\b<=16)/\(2<=p/\p<=8):=by simp[L4]at h;omega
 have h1:0<=((b:Int)-5)*p/\((b:Int)-5)*p<=88:=by
  refine⟨a1D (by omega) (by omega),?_⟩;have:((b:Int)-5)*p<=11*8:=a1E (by omega) (by omega) (by omega) (by omega);omega
 have h2:0<=((b:Int)-5)*p*((d:Int)-2)/\((b:Int)-5)*p*((d:Int)-2)<=352:=by
  refine⟨a1D h1.1 (by omega),?_⟩;have:((b:Int)-5)*p*((d:Int)-2)<=88*4:=a1E h1.2 (by omega) (by omega) (by omega);omega
 have h3: -1<=(((b:Int)-5)*p*((d:Int)-2)+1).tdiv 2/\(((b:Int)-5)*p*((d:Int)-2)+1).tdiv 2<=1000:=by
  generalize((b:Int)-5)*p*((d:Int)-2)=x at h2;rw[a5Y (by omega)];omega
 refine FE [0] Tryz.func47 λX F hX=>?_;refine J.qp (a6W d b p) [] λ_=>?_;rw[h];refine J.qF λ_=>?_;exact J.qx []
theorem b8d:FP 291 [] [] (Ps (.bool true) []):=by
 refine FE [] Tryz.func291 λX F hX=>?_;refine J.qp (b8h) [] λ_=>?_;refine J.qp (a6W 3 8 2) [] λ_=>?_;rw[show L4 3 8 2=true from rfl];refine J.qp (a6W 0 0 0) [] λ_=>?_;rw[show L4 0 0 0=false from rfl];refine J.qp (b2J 3 8 2 2 7 1 (by decide) (by decide) (by decide)) [] λ_=>?_;rw[show X4 3 8 2 2 7 1=true from rfl];refine J.qp (b2J 3 8 2 3 0 0 (by decide) (by decide) (by decide)) [] λ_=>?_;rw[show X4 3 8 2 3 0 0=false from rfl];refine J.qp (a1x 7 1 1) [] λ_=>?_;rw[show G.parity 7 1 1=2 from by kernel_rfl];refine J.qp (a1t 7) [] λ_=>?_;rw[show G.slots 7=2 from by kernel_rfl];refine J.qp (b4L 7 0 0 0 (by decide) (by decide)) [] λ_=>?_;rw[show G.die 7 0 0 0=1 from by kernel_rfl];refine J.qp (b8G 7 0 0 2) [] λ_=>?_;rw[show G.slot 7 0 0 2=1 from by kernel_rfl];refine J.qp (b8G 7 0 0 0) [] λ_=>?_;rw[show G.slot 7 0 0 0= -1 from by kernel_rfl];refine J.qp (a6q 3 8 2 rfl) [] λ_=>?_;refine J.qr [] λ_=>?_;exact⟨by kernel_rfl,rfl⟩
theorem b2z:FP 283 [] [] (Ps (.bool true) []):=by
 refine FE [] Tryz.func283 λX F hX=>?_;refine J.qp (b8d) [] λ_=>?_;exact J.qx []
def ft (a k d n x:Int):List Value:=[iI a,iI k,iI d,iI 0,iI 0,iI n,iI x]
theorem c1B:FP 132 [.agg #[iI 3,iI 8,iI 2], .agg (ft 3 4 2 0 0).toArray] [] (Ps (.bool true) []):=by
 refine FE [0,0] Tryz.func132 λX F hX=>?_;refine J.qT λ_=>?_;refine J.qp (b2J 3 8 2 2 0 0 (by decide) (by decide) (by decide)) [] λ_=>?_;exact J.qx []
theorem c1A:FP 132 [.agg #[iI 3,iI 8,iI 2], .agg (ft (-1) 0 0 0 0).toArray] [] (Ps (.bool false) []):=by
 refine FE [0,0] Tryz.func132 λX F hX=>?_;refine J.qT λ_=>?_;refine J.q λ_=>?_;refine J.v (.bool false) rfl rfl (λhg a w he hw=>absurd hg (by decide)) ?_;exact J.qx []
theorem b9T (a:Option Addr) (c:Nat) (d:Value):FP 231 [.slice a 1 c,iI 0,iI 1,d] [] (Ps (.tuple #[]) []):=by
 refine FE [0,0,0,0] Tryz.func231 λX F hX=>?_;refine J.q λ_=>?_;refine J.l (α:=Nat) (λk=>True) (λk=>[si 8 1,si 2 1]) [] (λk=>[]) (λk=>0) (0) (trivial) λk hI=>?_;refine J.qF λ_=>?_;refine J.q λ_=>?_;refine J.f [] ?_;exact⟨rfl,rfl⟩
theorem b7p (a:Option Addr) (c:Nat) (d:Value):FP 193 [.slice a 1 c,iI 1,d] [] (Ps (.tuple #[]) []):=by
 refine FE [0,0,0] Tryz.func193 λX F hX=>?_;refine J.q λ_=>?_;refine J.l (α:=Nat) (λk=>True) (λk=>[si 8 20,si 6 20,si 7 0,sv 0 (.slice a 1 c),si 1 1,sv 2 d]) [] (λk=>[]) (λk=>0) (0) (trivial) λk hI=>?_;refine J.qF λ_=>?_;refine J.qp (b9T a c d) [] λ_=>?_;refine J.q λ_=>?_;refine J.l (α:=Nat) (λk=>True) (λk=>[si 6 20,si 1 1]) [] (λk=>[]) (λk=>0) (0) (trivial) λk hI=>?_;refine J.qF λ_=>?_;refine J.q λ_=>?_;refine J.f [] ?_;exact⟨rfl,rfl⟩
theorem b0W (a:Option Addr) (c:Nat) (d:Value):FP 133 [.slice a 1 c,d] [] (Ps (.tuple #[]) []):=by
 refine FE [0,0] Tryz.func133 λX F hX=>?_;refine J.qp (b7p a c d) [] λ_=>?_;refine J.q λ_=>?_;refine J.f [] ?_;exact⟨rfl,rfl⟩
def fk (k:Nat):List Value:=match k with | 0=>[] | _=>ft 3 4 2 0 0
theorem c2N (g:Nat):FP 85 [.agg #[iI 3,iI 8,iI 2], .slice (some ⟨g,0,none⟩) 2 2] [.pt g 41 (ft 3 4 2 0 0++ft (-1) 0 0 0 0)]
  (λv As=>∃p a c,v=pp p/\As=[.pt p 218 [slv a 1 c],l9 41 7 a 1 c (ft 3 4 2 0 0)]):=by
 refine FE [0,2] Tryz.func85 λX F hX=>?_;refine J.q λbb=>?_;refine J.turn1 [] rfl (As:=[l9 41 7 none 0 0 (fk 0)]) (λh s=>Sep.one ⟨rfl,rfl,rfl⟩) rfl ?_;refine J.q λ_=>?_;refine J.l (α:=(Nat×Option Nat×Nat)) (λz=>z.1<=2) (λz=>[si 12 z.1,si 11 2,⟨10, .slice (some ⟨g,0,none⟩) 2 2,2, .tt⟩,⟨2,pp (bb 0),3, .tt⟩,⟨5,pp (bb 1),4, .tt⟩]) [3,4] (λz=>[.pt (bb 1) 218 [slv z.2.1 (nk z.1) z.2.2],l9 41 7 z.2.1 (nk z.1) z.2.2 (fk z.1)]) (λz=>2-z.1) ((0,none,0)) (j8 _) λz hI=>?_;obtain⟨k,a,c⟩:=z;dsimp only at hI ⊢;rcases(by omega:k=0\/k=1\/k=2)with rfl | rfl | rfl
 ·refine J.qT λ_=>?_;refine J.q λ_=>?_;refine J.v (.agg (ft 3 4 2 0 0).toArray) rfl rfl (λhg a w he hw=>H7 tk rfl rfl he rfl rfl rfl (hw.get (i:=1) rfl) rfl rfl) ?_;refine J.qp (c1B) [] λ_=>?_;refine J.qT λ_=>?_;refine J.pq (.of [0,4,8,12,17,21,26,30,32,36,43]) [8,9,10] [3,5] λ_ _=>?_;refine J.append hX tk 4 6 0 rfl rfl rfl rfl rfl rfl rfl rfl rfl rfl rfl rfl rfl rfl rfl rfl (by decide) (by decide) (λ_=>rfl) λa2 c2=>⟨_,rfl,⟨rfl,rfl,trivial⟩,?_⟩;refine J.q λ_=>?_;refine J.n ((1,a2,c2)) (by dsimp only;omega) (by dsimp only;omega) [0,1,2,3,4]
 ·refine J.qT λ_=>?_;refine J.q λ_=>?_;refine J.v (.agg (ft (-1) 0 0 0 0).toArray) rfl rfl (λhg a w he hw=>H7 tk rfl rfl he rfl rfl rfl (hw.get (i:=1) rfl) rfl rfl) ?_;refine J.qp (c1A) [] λ_=>?_;refine J.qF λ_=>?_;refine J.q λ_=>?_;refine J.n ((2,a,c)) (by dsimp only;omega) (by dsimp only;omega) [0,1,2,3,4]
 ·refine J.qF λ_=>?_;refine J.qp (b0W (oad a) c (.func (.func 134) #[] #[])) [] λ_=>?_;refine J.qr [3,4] λ_=>?_;exact⟨bb 1,a,c,rfl,rfl⟩
theorem c1C (p:Nat) (a:Option Addr) (n c:Nat):FP 284 [pp p] [.pt p 218 [.slice a n c]] (Ps (iI n) [.pt p 218 [.slice a n c]]):=by
 refine FE [2] Tryz.func284 λX F hX=>?_;refine J.qF λ_=>?_;exact J.qx [1]
theorem c1D (g:Nat):FP 285 [.slice (some ⟨g,0,none⟩) 1 1] [.pt g 41 (ft 0 0 2 0 0)] (Ps (iI 4) []):=by
 refine FE [2] Tryz.func285 λX F hX=>?_;refine J.q λ_=>?_;refine J.l (α:=Nat) (λk=>k<=1) (λk=>[si 8 k,si 7 1,⟨6, .slice (some ⟨g,0,none⟩) 1 1,2, .tt⟩,si 3 (4*k)]) [] (λk=>[]) (λk=>1-k) (0) (j8 _) λk hI=>?_;rcases(by omega:k=0\/k=1)with rfl | rfl
 ·refine J.qT λ_=>?_;refine J.q λ_=>?_;refine J.v (.agg (ft 0 0 2 0 0).toArray) rfl rfl (λhg a w he hw=>H7 tk rfl rfl he rfl rfl rfl (hw.get (i:=1) rfl) rfl rfl) ?_;refine J.qp (b1e 0 2) [] λ_=>?_;refine J.q λ_=>?_;refine J.n (1) (by omega) (by omega) [0,1]
 ·refine J.qF λ_=>?_;exact J.qx []
theorem c2e (d b p:Nat) (h:L4 d b p=true):FP 128 [.agg #[iI d,iI b,iI p]] [] (λv As=>v= .bool true/\As=[]):=by
 have hbd:(3<=d/\d<=6)/\(8<=b/\b<=16)/\(2<=p/\p<=8):=by simp[L4]at h;omega
 refine FE [0] Tryz.func128 λX F hX=>?_;refine J.qr [] λ_=>?_;refine⟨?_,rfl⟩;simp;omega
def lgN (d b p:Nat):Nat:=((b-5)*p*(d-2)+1)/2
theorem b3G (d b p:Nat) (hd:2<=d) (hb:5<=b):(((b:Int)-5)*p*((d:Int)-2)+1).tdiv 2=(lgN d b p:Int):=by
 have e1:(b:Int)-5=((b-5:Nat):Int):=by omega
 have e2:(d:Int)-2=((d-2:Nat):Int):=by omega
 rw[e1,e2,<- a2s,<- a2s,show(((b-5)*p*(d-2):Nat):Int)+1=(((b-5)*p*(d-2)+1:Nat):Int)from by omega,a5Y (by omega)];unfold lgN;omega
theorem b3M (d b p:Nat) (h:L4 d b p=true):FP 70 [.agg #[iI d,iI b,iI p]] [] (λv As=>v=iI (lgN d b p)/\As=[]):=by
 have hbd:(3<=d/\d<=6)/\(8<=b/\b<=16)/\(2<=p/\p<=8):=by simp[L4]at h;omega
 have h1:0<=((b:Int)-5)*p/\((b:Int)-5)*p<=88:=by
  refine⟨a1D (by omega) (by omega),?_⟩;have:((b:Int)-5)*p<=11*8:=a1E (by omega) (by omega) (by omega) (by omega);omega
 have h2:0<=((b:Int)-5)*p*((d:Int)-2)/\((b:Int)-5)*p*((d:Int)-2)<=352:=by
  refine⟨a1D h1.1 (by omega),?_⟩;have:((b:Int)-5)*p*((d:Int)-2)<=88*4:=a1E h1.2 (by omega) (by omega) (by omega);omega
 have h3: -1<=(((b:Int)-5)*p*((d:Int)-2)+1).tdiv 2/\(((b:Int)-5)*p*((d:Int)-2)+1).tdiv 2<=1000:=by
  generalize((b:Int)-5)*p*((d:Int)-2)=x at h2;rw[a5Y (by omega)];omega
 refine FE [0] Tryz.func70 λX F hX=>?_;refine J.qp (c2e d b p h) [] λ_=>?_;refine J.qF λ_=>?_;refine J.qr [] λ_=>?_;exact⟨by rw[b3G d b p (by omega) (by omega)],rfl⟩
theorem a8V:∀(l:List En) (r:List Value) (k:Nat) (x:En),k<l.length->(n9 l++r).take (k*19)++enL x++(n9 l++r).drop (k*19+19)=n9 (l.set k x)++r
 | [],_,_,_,h=>by simp at h
 | y::l,r,0,x,h=>by simp[n9,enL]
 | y::l,r,k+1,x,h=>by
  have:=a8V l r k x (by simpa using h);have hy:(enL y).length=19:=rfl;have e1:n9 (y::l)++r=enL y++(n9 l++r):=by simp[n9]
  have e2:n9 ((y::l).set (k+1) x)++r=enL y++(n9 (l.set k x)++r):=by simp[n9]
  rw[e1,e2,<- this,show(k+1)*19=(enL y).length+k*19 from by omega,T9,show(enL y).length+k*19+19=(enL y).length+(k*19+19)from by omega,<- C2,U8 rfl];simp only[m9]
theorem a0l:∀l:List En,(n9 l).length=l.length*19
 | []=>rfl
 | x::l=>by
  have:=a0l l;have e1:n9 (x::l)=enL x++n9 l:=by simp[n9]
  have hy:(enL x).length=19:=rfl;rw[e1,d8,this,hy,l6];omega
def a9r (p:En->Bool) (l:List En):Int:=match l.findIdx? p with
 | some k=>k
 | none=> -1
theorem b0g {p:En->Bool} {l:List En} {k:Nat} {x:En} (h:l[k]? =some x) (h0:∀i<k,p (l.getD i En.zero)=false) (hp:p x=true):l.findIdx? p=some k:=by
 rw[o0];obtain⟨h1,h2⟩:=List.getElem?_eq_some_iff.1 h;refine⟨h1,by rw[h2];exact hp,λj hj=>?_⟩;have:=h0 j hj;rw[d5,c9 (by omega),j4]at this;simp[this]
theorem b0h {p:En->Bool} {l:List En} (h0:∀i<l.length,p (l.getD i En.zero)=false):l.findIdx? p=none:=by
 rw[D4];intro x hx;obtain⟨i,hi,rfl⟩:=List.mem_iff_getElem.1 hx;have:=h0 i hi
 rwa [d5,c9 hi,j4]at this
theorem b8u (p:En->Bool) (l:List En):decide (a9r p l>=0)=l.any p:=by
 unfold a9r;cases h:l.findIdx? p with
 | none=>
  rw[D4]at h;have:l.any p=false:=by rw[X1];exactλx hx=>by simp[h x hx]
  rw[this];rfl
 | some k=>
  rw[o0]at h;obtain⟨h1,h2,_⟩:=h;have:l.any p=true:=List.any_eq_true.2 ⟨l[k],I2 _,h2⟩;rw[this];simp
theorem b1C (c:Nat) (cs:List Value) (p:En->Bool) (A:Atom) (hcal:K0 Tryz.prog c=true) (l:List En) (hf:∀x∈l,Fn Tryz.prog c (enV x::cs) [A] (λv As=>v= .bool (p x)/\As=[A]))
  (a:Option Nat) (n cap:Nat) (hl:l.length=n) (hn:n<=4611686018427387904):FP 122 [slv a n cap,fnC c cs] [l9 101 19 a n cap (n9 l),A]
  (λv As=>v=iI (a9r p l)/\As=[l9 101 19 a n cap (n9 l),A]):=by
 refine FE [0,0] Tryz.func122 λX F hX=>?_;refine J.q λ_=>?_;refine J.l (α:=Nat) (λk=>k<=n/\∀i<k,p (l.getD i En.zero)=false) (λk=>[si 8 k,si 7 n,sv 0 (slv a n cap),⟨1,fnC c cs,0, .tt⟩]) [] (λk=>[]) (λk=>n-k) (0) (⟨by omega,by omega⟩) λk hI=>?_;refine J.qd (λ_ h1=>?_) λ_ h1=>?_
 ·simp only[d6,i6]at h1;cases a with
  | none=>
   refine J.know (λh' s=>(s.get (i:=1) rfl).2.1) λhn0=>?_;omega
  | some g=>
   have hk:l[k]? =some (l.getD k En.zero):=by rw[d5,c9 (by omega),j4]
   refine J.q λ_=>?_;refine J.v (enV (l.getD k En.zero)) rfl rfl (λhg a w he hs=>?_) ?_
   ·exact M3 tk rfl rfl he rfl rfl rfl (hs.get (i:=1) rfl) (by rw[show 0+(k:Int).toNat*19=k*19 from by omega];have:=a0s l [] k _ hk;rwa [l8]at this) rfl
   refine J.q λ_=>?_;refine J.call hX hcal (hf (l.getD k En.zero) (j9 hk)) [2] 0 rfl rfl rfl rfl (by(repeat' (first | exact Conj.nil | refine Conj.cons ?_ ?_ | omega | exact hq0 | (simpa using hq0) | (exactλh=>h) | exact rfl | (intro hq;have hq0:=hq;try simp only[f8,j7,d6,i4,c8]at hq) | (simp;done) | (simp;omega) | decide))) rfl rfl (λ_=>rfl) ?_;refine cpq ⟨_,rfl,trivial,?_⟩;refine J.qd (λ_ h2=>?_) λ_ h2=>?_
   ·refine J.qr [1,2] λ_=>?_;exact⟨by rw[a9r,b0g hk hI.2 h2],rfl⟩
   ·refine J.q λ_=>?_;refine J.nx (k+1) (⟨by omega,λi hi=>by
     rcases Nat.lt_succ_iff_lt_or_eq.1 hi with h3 | h3
     ·exact hI.2 i h3
     ·rw[h3];exact h2⟩) (by omega) (λ_ s=>s)
 ·simp only[c8,i6]at h1;refine J.qr [1,2] λ_=>?_;exact⟨by rw[a9r,b0h (λi hi=>hI.2 i (by omega))],rfl⟩
theorem a8W (l:List En):∀u∈n9 l,u.oneCell'=true:=by
 intro u hu;simp only[n9,K6]at hu;obtain⟨s,_,hu⟩:=hu;simp only[enL,I3,V5,a5S]at hu;rcases hu with rfl | rfl | rfl | rfl | rfl | rfl | rfl | rfl | rfl | rfl | rfl | rfl | rfl | rfl | rfl | rfl | rfl | rfl | rfl<;>rfl
def DelE (p:En->Bool) (l m:List En) (i j:Nat):Prop:=m.length=l.length/\i<j/\j<=l.length/\m.drop j=l.drop j/\m.take i++(l.drop j).filter (λx=>!p x)=l.filter (λx=>!p x)
theorem DelE.start {p:En->Bool} {l:List En} {k:Nat} (h:l.findIdx? p=some k):DelE p l l k (k+1):=by
 rw[o0]at h;obtain⟨h1,h2,h3⟩:=h;refine⟨rfl,by omega,by omega,rfl,?_⟩;have e:l=l.take k++l[k]::l.drop (k+1):=by rw[<- y8 h1,C4]
 have e2:(l.take k).filter (λx=>!p x)=l.take k:=by
  rw[X7];intro x hx;obtain⟨i,hi,rfl⟩:=List.mem_iff_getElem.1 hx;rw[a0o];have:=h3 i (by simp at hi;omega);simpa using this
 conv=>rhs;rw[e]
 rw[T3,e2,T8 (by simp[h2])]
theorem DelE.skip {p:En->Bool} {l m:List En} {i j:Nat} (h:DelE p l m i j) (hj:j<l.length) (hp:p (m.getD j En.zero)=true):DelE p l m i (j+1):=by
 obtain⟨h1,h2,h3,h4,h5⟩:=h;have e1:m[j]? =l[j]?:=by have:=congrArg (λz=>z[0]?) h4;simpa using this
 have hx:l[j]=m.getD j En.zero:=by rw[d5,e1,c9 hj,j4]
 refine⟨h1,by omega,by omega,?_,?_⟩
 ·have:=congrArg (List.drop 1) h4;simpa[C2]using this
 ·rw[<- h5,y8 hj,T8 (by rw[hx,hp];simp)]
theorem DelE.keep {p:En->Bool} {l m:List En} {i j:Nat} (h:DelE p l m i j) (hj:j<l.length) (hp:p (m.getD j En.zero)=false):DelE p l (m.set i (m.getD j En.zero)) (i+1) (j+1):=by
 obtain⟨h1,h2,h3,h4,h5⟩:=h;have e1:m[j]? =l[j]?:=by have:=congrArg (λz=>z[0]?) h4;simpa using this
 have hx:l[j]=m.getD j En.zero:=by rw[d5,e1,c9 hj,j4]
 refine⟨by simp[h1],by omega,by omega,?_,?_⟩
 ·rw[List.drop_set_of_lt (by omega)];have:=congrArg (List.drop 1) h4;simpa[C2]using this
 ·rw[<- h5,y8 hj,a2Q (by rw[hx,hp];simp),hx,a4q,D2,c9 (by omega)];rw[O9 _ _ (by simp;omega)];simp[l5,K5 (show i<=m.length by omega)]
theorem a9x (c:Nat) (cs:List Value) (p:En->Bool) (A:Atom) (hcal:K0 Tryz.prog c=true) (hf:∀x,Fn Tryz.prog c (enV x::cs) [A] (λv As=>v= .bool (p x)/\As=[A]))
  (a:Option Nat) (n cap:Nat) (l:List En) (hl:l.length=n) (hn:n<=4611686018427387904):FP 144 [slv a n cap,fnC c cs] [l9 101 19 a n cap (n9 l),A]
  (λv As=>∃l',l'=l.filter (λx=>!p x)/\v=slv a l'.length cap/\As=[l9 101 19 a l'.length cap (n9 l'),A]):=by
 refine FE [0,0] Tryz.func144 λX F hX=>?_;refine J.qp (b1C c cs p A hcal l (λx _=>hf x) a n cap hl hn) [1,2] λ_=>?_;rw[a9r];cases hx:l.findIdx? p with
 | none=>
  dsimp only;refine J.qT λ_=>?_;refine J.qr [1,2] λ_=>?_;have:l.filter (λx=>!p x)=l:=by
   rw[X7];intro x hm;rw[D4]at hx;simp[hx x hm]
  exact⟨l,this.symm,by rw[hl],by rw[hl];rfl⟩
 | some k=>
  dsimp only;refine J.qd (λ_ h0=>?_) λ_ h0=>?_
  ·simp only[B4]at h0;omega
  have hk:k<n:=by rw[o0]at hx;obtain⟨h1,_⟩:=hx;omega
  cases a with
  | none=>
   refine J.know (λh' s=>(s.get (i:=1) rfl).2.1) λhn0=>?_;omega
  | some g=>
   refine J.openOwn 1 rfl rfl (λ_=>rfl) λr q1 q2 q3 q4=>?_;refine J.q λ_=>?_;rw[show(k:Int)+1=((k+1:Nat):Int)from by omega];refine J.q λ_=>?_;refine J.l (α:=(Nat×Nat×List En)) (λx=>DelE p l x.2.2 x.1 x.2.1) (λx=>[si 6 x.2.1,si 5 x.1,sv 0 (slv (some g) n cap),⟨1,fnC c cs,0, .tt⟩]) [1] (λx=>[.pt g 101 (n9 x.2.2++r)]) (λx=>n-x.2.1) ((k,k+1,l)) (DelE.start hx) λx hI=>?_;obtain⟨i,j,m⟩:=x;dsimp only at hI ⊢;have hml:m.length=n:=hI.1.trans hl;have hij:i<j:=hI.2.1;have hjn:j<=n:=by have:=hI.2.2.1;omega
   refine J.qd (λ_ h1=>?_) λ_ h1=>?_
   ·simp only[d6,i6]at h1;have hget:m[j]? =some (m.getD j En.zero):=by rw[d5,c9 (by omega),j4]
    refine J.q λ_=>?_;refine J.v (enV (m.getD j En.zero)) rfl rfl (λhg a w he hs=>?_) ?_
    ·exact H7 tk rfl rfl he rfl rfl rfl (hs.get (i:=1) rfl) (by rw[show 0+(j:Int).toNat*19=j*19 from by omega];exact a0s m r _ _ hget) rfl
    refine J.q λ_=>?_;refine J.call hX hcal (hf (m.getD j En.zero)) [2] 0 rfl rfl rfl rfl (by(repeat' (first | exact Conj.nil | refine Conj.cons ?_ ?_ | omega | exact hq0 | (simpa using hq0) | (exactλh=>h) | exact rfl | (intro hq;have hq0:=hq;try simp only[f8,j7,d6,i4,c8]at hq) | (simp;done) | (simp;omega) | decide))) rfl rfl (λ_=>rfl) ?_;refine cpq ⟨_,rfl,trivial,?_⟩;refine J.qd (λ_ h2=>?_) λ_ h2=>?_
    ·simp only[i4]at h2;refine J.q λ_=>?_;refine J.storeN hX tk 1 rfl rfl rfl rfl rfl rfl rfl rfl rfl rfl rfl rfl rfl ?_ (n9 (m.set i (m.getD j En.zero))++r) ?_ rfl (λ_=>rfl) ⟨trivial,?_⟩
     ·rw[d8,a0l];show 0+(i:Int).toNat*19+19<=_;omega
     ·rw[show 0+(i:Int).toNat*19=i*19 from by omega];exact a8V m r i _ (by omega)
     refine J.q λ_=>?_;refine J.n ((i+1,j+1,m.set i (m.getD j En.zero))) (hI.keep (by omega) h2) (by dsimp only;omega) [0,1,2]
    ·simp only[B5]at h2;refine J.q λ_=>?_;refine J.n ((i,j+1,m)) (hI.skip (by omega) h2) (by dsimp only;omega) [0,1,2]
   ·simp only[c8,i6]at h1;obtain rfl:j=n:=by omega
    have hfil:m.take i=l.filter (λx=>!p x):=by
     have h5:=hI.2.2.2.2;rw[H0 (by omega)]at h5;simpa using h5
    refine J.q λ_=>?_;refine J.clear hX tk 1 rfl rfl rfl rfl rfl rfl rfl rfl rfl rfl rfl ?_ (λ_=>rfl) (λ_=>rfl) λcs' z1 z2=>⟨trivial,?_⟩
    ·rw[d8,a0l];rw[a0l]at q4;show 0+(i:Int).toNat*19+(j-(i:Int).toNat)*19<=_;have:(i:Int).toNat=i:=by omega
     rw[this];omega
    have hilen:(l.filter (λx=>!p x)).length=i:=by rw[<- hfil,l5];omega
    refine J.closeOwn (e:=101) (size:=19) (n:=i) (cap:=cap) (xs:=n9 (l.filter (λx=>!p x))) 1 rfl rfl (by rw[a0l,hilen]) (by omega) q3 (by rw[z1,d8,a0l,hml];rw[a0l,hl]at q4;exact q4) ?_ rfl ?_
    ·have z3:(0+(i:Int).toNat*19)=i*19:=by omega
     rw[z3]at z2;rw[z2,<- hfil];have e:n9 m=n9 (m.take i)++n9 (m.drop i):=by
      conv=>lhs;rw[<- C4 i m]
      simp only[n9,K1]
     rw[e,m9,D9 (by rw[a0l,l5,K5 (by omega)])]
    refine J.qr [1,2] λ_=>?_;exact⟨_,rfl,by rw[hilen];rfl,by rw[hilen];rfl⟩
theorem b8S {E:Env} {n:Nat} {ac:Act} {w:World} {o:Oper} {x y:Operand} {k1 k2 t1 t2:Nat} {g1 g2:G} {a:Option Addr} {m c h:Nat} {kk:IntKind} {hI:Int} (hop:o.op= .slice 116 x none (some y) none) (hx:ev E x=some ⟨k1, .slice a m c,t1,g1⟩) (hy:ev E y=some ⟨k2, .int kk hI,t2,g2⟩) (he:EnvOK n E ac) (v1:g1.on=true) (v2:g2.on=true) (hh:hI=(h:Int)) (hc:h<=c):
  (execOp ac.eval o).run Tryz.prog w= .ok (.value (.slice a h c)) w:=by
 subst hh;have e1:=C8 he hx;have e2:=C8 he hy;simp only[Slot.val,v1,v2]at e1 e2;obtain⟨d,f,zv,ok⟩:=C1 (tk.get (t:=116) rfl);obtain⟨fe,rfl,g1,g2⟩:=ok.slice rfl;have h0:∀ad:Addr,ad.add 0=ad:=λad=>by unfold Addr.add;rw[d7 rfl]
 cases a with
 | none=>
  simp only[execOp,hop,C9,O5,e1,e2,Instr.sliceAt,Instr.slice,Instr.sliceBounds,Instr.sliceBound,asIntOf,Sem.run_bind,Sem.run_pure,Result.andThen_ok,s9 ok.hd,I9 g1,g2];simp[hc,h0]
 | some ad=>
  simp only[execOp,hop,C9,O5,e1,e2,Instr.sliceAt,Instr.slice,Instr.sliceBounds,Instr.sliceBound,asIntOf,Sem.run_bind,Sem.run_pure,Result.andThen_ok,s9 ok.hd,I9 g1,g2];simp[hc,h0]
theorem a0Z {e size:Nat} {a:Option Nat} {n cap:Nat} {xs:List Value} {h:Hl} (s:a1j e size a n cap xs h):n<=cap:=by
 obtain⟨_,s⟩:=s;cases a with
 | none=>obtain⟨rfl,rfl⟩:=s;exact j3 _
 | some g=>obtain⟨_,_,h,_⟩:=s;exact h
theorem a3E (l:List En):∀k,(n9 l).take (k*19)=n9 (l.take k):=by
 induction l with
 | nil=>intro k;simp[n9]
 | cons x l ih=>
  intro k;cases k with
  | zero=>simp[n9]
  | succ k=>
   have e1:n9 (x::l)=enL x++n9 l:=by simp[n9]
   have e2:n9 (x::l.take k)=enL x++n9 (l.take k):=by simp[n9]
   rw[e1,a0C,e2,<- ih k,show(k+1)*19=(enL x).length+k*19 from by show _=19+k*19;omega,T9]
theorem a0S (l:List En) (e:En):n9 l++enL e=n9 (l++[e]):=by simp[n9]
theorem b6F (a:Option Nat) (N cap cap2 k:Nat) (l:List En) (hl:l.length=N) (hk:k<=N) (hn:N<=1000000):FP 146 [slv a k cap2] [l9 101 19 a N cap (n9 l)]
  (λv As=>∃a' c',v=slv a' k c'/\As=[l9 101 19 a N cap (n9 l),l9 101 19 a' k c' (n9 (l.take k))]):=by
 refine FE [0] Tryz.func146 λX F hX=>?_;cases a with
 | none=>
  refine J.know (λh' s=>(s.get (i:=1) rfl).2) λhn0=>?_;obtain⟨rfl,rfl⟩:=hn0;obtain rfl:k=0:=by omega
  have:l=[]:=m7 hl;subst this;refine J.qT λ_=>?_;refine J.turn1 [] rfl (As:=[l9 101 19 none 0 0 (n9 [])]) (λh s=>Sep.one ⟨rfl,rfl,rfl⟩) rfl ?_;refine J.qr [1,2] λ_=>?_;exact⟨none,0,rfl,rfl⟩
 | some g=>
  refine J.qF λ_=>?_;refine J.qn 5 λbb=>?_;refine J.closeOwn (e:=101) (size:=19) (n:=0) (cap:=0) (xs:=[]) 2 rfl rfl rfl (j3 _) (j8 _) rfl rfl rfl ?_;refine J.q λ_=>?_;have hRd:Rd (l9 101 19 (some g) N cap (n9 l)) (some ⟨g,0,none⟩) 19 k (n9 (l.take k)):=by
   have:=(Y6 101 19 (some g) N cap (n9 l)).take k hk
   rwa [a3E]at this
  refine J.appendR hX tk (a:=some (bb 0)) (n:=0) (cap:=0) (xs:=[]) (oo:=0) (Ay:=l9 101 19 (some g) N cap (n9 l)) 2 1 0 rfl rfl rfl rfl rfl rfl rfl rfl rfl rfl hRd rfl rfl rfl rfl (a8W _) ?_ ?_ (λ_=>rfl) λa' c'=>⟨_,rfl,trivial,?_⟩
  ·simp only[maxLen];omega
  ·omega
  rw[J6 k,R9];refine J.qr [1,2] λ_=>?_;exact⟨a',c',rfl,rfl⟩
theorem b6B (c:Nat) (cs:List Value) (p:En->Bool) (A B:Atom) (hcal:K0 Tryz.prog c=true) (l:List En) (hf:∀x∈l,Fn Tryz.prog c (enV x::cs) [A] (Ps (.bool (p x)) [A]))
  (a:Option Addr) (n cap:Nat) (hB:Rd B a 19 n (n9 l)) (hl:l.length=n) (hn:n<=4611686018427387904):FP 122 [.slice a n cap,fnC c cs] [B,A]
  (Ps (iI (a9r p l)) [B,A]):=by
 refine FE [0,0] Tryz.func122 λX F hX=>?_;refine J.q λ_=>?_;refine J.l (α:=Nat) (λk=>k<=n/\∀i<k,p (l.getD i En.zero)=false) (λk=>[si 8 k,si 7 n,sv 0 (.slice a n cap),⟨1,fnC c cs,0, .tt⟩]) [] (λk=>[]) (λk=>n-k) (0) (⟨by omega,by omega⟩) λk hI=>?_;refine J.qd (λ_ h1=>?_) λ_ h1=>?_
 ·simp only[d6,i6]at h1;refine J.know (p:=∃g o,a=some ⟨g,o,none⟩) (λh' s=>Rd.addr (hB _ (s.get (i:=1) rfl)) (by omega)) λhk=>?_;obtain⟨g,o,rfl⟩:=hk;have hk:l[k]? =some (l.getD k En.zero):=by rw[d5,c9 (by omega),j4]
  refine J.q λ_=>?_;refine J.v (enV (l.getD k En.zero)) rfl rfl (λhg a w he hs=>?_) ?_
  ·exact a2x tk rfl rfl he rfl rfl rfl (hB _ (hs.get (i:=1) rfl)) (by omega) (j:=k*19) (by omega) (by have:=a0s l [] k _ hk;rwa [l8]at this) rfl
  refine J.q λ_=>?_;refine J.call hX hcal (hf (l.getD k En.zero) (j9 hk)) [2] 0 rfl rfl rfl rfl (by(repeat' (first | exact Conj.nil | refine Conj.cons ?_ ?_ | omega | exact hq0 | (simpa using hq0) | (exactλh=>h) | exact rfl | (intro hq;have hq0:=hq;try simp only[f8,j7,d6,i4,c8]at hq) | (simp;done) | (simp;omega) | decide))) rfl rfl (λ_=>rfl) ?_;refine cpq ⟨_,rfl,trivial,?_⟩;refine J.qd (λ_ h2=>?_) λ_ h2=>?_
  ·refine J.qr [1,2] λ_=>?_;exact⟨by rw[a9r,b0g hk hI.2 h2],rfl⟩
  ·refine J.q λ_=>?_;refine J.nx (k+1) (⟨by omega,λi hi=>by
    rcases Nat.lt_succ_iff_lt_or_eq.1 hi with h3 | h3
    ·exact hI.2 i h3
    ·rw[h3];exact h2⟩) (by omega) (λ_ s=>s)
 ·simp only[c8,i6]at h1;refine J.qr [1,2] λ_=>?_;exact⟨by rw[a9r,b0h (λi hi=>hI.2 i (by omega))],rfl⟩
theorem b1F (c:Nat) (cs:List Value) (p:En->Bool) (A B:Atom) (hcal:K0 Tryz.prog c=true) (l:List En) (hf:∀x∈l,Fn Tryz.prog c (enV x::cs) [A] (Ps (.bool (p x)) [A]))
  (a:Option Addr) (n cap:Nat) (hB:Rd B a 19 n (n9 l)) (hl:l.length=n) (hn:n<=4611686018427387904):FP 152 [.slice a n cap,fnC c cs] [B,A]
  (Ps (.bool (l.any p)) [B,A]):=by
 refine FE [0,0] Tryz.func152 λX F hX=>?_;refine J.qp (b6B c cs p A B hcal l hf a n cap hB hl hn) [1,2] λ_=>?_;refine J.qr [1,2] λ_=>?_;exact⟨by rw[<- b8u],rfl⟩
def a1N (d:Nat) (L:List En):Atom:=exA λx:Option Nat×Nat=>[.pt d 162 [slv x.1 L.length x.2],l9 101 19 x.1 L.length x.2 (n9 L)]
theorem c1l:FP 59 [] [] (λv As=>∃d,v=pp d/\As=[a1N d []]):=by
 refine FE [] Tryz.func59 λX F hX=>?_;refine J.q λbs=>?_;refine J.turn1 [] rfl (As:=[l9 101 19 none 0 0 (n9 [])]) (λh s=>Sep.one ⟨rfl,rfl,rfl⟩) rfl ?_;refine J.cl (λx:Option Nat×Nat=>[.pt (bs 0) 162 [slv x.1 ([]:List En).length x.2],l9 101 19 x.1 ([]:List En).length x.2 (n9 [])]) (none,0) [1,2] ?_;refine J.qr [1] λ_=>?_;exact⟨bs 0,rfl,rfl⟩
theorem b2P (d:Nat) (L:List En):FP 50 [pp d] [a1N d L] (Ps (iI L.length) [a1N d L]):=by
 refine FE [2] Tryz.func50 λX F hX=>?_;refine J.o (α:=(Option Nat×Nat)) 1 λx=>?_;refine J.qF λ_=>?_;refine J.q λ_=>?_;refine J.cl (λx:Option Nat×Nat=>[.pt d 162 [slv x.1 L.length x.2],l9 101 19 x.1 L.length x.2 (n9 L)]) x [1,2] ?_;exact J.qx [1]
theorem c2k (b:Nat) (e x:En):FP 145 [enV x,pp b] [.pt b 101 (enL e)] (Ps (.bool (x.lpn==e.lpn)) [.pt b 101 (enL e)]):=by
 refine FE [0,2] Tryz.func145 λX F hX=>?_;exact J.qx [1]
def a3d (L:List En) (e:En):List En:=(L.filter λx=>!(x.lpn==e.lpn))++[e]
theorem b4Q (d:Nat) (L:List En) (hL:L.length<=100000) (e:En):FP 92 [pp d,enV e] [a1N d L] (Ps (.tuple #[]) [a1N d (a3d L e)]):=by
 refine FE [2,0] Tryz.func92 λX F hX=>?_;refine J.o (α:=(Option Nat×Nat)) 1 λx=>?_;obtain⟨a,c⟩:=x;refine J.q λbb=>?_;refine J.cF ?_;refine J.qc (a9x 145 [pp (bb 0)] (λx=>x.lpn==e.lpn) (.pt (bb 0) 101 (enL e)) (by kernel_rfl) (λx=>c2k (bb 0) e x) a L.length c L rfl (by omega)) [2,3] λ_=>?_;rintro v As ⟨l',hl',rfl,rfl⟩;refine⟨_,rfl,trivial,?_⟩;have hll:l'.length<=L.length:=by rw[hl'];exact J8 _ _
 have hput:a3d L e=l'++[e]:=by unfold a3d;rw[hl']
 refine J.pq (.of [0,4,8,12,17,21,26,30,32,36,43]) [8,9,10] [1,3] λ_ _=>?_;refine J.ap 2 4 0 (a0S l' e) λa2 c2=>?_;refine J.q λ_=>?_;rw[show l'.length+1=(a3d L e).length from by rw[hput];simp,<- hput];refine J.cl (λx:Option Nat×Nat=>[.pt d 162 [slv x.1 (a3d L e).length x.2],l9 101 19 x.1 (a3d L e).length x.2 (n9 (a3d L e))]) (a2,c2) [1,2] ?_;refine J.q λ_=>?_;refine J.f [1] ?_;exact⟨rfl,rfl⟩
theorem c2l (b:Nat) (k:Int) (x:En):FP 123 [enV x,pp b] [.pt b 3 [iI k]] (Ps (.bool (x.lpn==k)) [.pt b 3 [iI k]]):=by
 refine FE [0,2] Tryz.func123 λX F hX=>?_;exact J.qx [1]
def a2E (L:List En) (k:Int):En×Bool:=match L.find? (λx=>x.lpn==k)with
 | some e=>(e,true)
 | none=>(En.zero,false)
theorem b8I {p:En->Bool} {l:List En} {k:Nat} (h:l.findIdx? p=some k):l.find? p=some (l.getD k En.zero)/\l[k]? =some (l.getD k En.zero):=by
 rw[o0]at h;obtain⟨h1,h2,h3⟩:=h;have e:l[k]? =some (l.getD k En.zero):=by rw[d5,c9 h1,j4]
 refine⟨?_,e⟩;have e2:l.getD k En.zero=l[k]:=by rw[c9 h1]at e;injection e with e;exact e.symm
 rw[List.find?_eq_some_iff_getElem,e2];exact⟨h2,k,h1,rfl,λj hj=>by simpa using h3 j hj⟩
theorem c1m (d:Nat) (L:List En) (hL:L.length<=100000) (k:Int):FP 66 [pp d,iI k] [a1N d L] (Ps (.tuple #[enV (a2E L k).1, .bool (a2E L k).2]) [a1N d L]):=by
 refine FE [2,0] Tryz.func66 λX F hX=>?_;refine J.o (α:=(Option Nat×Nat)) 1 λx=>?_;obtain⟨a,c⟩:=x;refine J.q λbb=>?_;refine J.cF ?_;refine J.q λ_=>?_;refine J.ca hX (by kernel_rfl) (b1C 123 [pp (bb 0)] (λx=>x.lpn==k) (.pt (bb 0) 3 [iI k]) (by kernel_rfl) L (λx _=>c2l (bb 0) k x) a L.length c rfl (by omega)) [2,3] 0 rfl rfl rfl rfl rfl rfl (λ_=>rfl) ?_;refine cpq ⟨_,rfl,trivial,?_⟩;rw[a9r];cases hx:L.findIdx? (λx=>x.lpn==k)with
 | none=>
  dsimp only;refine J.qT λ_=>?_;refine J.cl (λx:Option Nat×Nat=>[.pt d 162 [slv x.1 L.length x.2],l9 101 19 x.1 L.length x.2 (n9 L)]) (a,c) [1,2] ?_;refine J.qr [1] λ_=>?_;have:a2E L k=(En.zero,false):=by
   unfold a2E;rw[List.find?_eq_none.2 (λx hm=>by rw[D4]at hx;simp[hx x hm])]
  rw[this];exact⟨rfl,rfl⟩
 | some i=>
  dsimp only;obtain⟨f1,f2⟩:=b8I hx;have hi:i<L.length:=(List.getElem?_eq_some_iff.1 f2).1;refine J.qd (λ_ h0=>?_) λ_ h0=>?_
  ·simp only[d6]at h0;omega
  cases a with
  | none=>
   refine J.know (λh' s=>(s.get (i:=2) rfl).2.1) λhn0=>?_;omega
  | some g=>
   refine J.q λ_=>?_;refine J.v (enV (L.getD i En.zero)) rfl rfl (λhg a w he hs=>?_) ?_
   ·exact M3 tk rfl rfl he rfl rfl rfl (hs.get (i:=2) rfl) (by rw[show 0+(i:Int).toNat*19=i*19 from by omega];have:=a0s L [] i _ f2;rwa [l8]at this) rfl
   refine J.cl (λx:Option Nat×Nat=>[.pt d 162 [slv x.1 L.length x.2],l9 101 19 x.1 L.length x.2 (n9 L)]) (some g,c) [1,2] ?_;refine J.qr [1] λ_=>?_;have:a2E L k=(L.getD i En.zero,true):=by
    unfold a2E;rw[f1]
   rw[this];exact⟨rfl,rfl⟩
def dkN (L:List En) (n:Int):Nat:=min n.toNat L.length
theorem b4R (d:Nat) (L:List En) (hL:L.length<=100000) (n:Int):FP 93 [pp d,iI n] [a1N d L] (λv As=>∃a' c',v=slv a' (dkN L n) c'/\As=[a1N d L,l9 101 19 a' (dkN L n) c' (n9 (L.take (dkN L n)))]):=by
 refine FE [2,0] Tryz.func93 λX F hX=>?_;refine J.o (α:=(Option Nat×Nat)) 1 λx=>?_;obtain⟨a,c⟩:=x;refine J.qF λ_=>?_;refine J.know (λh' s=>a0Z (s.get (i:=2) rfl)) λhcap=>?_;dsimp only at hcap;have hmin:(if(L.length:Int)<(if(0:Int)>n then 0 else n)then(L.length:Int)else(if(0:Int)>n then 0 else n))=(dkN L n:Int):=by
  unfold dkN
  by_cases h:(0:Int)>n
  ·simp only[d7 h];rw[d4 (by omega)];omega
  ·simp only[d4 h];split<;>omega
 have hk:dkN L n<=L.length:=Nat.min_le_right _ _;refine J.pn 12 (.of [0,4,8,13,16,20,24,28,32,37,40,44,48,54,56]) [14] [1,2] λ_ _=>?_;refine J.vT (slv a (dkN L n) c) rfl rfl (λhg aa w he hC=>?_) ?_
 ·exact b8S rfl rfl rfl he rfl rfl hmin (by omega)
 refine J.qc (b6F a L.length c c (dkN L n) L rfl hk (by omega)) [2] λ_=>?_;rintro v As ⟨a',c',rfl,rfl⟩;refine⟨_,rfl,⟨rfl,rfl,trivial⟩,?_⟩;refine J.q λ_=>?_;refine J.cl (λx:Option Nat×Nat=>[.pt d 162 [slv x.1 L.length x.2],l9 101 19 x.1 L.length x.2 (n9 L)]) (a,c) [1,2] ?_;refine J.qr [1,3] λ_=>?_;exact⟨a',c',rfl,rfl⟩
theorem c0S (b be:Nat) (x e:En):FP 153 [enV e,pp b] [.pt b 101 (enL x)] (Ps (.bool (e.lpn==x.lpn&&e.seq==x.seq)) [.pt b 101 (enL x)]):=by
 refine FE [0,2] Tryz.func153 λX F hX=>?_;exact J.qx [1]
theorem c0T (b:Nat) (B:Atom) (al:Option Addr) (nl cl:Nat) (l:List En) (hB:Rd B al 19 nl (n9 l)) (hl:l.length=nl) (hn:nl<=4611686018427387904) (x:En):FP 151 [enV x,pp b] [.pt b 116 [.slice al nl cl],B] (λv As=>v= .bool (l.any λe=>e.lpn==x.lpn&&e.seq==x.seq)/\As=[.pt b 116 [.slice al nl cl],B]):=by
 refine FE [0,2] Tryz.func151 λX F hX=>?_;refine J.q λbb=>?_;refine J.ca hX (by kernel_rfl) (b1F 153 [pp (bb 0)] (λe=>e.lpn==x.lpn&&e.seq==x.seq) (.pt (bb 0) 101 (enL x)) B (by kernel_rfl) l (λe _=>c0S (bb 0) 0 x e) al nl cl hB hl hn) [2,3] 0 rfl rfl rfl rfl rfl rfl (λ_=>rfl) ?_;refine cpq ⟨_,rfl,trivial,?_⟩;exact J.qx [1,2]
def a0J (L l:List En):List En:=L.filter λx=>!(l.any λe=>e.lpn==x.lpn&&e.seq==x.seq)
theorem b8R (d:Nat) (L:List En) (hL:L.length<=100000) (B:Atom) (al:Option Addr) (nl cl:Nat) (l:List En) (hB:Rd B al 19 nl (n9 l)) (hl:l.length=nl) (hn:nl<=4611686018427387904):FP 95 [pp d, .slice al nl cl] [a1N d L,B] (Ps (iI ((L.length:Int)-(a0J L l).length)) [a1N d (a0J L l),B]):=by
 refine FE [2,0] Tryz.func95 λX F hX=>?_;refine J.o (α:=(Option Nat×Nat)) 1 λx=>?_;obtain⟨a,c⟩:=x;refine J.q λbb=>?_;refine J.cF ?_;refine J.q λ_=>?_;refine J.turn1 [4,2] rfl (As:=[.hp (HP.of [.pt (bb 0) 116 [.slice al nl cl],B])]) (λh s=>Sep.hpOf.2 s) rfl ?_;refine J.q λ_=>?_;refine J.ca hX (by kernel_rfl) (a9x 151 [pp (bb 0)] (λx=>l.any λe=>e.lpn==x.lpn&&e.seq==x.seq) _ (by kernel_rfl) (λx=>Fn.pack (c0T (bb 0) B al nl cl l hB hl hn x)) a L.length c L rfl (by omega)) [3,4] 0 rfl rfl rfl rfl rfl rfl (λ_=>rfl) ?_;rintro v As ⟨l',hl',rfl,rfl⟩;refine⟨_,rfl,trivial,?_⟩;have hll:l'.length<=L.length:=by rw[hl'];exact J8 _ _
 have hdn:a0J L l=l':=hl'.symm;refine J.q λ_=>?_;refine J.turn1 [4] rfl (As:=[.pt (bb 0) 116 [.slice al nl cl],B]) (λh s=>Sep.hpOf.1 s) rfl ?_;refine J.cl (λx:Option Nat×Nat=>[.pt d 162 [slv x.1 l'.length x.2],l9 101 19 x.1 l'.length x.2 (n9 l')]) (a,c) [1,3] ?_;refine J.qr [1,5] λ_=>?_;rw[hdn];exact⟨rfl,rfl⟩
def a6A (e:En):Prop:=(0<=e.lpn/\e.lpn<=65535)/\(0<=e.seq/\e.seq<=1099511627775)
theorem b7S {s:Sh} (h:S.may s=true):a6A s.en:=by
 simp only[S.may,S.numbers,S.inB,f8,d6]at h;exact⟨h.1.2.1.2,h.1.2.1.1⟩
theorem c0D {p:List UInt8} {s:Sh} (h:S.get p=some s):S.may s=true:=by
 unfold S.get at h;split at h
 ·rename_i hh;injection h with h;subst h;exact hh.1
 ·cases h
theorem b7U {N:Nand} {x y z:Int} (h:(M.look N x y z).2=1):S.may (M.look N x y z).1=true:=by
 unfold M.look at h ⊢;dsimp only at h ⊢;split
 ·rename_i h0;rw[d7 h0]at h;split
  ·rename_i h1;rw[d7 h1]at h;simp at h
  ·rename_i h1;simp only[not_or]at h1;have hg:S.getE (N.readV x y z)=0:=by simpa using h1.1
   unfold S.getE at hg;cases hs:S.get (N.readV x y z)with
   | none=>rw[hs]at hg;simp at hg
   | some s=>simp only[S.getV,hs,j4];exact c0D hs
 ·rename_i h0;rw[d4 h0]at h;split at h
  ·simp at h
  ·split at h<;>simp at h
theorem c2R {b r m:Int} {e:En} (h:W.ok b r m e=true):a6A e:=b7S (s:=W.sh b r m e) h
theorem a6r {N:Nand} {b r:Int} {f:Fnd} (h:f∈R.all N b r):f.block=b/\f.row=r/\a6A f.en:=by
 unfold R.all at h;rw[K6]at h;obtain⟨m,_,h⟩:=h;unfold R.allM at h;rw[a2K]at h;obtain⟨k,hk,h⟩:=h;rw[J4]at hk;unfold R.fnd at h;split at h
 ·rename_i hc;injection h with h;subst h;refine⟨rfl,rfl,?_⟩;simp only[f8]at hc;obtain⟨h1,_⟩:=hc;dsimp only;unfold R.enAt;unfold R.okAt at h1;split
  ·rename_i hg;have hlen:k<(R.ones N b r m (G.slots m).toNat).length:=by simpa[R.look]using hk
   have e1:(R.look N b r m).good.getD k false=((R.ones N b r m (G.slots m).toNat)[k]).2:=by simp[R.look,hlen]
   have e2:(R.look N b r m).slots.getD k Sh.zero=((R.ones N b r m (G.slots m).toNat)[k]).1:=by simp[R.look,hlen]
   rw[e1]at hg;rw[e2];simp only[R.ones,Z5,R.one,f8,B4]at hg ⊢;exact b7S (b7U hg.1)
  ·rename_i hg;rw[Bool.not_eq_true]at hg;rw[hg,D6]at h1;unfold R.mendB at h1;simp only[f8]at h1;have hb:=h1.2;unfold R.mend;rw[d7 (by rw[f8];exact h1.1),W.back,d7 hb];unfold W.backB at hb;simp only[f8]at hb;exact c2R hb.2
 ·cases h
theorem b4X (N:Nand) (hN:N.Ok):(V.all N).length<=6000:=by
 have hbd:=hN.bd;have h0:∀b r,(R.all N b r).length<=42:=λb r=>by
  have:=a8l N b r (M.masks N b r).length (by omega);unfold a5z at this
  rwa [T6]at this
 have h1:∀(l:List Nat) (b:Int),(l.flatMap λr=>R.all N b (r:Nat)).length<=42*l.length:=by
  intro l b
  induction l with
  | nil=>simp
  | cons x l ih=>rw[z7,d8,l6];have:=h0 b x;omega
 have h2:∀l:List Nat,(l.flatMap λb=>(List.range N.pages).flatMap λr=>R.all N (b:Nat) (r:Nat)).length<=336*l.length:=by
  intro l
  induction l with
  | nil=>simp
  | cons x l ih=>
   rw[z7,d8,l6];have:=h1 (List.range N.pages) x;rw[K7]at this;omega
 have:=h2 (List.range N.blocks);rw[K7]at this;unfold V.all;omega
theorem b4a {N:Nand} {f:Fnd} (h:f∈V.all N):(∃r:Nat,f.row=(r:Int)/\r<N.pages)/\a6A f.en:=by
 unfold V.all at h;rw[K6]at h;obtain⟨b,_,h⟩:=h;rw[K6]at h;obtain⟨r,hr,h⟩:=h;have:=a6r h;exact⟨⟨r,this.2.1,List.mem_range.1 hr⟩,this.2.2⟩
abbrev fdV (x:Fnd):Value:= .agg (fnL x).toArray
def Fnd.zero:Fnd:=⟨En.zero,0,0,0,0,false,false⟩
theorem b1L (a b:Fnd):FP 203 [fdV a,fdV b] [] (Ps (.bool (V.behind a b)) []):=by
 refine FE [0,0] Tryz.func203 λX F hX=>?_;refine J.qd (λ_ h1=>?_) λ_ h1=>?_
 ·refine J.qr [] λ_=>?_;simp only[G9,I1]at h1;exact⟨by rw[V.behind,d7 h1],rfl⟩
 ·simp only[A8]at h1;refine J.run hX tk 400 (λb3=>rfl) (λb3=>?_) (λb3=>?_)
  ·(repeat' (first | exact Conj.nil | refine Conj.cons ?_ ?_ | exact rfl | exact hq | (rw[hq];rfl) | (rw[(i4 _).mp hq]) | intro hq | omega | (simp;done) | (simp_all;done)))
  refine J.qr [] λ_=>?_;exact⟨by rw[V.behind,d4 (by simp[h1])],rfl⟩
theorem a6c {l:List Fnd} {k:Nat} {x:Fnd} (h:l[k]? =some x):V.tops (l.take (k+1))=V.topsStep (V.tops (l.take k)) x:=by
 unfold V.tops;rw[D2,h,K8,B8];rfl
theorem b0H (o:List Fnd) (x:Fnd):(V.topsStep o x).length<=o.length+1:=by
 cases o with
 | nil=>simp[V.topsStep]
 | cons h t=>
  simp only[V.topsStep];split
  ·simp
  ·split<;>simp
theorem a7L (l:List Fnd):(V.tops l).length<=l.length:=by
 have:∀k,k<=l.length->(V.tops (l.take k)).length<=k:=by
  intro k
  induction k with
  | zero=>intro _;simp[V.tops]
  | succ k ih=>
   intro hk;rw[a6c (c9 (by omega))];have:=b0H (V.tops (l.take k)) l[k];have:=ih (by omega);omega
 have:=this l.length (j3 _)
 rwa [T6]at this
theorem b6K (a:Option Nat) (n cap:Nat) (l:List Fnd) (hl:l.length=n) (hn:n<=100000):FP 162 [slv a n cap] [l9 180 25 a n cap (H2 l)]
  (λv As=>∃a' c',v=slv a' (V.tops l).length c'/\As=[l9 180 25 a n cap (H2 l),l9 180 25 a' (V.tops l).length c' (H2 (V.tops l))]):=by
 refine FE [0] Tryz.func162 λX F hX=>?_;refine J.turn1 [] rfl (As:=[l9 180 25 none 0 0 (H2 [])]) (λh s=>Sep.one ⟨rfl,rfl,rfl⟩) rfl ?_;refine J.q λ_=>?_;refine J.l (α:=(Nat×Option Nat×Nat×List Fnd)) (λz=>z.1<=n/\V.tops (l.take z.1)=z.2.2.2) (λz=>[si 8 z.1,si 7 n,sv 6 (slv a n cap),sv 3 (slv z.2.1 z.2.2.2.length z.2.2.1)]) [2] (λz=>[l9 180 25 z.2.1 z.2.2.2.length z.2.2.1 (H2 z.2.2.2)]) (λz=>n-z.1) ((0,none,0,[])) (⟨j8 _,rfl⟩) λz hI=>?_;obtain⟨k,a1,c1,out⟩:=z;dsimp only at hI ⊢;obtain⟨hI,hto⟩:=hI;refine J.qd (λ_ h1=>?_) λ_ h1=>?_
 ·simp only[d6,i6]at h1;cases a with
  | none=>
   refine J.know (λh' s=>(s.get (i:=1) rfl).2.1) λhn0=>?_;omega
  | some g=>
  obtain⟨x,hx⟩:∃x,l[k]? =some x:=⟨_,c9 (by omega)⟩;have hts:=a6c hx;have hlen:=a7L (l.take k);rw[l5,hto]at hlen;rw[hto]at hts;refine J.q λ_=>?_;refine J.v (fdV x) rfl rfl (λhg a w he hs=>?_) ?_
  ·exact M3 tk rfl rfl he rfl rfl rfl (hs.get (i:=1) rfl) (by rw[show 0+(k:Int).toNat*25=k*25 from by omega];exact a2n hx) rfl
  rcases out with _ | ⟨y,o⟩
  ·skip
   refine J.pn 5 (.of [0,4,8,12,16,20,25,29,34,36,40]) [] [1,2,3] λ_ _=>?_;refine J.vT (pp g) rfl rfl (λhg a w he hC=>absurd hg (by simp[G.on])) ?_;refine J.q λ_=>?_;refine J.vT (fdV x) rfl rfl (λhg a w he hC=>absurd hg (by simp[G.on])) ?_;refine J.q λ_=>?_;refine J.val hX (.bool true) 0 rfl rfl (λhg a w he hC=>absurd hg (by simp[G.on])) rfl stq ?_;refine J.qT λ_=>?_;refine J.q λbs=>?_;refine J.cO 180 25 1 1 (H2 [x]) 4 ?_;have hs:V.tops (l.take (k+1))=[x]:=by rw[hts];rfl
   refine J.slot (k:=3) (s':=⟨3,slv (some (bs 0)) [x].length 1,0, .tt⟩) rfl rfl rfl ?_;refine J.q λ_=>?_;refine J.n ((k+1,some (bs 0),1,[x])) (⟨by dsimp only;omega,hs⟩) (by dsimp only;omega) [0,1,4]
  ·refine J.know (λh' s=>D7 (c:=(a1,c1)) (by simp) (s.get (i:=2) rfl)) λhg=>?_;obtain⟨ga,rfl⟩:=hg;refine J.pq (.of [0,4,8,12,16,20,25,29,34,36,40]) [] [1,2,3] λ_ _=>?_;refine J.vT (fdV y) rfl rfl (λhg a w he hC=>?_) ?_
   ·exact M3 tk rfl rfl he hg rfl rfl (hC rfl _ (C0 (i:=2) rfl)) rfl rfl
   have hnz:(((y::o).length:Int)==0)=false:=by rw[m6,l6];omega
   rw[hnz];refine J.qp (b1L y x) [] λ_=>?_;refine J.qd (λ_ h2=>?_) λ_ h2=>?_
   ·refine J.q λbs=>?_;refine J.cO 180 25 1 1 (H2 [x]) 4 ?_;have hs:V.tops (l.take (k+1))=[x]:=by rw[hts];rw[V.topsStep,d7 (by simpa using h2)]
    refine J.slot (k:=3) (s':=⟨3,slv (some (bs 0)) [x].length 1,0, .tt⟩) rfl rfl rfl ?_;refine J.q λ_=>?_;refine J.n ((k+1,some (bs 0),1,[x])) (⟨by dsimp only;omega,hs⟩) (by dsimp only;omega) [0,1,4]
   ·refine J.pq (.of [1,4,8,13,19,20,24]) [4,5,6] [1,2,3] λ_ _=>?_;refine J.vT (fdV y) rfl rfl (λhg a w he hC=>?_) ?_
    ·exact M3 tk rfl rfl he hg rfl rfl (hC rfl _ (C0 (i:=2) rfl)) rfl rfl
    refine J.qp (b1L x y) [] λ_=>?_;refine J.qd (λ_ h3=>?_) λ_ h3=>?_
    ·refine J.q λ_=>?_;have hs:V.tops (l.take (k+1))=y::o++[x]:=by rw[hts,V.topsStep,d4 (by simpa using h2),d4 (by simpa using h3)]
     refine J.append hX tk 2 4 0 rfl rfl rfl rfl rfl rfl rfl rfl rfl rfl rfl rfl rfl rfl rfl rfl ?_ ?_ (λ_=>rfl) λa3 c3=>⟨_,(congrArg (λz=>V2 _ 2 (l9 _ _ _ _ _ z)) (a4o (y::o) x).symm).trans rfl,trivial,?_⟩
     ·simp only[maxLen];omega
     ·omega
     rw[show(y::o).length+1=(y::o++[x]).length from by simp];refine J.q λ_=>?_;refine J.n ((k+1,a3,c3,y::o++[x])) (⟨by dsimp only;omega,hs⟩) (by dsimp only;omega) [0,1,2]
    ·have hs:V.tops (l.take (k+1))=y::o:=by rw[hts,V.topsStep,d4 (by simpa using h2),d7 (by simpa using h3)]
     refine J.q λ_=>?_;refine J.n ((k+1,some ga,c1,y::o)) (⟨by dsimp only;omega,hs⟩) (by dsimp only;omega) [0,1,2]
 ·simp only[c8,i6]at h1;obtain rfl:k=n:=by omega
  rw[x9 (by omega)]at hto;subst hto;refine J.qr [1,2] λ_=>?_;exact⟨a1,c1,rfl,rfl⟩
def b0G (x:Int):Bool:=x !=2&&x !=4
theorem b9r (A:Atom) (x:Int):FP 164 [iI x] [A] (Ps (.bool (b0G x)) [A]):=by
 refine FE [0] Tryz.func164 λX F hX=>?_;exact J.qx [1]
theorem b1v (N:Nand) (b r:Int):V.blankRow N b r= !(((M.rowN N b r N.dies).map (·.2)).any b0G):=by
 unfold V.blankRow;rw[List.any_map,List.not_any_eq_all_not];congr 1;funext x;show(x.2==2||x.2==4)= !(!(x.2==2)&& !(x.2==4));cases(x.2==2)<;>cases(x.2==4)<;>rfl
def V.upto (N:Nand) (f:Fnd) (k:Nat):Bool:=(List.range k).all λr:Nat=>decide ((r:Int)<=f.row)||V.blankRow N f.block r
theorem V.upto_succ (N:Nand) (f:Fnd) (k:Nat):V.upto N f (k+1)=(V.upto N f k&&(decide ((k:Int)<=f.row)||V.blankRow N f.block k)):=by
 unfold V.upto;rw[t6,List.all_append];simp
theorem V.upto_le (N:Nand) (f:Fnd) (k r0:Nat) (hr:f.row=(r0:Int)) (h:k<=r0+1):V.upto N f k=true:=by
 unfold V.upto;rw[E8];intro r hr2;rw[J4]at hr2;rw[i7 (by omega)];rfl
theorem c1q (p:Nat) (N:Nand) (hN:N.Ok) (hR:N.Room) (sp:Nat) (H:Value) (f:Fnd) (r0:Nat) (hr:f.row=(r0:Int)) (hr2:r0<=1000):FP 104 [pp sp,fdV f] [C3 p N, .pt sp 176 [pp p,H]]
  (Ps (.bool (V.last N f)) [C3 p N, .pt sp 176 [pp p,H]]):=by
 have hbd:=hN.bd;refine FE [3,0] Tryz.func104 λX F hX=>?_;refine J.q λbb=>?_;rw[hr];refine J.q λ_=>?_;refine J.l (α:=Nat) (λk=>r0+1<=k/\V.upto N f k=true/\(k=r0+1\/k<=N.pages)) (λk=>[si 5 k,⟨0,pp sp,3, .tt⟩,⟨3,pp (bb 0),4, .tt⟩]) [] (λk=>[]) (λk=>N.pages-k) (r0+1) (⟨j3 _,V.upto_le N f _ r0 hr (j3 _), .inl rfl⟩) λk hI=>?_;refine J.qp (a2V p N) [1] λ_=>?_;refine J.qd (λ_ h1=>?_) λ_ h1=>?_
 ·simp only[d6,i6]at h1;refine J.p (.of [0,4,8,13,16,20,25,28,34,36,40,44,48,52]) [13] [1,2,3] λ_=>?_;refine J.qc (c1k p N hN hR f.block k) [1] λ_=>?_;rintro v As ⟨a1,c1,a2,c2,rfl,rfl⟩;refine⟨_,rfl,stq,?_⟩;refine J.q λ_=>?_;refine J.ca hX (by kernel_rfl) (a6B 164 [] b0G (C3 p N) (by kernel_rfl) ((M.rowN N f.block k N.dies).map (·.2)) (λx _=>b9r (C3 p N) x) a2 N.dies c2 (by simp[M.rowN]) (by omega)) [5,1] 0 rfl rfl rfl rfl rfl rfl (λ_=>rfl) ?_;refine cpq ⟨_,rfl,trivial,?_⟩;have hbl:=b1v N f.block k;have hk:=V.upto_succ N f k;have hlt:decide ((k:Int)<=f.row)=false:=by rw[c8];omega
  rw[hI.2.1,hlt]at hk;refine J.qd (λ_ h2=>?_) λ_ h2=>?_
  ·rw[h2]at hbl;refine J.qr [1,2] λ_=>?_;refine⟨?_,rfl⟩;have:V.last N f=false:=by
    unfold V.last;rw[Bool.and_eq_false_iff];left;rw[List.all_eq_false];exact⟨k,List.mem_range.2 h1,by rw[hlt,hbl];simp⟩
   rw[this]
  ·rw[h2]at hbl;rw[hbl]at hk;refine J.q λ_=>?_;refine J.n (k+1) (⟨by omega,hk,by omega⟩) (by omega) [0,1,2,3]
 ·simp only[c8,i6]at h1;have hup:V.upto N f N.pages=true:=by
   rcases hI.2.2 with h | h
   ·exact V.upto_le N f _ r0 hr (by omega)
   ·rw[show N.pages=k by omega];exact hI.2.1
  refine J.qp (a1x f.mask f.block f.row) [] λ_=>?_;have hv:V.last N f=((M.look N (G.parity f.mask f.block f.row) f.block f.row).2 !=4):=by
   unfold V.last;have:((List.range N.pages).all λr:Nat=>decide ((r:Int)<=f.row)||V.blankRow N f.block r)=true:=hup;rw[this,q9]
  refine J.pq (.take true 0 (.take true 1 (.take true 2 (.take false 3 (.take true 4 (.take true 5 (.take true 6 (.take false 7 (.take true 8 (.take true 9 (.take false 10 (.take true 11 (.alt false 12 ((.of [52,56,60,66,70,72])) (.alt false 16 ((.of [50,52,56,60,70,72])) .non)))))))))))))) [18] [1,2,3] λ_ _=>?_;refine J.alts ?_ ?_
  ·skip
   refine J.qp (a6k p N hN hR (G.parity f.mask f.block f.row) f.block f.row) [1] λ_=>?_;refine J.qr [1,2] λ_=>?_;exact⟨by rw[hv],rfl⟩
  ·skip
   refine J.qn 1 λ_=>?_;refine J.qp (a6k p N hN hR (G.parity f.mask f.block f.row) f.block f.row) [1] λ_=>?_;refine J.qr [1,2] λ_=>?_;exact⟨by rw[hv],rfl⟩
theorem b0w (l:List Fnd) (r:List Value) (k:Nat) (x:Fnd) (h:l[k]? =some x):((H2 l++r).drop (k*25)).take 25=fnL x:=by
 have hk:k<l.length:=(List.getElem?_eq_some_iff.1 h).1;rw[List.drop_append_of_le_length (by rw[Y9];omega),List.take_append_of_le_length (by rw[C5,Y9];omega)];exact a2n h
theorem a8U:∀(l:List Fnd) (r:List Value) (k:Nat) (x:Fnd),k<l.length->(H2 l++r).take (k*25)++fnL x++(H2 l++r).drop (k*25+25)=H2 (l.set k x)++r
 | [],_,_,_,h=>by simp at h
 | y::l,r,0,x,h=>by simp[H2,fnL]
 | y::l,r,k+1,x,h=>by
  have:=a8U l r k x (by simpa using h);have hy:(fnL y).length=25:=rfl;have e1:H2 (y::l)++r=fnL y++(H2 l++r):=by simp[H2]
  have e2:H2 ((y::l).set (k+1) x)++r=fnL y++(H2 (l.set k x)++r):=by simp[H2]
  rw[e1,e2,<- this,show(k+1)*25=(fnL y).length+k*25 from by omega,T9,show(fnL y).length+k*25+25=(fnL y).length+(k*25+25)from by omega,<- C2,U8 rfl];simp only[m9]
def c0z (p:Fnd->Bool) (l:List Fnd):Int:=match l.findIdx? p with
 | some k=>k
 | none=> -1
theorem b5Z {p:Fnd->Bool} {l:List Fnd} {k:Nat} {x:Fnd} (h:l[k]? =some x) (h0:∀i<k,p (l.getD i Fnd.zero)=false) (hp:p x=true):l.findIdx? p=some k:=by
 rw[o0];obtain⟨h1,h2⟩:=List.getElem?_eq_some_iff.1 h;refine⟨h1,by rw[h2];exact hp,λj hj=>?_⟩;have:=h0 j hj;rw[d5,c9 (by omega),j4]at this;simp[this]
theorem b6a {p:Fnd->Bool} {l:List Fnd} (h0:∀i<l.length,p (l.getD i Fnd.zero)=false):l.findIdx? p=none:=by
 rw[D4];intro x hx;obtain⟨i,hi,rfl⟩:=List.mem_iff_getElem.1 hx;have:=h0 i hi
 rwa [d5,c9 hi,j4]at this
theorem b6D (c:Nat) (cs:List Value) (p:Fnd->Bool) (A:Atom) (hcal:K0 Tryz.prog c=true) (l:List Fnd) (hf:∀x∈l,Fn Tryz.prog c (fdV x::cs) [A] (λv As=>v= .bool (p x)/\As=[A]))
  (a:Option Nat) (n cap:Nat) (hl:l.length=n) (hn:n<=4611686018427387904):FP 206 [slv a n cap,fnC c cs] [l9 180 25 a n cap (H2 l),A]
  (λv As=>v=iI (c0z p l)/\As=[l9 180 25 a n cap (H2 l),A]):=by
 refine FE [0,0] Tryz.func206 λX F hX=>?_;refine J.q λ_=>?_;refine J.l (α:=Nat) (λk=>k<=n/\∀i<k,p (l.getD i Fnd.zero)=false) (λk=>[si 8 k,si 7 n,sv 0 (slv a n cap),⟨1,fnC c cs,0, .tt⟩]) [] (λk=>[]) (λk=>n-k) (0) (⟨by omega,by omega⟩) λk hI=>?_;refine J.qd (λ_ h1=>?_) λ_ h1=>?_
 ·simp only[d6,i6]at h1;cases a with
  | none=>
   refine J.know (λh' s=>(s.get (i:=1) rfl).2.1) λhn0=>?_;omega
  | some g=>
   have hk:l[k]? =some (l.getD k Fnd.zero):=by rw[d5,c9 (by omega),j4]
   refine J.q λ_=>?_;refine J.v (fdV (l.getD k Fnd.zero)) rfl rfl (λhg a w he hs=>?_) ?_
   ·exact M3 tk rfl rfl he rfl rfl rfl (hs.get (i:=1) rfl) (by rw[show 0+(k:Int).toNat*25=k*25 from by omega];have:=b0w l [] k _ hk;rwa [l8]at this) rfl
   refine J.q λ_=>?_;refine J.call hX hcal (hf (l.getD k Fnd.zero) (j9 hk)) [2] 0 rfl rfl rfl rfl (by(repeat' (first | exact Conj.nil | refine Conj.cons ?_ ?_ | omega | exact hq0 | (simpa using hq0) | (exactλh=>h) | exact rfl | (intro hq;have hq0:=hq;try simp only[f8,j7,d6,i4,c8]at hq) | (simp;done) | (simp;omega) | decide))) rfl rfl (λ_=>rfl) ?_;refine cpq ⟨_,rfl,trivial,?_⟩;refine J.qd (λ_ h2=>?_) λ_ h2=>?_
   ·refine J.qr [1,2] λ_=>?_;exact⟨by rw[c0z,b5Z hk hI.2 h2],rfl⟩
   ·refine J.q λ_=>?_;refine J.nx (k+1) (⟨by omega,λi hi=>by
     rcases Nat.lt_succ_iff_lt_or_eq.1 hi with h3 | h3
     ·exact hI.2 i h3
     ·rw[h3];exact h2⟩) (by omega) (λ_ s=>s)
 ·simp only[c8,i6]at h1;refine J.qr [1,2] λ_=>?_;exact⟨by rw[c0z,b6a (λi hi=>hI.2 i (by omega))],rfl⟩
theorem b3U (l:List Fnd):∀u∈H2 l,u.oneCell'=true:=by
 intro u hu;simp only[H2,K6]at hu;obtain⟨s,_,hu⟩:=hu;simp only[fnL,I3,V5,a5S]at hu;rcases hu with rfl | rfl | rfl | rfl | rfl | rfl | rfl | rfl | rfl | rfl | rfl | rfl | rfl | rfl | rfl | rfl | rfl | rfl | rfl | rfl | rfl | rfl | rfl | rfl | rfl<;>rfl
theorem b6G (a:Option Nat) (n cap:Nat) (l:List Fnd) (hl:l.length=n) (hn:n<=1000000):FP 168 [slv a n cap] [l9 180 25 a n cap (H2 l)]
  (λv As=>∃a' c',v=slv a' n c'/\As=[l9 180 25 a n cap (H2 l),l9 180 25 a' n c' (H2 l)]):=by
 refine FE [0] Tryz.func168 λX F hX=>?_;cases a with
 | none=>
  refine J.know (λh' s=>(s.get (i:=1) rfl).2) λhn0=>?_;obtain⟨rfl,rfl⟩:=hn0;have:l=[]:=m7 hl;subst this;refine J.qT λ_=>?_;refine J.turn1 [] rfl (As:=[l9 180 25 none 0 0 (H2 [])]) (λh s=>Sep.one ⟨rfl,rfl,rfl⟩) rfl ?_;refine J.qr [1,2] λ_=>?_;exact⟨none,0,rfl,rfl⟩
 | some g=>
  refine J.qF λ_=>?_;refine J.qn 5 λbb=>?_;refine J.closeOwn (e:=180) (size:=25) (n:=0) (cap:=0) (xs:=[]) 2 rfl rfl rfl (j3 _) (j8 _) rfl rfl rfl ?_;refine J.q λ_=>?_;refine J.appendR hX tk (a:=some (bb 0)) (n:=0) (cap:=0) (xs:=[]) (oo:=0) (Ay:=l9 180 25 (some g) n cap (H2 l)) 2 1 0 rfl rfl rfl rfl rfl rfl rfl rfl rfl rfl (Y6 _ _ (some g) _ _ _) rfl rfl rfl rfl (b3U l) ?_ ?_ (λ_=>rfl) λa' c'=>⟨_,rfl,trivial,?_⟩
  ·simp only[maxLen];omega
  ·omega
  rw[J6 n,R9];refine J.qr [1,2] λ_=>?_;exact⟨a',c',rfl,rfl⟩
def DelF (p:Fnd->Bool) (l m:List Fnd) (i j:Nat):Prop:=m.length=l.length/\i<j/\j<=l.length/\m.drop j=l.drop j/\m.take i++(l.drop j).filter (λx=>!p x)=l.filter (λx=>!p x)
theorem DelF.start {p:Fnd->Bool} {l:List Fnd} {k:Nat} (h:l.findIdx? p=some k):DelF p l l k (k+1):=by
 rw[o0]at h;obtain⟨h1,h2,h3⟩:=h;refine⟨rfl,by omega,by omega,rfl,?_⟩;have e:l=l.take k++l[k]::l.drop (k+1):=by rw[<- y8 h1,C4]
 have e2:(l.take k).filter (λx=>!p x)=l.take k:=by
  rw[X7];intro x hx;obtain⟨i,hi,rfl⟩:=List.mem_iff_getElem.1 hx;rw[a0o];have:=h3 i (by simp at hi;omega);simpa using this
 conv=>rhs;rw[e]
 rw[T3,e2,T8 (by simp[h2])]
theorem DelF.skip {p:Fnd->Bool} {l m:List Fnd} {i j:Nat} (h:DelF p l m i j) (hj:j<l.length) (hp:p (m.getD j Fnd.zero)=true):DelF p l m i (j+1):=by
 obtain⟨h1,h2,h3,h4,h5⟩:=h;have e1:m[j]? =l[j]?:=by have:=congrArg (λz=>z[0]?) h4;simpa using this
 have hx:l[j]=m.getD j Fnd.zero:=by rw[d5,e1,c9 hj,j4]
 refine⟨h1,by omega,by omega,?_,?_⟩
 ·have:=congrArg (List.drop 1) h4;simpa[C2]using this
 ·rw[<- h5,y8 hj,T8 (by rw[hx,hp];simp)]
theorem DelF.keep {p:Fnd->Bool} {l m:List Fnd} {i j:Nat} (h:DelF p l m i j) (hj:j<l.length) (hp:p (m.getD j Fnd.zero)=false):DelF p l (m.set i (m.getD j Fnd.zero)) (i+1) (j+1):=by
 obtain⟨h1,h2,h3,h4,h5⟩:=h;have e1:m[j]? =l[j]?:=by have:=congrArg (λz=>z[0]?) h4;simpa using this
 have hx:l[j]=m.getD j Fnd.zero:=by rw[d5,e1,c9 hj,j4]
 refine⟨by simp[h1],by omega,by omega,?_,?_⟩
 ·rw[List.drop_set_of_lt (by omega)];have:=congrArg (List.drop 1) h4;simpa[C2]using this
 ·rw[<- h5,y8 hj,a2Q (by rw[hx,hp];simp),hx,a4q,D2,c9 (by omega)];rw[O9 _ _ (by simp;omega)];simp[l5,K5 (show i<=m.length by omega)]
theorem b5b (c:Nat) (cs:List Value) (p:Fnd->Bool) (A:Atom) (hcal:K0 Tryz.prog c=true) (hf:∀x,Fn Tryz.prog c (fdV x::cs) [A] (λv As=>v= .bool (p x)/\As=[A]))
  (a:Option Nat) (n cap:Nat) (l:List Fnd) (hl:l.length=n) (hn:n<=4611686018427387904):FP 167 [slv a n cap,fnC c cs] [l9 180 25 a n cap (H2 l),A]
  (λv As=>∃l',l'=l.filter (λx=>!p x)/\v=slv a l'.length cap/\As=[l9 180 25 a l'.length cap (H2 l'),A]):=by
 refine FE [0,0] Tryz.func167 λX F hX=>?_;refine J.qp (b6D c cs p A hcal l (λx _=>hf x) a n cap hl hn) [1,2] λ_=>?_;rw[c0z];cases hx:l.findIdx? p with
 | none=>
  dsimp only;refine J.qT λ_=>?_;refine J.qr [1,2] λ_=>?_;have:l.filter (λx=>!p x)=l:=by
   rw[X7];intro x hm;rw[D4]at hx;simp[hx x hm]
  exact⟨l,this.symm,by rw[hl],by rw[hl];rfl⟩
 | some k=>
  dsimp only;refine J.qd (λ_ h0=>?_) λ_ h0=>?_
  ·simp only[B4]at h0;omega
  have hk:k<n:=by rw[o0]at hx;obtain⟨h1,_⟩:=hx;omega
  cases a with
  | none=>
   refine J.know (λh' s=>(s.get (i:=1) rfl).2.1) λhn0=>?_;omega
  | some g=>
   refine J.openOwn 1 rfl rfl (λ_=>rfl) λr q1 q2 q3 q4=>?_;refine J.q λ_=>?_;rw[show(k:Int)+1=((k+1:Nat):Int)from by omega];refine J.q λ_=>?_;refine J.l (α:=(Nat×Nat×List Fnd)) (λx=>DelF p l x.2.2 x.1 x.2.1) (λx=>[si 6 x.2.1,si 5 x.1,sv 0 (slv (some g) n cap),⟨1,fnC c cs,0, .tt⟩]) [1] (λx=>[.pt g 180 (H2 x.2.2++r)]) (λx=>n-x.2.1) ((k,k+1,l)) (DelF.start hx) λx hI=>?_;obtain⟨i,j,m⟩:=x;dsimp only at hI ⊢;have hml:m.length=n:=hI.1.trans hl;have hij:i<j:=hI.2.1;have hjn:j<=n:=by have:=hI.2.2.1;omega
   refine J.qd (λ_ h1=>?_) λ_ h1=>?_
   ·simp only[d6,i6]at h1;have hget:m[j]? =some (m.getD j Fnd.zero):=by rw[d5,c9 (by omega),j4]
    refine J.q λ_=>?_;refine J.v (fdV (m.getD j Fnd.zero)) rfl rfl (λhg a w he hs=>?_) ?_
    ·exact H7 tk rfl rfl he rfl rfl rfl (hs.get (i:=1) rfl) (by rw[show 0+(j:Int).toNat*25=j*25 from by omega];exact b0w m r _ _ hget) rfl
    refine J.q λ_=>?_;refine J.call hX hcal (hf (m.getD j Fnd.zero)) [2] 0 rfl rfl rfl rfl (by(repeat' (first | exact Conj.nil | refine Conj.cons ?_ ?_ | omega | exact hq0 | (simpa using hq0) | (exactλh=>h) | exact rfl | (intro hq;have hq0:=hq;try simp only[f8,j7,d6,i4,c8]at hq) | (simp;done) | (simp;omega) | decide))) rfl rfl (λ_=>rfl) ?_;refine cpq ⟨_,rfl,trivial,?_⟩;refine J.qd (λ_ h2=>?_) λ_ h2=>?_
    ·simp only[i4]at h2;refine J.q λ_=>?_;refine J.storeN hX tk 1 rfl rfl rfl rfl rfl rfl rfl rfl rfl rfl rfl rfl rfl ?_ (H2 (m.set i (m.getD j Fnd.zero))++r) ?_ rfl (λ_=>rfl) ⟨trivial,?_⟩
     ·rw[d8,Y9];show 0+(i:Int).toNat*25+25<=_;omega
     ·rw[show 0+(i:Int).toNat*25=i*25 from by omega];exact a8U m r i _ (by omega)
     refine J.q λ_=>?_;refine J.n ((i+1,j+1,m.set i (m.getD j Fnd.zero))) (hI.keep (by omega) h2) (by dsimp only;omega) [0,1,2]
    ·simp only[B5]at h2;refine J.q λ_=>?_;refine J.n ((i,j+1,m)) (hI.skip (by omega) h2) (by dsimp only;omega) [0,1,2]
   ·simp only[c8,i6]at h1;obtain rfl:j=n:=by omega
    have hfil:m.take i=l.filter (λx=>!p x):=by
     have h5:=hI.2.2.2.2;rw[H0 (by omega)]at h5;simpa using h5
    refine J.q λ_=>?_;refine J.clear hX tk 1 rfl rfl rfl rfl rfl rfl rfl rfl rfl rfl rfl ?_ (λ_=>rfl) (λ_=>rfl) λcs' z1 z2=>⟨trivial,?_⟩
    ·rw[d8,Y9];rw[Y9]at q4;show 0+(i:Int).toNat*25+(j-(i:Int).toNat)*25<=_;have:(i:Int).toNat=i:=by omega
     rw[this];omega
    have hilen:(l.filter (λx=>!p x)).length=i:=by rw[<- hfil,l5];omega
    refine J.closeOwn (e:=180) (size:=25) (n:=i) (cap:=cap) (xs:=H2 (l.filter (λx=>!p x))) 1 rfl rfl (by rw[Y9,hilen]) (by omega) q3 (by rw[z1,d8,Y9,hml];rw[Y9,hl]at q4;exact q4) ?_ rfl ?_
    ·have z3:(0+(i:Int).toNat*25)=i*25:=by omega
     rw[z3]at z2;rw[z2,<- hfil];have e:H2 m=H2 (m.take i)++H2 (m.drop i):=by
      conv=>lhs;rw[<- C4 i m]
      simp only[H2,K1]
     rw[e,m9,D9 (by rw[Y9,l5,K5 (by omega)])]
    refine J.qr [1,2] λ_=>?_;exact⟨_,rfl,by rw[hilen];rfl,by rw[hilen];rfl⟩
structure FSlot where
 a:Option Nat
 cap:Nat
 l:List Fnd
def FSlot.hdr (z:FSlot):Value:=slv z.a z.l.length z.cap
def FSlot.atom (z:FSlot):Atom:=l9 180 25 z.a z.l.length z.cap (H2 z.l)
def a4h (Z:List FSlot):List Value:=Z.map FSlot.hdr
def a5I (Z:List FSlot):List Atom:=Z.map FSlot.atom
theorem b2C {Z:List FSlot} {k:Nat} {z:FSlot} (h:Z[k]? =some z):(a4h Z)[0+(k:Int).toNat*1]? =some z.hdr:=by
 rw[show 0+(k:Int).toNat*1=k from by omega,a4h,i5,h];rfl
theorem a5H {Z:List FSlot} {k:Nat} {z:FSlot} (h:Z[k]? =some z):(a5I Z)[k]? =some z.atom:=by
 rw[a5I,i5,h];rfl
theorem a6u {Z:List FSlot} {k:Nat} {z:FSlot} (h:Z[k]? =some z):(a5I Z).set k z.atom=a5I Z:=by
 apply z8;intro i;rw[A9];split
 ·rename_i e;subst e;split
  ·exact(a5H h).symm
  ·rename_i e2;rw[j6 (by omega)]
 ·rfl
theorem b8M (Z:List FSlot) (k:Nat) (z:FSlot):(a5I Z).set k z.atom=a5I (Z.set k z):=by rw[a5I,a5I,A6]
theorem b8w (Z:List FSlot) (k:Nat) (z:FSlot):(a4h Z).set k z.hdr=a4h (Z.set k z):=by rw[a4h,a4h,A6]
def V.standOf (l:List Fnd):Fnd×Bool:=match V.tops l with
 | []=>(Fnd.zero,false)
 | f::_=>(f,true)
def ScP (sp p g:Nat) (Z:List FSlot):List Atom:=[.pt sp 176 [pp p, .slice (some ⟨g,0,none⟩) Z.length Z.length], .pt g 177 (a4h Z), .hp (HP.of (a5I Z))]
theorem b6L (sp p g:Nat) (Z:List FSlot) (k:Nat) (z:FSlot) (hz:Z[k]? =some z) (hn:Z.length<=100000) (hl:z.l.length<=100000):FP 102 [pp sp,iI k] (ScP sp p g Z)
  (Ps (.tuple #[fdV (V.standOf z.l).1, .bool (V.standOf z.l).2]) (ScP sp p g Z)):=by
 have hk:k<Z.length:=(List.getElem?_eq_some_iff.1 hz).1;refine FE [2,0] Tryz.func102 λX F hX=>?_;refine J.q λ_=>?_;refine J.v z.hdr rfl rfl (λhg a w he hs=>?_) ?_
 ·exact B6 tk rfl rfl he rfl rfl rfl (hs.get (i:=2) rfl) (b2C hz)
 refine J.openAt 3 k rfl rfl (a5H hz) rfl ?_;refine J.qc (b6K z.a z.l.length z.cap z.l rfl hl) [5] λ_=>?_;rintro v As ⟨a',c',rfl,rfl⟩;refine⟨_,rfl,trivial,?_⟩;have hv:V.standOf z.l=match V.tops z.l with
  | []=>(Fnd.zero,false)
  | f::_=>(f,true):=rfl
 rcases ht:V.tops z.l with _ | ⟨f,o⟩
 ·rw[ht]at hv;refine J.qT λ_=>?_;refine J.q λ_=>?_;refine J.closeAt (A:=z.atom) 3 5 k rfl rfl rfl ?_;rw[a6u hz];refine J.qr [1,2,3] λ_=>?_;exact⟨by rw[hv];rfl,rfl⟩
 ·rw[ht]at hv;refine J.know (λh' s=>D7 (c:=(a',c')) (by simp) (s.get (i:=6) rfl)) λhg=>?_;obtain⟨ga,rfl⟩:=hg;refine J.qd (λ_ h1=>?_) λ_ h1=>?_
  ·simp only[B4,l6]at h1;omega
  refine J.q λ_=>?_;refine J.v (fdV f) rfl rfl (λhg a w he hs=>?_) ?_
  ·exact M3 tk rfl rfl he rfl rfl rfl (hs.get (i:=6) rfl) rfl rfl
  refine J.q λ_=>?_;refine J.closeAt (A:=z.atom) 3 5 k rfl rfl rfl ?_;rw[a6u hz];refine J.qr [1,2,3] λ_=>?_;exact⟨by rw[hv];rfl,rfl⟩
theorem b6M (A:Atom) (x:Fnd):FP 169 [fdV x] [A] (Ps (.bool (!x.whole)) [A]):=by
 refine FE [0] Tryz.func169 λX F hX=>?_;exact J.qx [1]
theorem b9s (sp p g:Nat) (Z:List FSlot) (k:Nat) (z:FSlot) (hz:Z[k]? =some z) (hn:Z.length<=100000) (hl:z.l.length<=100000):FP 105 [pp sp,iI k] (ScP sp p g Z)
  (λv As=>∃a c,v=slv a (V.holds z.l).length c/\As=ScP sp p g Z++[l9 3 1 a (V.holds z.l).length c (B2 (V.holds z.l))]):=by
 have hk:k<Z.length:=(List.getElem?_eq_some_iff.1 hz).1;refine FE [2,0] Tryz.func105 λX F hX=>?_;refine J.q λ_=>?_;refine J.v z.hdr rfl rfl (λhg a w he hs=>?_) ?_
 ·exact B6 tk rfl rfl he rfl rfl rfl (hs.get (i:=2) rfl) (b2C hz)
 refine J.openAt 3 k rfl rfl (a5H hz) rfl ?_;refine J.qc (b6G z.a z.l.length z.cap z.l rfl (by omega)) [4] λ_=>?_;rintro v As ⟨a1,c1,rfl,rfl⟩;refine⟨_,rfl,trivial,?_⟩;refine J.closeAt (A:=z.atom) 3 4 k rfl rfl rfl ?_;rw[a6u hz];refine J.q λ_=>?_;refine J.ca hX (by kernel_rfl) (b5b 169 [] (λx=>!x.whole) (.pt sp 176 [pp p, .slice (some ⟨g,0,none⟩) Z.length Z.length]) (by kernel_rfl) (λx=>b6M _ x) a1 z.l.length c1 z.l rfl (by omega)) [5,1] 0 rfl rfl rfl rfl rfl rfl (λ_=>rfl) ?_;rintro v As ⟨l',hl',rfl,rfl⟩;refine⟨_,rfl,trivial,?_⟩;have hl2:l'=z.l.filter λf=>f.whole:=by rw[hl'];congr 1;funext x;simp
 have hll:l'.length<=z.l.length:=by rw[hl'];exact J8 _ _
 have htl:=a7L l';have hh:V.holds z.l=(V.tops l').map (·.block):=by rw[hl2];rfl
 refine J.qc (b6K a1 l'.length c1 l' rfl (by omega)) [5] λ_=>?_;rintro v As ⟨a2,c2,rfl,rfl⟩;refine⟨_,rfl,trivial,?_⟩;refine J.turn1 [] rfl (As:=[l9 3 1 none 0 0 (B2 [])]) (λh s=>Sep.one ⟨rfl,rfl,rfl⟩) rfl ?_;refine J.q λ_=>?_;refine J.l (α:=(Nat×Option Nat×Nat)) (λw=>w.1<=(V.tops l').length) (λw=>[si 21 w.1,⟨20,iI (V.tops l').length,0, .tt⟩,sv 19 (slv a2 (V.tops l').length c2),sv 6 (slv w.2.1 w.1 w.2.2)]) [7] (λw=>[l9 3 1 w.2.1 w.1 w.2.2 (B2 (((V.tops l').take w.1).map (·.block)))]) (λw=>(V.tops l').length-w.1) ((0,none,0)) (j8 _) λw hI=>?_;obtain⟨j,a3,c3⟩:=w;dsimp only at hI ⊢;refine J.qd (λ_ h1=>?_) λ_ h1=>?_
 ·simp only[d6,i6]at h1;obtain⟨x,hx⟩:∃x,(V.tops l')[j]? =some x:=⟨_,c9 h1⟩;have htk:((V.tops l').take (j+1)).map (·.block)=((V.tops l').take j).map (·.block)++[x.block]:=by rw[D2,hx];simp
  refine J.know (λh' s=>D7 (c:=(a2,c2)) (by omega) (s.get (i:=6) rfl)) λhg=>?_;obtain⟨ga,rfl⟩:=hg;refine J.q λ_=>?_;refine J.v (fdV x) rfl rfl (λhg a w he hs=>?_) ?_
  ·exact M3 tk rfl rfl he rfl rfl rfl (hs.get (i:=6) rfl) (by rw[show 0+(j:Int).toNat*25=j*25 from by omega];exact a2n hx) rfl
  refine J.q λ_=>?_;refine J.ap 7 9 0 ((a1z _ x.block).symm.trans (congrArg B2 htk.symm)) λa4 c4=>?_;refine J.q λ_=>?_;refine J.n ((j+1,a4,c4)) (by dsimp only;omega) (by dsimp only;omega) [0,1,2,3,4,5,6,7]
 ·simp only[c8,i6]at h1;obtain rfl:j=(V.tops l').length:=by omega
  rw[T6,<- hh];refine J.qr [1,2,3,7] λ_=>?_;have hlen:(V.tops l').length=(V.holds z.l).length:=by rw[hh,j5]
  rw[hlen];exact⟨a3,c3,rfl,rfl⟩
end
section
open Go Go.Shelf
def b9P:Ren:=⟨λn=>if n=125 then 171 else if n=128 then 216 else if n=129 then 217 else if n=189 then 106 else if n=215 then 194 else if n=216 then 213 else if n=257 then 170 else if n=294 then 207 else if n=295 then 208 else if n=296 then 209 else if n=297 then 210 else if n=298 then 211 else if n=299 then 212 else if n=300 then 214 else if n=301 then 215 else if n=328 then 243 else if n=329 then 244 else if n=330 then 245 else if n=331 then 246 else if n=332 then 247 else if n=343 then 263 else 0,λn=>if n=0 then 0 else if n=3 then 3 else if n=4 then 4 else if n=5 then 5 else if n=9 then 9 else if n=28 then 24 else if n=46 then 146 else if n=51 then 274 else if n=53 then 276 else if n=131 then 271 else if n=182 then 266 else if n=183 then 267 else if n=218 then 307 else if n=222 then 305 else if n=228 then 320 else if n=229 then 321 else 0,λn=>n⟩
theorem b7Y:Lays.n189 Tryz.prog b9P where
 mixed:=by kernel_rfl
 f125:=by kernel_rfl
 f128:=by kernel_rfl
 f129:=by kernel_rfl
 f189:=by kernel_rfl
 f215:=by kernel_rfl
 f216:=by kernel_rfl
 f257:=by kernel_rfl
 f294:=by kernel_rfl
 f295:=by kernel_rfl
 f296:=by kernel_rfl
 f297:=by kernel_rfl
 f298:=by kernel_rfl
 f299:=by kernel_rfl
 f300:=by kernel_rfl
 f301:=by kernel_rfl
 f328:=by kernel_rfl
 f329:=by kernel_rfl
 f330:=by kernel_rfl
 f331:=by kernel_rfl
 f332:=by kernel_rfl
 f343:=by kernel_rfl
 t0:=by kernel_rfl
 a0:=λw=>by kernel_rfl
 z0:=λw=>by kernel_rfl
 v0:=λw=>by kernel_rfl
 t3:=by kernel_rfl
 a3:=λw=>by kernel_rfl
 z3:=λw=>by kernel_rfl
 v3:=λw=>by kernel_rfl
 t4:=by kernel_rfl
 a4:=λw=>by kernel_rfl
 z4:=λw=>by kernel_rfl
 v4:=λw=>by kernel_rfl
 t5:=by kernel_rfl
 a5:=λw=>by kernel_rfl
 z5:=λw=>by kernel_rfl
 v5:=λw=>by kernel_rfl
 t9:=by kernel_rfl
 a9:=λw=>by kernel_rfl
 z9:=λw=>by kernel_rfl
 v9:=λw=>by kernel_rfl
 t28:=by kernel_rfl
 a28:=λw=>by kernel_rfl
 z28:=λw=>by kernel_rfl
 v28:=λw=>by kernel_rfl
 t46:=by kernel_rfl
 a46:=λw=>by kernel_rfl
 z46:=λw=>by kernel_rfl
 v46:=λw=>by kernel_rfl
 t51:=by kernel_rfl
 a51:=λw=>by kernel_rfl
 z51:=λw=>by kernel_rfl
 v51:=λw=>by kernel_rfl
 t53:=by kernel_rfl
 a53:=λw=>by kernel_rfl
 z53:=λw=>by kernel_rfl
 v53:=λw=>by kernel_rfl
 t131:=by kernel_rfl
 a131:=λw=>by kernel_rfl
 z131:=λw=>by kernel_rfl
 v131:=λw=>by kernel_rfl
 t182:=by kernel_rfl
 a182:=λw=>by kernel_rfl
 z182:=λw=>by kernel_rfl
 v182:=λw=>by kernel_rfl
 t183:=by kernel_rfl
 a183:=λw=>by kernel_rfl
 z183:=λw=>by kernel_rfl
 v183:=λw=>by kernel_rfl
 t218:=by kernel_rfl
 a218:=λw=>by kernel_rfl
 z218:=λw=>by kernel_rfl
 v218:=λw=>by kernel_rfl
 t222:=by kernel_rfl
 a222:=λw=>by kernel_rfl
 z222:=λw=>by kernel_rfl
 v222:=λw=>by kernel_rfl
 t228:=by kernel_rfl
 a228:=λw=>by kernel_rfl
 z228:=λw=>by kernel_rfl
 v228:=λw=>by kernel_rfl
 t229:=by kernel_rfl
 a229:=λw=>by kernel_rfl
 z229:=λw=>by kernel_rfl
 v229:=λw=>by kernel_rfl
end
section
open Go Go.RowKit
def leI (x y:Int):Bool:=decide (x<=y)
def a0X (l:List Int):List Int:=l.mergeSort leI
theorem a2T (l:List Int):(a0X l).length=l.length:=by rw[a0X,List.length_mergeSort]
theorem b6c {g n cap:Nat} {l:List Int} {w:World} (hl':l.length=n) (h:a1j 3 1 (some g) n cap (B2 l) (hl w)):Go.Sort.Holds (Value.int .i64) w g 0 l.toArray:=by
 obtain⟨h0,cur,h1,h2,h3,h4,h5⟩:=h;have h1':w.heap[g]? =some (.cells cur 3 (0,0)):=h1;intro j hj;have hj':j<l.length:=by simpa using hj
 have hc:cur.toList[j]? =some (.int .i64 l[j]):=by
  have:(cur.toList.take (n*1))[j]? =(B2 l)[j]?:=by rw[h5]
  rw[List.getElem?_take_of_lt (by omega)]at this;rw[this,B2,i5,c9 hj'];rfl
 have hg:l.toArray[j]! =l[j]:=by simp[hj']
 rw[hg];refine⟨?_,?_⟩
 ·simp only[World.cell?,J6,h1'];rw[D8]at hc;simp[hc]
 ·simp[World.frozen?,h1']
theorem b9m (a:Option Nat) (n cap:Nat) (l:List Int) (hl':l.length=n) (hn:n<=1000000):Fn Tryz.prog 106 [slv a n cap] [l9 3 1 a n cap (B2 l)]
  (λv As=>v= .tuple #[]/\As=[l9 3 1 a n cap (B2 (a0X l))]):=by
 cases a with
 | none=>
  intro F w s;have h0:n=0:=(s.get (i:=1) rfl).2.1;subst h0;have:l=[]:=m7 hl';subst this;have e:a0X []=a0t []:=by rw[a0X,List.mergeSort_nil];rfl
  rw[e];exact a7X none 0 cap [] rfl (by omega) F w s
 | some g=>
  intro F w s;have ho:a1j 3 1 (some g) n cap (B2 l) (hl w):=s.get (i:=1) rfl;have hH:=b6c hl' ho;obtain⟨h0,cur,h1,h2,h3,h4,h5⟩:=ho;have h1':w.heap[g]? =some (.cells cur 3 (0,0)):=h1;have hlt:g<w.heap.size:=(Array.getElem?_eq_some_iff.1 h1').1;have hc:=Any.slices_Sort_int b7Y g 0 cap l w hH hlt (by omega);subst hl';refine Calls.mono hc λe w' ⟨e1,m,os,e2⟩=>?_;subst e1;have hsz:w.heap.size<=w'.heap.size:=by rw[e2];simp[Go.Sort.grow]
  have hother:∀k,k<w.heap.size->some k≠some g->w'.heap[k]? =w.heap[k]?:=λk hk hne=>by
   rw[e2];have:g≠k:=λe=>hne (by rw[e]);show(w.heap.modify g (Go.Sort.onCells (Go.Sort.putCells (Value.int .i64) 0 (a0X l).toArray))++os)[k]? =_;rw[Array.getElem?_append_left (by rw[Array.size_modify];exact hk),a0e,d4 this]
  have hthis:w'.heap[g]? =some (.cells (Go.Sort.putCells (Value.int .i64) 0 (a0X l).toArray cur) 3 (0,0)):=by
   rw[e2];show(w.heap.modify g (Go.Sort.onCells (Go.Sort.putCells (Value.int .i64) 0 (a0X l).toArray))++os)[g]? =_;rw[Array.getElem?_append_left (by rw[Array.size_modify];exact hlt),a0e,d7 rfl,h1'];rfl
  have hgr:w.grownBy w' (some g):=⟨by rw[e2];rfl,by rw[e2];rfl,by rw[e2];rfl,hsz,hother⟩;refine⟨.tuple #[],_,rfl,⟨rfl,rfl⟩,?_,⟨hgr.os,hgr.tape,hgr.output,hsz⟩⟩;refine Sep.step s (i:=1) (A:=l9 3 1 (some g) l.length cap (B2 l)) rfl (x:=some g) (x':=some g) (λh g' hs e=>?_) hgr (.inl rfl) (λh hh=>?_)
  ·injection e with e;subst e;obtain⟨_,cur',q,_⟩:=hs;exact⟨_,q⟩
  ·refine⟨by rw[B2,j5,a2T,U7],_,(hh g rfl).trans hthis,h2,h3,?_,?_⟩
   ·rw[Go.Sort.putCells,Array.size_mapIdx];exact h4
   ·apply z8;intro i;rw[U7,C6];split
    ·rename_i hi;have hi2:i<(a0X l).length:=by rw[a2T];exact hi
     rw[D8,Go.Sort.putCells,Array.getElem?_mapIdx,O1 (by omega),C9,d7 ⟨j8 _,by simpa using hi2⟩,B2,i5,c9 hi2];simp[hi2]
    ·rw[j6 (by rw[B2,j5,a2T];omega)]
end
section
structure Scd where
 tb:Tb
 torn:List En
 first:Nat
 held:List Int
 next:Int
 pages:Nat
structure Sst where
 tb:Tb
 torn:List En
 held:List Int
 others:List En
namespace V
def nextOf (l:List Fnd):Int:=l.foldl (λm f=>max m (f.en.seq+1)) 1
def step (N:Nand) (L:List Fnd) (s:Sst) (k:Nat):Sst:=
 if(standOf (of L k)).2=true then
  if(standOf (of L k)).1.whole=true then {s with tb:=s.tb.put (standOf (of L k)).1.en (standOf (of L k)).1.block (standOf (of L k)).1.row (standOf (of L k)).1.slot (standOf (of L k)).1.mask}
  else if last N (standOf (of L k)).1=true then⟨s.tb.put (standOf (of L k)).1.en (standOf (of L k)).1.block (standOf (of L k)).1.row (standOf (of L k)).1.slot (standOf (of L k)).1.mask,s.torn++[(standOf (of L k)).1.en],s.held++holds (of L k),s.others⟩
  else⟨s.tb.put (standOf (of L k)).1.en (standOf (of L k)).1.block (standOf (of L k)).1.row (standOf (of L k)).1.slot (standOf (of L k)).1.mask,s.torn,s.held,s.others++[(standOf (of L k)).1.en]⟩
 else s
def goS (N:Nand) (L:List Fnd) (n:Int) (k:Nat):Sst:=(List.range k).foldl (step N L) ⟨Tb.new n,[],[],[]⟩
def size (n:Int):Nat:=(min (max n 0) 65536).toNat
def scanOf (N:Nand) (L:List Fnd) (n:Int):Scd:=⟨(goS N L n (size n)).tb,(goS N L n (size n)).torn++(goS N L n (size n)).others,(goS N L n (size n)).torn.length,J9 (a0X (goS N L n (size n)).held),nextOf L,L.length⟩
def scan (N:Nand) (n:Int):Scd:=scanOf N (all N) n
theorem goS_succ (N:Nand) (L:List Fnd) (n:Int) (k:Nat):goS N L n (k+1)=step N L (goS N L n k) k:=by unfold goS;rw[t6,B8];rfl
theorem step_tb (N:Nand) (L:List Fnd) (s:Sst) (k:Nat):(step N L s k).tb=s.tb\/(standOf (of L k)).2=true/\(step N L s k).tb=s.tb.put (standOf (of L k)).1.en (standOf (of L k)).1.block (standOf (of L k)).1.row (standOf (of L k)).1.slot (standOf (of L k)).1.mask:=by
 unfold step;split
 ·right;rename_i h;refine⟨h,?_⟩;split
  ·rfl
  ·split<;>rfl
 ·left;rfl
theorem goS_ok (N:Nand) (L:List Fnd) (n:Int):∀k,(goS N L n k).tb.Ok
 | 0=>Tb.Ok.new n
 | k+1=>by
  rw[goS_succ];rcases step_tb N L (goS N L n k) k with h | ⟨_,h⟩
  ·rw[h];exact goS_ok N L n k
  ·rw[h];exact(goS_ok N L n k).put _ _ _ _ _
theorem goS_log (N:Nand) (L:List Fnd) (n:Int):∀k,(goS N L n k).tb.logical=min (max n 0) 65536
 | 0=>rfl
 | k+1=>by
  rw[goS_succ];rcases step_tb N L (goS N L n k) k with h | ⟨_,h⟩
  ·rw[h];exact goS_log N L n k
  ·rw[h,Tb.put_logical];exact goS_log N L n k
theorem tops_mem {l:List Fnd} {f:Fnd}:f∈tops l->f∈l:=by
 have:∀k,k<=l.length->∀f∈tops (l.take k),f∈l:=by
  intro k
  induction k with
  | zero=>intro _ f hf;simp[tops]at hf
  | succ k ih=>
   intro hk f hf;rw[a6c (c9 (by omega))]at hf;have ih:=ih (by omega);have hx:l[k]∈l:=I2 _
   revert hf ih
   generalize tops (l.take k)=o;intro hf ih;cases o with
   | nil=>simp[topsStep]at hf;rw[hf];exact hx
   | cons h t=>
    simp only[topsStep]at hf;split at hf
    ·simp at hf;rw[hf];exact hx
    ·split at hf
     ·exact ih f hf
     ·rw[M4]at hf;rcases hf with hf | hf
      ·exact ih f hf
      ·simp at hf;rw[hf];exact hx
 intro h;refine this l.length (j3 _) f ?_
 rwa [T6]
theorem standOf_mem {l:List Fnd} (h:(standOf l).2=true):(standOf l).1∈l:=by
 have hm:∀f,f∈tops l->f∈l:=λf=>tops_mem
 revert h
 unfold standOf;cases ht:tops l with
 | nil=>intro h;cases h
 | cons f o=>intro _;exact hm f (by rw[ht];exact H5 ..)
theorem of_len (L:List Fnd) (k:Int):(of L k).length<=L.length:=J8 _ _
theorem holds_len (l:List Fnd):(holds l).length<=l.length:=by
 unfold holds;rw[j5];exact E9 (a7L _) (J8 _ _)
theorem of_sum (L:List Fnd):∀k,((List.range k).map λi:Nat=>(of L (i:Int)).length).sum<=L.length:=by
 intro k
 induction L with
 | nil=>
  have:∀k:Nat,((List.range k).map λi:Nat=>(of [] (i:Int)).length).sum=0:=λk=>by
   induction k with
   | zero=>rfl
   | succ k ih=>rw[t6,s8,List.sum_append,ih];rfl
  rw[this];exact j8 _
 | cons x L ih=>
  have h1:∀i:Nat,(of (x::L) (i:Int)).length=(of L (i:Int)).length+(if x.en.lpn=(i:Int)then 1 else 0):=by
   intro i;unfold of;rw[Z6];split
   ·rename_i h;simp only[B4]at h;rw[d7 h,l6]
   ·rename_i h;simp only[B4]at h;rw[d4 h];rfl
  have h2:∀k,((List.range k).map λi:Nat=>(of (x::L) (i:Int)).length).sum<=((List.range k).map λi:Nat=>(of L (i:Int)).length).sum+(if 0<=x.en.lpn/\x.en.lpn<(k:Int)then 1 else 0):=by
   intro k
   induction k with
   | zero=>simp
   | succ k ih=>
    rw[t6,s8,List.sum_append,s8,List.sum_append];simp only[n8,S8,a2p,List.sum_nil,Q4];rw[h1];split at ih<;>split<;>split<;>omega
  have:=h2 k;rw[l6];split at this<;>omega
theorem goS_len (N:Nand) (L:List Fnd) (n:Int):∀k,(goS N L n k).torn.length<=k/\(goS N L n k).others.length<=k/\(goS N L n k).held.length<=((List.range k).map λi:Nat=>(of L (i:Int)).length).sum
 | 0=>by simp[goS]
 | k+1=>by
  have ih:=goS_len N L n k;have hh:=holds_len (of L k);rw[goS_succ,t6,s8,List.sum_append];simp only[n8,S8,a2p,List.sum_nil,Q4];unfold step;split
  ·split
   ·dsimp only;omega
   ·split
    ·simp only[d8,l6,a1c];omega
    ·simp only[d8,l6,a1c];omega
  ·omega
theorem goS_held (N:Nand) (L:List Fnd) (n:Int) (k:Nat):(goS N L n k).held.length<=L.length:=E9 (goS_len N L n k).2.2 (of_sum L k)
theorem nextOf_snoc (l:List Fnd) (f:Fnd):nextOf (l++[f])=max (nextOf l) (f.en.seq+1):=by unfold nextOf;rw[B8];rfl
theorem of_snoc (l:List Fnd) (f:Fnd) (k:Int):of (l++[f]) k=if f.en.lpn=k then of l k++[f]else of l k:=by
 unfold of;rw[T3,Z6]
 by_cases h:f.en.lpn=k
 ·rw[d7 h,d7 (by simpa using h)];rfl
 ·rw[d4 h,d4 (by simpa using h)];simp
def upB (N:Nand) (b:Nat):List Fnd:=(List.range b).flatMap λb=>(List.range N.pages).flatMap λr=>R.all N (b:Nat) (r:Nat)
def upR (N:Nand) (b r:Nat):List Fnd:=upB N b++(List.range r).flatMap λr=>R.all N (b:Nat) (r:Nat)
def upI (N:Nand) (b r i:Nat):List Fnd:=upR N b r++(R.all N (b:Nat) (r:Nat)).take i
theorem upR_zero (N:Nand) (b:Nat):upR N b 0=upB N b:=by simp[upR]
theorem upI_zero (N:Nand) (b r:Nat):upI N b r 0=upR N b r:=by simp[upI]
theorem upR_succ (N:Nand) (b r:Nat):upR N b (r+1)=upI N b r (R.all N (b:Nat) (r:Nat)).length:=by
 unfold upI upR;rw[T6,t6,K1,m9];simp
theorem upB_succ (N:Nand) (b:Nat):upB N (b+1)=upR N b N.pages:=by
 unfold upR upB;rw[t6,K1];simp
theorem upB_all (N:Nand):upB N N.blocks=all N:=rfl
theorem upI_succ {N:Nand} {b r i:Nat} {x:Fnd} (h:(R.all N (b:Nat) (r:Nat))[i]? =some x):upI N b r (i+1)=upI N b r i++[x]:=by
 unfold upI;rw[D2,h,K8,m9]
theorem nextOf_bd {l:List Fnd} (h:∀f∈l,a6A f.en):1<=nextOf l/\nextOf l<=1099511627776:=by
 have:∀(l:List Fnd) (m:Int),(∀f∈l,a6A f.en)->1<=m->m<=1099511627776->1<=l.foldl (λm f=>max m (f.en.seq+1)) m/\l.foldl (λm f=>max m (f.en.seq+1)) m<=1099511627776:=by
  intro l
  induction l with
  | nil=>intro m _ h1 h2;exact⟨h1,h2⟩
  | cons x l ih=>
   intro m hl h1 h2;have:=hl x (H5 ..);unfold a6A at this;exact ih (max m (x.en.seq+1)) (λf hf=>hl f (H1 _ hf)) (by omega) (by omega)
 exact this l 1 h (by omega) (by omega)
end V
end
section
open Go
namespace Tl
def ofD (N:Nand) (b:Nat) (t:Tl) (d:Nat):Tl:=
 let t:=t.wore b (N.wornAt d b)
 if L.has (t.mask b) d&&decide ((N.next d b:Int)>0)then t.clean b false else t
def ofB (N:Nand) (t:Tl) (b:Nat):Tl:=(List.range N.dies).foldl (ofD N b) t
def of (N:Nand):Tl:=(List.range N.blocks).foldl (ofB N) (Dv.seeDead N (Tl.new N.dies N.blocks N.pages))
end Tl
structure Fv where
 S:Dv
 L:List En
 nx:Int
 off:Bool
namespace Fv
def lg (F:Fv):Int:=lgN F.S.N.dies F.S.N.blocks F.S.N.pages
def ask (F:Fv):Fv:={F with off:=F.off||F.S.N.off}
def told (F:Fv) (e:Int):Fv:={F with off:=F.off||e==9}
def get (F:Fv) (i:Int):List UInt8×Int:=
 if(a2E F.L i).2 then((a2E F.L i).1.data,0)
 else match Tb.look F.S.T.at_ i with
  | none=>(zeros16,0)
  | some a=>
   if a.role=2 then(zeros16,0)else if a.role=4 then(zeros16,10)
   else
    let x:=R.read F.S.N a.block a.row a.slot a.mask
    if x.2≠0\/x.1.lpn≠i\/x.1.seq≠a.seq then(zeros16,10)else(x.1.data,0)
def read (F:Fv) (i:Int):Fv×List UInt8×Int:=
 if F.ask.off then(F.ask,zeros16,9)
 else if i<0\/i>=F.ask.lg then(F.ask,zeros16,3)
 else(F.ask,F.ask.get i)
def writes (F:Fv):Fv×Int:=
 let r:=F.S.room
 if r.2≠0 then({F with S:=r.1}.told r.2,r.2)
 else
  let w:=r.1.pen F.L
  ({F with S:=w.1,L:=a0J F.L (F.L.take w.2.1.toNat)}.told w.2.2,w.2.2)
def put (F:Fv) (e:En):Fv:={F with L:=a3d F.L {e with seq:=F.nx},nx:=F.nx+1}
def waits (F:Fv) (e:En):Fv×Int:=
 if F.ask.off then(F.ask,9)
 else if e.lpn<0\/e.lpn>=F.ask.lg then(F.ask,3)
 else if(F.ask.L.length:Int)>=F.ask.S.slots then
  let w:=F.ask.writes
  if w.2≠0 then w else(w.1.put e,0)
 else(F.ask.put e,0)
def write (F:Fv) (i:Int) (d:List UInt8):Fv×Int:=F.waits ⟨i,0,1,d⟩
def trim (F:Fv) (i:Int):Fv×Int:=F.waits ⟨i,0,2,zeros16⟩
def flushGo:Nat->Fv->Fv×Int
 | 0,F=>(F,0)
 | k+1,F=>
  if F.L.length=0 then(F,0)
  else
   let w:=F.writes
   if w.2≠0 then w else flushGo k w.1
def flush (F:Fv):Fv×Int:=if F.ask.off then(F.ask,9)else flushGo F.L.length F.ask
def tick (F:Fv):Fv×Int:=
 if F.ask.off then(F.ask,9)
 else
  let s:=F.ask.S.step 4
  ({F.ask with S:=s.1}.told s.2.2,s.2.2)
def whole (F:Fv):Fv×Bool:=
 if F.ask.off then(F.ask,false)
 else({F.ask with S:=F.ask.S.seen},F.ask.S.seen.leftN==0)
end Fv
namespace Dv
def holds (S:Dv) (l:List Int) (on:Bool):Dv:={S with t:=l.foldl (λt b=>t.hold b on) S.t}
end Dv
def O4 (N:Nand):Dv×Int:=
 let s:=V.scan N (lgN N.dies N.blocks N.pages)
 let S:Dv:=⟨N,Tl.of N,s.tb,-1,0,0,max s.next 1⟩
 let a:=(S.holds s.held true).torn (s.torn.take s.first)
 if a.2≠0 then a
 else
  let b:=(a.1.holds s.held false).clear
  if b.2≠0 then b
  else
   let c:=b.1.torn (s.torn.drop s.first)
   if c.2≠0 then c else c.1.room
def Fv.of (S:Dv):Fv:=⟨S,[],0,false⟩
end
end Go.Proofs.YtmafiplddapokaaGreat
