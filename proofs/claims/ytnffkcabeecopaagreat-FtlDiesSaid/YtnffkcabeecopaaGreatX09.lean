/- Helpers. No condition. -/
import Derived.Test.YtnffkcabeecopaaGreatX00
import Derived.Test.YtnffkcabeecopaaGreatX03
import Derived.Test.YtnffkcabeecopaaGreatX04
import Derived.Test.YtnffkcabeecopaaGreatX06
import Derived.Test.YtnffkcabeecopaaGreatX07
import Derived.Test.YtnffkcabeecopaaGreatX08
import Derived.Shelf.Sort.Plain
set_option maxRecDepth 20000
set_option linter.all false
namespace Go.Proofs.YtnffkcabeecopaaGreat
open Go Go.RowKit
theorem c1F:FP 318 [iI (-1)] [] (Ps (.int .u64 1) []):=Fn.of_same c1B
theorem c1G:FP 319 [.int .u64 1] [] (Ps (iI (-1)) []):=Fn.of_same c1E
theorem b4l:FP 320 [iI 255,iI 8] [] (Ps (iI (-1)) []):=Fn.of_same b6W
theorem b4k:FP 320 [iI 1,iI 0] [] (Ps (iI 0) []):=Fn.of_same b6V
theorem c0t:FP 321 [.int .u32 1,iI 33] [] (Ps (.int .u32 2) []):=by
 refine FE [0,0] Tryz.func321 λX F hX=>?_;refine J.p (.of [0,4,8,12,16,20,24,28,32]) [7,8] [] λ_=>?_;exact J.qx []
theorem b7q:FP 316 [] [] (Ps (.bool true) []):=by
 refine FE [] Tryz.func316 λX F hX=>?_;refine J.q λb1=>?_;refine J.turn1 [] rfl (As:=[n7 5 1 none 0 0 []]) (λh s=>Sep.one ⟨rfl,rfl,rfl⟩) rfl ?_;refine J.cl (b1F (b1 0) []) (none,0) [1,2] ?_;refine J.qp (b4f (b1 0) 5 3 [] (by decide) (by decide) (by decide) (by decide)) [1] λ_=>?_;refine J.qp (c1v (b1 0)) [1] λ_=>?_;refine J.q λb2=>?_;refine J.cb (b8j (some ⟨b2 0,0,none⟩) 1 1) [] ?_;rintro v As ⟨g,rfl,rfl⟩;refine⟨_,rfl,trivial,?_⟩;refine J.qp (c1x g (b2 0)) [4,3] λ_=>?_;refine J.qp (c1w g (b2 0)) [4] λ_=>?_;refine J.qc (b0W (b1 0) ([]++Bt.bits 5 3) (by decide)) [1] λ_=>?_;rintro v As ⟨a2,c2,rfl,rfl⟩;refine⟨_,rfl,trivial,?_⟩;rw[show((([]:List Bool)++Bt.bits 5 3).length+7)/8=1 from rfl];refine J.know (λh' s=>D1 (c:=(a2,c2)) (by decide) (s.get (i:=5) rfl)) λhg=>?_;obtain⟨g2,rfl⟩:=hg;refine J.qp (c1F) [] λ_=>?_;refine J.qp (c1G) [] λ_=>?_;refine J.qp (b4l) [] λ_=>?_;refine J.qp (b4k) [] λ_=>?_;refine J.qp (c0t) [] λ_=>?_;refine J.qp (c1W (b1 0) ([]++Bt.bits 5 3)) [1] λ_=>?_;refine J.q λ_=>?_;refine J.v (.int .u8 160) rfl rfl (λhg a w he hw=>?_) ?_
 ·exact I2 tk rfl rfl he hg rfl rfl (hw.get (i:=5) rfl) (by kernel_rfl)
 refine J.qp (b3j g (some ⟨b2 0,0,none⟩) 1 1 4 (by decide) (by decide)) [4] λ_=>?_;refine J.qp (c2b) [] λ_=>?_;refine J.qp (c1a) [] λ_=>?_;refine J.qp (b1V 3) [] λ_=>?_;refine J.qp (c0Y 6 0 (by decide) (by decide)) [] λ_=>?_;refine J.qp (b7k 6 2) [] λ_=>?_;refine J.qp (a5h 6) [] λ_=>?_;refine J.qr [] λ_=>?_;exact⟨by kernel_rfl,rfl⟩
theorem b7r:FP 312 [] [] (Ps (.bool true) []):=by
 refine FE [] Tryz.func312 λX F hX=>?_;refine J.qp (b7q) [] λ_=>?_;exact J.qx []
theorem a4l (d b p:Nat) (h:J2 d b p=true):FP 71 [.agg #[iI d,iI b,iI p]] [] (Ps (iI ((((b:Int)-5)*p*((d:Int)-2)+1).tdiv 2)) []):=by
 have hbd:(3<=d/\d<=6)/\(8<=b/\b<=16)/\(2<=p/\p<=8):=by simp[J2]at h;omega
 have h1:0<=((b:Int)-5)*p/\((b:Int)-5)*p<=88:=by
  refine⟨a1B (by omega) (by omega),?_⟩;have:((b:Int)-5)*p<=11*8:=a1C (by omega) (by omega) (by omega) (by omega);omega
 have h2:0<=((b:Int)-5)*p*((d:Int)-2)/\((b:Int)-5)*p*((d:Int)-2)<=352:=by
  refine⟨a1B h1.1 (by omega),?_⟩;have:((b:Int)-5)*p*((d:Int)-2)<=88*4:=a1C h1.2 (by omega) (by omega) (by omega);omega
 have h3: -1<=(((b:Int)-5)*p*((d:Int)-2)+1).tdiv 2/\(((b:Int)-5)*p*((d:Int)-2)+1).tdiv 2<=1000:=by
  generalize((b:Int)-5)*p*((d:Int)-2)=x at h2;rw[a5E (by omega)];omega
 refine FE [0] Tryz.func71 λX F hX=>?_;refine J.qp (a5q d b p) [] λ_=>?_;rw[h];refine J.qF λ_=>?_;exact J.qx []
theorem b7n:FP 300 [] [] (Ps (.bool true) []):=by
 refine FE [] Tryz.func300 λX F hX=>?_;refine J.qp (b7r) [] λ_=>?_;refine J.qp (a5q 3 8 2) [] λ_=>?_;rw[show J2 3 8 2=true from rfl];refine J.qp (a5q 0 0 0) [] λ_=>?_;rw[show J2 0 0 0=false from rfl];refine J.qp (b2e 3 8 2 2 7 1 (by decide) (by decide) (by decide)) [] λ_=>?_;rw[show V8 3 8 2 2 7 1=true from rfl];refine J.qp (b2e 3 8 2 3 0 0 (by decide) (by decide) (by decide)) [] λ_=>?_;rw[show V8 3 8 2 3 0 0=false from rfl];refine J.qp (a1s 7 1 1) [] λ_=>?_;rw[show G.parity 7 1 1=2 from by kernel_rfl];refine J.qp (a1l 7) [] λ_=>?_;rw[show G.slots 7=2 from by kernel_rfl];refine J.qp (b3V 7 0 0 0 (by decide) (by decide)) [] λ_=>?_;rw[show G.die 7 0 0 0=1 from by kernel_rfl];refine J.qp (b7O 7 0 0 2) [] λ_=>?_;rw[show G.slot 7 0 0 2=1 from by kernel_rfl];refine J.qp (b7O 7 0 0 0) [] λ_=>?_;rw[show G.slot 7 0 0 0= -1 from by kernel_rfl];refine J.qp (a4l 3 8 2 rfl) [] λ_=>?_;refine J.qr [] λ_=>?_;exact⟨by kernel_rfl,rfl⟩
theorem b1Y:FP 292 [] [] (Ps (.bool true) []):=by
 refine FE [] Tryz.func292 λX F hX=>?_;refine J.qp (b7n) [] λ_=>?_;exact J.qx []
def ft (a k d n x:Int):List Value:=[iI a,iI k,iI d,iI 0,iI 0,iI n,iI x]
theorem c0G:FP 102 [.agg #[iI 3,iI 8,iI 2], .agg (ft 3 4 2 0 0).toArray] [] (Ps (.bool true) []):=by
 refine FE [0,0] Tryz.func102 λX F hX=>?_;refine J.qT λ_=>?_;refine J.qp (b2e 3 8 2 2 0 0 (by decide) (by decide) (by decide)) [] λ_=>?_;exact J.qx []
theorem c0F:FP 102 [.agg #[iI 3,iI 8,iI 2], .agg (ft (-1) 0 0 0 0).toArray] [] (Ps (.bool false) []):=by
 refine FE [0,0] Tryz.func102 λX F hX=>?_;refine J.qT λ_=>?_;refine J.q λ_=>?_;refine J.v (.bool false) rfl rfl (λhg a w he hw=>absurd hg (by decide)) ?_;exact J.qx []
theorem b8X (a:Option Addr) (c:Nat) (d:Value):FP 206 [.slice a 1 c,iI 0,iI 1,d] [] (Ps (.tuple #[]) []):=by
 refine FE [0,0,0,0] Tryz.func206 λX F hX=>?_;refine J.q λ_=>?_;refine J.l (α:=Nat) (λk=>True) (λk=>[si 8 1,si 2 1]) [] (λk=>[]) (λk=>0) (0) (trivial) λk hI=>?_;refine J.qF λ_=>?_;refine J.q λ_=>?_;refine J.f [] ?_;exact⟨rfl,rfl⟩
theorem b6D (a:Option Addr) (c:Nat) (d:Value):FP 152 [.slice a 1 c,iI 1,d] [] (Ps (.tuple #[]) []):=by
 refine FE [0,0,0] Tryz.func152 λX F hX=>?_;refine J.q λ_=>?_;refine J.l (α:=Nat) (λk=>True) (λk=>[si 8 20,si 6 20,si 7 0,sv 0 (.slice a 1 c),si 1 1,sv 2 d]) [] (λk=>[]) (λk=>0) (0) (trivial) λk hI=>?_;refine J.qF λ_=>?_;refine J.qp (b8X a c d) [] λ_=>?_;refine J.q λ_=>?_;refine J.l (α:=Nat) (λk=>True) (λk=>[si 6 20,si 1 1]) [] (λk=>[]) (λk=>0) (0) (trivial) λk hI=>?_;refine J.qF λ_=>?_;refine J.q λ_=>?_;refine J.f [] ?_;exact⟨rfl,rfl⟩
theorem b0r (a:Option Addr) (c:Nat) (d:Value):FP 103 [.slice a 1 c,d] [] (Ps (.tuple #[]) []):=by
 refine FE [0,0] Tryz.func103 λX F hX=>?_;refine J.qp (b6D a c d) [] λ_=>?_;refine J.q λ_=>?_;refine J.f [] ?_;exact⟨rfl,rfl⟩
def fk (k:Nat):List Value:=match k with | 0=>[] | _=>ft 3 4 2 0 0
theorem c1R (g:Nat):FP 62 [.agg #[iI 3,iI 8,iI 2], .slice (some ⟨g,0,none⟩) 2 2] [.pt g 34 (ft 3 4 2 0 0++ft (-1) 0 0 0 0)]
  (λv As=>∃p a c,v=pp p/\As=[.pt p 176 [slv a 1 c],n7 34 7 a 1 c (ft 3 4 2 0 0)]):=by
 refine FE [0,2] Tryz.func62 λX F hX=>?_;refine J.q λbb=>?_;refine J.turn1 [] rfl (As:=[n7 34 7 none 0 0 (fk 0)]) (λh s=>Sep.one ⟨rfl,rfl,rfl⟩) rfl ?_;refine J.q λ_=>?_;refine J.l (α:=(Nat×Option Nat×Nat)) (λz=>z.1<=2) (λz=>[si 12 z.1,si 11 2,⟨10, .slice (some ⟨g,0,none⟩) 2 2,2, .tt⟩,⟨2,pp (bb 0),3, .tt⟩,⟨5,pp (bb 1),4, .tt⟩]) [3,4] (λz=>[.pt (bb 1) 176 [slv z.2.1 (nk z.1) z.2.2],n7 34 7 z.2.1 (nk z.1) z.2.2 (fk z.1)]) (λz=>2-z.1) ((0,none,0)) (j8 _) λz hI=>?_;obtain⟨k,a,c⟩:=z;dsimp only at hI ⊢;rcases(by omega:k=0\/k=1\/k=2)with rfl | rfl | rfl
 ·refine J.qT λ_=>?_;refine J.q λ_=>?_;refine J.v (.agg (ft 3 4 2 0 0).toArray) rfl rfl (λhg a w he hw=>H7 tk rfl rfl he rfl rfl rfl (hw.get (i:=1) rfl) rfl rfl) ?_;refine J.qp (c0G) [] λ_=>?_;refine J.qT λ_=>?_;refine J.pq (.of [0,4,8,12,17,21,26,30,32,36,43]) [8,9,10] [3,5] λ_ _=>?_;refine J.append hX tk 4 6 0 rfl rfl rfl rfl rfl rfl rfl rfl rfl rfl rfl rfl rfl rfl rfl rfl (by decide) (by decide) (λ_=>rfl) λa2 c2=>⟨_,rfl,⟨rfl,rfl,trivial⟩,?_⟩;refine J.q λ_=>?_;refine J.n ((1,a2,c2)) (by dsimp only;omega) (by dsimp only;omega) [0,1,2,3,4]
 ·refine J.qT λ_=>?_;refine J.q λ_=>?_;refine J.v (.agg (ft (-1) 0 0 0 0).toArray) rfl rfl (λhg a w he hw=>H7 tk rfl rfl he rfl rfl rfl (hw.get (i:=1) rfl) rfl rfl) ?_;refine J.qp (c0F) [] λ_=>?_;refine J.qF λ_=>?_;refine J.q λ_=>?_;refine J.n ((2,a,c)) (by dsimp only;omega) (by dsimp only;omega) [0,1,2,3,4]
 ·refine J.qF λ_=>?_;refine J.qp (b0r (oad a) c (.func (.func 104) #[] #[])) [] λ_=>?_;refine J.qr [3,4] λ_=>?_;exact⟨bb 1,a,c,rfl,rfl⟩
theorem c0H (p:Nat) (a:Option Addr) (n c:Nat):FP 293 [pp p] [.pt p 176 [.slice a n c]] (Ps (iI n) [.pt p 176 [.slice a n c]]):=by
 refine FE [2] Tryz.func293 λX F hX=>?_;refine J.qF λ_=>?_;exact J.qx [1]
theorem c0I (g:Nat):FP 294 [.slice (some ⟨g,0,none⟩) 1 1] [.pt g 34 (ft 0 0 2 0 0)] (Ps (iI 4) []):=by
 refine FE [2] Tryz.func294 λX F hX=>?_;refine J.q λ_=>?_;refine J.l (α:=Nat) (λk=>k<=1) (λk=>[si 8 k,si 7 1,⟨6, .slice (some ⟨g,0,none⟩) 1 1,2, .tt⟩,si 3 (4*k)]) [] (λk=>[]) (λk=>1-k) (0) (j8 _) λk hI=>?_;rcases(by omega:k=0\/k=1)with rfl | rfl
 ·refine J.qT λ_=>?_;refine J.q λ_=>?_;refine J.v (.agg (ft 0 0 2 0 0).toArray) rfl rfl (λhg a w he hw=>H7 tk rfl rfl he rfl rfl rfl (hw.get (i:=1) rfl) rfl rfl) ?_;refine J.qp (b0B 0 2) [] λ_=>?_;refine J.q λ_=>?_;refine J.n (1) (by omega) (by omega) [0,1]
 ·refine J.qF λ_=>?_;exact J.qx []
theorem c1h (d b p:Nat) (h:J2 d b p=true):FP 100 [.agg #[iI d,iI b,iI p]] [] (λv As=>v= .bool true/\As=[]):=by
 have hbd:(3<=d/\d<=6)/\(8<=b/\b<=16)/\(2<=p/\p<=8):=by simp[J2]at h;omega
 refine FE [0] Tryz.func100 λX F hX=>?_;refine J.qr [] λ_=>?_;refine⟨?_,rfl⟩;simp;omega
def lgN (d b p:Nat):Nat:=((b-5)*p*(d-2)+1)/2
theorem b0A (d b p:Nat) (hd:2<=d) (hb:5<=b):(((b:Int)-5)*p*((d:Int)-2)+1).tdiv 2=(lgN d b p:Int):=by
 have e1:(b:Int)-5=((b-5:Nat):Int):=by omega
 have e2:(d:Int)-2=((d-2:Nat):Int):=by omega
 rw[e1,e2,<- Int.natCast_mul,<- Int.natCast_mul,show(((b-5)*p*(d-2):Nat):Int)+1=(((b-5)*p*(d-2)+1:Nat):Int)from by omega,a5E (by omega)];unfold lgN;omega
theorem b3b (d b p:Nat) (h:J2 d b p=true):FP 56 [.agg #[iI d,iI b,iI p]] [] (λv As=>v=iI (lgN d b p)/\As=[]):=by
 have hbd:(3<=d/\d<=6)/\(8<=b/\b<=16)/\(2<=p/\p<=8):=by simp[J2]at h;omega
 have h1:0<=((b:Int)-5)*p/\((b:Int)-5)*p<=88:=by
  refine⟨a1B (by omega) (by omega),?_⟩;have:((b:Int)-5)*p<=11*8:=a1C (by omega) (by omega) (by omega) (by omega);omega
 have h2:0<=((b:Int)-5)*p*((d:Int)-2)/\((b:Int)-5)*p*((d:Int)-2)<=352:=by
  refine⟨a1B h1.1 (by omega),?_⟩;have:((b:Int)-5)*p*((d:Int)-2)<=88*4:=a1C h1.2 (by omega) (by omega) (by omega);omega
 have h3: -1<=(((b:Int)-5)*p*((d:Int)-2)+1).tdiv 2/\(((b:Int)-5)*p*((d:Int)-2)+1).tdiv 2<=1000:=by
  generalize((b:Int)-5)*p*((d:Int)-2)=x at h2;rw[a5E (by omega)];omega
 refine FE [0] Tryz.func56 λX F hX=>?_;refine J.qp (c1h d b p h) [] λ_=>?_;refine J.qF λ_=>?_;refine J.qr [] λ_=>?_;exact⟨by rw[b0A d b p (by omega) (by omega)],rfl⟩
theorem a8u:∀(l:List En) (r:List Value) (k:Nat) (x:En),k<l.length->(p9 l++r).take (k*19)++enL x++(p9 l++r).drop (k*19+19)=p9 (l.set k x)++r
 | [],_,_,_,h=>by simp at h
 | y::l,r,0,x,h=>by simp[p9,enL]
 | y::l,r,k+1,x,h=>by
  have:=a8u l r k x (by simpa using h);have hy:(enL y).length=19:=rfl;have e1:p9 (y::l)++r=enL y++(p9 l++r):=by simp[p9]
  have e2:p9 ((y::l).set (k+1) x)++r=enL y++(p9 (l.set k x)++r):=by simp[p9]
  rw[e1,e2,<- this,show(k+1)*19=(enL y).length+k*19 from by omega,S9,show(enL y).length+k*19+19=(enL y).length+(k*19+19)from by omega,<- B8,U3 rfl];simp only[n8]
theorem a0b:∀l:List En,(p9 l).length=l.length*19
 | []=>rfl
 | x::l=>by
  have:=a0b l;have e1:p9 (x::l)=enL x++p9 l:=by simp[p9]
  have hy:(enL x).length=19:=rfl;rw[e1,f9,this,hy,m7];omega
def a8Q (p:En->Bool) (l:List En):Int:=match l.findIdx? p with
 | some k=>k
 | none=> -1
theorem a9D {p:En->Bool} {l:List En} {k:Nat} {x:En} (h:l[k]? =some x) (h0:∀i<k,p (l.getD i En.zero)=false) (hp:p x=true):l.findIdx? p=some k:=by
 rw[q9];obtain⟨h1,h2⟩:=List.getElem?_eq_some_iff.1 h;refine⟨h1,by rw[h2];exact hp,λj hj=>?_⟩;have:=h0 j hj;rw[d6,d5 (by omega),j5]at this;simp[this]
theorem a9E {p:En->Bool} {l:List En} (h0:∀i<l.length,p (l.getD i En.zero)=false):l.findIdx? p=none:=by
 rw[C9];intro x hx;obtain⟨i,hi,rfl⟩:=List.mem_iff_getElem.1 hx;have:=h0 i hi
 rwa [d6,d5 hi,j5]at this
theorem b7D (p:En->Bool) (l:List En):decide (a8Q p l>=0)=l.any p:=by
 unfold a8Q;cases h:l.findIdx? p with
 | none=>
  rw[C9]at h;have:l.any p=false:=by rw[a1j];exactλx hx=>by simp[h x hx]
  rw[this];rfl
 | some k=>
  rw[q9]at h;obtain⟨h1,h2,_⟩:=h;have:l.any p=true:=List.any_eq_true.2 ⟨l[k],H5 _,h2⟩;rw[this];simp
theorem b1c (c:Nat) (cs:List Value) (p:En->Bool) (A:Atom) (hcal:J4 Tryz.prog c=true) (l:List En) (hf:∀x∈l,Fn Tryz.prog c (enV x::cs) [A] (λv As=>v= .bool (p x)/\As=[A]))
  (a:Option Nat) (n cap:Nat) (hl:l.length=n) (hn:n<=4611686018427387904):FP 141 [slv a n cap,fnC c cs] [n7 155 19 a n cap (p9 l),A]
  (λv As=>v=iI (a8Q p l)/\As=[n7 155 19 a n cap (p9 l),A]):=by
 refine FE [0,0] Tryz.func141 λX F hX=>?_;refine J.q λ_=>?_;refine J.l (α:=Nat) (λk=>k<=n/\∀i<k,p (l.getD i En.zero)=false) (λk=>[si 8 k,si 7 n,sv 0 (slv a n cap),⟨1,fnC c cs,0, .tt⟩]) [] (λk=>[]) (λk=>n-k) (0) (⟨by omega,by omega⟩) λk hI=>?_;refine J.qd (λ_ h1=>?_) λ_ h1=>?_
 ·simp only[d7,i6]at h1;cases a with
  | none=>
   refine J.know (λh' s=>(s.get (i:=1) rfl).2.1) λhn0=>?_;omega
  | some g=>
   have hk:l[k]? =some (l.getD k En.zero):=by rw[d6,d5 (by omega),j5]
   refine J.q λ_=>?_;refine J.v (enV (l.getD k En.zero)) rfl rfl (λhg a w he hs=>?_) ?_
   ·exact L4 tk rfl rfl he rfl rfl rfl (hs.get (i:=1) rfl) (by rw[show 0+(k:Int).toNat*19=k*19 from by omega];have:=a0k l [] k _ hk;rwa [y8]at this) rfl
   refine J.q λ_=>?_;refine J.call hX hcal (hf (l.getD k En.zero) (o0 hk)) [2] 0 rfl rfl rfl rfl (by(repeat' (first | exact Conj.nil | refine Conj.cons ?_ ?_ | omega | exact hq0 | (simpa using hq0) | (exactλh=>h) | exact rfl | (intro hq;have hq0:=hq;try simp only[f8,l8,d7,g7,c9]at hq) | (simp;done) | (simp;omega) | decide))) rfl rfl (λ_=>rfl) ?_;refine cpq ⟨_,rfl,trivial,?_⟩;refine J.qd (λ_ h2=>?_) λ_ h2=>?_
   ·refine J.qr [1,2] λ_=>?_;exact⟨by rw[a8Q,a9D hk hI.2 h2],rfl⟩
   ·refine J.q λ_=>?_;refine J.nx (k+1) (⟨by omega,λi hi=>by
     rcases Nat.lt_succ_iff_lt_or_eq.1 hi with h3 | h3
     ·exact hI.2 i h3
     ·rw[h3];exact h2⟩) (by omega) (λ_ s=>s)
 ·simp only[c9,i6]at h1;refine J.qr [1,2] λ_=>?_;exact⟨by rw[a8Q,a9E (λi hi=>hI.2 i (by omega))],rfl⟩
theorem a8v (l:List En):∀u∈p9 l,u.oneCell'=true:=by
 intro u hu;simp only[p9,L7]at hu;obtain⟨s,_,hu⟩:=hu;simp only[enL,I6,V1,a5A]at hu;rcases hu with rfl | rfl | rfl | rfl | rfl | rfl | rfl | rfl | rfl | rfl | rfl | rfl | rfl | rfl | rfl | rfl | rfl | rfl | rfl<;>rfl
def DelE (p:En->Bool) (l m:List En) (i j:Nat):Prop:=m.length=l.length/\i<j/\j<=l.length/\m.drop j=l.drop j/\m.take i++(l.drop j).filter (λx=>!p x)=l.filter (λx=>!p x)
theorem DelE.start {p:En->Bool} {l:List En} {k:Nat} (h:l.findIdx? p=some k):DelE p l l k (k+1):=by
 rw[q9]at h;obtain⟨h1,h2,h3⟩:=h;refine⟨rfl,by omega,by omega,rfl,?_⟩;have e:l=l.take k++l[k]::l.drop (k+1):=by rw[<- t7 h1,C5]
 have e2:(l.take k).filter (λx=>!p x)=l.take k:=by
  rw[X0];intro x hx;obtain⟨i,hi,rfl⟩:=List.mem_iff_getElem.1 hx;rw[a0f];have:=h3 i (by simp at hi;omega);simpa using this
 conv=>rhs;rw[e]
 rw[R5,e2,S8 (by simp[h2])]
theorem DelE.skip {p:En->Bool} {l m:List En} {i j:Nat} (h:DelE p l m i j) (hj:j<l.length) (hp:p (m.getD j En.zero)=true):DelE p l m i (j+1):=by
 obtain⟨h1,h2,h3,h4,h5⟩:=h;have e1:m[j]? =l[j]?:=by have:=congrArg (λz=>z[0]?) h4;simpa using this
 have hx:l[j]=m.getD j En.zero:=by rw[d6,e1,d5 hj,j5]
 refine⟨h1,by omega,by omega,?_,?_⟩
 ·have:=congrArg (List.drop 1) h4;simpa[B8]using this
 ·rw[<- h5,t7 hj,S8 (by rw[hx,hp];simp)]
theorem DelE.keep {p:En->Bool} {l m:List En} {i j:Nat} (h:DelE p l m i j) (hj:j<l.length) (hp:p (m.getD j En.zero)=false):DelE p l (m.set i (m.getD j En.zero)) (i+1) (j+1):=by
 obtain⟨h1,h2,h3,h4,h5⟩:=h;have e1:m[j]? =l[j]?:=by have:=congrArg (λz=>z[0]?) h4;simpa using this
 have hx:l[j]=m.getD j En.zero:=by rw[d6,e1,d5 hj,j5]
 refine⟨by simp[h1],by omega,by omega,?_,?_⟩
 ·rw[List.drop_set_of_lt (by omega)];have:=congrArg (List.drop 1) h4;simpa[B8]using this
 ·rw[<- h5,t7 hj,a2F (by rw[hx,hp];simp),hx,a4a,C7,d5 (by omega)];rw[N9 _ _ (by simp;omega)];simp[l9,L5 (show i<=m.length by omega)]
theorem a8W (c:Nat) (cs:List Value) (p:En->Bool) (A:Atom) (hcal:J4 Tryz.prog c=true) (hf:∀x,Fn Tryz.prog c (enV x::cs) [A] (λv As=>v= .bool (p x)/\As=[A]))
  (a:Option Nat) (n cap:Nat) (l:List En) (hl:l.length=n) (hn:n<=4611686018427387904):FP 161 [slv a n cap,fnC c cs] [n7 155 19 a n cap (p9 l),A]
  (λv As=>∃l',l'=l.filter (λx=>!p x)/\v=slv a l'.length cap/\As=[n7 155 19 a l'.length cap (p9 l'),A]):=by
 refine FE [0,0] Tryz.func161 λX F hX=>?_;refine J.qp (b1c c cs p A hcal l (λx _=>hf x) a n cap hl hn) [1,2] λ_=>?_;rw[a8Q];cases hx:l.findIdx? p with
 | none=>
  dsimp only;refine J.qT λ_=>?_;refine J.qr [1,2] λ_=>?_;have:l.filter (λx=>!p x)=l:=by
   rw[X0];intro x hm;rw[C9]at hx;simp[hx x hm]
  exact⟨l,this.symm,by rw[hl],by rw[hl];rfl⟩
 | some k=>
  dsimp only;refine J.qd (λ_ h0=>?_) λ_ h0=>?_
  ·simp only[A5]at h0;omega
  have hk:k<n:=by rw[q9]at hx;obtain⟨h1,_⟩:=hx;omega
  cases a with
  | none=>
   refine J.know (λh' s=>(s.get (i:=1) rfl).2.1) λhn0=>?_;omega
  | some g=>
   refine J.openOwn 1 rfl rfl (λ_=>rfl) λr q1 q2 q3 q4=>?_;refine J.q λ_=>?_;rw[show(k:Int)+1=((k+1:Nat):Int)from by omega];refine J.q λ_=>?_;refine J.l (α:=(Nat×Nat×List En)) (λx=>DelE p l x.2.2 x.1 x.2.1) (λx=>[si 6 x.2.1,si 5 x.1,sv 0 (slv (some g) n cap),⟨1,fnC c cs,0, .tt⟩]) [1] (λx=>[.pt g 155 (p9 x.2.2++r)]) (λx=>n-x.2.1) ((k,k+1,l)) (DelE.start hx) λx hI=>?_;obtain⟨i,j,m⟩:=x;dsimp only at hI ⊢;have hml:m.length=n:=hI.1.trans hl;have hij:i<j:=hI.2.1;have hjn:j<=n:=by have:=hI.2.2.1;omega
   refine J.qd (λ_ h1=>?_) λ_ h1=>?_
   ·simp only[d7,i6]at h1;have hget:m[j]? =some (m.getD j En.zero):=by rw[d6,d5 (by omega),j5]
    refine J.q λ_=>?_;refine J.v (enV (m.getD j En.zero)) rfl rfl (λhg a w he hs=>?_) ?_
    ·exact H7 tk rfl rfl he rfl rfl rfl (hs.get (i:=1) rfl) (by rw[show 0+(j:Int).toNat*19=j*19 from by omega];exact a0k m r _ _ hget) rfl
    refine J.q λ_=>?_;refine J.call hX hcal (hf (m.getD j En.zero)) [2] 0 rfl rfl rfl rfl (by(repeat' (first | exact Conj.nil | refine Conj.cons ?_ ?_ | omega | exact hq0 | (simpa using hq0) | (exactλh=>h) | exact rfl | (intro hq;have hq0:=hq;try simp only[f8,l8,d7,g7,c9]at hq) | (simp;done) | (simp;omega) | decide))) rfl rfl (λ_=>rfl) ?_;refine cpq ⟨_,rfl,trivial,?_⟩;refine J.qd (λ_ h2=>?_) λ_ h2=>?_
    ·simp only[g7]at h2;refine J.q λ_=>?_;refine J.storeN hX tk 1 rfl rfl rfl rfl rfl rfl rfl rfl rfl rfl rfl rfl rfl ?_ (p9 (m.set i (m.getD j En.zero))++r) ?_ rfl (λ_=>rfl) ⟨trivial,?_⟩
     ·rw[f9,a0b];show 0+(i:Int).toNat*19+19<=_;omega
     ·rw[show 0+(i:Int).toNat*19=i*19 from by omega];exact a8u m r i _ (by omega)
     refine J.q λ_=>?_;refine J.n ((i+1,j+1,m.set i (m.getD j En.zero))) (hI.keep (by omega) h2) (by dsimp only;omega) [0,1,2]
    ·simp only[B2]at h2;refine J.q λ_=>?_;refine J.n ((i,j+1,m)) (hI.skip (by omega) h2) (by dsimp only;omega) [0,1,2]
   ·simp only[c9,i6]at h1;obtain rfl:j=n:=by omega
    have hfil:m.take i=l.filter (λx=>!p x):=by
     have h5:=hI.2.2.2.2;rw[G9 (by omega)]at h5;simpa using h5
    refine J.q λ_=>?_;refine J.clear hX tk 1 rfl rfl rfl rfl rfl rfl rfl rfl rfl rfl rfl ?_ (λ_=>rfl) (λ_=>rfl) λcs' z1 z2=>⟨trivial,?_⟩
    ·rw[f9,a0b];rw[a0b]at q4;show 0+(i:Int).toNat*19+(j-(i:Int).toNat)*19<=_;have:(i:Int).toNat=i:=by omega
     rw[this];omega
    have hilen:(l.filter (λx=>!p x)).length=i:=by rw[<- hfil,l9];omega
    refine J.closeOwn (e:=155) (size:=19) (n:=i) (cap:=cap) (xs:=p9 (l.filter (λx=>!p x))) 1 rfl rfl (by rw[a0b,hilen]) (by omega) q3 (by rw[z1,f9,a0b,hml];rw[a0b,hl]at q4;exact q4) ?_ rfl ?_
    ·have z3:(0+(i:Int).toNat*19)=i*19:=by omega
     rw[z3]at z2;rw[z2,<- hfil];have e:p9 m=p9 (m.take i)++p9 (m.drop i):=by
      conv=>lhs;rw[<- C5 i m]
      simp only[p9,J5]
     rw[e,n8,D6 (by rw[a0b,l9,L5 (by omega)])]
    refine J.qr [1,2] λ_=>?_;exact⟨_,rfl,by rw[hilen];rfl,by rw[hilen];rfl⟩
theorem b8b {E:Env} {n:Nat} {ac:Act} {w:World} {o:Oper} {x y:Operand} {k1 k2 t1 t2:Nat} {g1 g2:G} {a:Option Addr} {m c h:Nat} {kk:IntKind} {hI:Int} (hop:o.op= .slice 132 x none (some y) none) (hx:ev E x=some ⟨k1, .slice a m c,t1,g1⟩) (hy:ev E y=some ⟨k2, .int kk hI,t2,g2⟩) (he:EnvOK n E ac) (v1:g1.on=true) (v2:g2.on=true) (hh:hI=(h:Int)) (hc:h<=c):
  (execOp ac.eval o).run Tryz.prog w= .ok (.value (.slice a h c)) w:=by
 subst hh;have e1:=C3 he hx;have e2:=C3 he hy;simp only[Slot.val,v1,v2]at e1 e2;obtain⟨d,f,zv,ok⟩:=B5 (tk.get (t:=132) rfl);obtain⟨fe,rfl,g1,g2⟩:=ok.slice rfl;have h0:∀ad:Addr,ad.add 0=ad:=λad=>by unfold Addr.add;rw[f0 rfl]
 cases a with
 | none=>
  simp only[execOp,hop,C8,M7,e1,e2,Instr.sliceAt,Instr.slice,Instr.sliceBounds,Instr.sliceBound,asIntOf,Sem.run_bind,Sem.run_pure,Result.andThen_ok,s9 ok.hd,I7 g1,g2];simp[hc,h0]
 | some ad=>
  simp only[execOp,hop,C8,M7,e1,e2,Instr.sliceAt,Instr.slice,Instr.sliceBounds,Instr.sliceBound,asIntOf,Sem.run_bind,Sem.run_pure,Result.andThen_ok,s9 ok.hd,I7 g1,g2];simp[hc,h0]
theorem a0S {e size:Nat} {a:Option Nat} {n cap:Nat} {xs:List Value} {h:Hl} (s:a1b e size a n cap xs h):n<=cap:=by
 obtain⟨_,s⟩:=s;cases a with
 | none=>obtain⟨rfl,rfl⟩:=s;exact j4 _
 | some g=>obtain⟨_,_,h,_⟩:=s;exact h
theorem a3q (l:List En):∀k,(p9 l).take (k*19)=p9 (l.take k):=by
 induction l with
 | nil=>intro k;simp[p9]
 | cons x l ih=>
  intro k;cases k with
  | zero=>simp[p9]
  | succ k=>
   have e1:p9 (x::l)=enL x++p9 l:=by simp[p9]
   have e2:p9 (x::l.take k)=enL x++p9 (l.take k):=by simp[p9]
   rw[e1,a0u,e2,<- ih k,show(k+1)*19=(enL x).length+k*19 from by show _=19+k*19;omega,S9]
theorem a0K (l:List En) (e:En):p9 l++enL e=p9 (l++[e]):=by simp[p9]
theorem b5R (a:Option Nat) (N cap cap2 k:Nat) (l:List En) (hl:l.length=N) (hk:k<=N) (hn:N<=1000000):FP 155 [slv a k cap2] [n7 155 19 a N cap (p9 l)]
  (λv As=>∃a' c',v=slv a' k c'/\As=[n7 155 19 a N cap (p9 l),n7 155 19 a' k c' (p9 (l.take k))]):=by
 refine FE [0] Tryz.func155 λX F hX=>?_;cases a with
 | none=>
  refine J.know (λh' s=>(s.get (i:=1) rfl).2) λhn0=>?_;obtain⟨rfl,rfl⟩:=hn0;obtain rfl:k=0:=by omega
  have:l=[]:=m6 hl;subst this;refine J.qT λ_=>?_;refine J.turn1 [] rfl (As:=[n7 155 19 none 0 0 (p9 [])]) (λh s=>Sep.one ⟨rfl,rfl,rfl⟩) rfl ?_;refine J.qr [1,2] λ_=>?_;exact⟨none,0,rfl,rfl⟩
 | some g=>
  refine J.qF λ_=>?_;refine J.qn 5 λbb=>?_;refine J.closeOwn (e:=155) (size:=19) (n:=0) (cap:=0) (xs:=[]) 2 rfl rfl rfl (j4 _) (j8 _) rfl rfl rfl ?_;refine J.q λ_=>?_;have hRd:Rd (n7 155 19 (some g) N cap (p9 l)) (some ⟨g,0,none⟩) 19 k (p9 (l.take k)):=by
   have:=(X6 155 19 (some g) N cap (p9 l)).take k hk
   rwa [a3q]at this
  refine J.appendR hX tk (a:=some (bb 0)) (n:=0) (cap:=0) (xs:=[]) (oo:=0) (Ay:=n7 155 19 (some g) N cap (p9 l)) 2 1 0 rfl rfl rfl rfl rfl rfl rfl rfl rfl rfl hRd rfl rfl rfl rfl (a8v _) ?_ ?_ (λ_=>rfl) λa' c'=>⟨_,rfl,trivial,?_⟩
  ·simp only[maxLen];omega
  ·omega
  rw[I5 k,R1];refine J.qr [1,2] λ_=>?_;exact⟨a',c',rfl,rfl⟩
theorem b5N (c:Nat) (cs:List Value) (p:En->Bool) (A B:Atom) (hcal:J4 Tryz.prog c=true) (l:List En) (hf:∀x∈l,Fn Tryz.prog c (enV x::cs) [A] (Ps (.bool (p x)) [A]))
  (a:Option Addr) (n cap:Nat) (hB:Rd B a 19 n (p9 l)) (hl:l.length=n) (hn:n<=4611686018427387904):FP 141 [.slice a n cap,fnC c cs] [B,A]
  (Ps (iI (a8Q p l)) [B,A]):=by
 refine FE [0,0] Tryz.func141 λX F hX=>?_;refine J.q λ_=>?_;refine J.l (α:=Nat) (λk=>k<=n/\∀i<k,p (l.getD i En.zero)=false) (λk=>[si 8 k,si 7 n,sv 0 (.slice a n cap),⟨1,fnC c cs,0, .tt⟩]) [] (λk=>[]) (λk=>n-k) (0) (⟨by omega,by omega⟩) λk hI=>?_;refine J.qd (λ_ h1=>?_) λ_ h1=>?_
 ·simp only[d7,i6]at h1;refine J.know (p:=∃g o,a=some ⟨g,o,none⟩) (λh' s=>Rd.addr (hB _ (s.get (i:=1) rfl)) (by omega)) λhk=>?_;obtain⟨g,o,rfl⟩:=hk;have hk:l[k]? =some (l.getD k En.zero):=by rw[d6,d5 (by omega),j5]
  refine J.q λ_=>?_;refine J.v (enV (l.getD k En.zero)) rfl rfl (λhg a w he hs=>?_) ?_
  ·exact a1K tk rfl rfl he rfl rfl rfl (hB _ (hs.get (i:=1) rfl)) (by omega) (j:=k*19) (by omega) (by have:=a0k l [] k _ hk;rwa [y8]at this) rfl
  refine J.q λ_=>?_;refine J.call hX hcal (hf (l.getD k En.zero) (o0 hk)) [2] 0 rfl rfl rfl rfl (by(repeat' (first | exact Conj.nil | refine Conj.cons ?_ ?_ | omega | exact hq0 | (simpa using hq0) | (exactλh=>h) | exact rfl | (intro hq;have hq0:=hq;try simp only[f8,l8,d7,g7,c9]at hq) | (simp;done) | (simp;omega) | decide))) rfl rfl (λ_=>rfl) ?_;refine cpq ⟨_,rfl,trivial,?_⟩;refine J.qd (λ_ h2=>?_) λ_ h2=>?_
  ·refine J.qr [1,2] λ_=>?_;exact⟨by rw[a8Q,a9D hk hI.2 h2],rfl⟩
  ·refine J.q λ_=>?_;refine J.nx (k+1) (⟨by omega,λi hi=>by
    rcases Nat.lt_succ_iff_lt_or_eq.1 hi with h3 | h3
    ·exact hI.2 i h3
    ·rw[h3];exact h2⟩) (by omega) (λ_ s=>s)
 ·simp only[c9,i6]at h1;refine J.qr [1,2] λ_=>?_;exact⟨by rw[a8Q,a9E (λi hi=>hI.2 i (by omega))],rfl⟩
theorem b1f (c:Nat) (cs:List Value) (p:En->Bool) (A B:Atom) (hcal:J4 Tryz.prog c=true) (l:List En) (hf:∀x∈l,Fn Tryz.prog c (enV x::cs) [A] (Ps (.bool (p x)) [A]))
  (a:Option Addr) (n cap:Nat) (hB:Rd B a 19 n (p9 l)) (hl:l.length=n) (hn:n<=4611686018427387904):FP 163 [.slice a n cap,fnC c cs] [B,A]
  (Ps (.bool (l.any p)) [B,A]):=by
 refine FE [0,0] Tryz.func163 λX F hX=>?_;refine J.qp (b5N c cs p A B hcal l hf a n cap hB hl hn) [1,2] λ_=>?_;refine J.qr [1,2] λ_=>?_;exact⟨by rw[<- b7D],rfl⟩
def a2y (d:Nat) (L:List En):Atom:=exA λx:Option Nat×Nat=>[.pt d 182 [slv x.1 L.length x.2],n7 155 19 x.1 L.length x.2 (p9 L)]
theorem c0q:FP 81 [] [] (λv As=>∃d,v=pp d/\As=[a2y d []]):=by
 refine FE [] Tryz.func81 λX F hX=>?_;refine J.q λbs=>?_;refine J.turn1 [] rfl (As:=[n7 155 19 none 0 0 (p9 [])]) (λh s=>Sep.one ⟨rfl,rfl,rfl⟩) rfl ?_;refine J.cl (λx:Option Nat×Nat=>[.pt (bs 0) 182 [slv x.1 ([]:List En).length x.2],n7 155 19 x.1 ([]:List En).length x.2 (p9 [])]) (none,0) [1,2] ?_;refine J.qr [1] λ_=>?_;exact⟨bs 0,rfl,rfl⟩
theorem b4b (d:Nat) (L:List En):FP 68 [pp d] [a2y d L] (Ps (iI L.length) [a2y d L]):=by
 refine FE [2] Tryz.func68 λX F hX=>?_;refine J.o (α:=(Option Nat×Nat)) 1 λx=>?_;refine J.qF λ_=>?_;refine J.q λ_=>?_;refine J.cl (λx:Option Nat×Nat=>[.pt d 182 [slv x.1 L.length x.2],n7 155 19 x.1 L.length x.2 (p9 L)]) x [1,2] ?_;exact J.qx [1]
theorem c1n (b:Nat) (e x:En):FP 200 [enV x,pp b] [.pt b 155 (enL e)] (Ps (.bool (x.lpn==e.lpn)) [.pt b 155 (enL e)]):=by
 refine FE [0,2] Tryz.func200 λX F hX=>?_;exact J.qx [1]
def a2S (L:List En) (e:En):List En:=(L.filter λx=>!(x.lpn==e.lpn))++[e]
theorem b4a (d:Nat) (L:List En) (hL:L.length<=100000) (e:En):FP 140 [pp d,enV e] [a2y d L] (Ps (.tuple #[]) [a2y d (a2S L e)]):=by
 refine FE [2,0] Tryz.func140 λX F hX=>?_;refine J.o (α:=(Option Nat×Nat)) 1 λx=>?_;obtain⟨a,c⟩:=x;refine J.q λbb=>?_;refine J.cF ?_;refine J.qc (a8W 200 [pp (bb 0)] (λx=>x.lpn==e.lpn) (.pt (bb 0) 155 (enL e)) (by kernel_rfl) (λx=>c1n (bb 0) e x) a L.length c L rfl (by omega)) [2,3] λ_=>?_;rintro v As ⟨l',hl',rfl,rfl⟩;refine⟨_,rfl,trivial,?_⟩;have hll:l'.length<=L.length:=by rw[hl'];exact J3 _ _
 have hput:a2S L e=l'++[e]:=by unfold a2S;rw[hl']
 refine J.pq (.of [0,4,8,12,17,21,26,30,32,36,43]) [8,9,10] [1,3] λ_ _=>?_;refine J.ap 2 4 0 (a0K l' e) λa2 c2=>?_;refine J.q λ_=>?_;rw[show l'.length+1=(a2S L e).length from by rw[hput];simp,<- hput];refine J.cl (λx:Option Nat×Nat=>[.pt d 182 [slv x.1 (a2S L e).length x.2],n7 155 19 x.1 (a2S L e).length x.2 (p9 (a2S L e))]) (a2,c2) [1,2] ?_;refine J.q λ_=>?_;refine J.f [1] ?_;exact⟨rfl,rfl⟩
theorem c1o (b:Nat) (k:Int) (x:En):FP 142 [enV x,pp b] [.pt b 3 [iI k]] (Ps (.bool (x.lpn==k)) [.pt b 3 [iI k]]):=by
 refine FE [0,2] Tryz.func142 λX F hX=>?_;exact J.qx [1]
def a2s (L:List En) (k:Int):En×Bool:=match L.find? (λx=>x.lpn==k)with
 | some e=>(e,true)
 | none=>(En.zero,false)
theorem b7R {p:En->Bool} {l:List En} {k:Nat} (h:l.findIdx? p=some k):l.find? p=some (l.getD k En.zero)/\l[k]? =some (l.getD k En.zero):=by
 rw[q9]at h;obtain⟨h1,h2,h3⟩:=h;have e:l[k]? =some (l.getD k En.zero):=by rw[d6,d5 h1,j5]
 refine⟨?_,e⟩;have e2:l.getD k En.zero=l[k]:=by rw[d5 h1]at e;injection e with e;exact e.symm
 rw[List.find?_eq_some_iff_getElem,e2];exact⟨h2,k,h1,rfl,λj hj=>by simpa using h3 j hj⟩
theorem c0r (d:Nat) (L:List En) (hL:L.length<=100000) (k:Int):FP 93 [pp d,iI k] [a2y d L] (Ps (.tuple #[enV (a2s L k).1, .bool (a2s L k).2]) [a2y d L]):=by
 refine FE [2,0] Tryz.func93 λX F hX=>?_;refine J.o (α:=(Option Nat×Nat)) 1 λx=>?_;obtain⟨a,c⟩:=x;refine J.q λbb=>?_;refine J.cF ?_;refine J.q λ_=>?_;refine J.ca hX (by kernel_rfl) (b1c 142 [pp (bb 0)] (λx=>x.lpn==k) (.pt (bb 0) 3 [iI k]) (by kernel_rfl) L (λx _=>c1o (bb 0) k x) a L.length c rfl (by omega)) [2,3] 0 rfl rfl rfl rfl rfl rfl (λ_=>rfl) ?_;refine cpq ⟨_,rfl,trivial,?_⟩;rw[a8Q];cases hx:L.findIdx? (λx=>x.lpn==k)with
 | none=>
  dsimp only;refine J.qT λ_=>?_;refine J.cl (λx:Option Nat×Nat=>[.pt d 182 [slv x.1 L.length x.2],n7 155 19 x.1 L.length x.2 (p9 L)]) (a,c) [1,2] ?_;refine J.qr [1] λ_=>?_;have:a2s L k=(En.zero,false):=by
   unfold a2s;rw[List.find?_eq_none.2 (λx hm=>by rw[C9]at hx;simp[hx x hm])]
  rw[this];exact⟨rfl,rfl⟩
 | some i=>
  dsimp only;obtain⟨f1,f2⟩:=b7R hx;have hi:i<L.length:=(List.getElem?_eq_some_iff.1 f2).1;refine J.qd (λ_ h0=>?_) λ_ h0=>?_
  ·simp only[d7]at h0;omega
  cases a with
  | none=>
   refine J.know (λh' s=>(s.get (i:=2) rfl).2.1) λhn0=>?_;omega
  | some g=>
   refine J.q λ_=>?_;refine J.v (enV (L.getD i En.zero)) rfl rfl (λhg a w he hs=>?_) ?_
   ·exact L4 tk rfl rfl he rfl rfl rfl (hs.get (i:=2) rfl) (by rw[show 0+(i:Int).toNat*19=i*19 from by omega];have:=a0k L [] i _ f2;rwa [y8]at this) rfl
   refine J.cl (λx:Option Nat×Nat=>[.pt d 182 [slv x.1 L.length x.2],n7 155 19 x.1 L.length x.2 (p9 L)]) (some g,c) [1,2] ?_;refine J.qr [1] λ_=>?_;have:a2s L k=(L.getD i En.zero,true):=by
    unfold a2s;rw[f1]
   rw[this];exact⟨rfl,rfl⟩
def dkN (L:List En) (n:Int):Nat:=min n.toNat L.length
theorem b4c (d:Nat) (L:List En) (hL:L.length<=100000) (n:Int):FP 108 [pp d,iI n] [a2y d L] (λv As=>∃a' c',v=slv a' (dkN L n) c'/\As=[a2y d L,n7 155 19 a' (dkN L n) c' (p9 (L.take (dkN L n)))]):=by
 refine FE [2,0] Tryz.func108 λX F hX=>?_;refine J.o (α:=(Option Nat×Nat)) 1 λx=>?_;obtain⟨a,c⟩:=x;refine J.qF λ_=>?_;refine J.know (λh' s=>a0S (s.get (i:=2) rfl)) λhcap=>?_;dsimp only at hcap;have hmin:(if(L.length:Int)<(if(0:Int)>n then 0 else n)then(L.length:Int)else(if(0:Int)>n then 0 else n))=(dkN L n:Int):=by
  unfold dkN
  by_cases h:(0:Int)>n
  ·simp only[f0 h];rw[d8 (by omega)];omega
  ·simp only[d8 h];split<;>omega
 have hk:dkN L n<=L.length:=Nat.min_le_right _ _;refine J.pn 12 (.of [0,4,8,13,16,20,24,28,32,37,40,44,48,54,56]) [14] [1,2] λ_ _=>?_;refine J.vT (slv a (dkN L n) c) rfl rfl (λhg aa w he hC=>?_) ?_
 ·exact b8b rfl rfl rfl he rfl rfl hmin (by omega)
 refine J.qc (b5R a L.length c c (dkN L n) L rfl hk (by omega)) [2] λ_=>?_;rintro v As ⟨a',c',rfl,rfl⟩;refine⟨_,rfl,⟨rfl,rfl,trivial⟩,?_⟩;refine J.q λ_=>?_;refine J.cl (λx:Option Nat×Nat=>[.pt d 182 [slv x.1 L.length x.2],n7 155 19 x.1 L.length x.2 (p9 L)]) (a,c) [1,2] ?_;refine J.qr [1,3] λ_=>?_;exact⟨a',c',rfl,rfl⟩
theorem b9X (b be:Nat) (x e:En):FP 164 [enV e,pp b] [.pt b 155 (enL x)] (Ps (.bool (e.lpn==x.lpn&&e.seq==x.seq)) [.pt b 155 (enL x)]):=by
 refine FE [0,2] Tryz.func164 λX F hX=>?_;exact J.qx [1]
theorem b9Y (b:Nat) (B:Atom) (al:Option Addr) (nl cl:Nat) (l:List En) (hB:Rd B al 19 nl (p9 l)) (hl:l.length=nl) (hn:nl<=4611686018427387904) (x:En):FP 162 [enV x,pp b] [.pt b 132 [.slice al nl cl],B] (λv As=>v= .bool (l.any λe=>e.lpn==x.lpn&&e.seq==x.seq)/\As=[.pt b 132 [.slice al nl cl],B]):=by
 refine FE [0,2] Tryz.func162 λX F hX=>?_;refine J.q λbb=>?_;refine J.ca hX (by kernel_rfl) (b1f 164 [pp (bb 0)] (λe=>e.lpn==x.lpn&&e.seq==x.seq) (.pt (bb 0) 155 (enL x)) B (by kernel_rfl) l (λe _=>b9X (bb 0) 0 x e) al nl cl hB hl hn) [2,3] 0 rfl rfl rfl rfl rfl rfl (λ_=>rfl) ?_;refine cpq ⟨_,rfl,trivial,?_⟩;exact J.qx [1,2]
def a0o (L l:List En):List En:=L.filter λx=>!(l.any λe=>e.lpn==x.lpn&&e.seq==x.seq)
theorem b8a (d:Nat) (L:List En) (hL:L.length<=100000) (B:Atom) (al:Option Addr) (nl cl:Nat) (l:List En) (hB:Rd B al 19 nl (p9 l)) (hl:l.length=nl) (hn:nl<=4611686018427387904):FP 110 [pp d, .slice al nl cl] [a2y d L,B] (Ps (iI ((L.length:Int)-(a0o L l).length)) [a2y d (a0o L l),B]):=by
 refine FE [2,0] Tryz.func110 λX F hX=>?_;refine J.o (α:=(Option Nat×Nat)) 1 λx=>?_;obtain⟨a,c⟩:=x;refine J.q λbb=>?_;refine J.cF ?_;refine J.q λ_=>?_;refine J.turn1 [4,2] rfl (As:=[.hp (HP.of [.pt (bb 0) 132 [.slice al nl cl],B])]) (λh s=>Sep.hpOf.2 s) rfl ?_;refine J.q λ_=>?_;refine J.ca hX (by kernel_rfl) (a8W 162 [pp (bb 0)] (λx=>l.any λe=>e.lpn==x.lpn&&e.seq==x.seq) _ (by kernel_rfl) (λx=>Fn.pack (b9Y (bb 0) B al nl cl l hB hl hn x)) a L.length c L rfl (by omega)) [3,4] 0 rfl rfl rfl rfl rfl rfl (λ_=>rfl) ?_;rintro v As ⟨l',hl',rfl,rfl⟩;refine⟨_,rfl,trivial,?_⟩;have hll:l'.length<=L.length:=by rw[hl'];exact J3 _ _
 have hdn:a0o L l=l':=hl'.symm;refine J.q λ_=>?_;refine J.turn1 [4] rfl (As:=[.pt (bb 0) 132 [.slice al nl cl],B]) (λh s=>Sep.hpOf.1 s) rfl ?_;refine J.cl (λx:Option Nat×Nat=>[.pt d 182 [slv x.1 l'.length x.2],n7 155 19 x.1 l'.length x.2 (p9 l')]) (a,c) [1,3] ?_;refine J.qr [1,5] λ_=>?_;rw[hdn];exact⟨rfl,rfl⟩
def a6f (e:En):Prop:=(0<=e.lpn/\e.lpn<=65535)/\(0<=e.seq/\e.seq<=1099511627775)
theorem b7b {s:Sh} (h:S.may s=true):a6f s.en:=by
 simp only[S.may,S.numbers,S.inB,f8,d7]at h;exact⟨h.1.2.1.2,h.1.2.1.1⟩
theorem b9J {p:List UInt8} {s:Sh} (h:S.get p=some s):S.may s=true:=by
 unfold S.get at h;split at h
 ·rename_i hh;injection h with h;subst h;exact hh.1
 ·cases h
theorem b7d {N:Nand} {x y z:Int} (h:(M.look N x y z).2=1):S.may (M.look N x y z).1=true:=by
 unfold M.look at h ⊢;dsimp only at h ⊢;split
 ·rename_i h0;rw[f0 h0]at h;split
  ·rename_i h1;rw[f0 h1]at h;simp at h
  ·rename_i h1;simp only[not_or]at h1;have hg:S.getE (N.readV x y z)=0:=by simpa using h1.1
   unfold S.getE at hg;cases hs:S.get (N.readV x y z)with
   | none=>rw[hs]at hg;simp at hg
   | some s=>simp only[S.getV,hs,j5];exact b9J hs
 ·rename_i h0;rw[d8 h0]at h;split at h
  ·simp at h
  ·split at h<;>simp at h
theorem c1V {b r m:Int} {e:En} (h:W.ok b r m e=true):a6f e:=b7b (s:=W.sh b r m e) h
theorem a8f {N:Nand} {b r:Int} {f:Fnd} (h:f∈R.all N b r):f.block=b/\f.row=r/\a6f f.en:=by
 unfold R.all at h;rw[L7]at h;obtain⟨m,_,h⟩:=h;unfold R.allM at h;rw[List.mem_filterMap]at h;obtain⟨k,hk,h⟩:=h;rw[J7]at hk;unfold R.fnd at h;split at h
 ·rename_i hc;injection h with h;subst h;refine⟨rfl,rfl,?_⟩;simp only[f8]at hc;obtain⟨h1,_⟩:=hc;dsimp only;unfold R.enAt;unfold R.okAt at h1;split
  ·rename_i hg;have hlen:k<(R.ones N b r m (G.slots m).toNat).length:=by simpa[R.look]using hk
   have e1:(R.look N b r m).good.getD k false=((R.ones N b r m (G.slots m).toNat)[k]).2:=by simp[R.look,hlen]
   have e2:(R.look N b r m).slots.getD k Sh.zero=((R.ones N b r m (G.slots m).toNat)[k]).1:=by simp[R.look,hlen]
   rw[e1]at hg;rw[e2];simp only[R.ones,Y3,R.one,f8,A5]at hg ⊢;exact b7b (b7d hg.1)
  ·rename_i hg;rw[Bool.not_eq_true]at hg;rw[hg,D4]at h1;unfold R.mendB at h1;simp only[f8]at h1;have hb:=h1.2;unfold R.mend;rw[f0 (by rw[f8];exact h1.1),W.back,f0 hb];unfold W.backB at hb;simp only[f8]at hb;exact c1V hb.2
 ·cases h
theorem b4h (N:Nand) (hN:N.Ok):(V.all N).length<=6000:=by
 have hbd:=hN.bd;have h0:∀b r,(R.all N b r).length<=42:=λb r=>by
  have:=a7H N b r (M.masks N b r).length (by omega);unfold a5f at this
  rwa [V0]at this
 have h1:∀(l:List Nat) (b:Int),(l.flatMap λr=>R.all N b (r:Nat)).length<=42*l.length:=by
  intro l b
  induction l with
  | nil=>simp
  | cons x l ih=>rw[x7,f9,m7];have:=h0 b x;omega
 have h2:∀l:List Nat,(l.flatMap λb=>(List.range N.pages).flatMap λr=>R.all N (b:Nat) (r:Nat)).length<=336*l.length:=by
  intro l
  induction l with
  | nil=>simp
  | cons x l ih=>
   rw[x7,f9,m7];have:=h1 (List.range N.pages) x;rw[J8]at this;omega
 have:=h2 (List.range N.blocks);rw[J8]at this;unfold V.all;omega
theorem b3o {N:Nand} {f:Fnd} (h:f∈V.all N):(∃r:Nat,f.row=(r:Int)/\r<N.pages)/\a6f f.en:=by
 unfold V.all at h;rw[L7]at h;obtain⟨b,_,h⟩:=h;rw[L7]at h;obtain⟨r,hr,h⟩:=h;have:=a8f h;exact⟨⟨r,this.2.1,List.mem_range.1 hr⟩,this.2.2⟩
abbrev fdV (x:Fnd):Value:= .agg (fnL x).toArray
def Fnd.zero:Fnd:=⟨En.zero,0,0,0,0,false,false⟩
theorem b1k (a b:Fnd):FP 213 [fdV a,fdV b] [] (Ps (.bool (V.behind a b)) []):=by
 refine FE [0,0] Tryz.func213 λX F hX=>?_;refine J.qd (λ_ h1=>?_) λ_ h1=>?_
 ·refine J.qr [] λ_=>?_;simp only[E9,I1]at h1;exact⟨by rw[V.behind,f0 h1],rfl⟩
 ·simp only[y9]at h1;refine J.run hX tk 400 (λb3=>rfl) (λb3=>?_) (λb3=>?_)
  ·(repeat' (first | exact Conj.nil | refine Conj.cons ?_ ?_ | exact rfl | exact hq | (rw[hq];rfl) | (rw[(g7 _).mp hq]) | intro hq | omega | (simp;done) | (simp_all;done)))
  refine J.qr [] λ_=>?_;exact⟨by rw[V.behind,d8 (by simp[h1])],rfl⟩
theorem a5I {l:List Fnd} {k:Nat} {x:Fnd} (h:l[k]? =some x):V.tops (l.take (k+1))=V.topsStep (V.tops (l.take k)) x:=by
 unfold V.tops;rw[C7,h,K0,C2];rfl
theorem b0e (o:List Fnd) (x:Fnd):(V.topsStep o x).length<=o.length+1:=by
 cases o with
 | nil=>simp[V.topsStep]
 | cons h t=>
  simp only[V.topsStep];split
  ·simp
  ·split<;>simp
theorem a7i (l:List Fnd):(V.tops l).length<=l.length:=by
 have:∀k,k<=l.length->(V.tops (l.take k)).length<=k:=by
  intro k
  induction k with
  | zero=>intro _;simp[V.tops]
  | succ k ih=>
   intro hk;rw[a5I (d5 (by omega))];have:=b0e (V.tops (l.take k)) l[k];have:=ih (by omega);omega
 have:=this l.length (j4 _)
 rwa [V0]at this
theorem b5X (a:Option Nat) (n cap:Nat) (l:List Fnd) (hl:l.length=n) (hn:n<=100000):FP 175 [slv a n cap] [n7 202 25 a n cap (H1 l)]
  (λv As=>∃a' c',v=slv a' (V.tops l).length c'/\As=[n7 202 25 a n cap (H1 l),n7 202 25 a' (V.tops l).length c' (H1 (V.tops l))]):=by
 refine FE [0] Tryz.func175 λX F hX=>?_;refine J.turn1 [] rfl (As:=[n7 202 25 none 0 0 (H1 [])]) (λh s=>Sep.one ⟨rfl,rfl,rfl⟩) rfl ?_;refine J.q λ_=>?_;refine J.l (α:=(Nat×Option Nat×Nat×List Fnd)) (λz=>z.1<=n/\V.tops (l.take z.1)=z.2.2.2) (λz=>[si 8 z.1,si 7 n,sv 6 (slv a n cap),sv 3 (slv z.2.1 z.2.2.2.length z.2.2.1)]) [2] (λz=>[n7 202 25 z.2.1 z.2.2.2.length z.2.2.1 (H1 z.2.2.2)]) (λz=>n-z.1) ((0,none,0,[])) (⟨j8 _,rfl⟩) λz hI=>?_;obtain⟨k,a1,c1,out⟩:=z;dsimp only at hI ⊢;obtain⟨hI,hto⟩:=hI;refine J.qd (λ_ h1=>?_) λ_ h1=>?_
 ·simp only[d7,i6]at h1;cases a with
  | none=>
   refine J.know (λh' s=>(s.get (i:=1) rfl).2.1) λhn0=>?_;omega
  | some g=>
  obtain⟨x,hx⟩:∃x,l[k]? =some x:=⟨_,d5 (by omega)⟩;have hts:=a5I hx;have hlen:=a7i (l.take k);rw[l9,hto]at hlen;rw[hto]at hts;refine J.q λ_=>?_;refine J.v (fdV x) rfl rfl (λhg a w he hs=>?_) ?_
  ·exact L4 tk rfl rfl he rfl rfl rfl (hs.get (i:=1) rfl) (by rw[show 0+(k:Int).toNat*25=k*25 from by omega];exact a2e hx) rfl
  rcases out with _ | ⟨y,o⟩
  ·skip
   refine J.pn 5 (.of [0,4,8,12,16,20,25,29,34,36,40]) [] [1,2,3] λ_ _=>?_;refine J.vT (pp g) rfl rfl (λhg a w he hC=>absurd hg (by simp[G.on])) ?_;refine J.q λ_=>?_;refine J.vT (fdV x) rfl rfl (λhg a w he hC=>absurd hg (by simp[G.on])) ?_;refine J.q λ_=>?_;refine J.val hX (.bool true) 0 rfl rfl (λhg a w he hC=>absurd hg (by simp[G.on])) rfl stq ?_;refine J.qT λ_=>?_;refine J.q λbs=>?_;refine J.cO 202 25 1 1 (H1 [x]) 4 ?_;have hs:V.tops (l.take (k+1))=[x]:=by rw[hts];rfl
   refine J.slot (k:=3) (s':=⟨3,slv (some (bs 0)) [x].length 1,0, .tt⟩) rfl rfl rfl ?_;refine J.q λ_=>?_;refine J.n ((k+1,some (bs 0),1,[x])) (⟨by dsimp only;omega,hs⟩) (by dsimp only;omega) [0,1,4]
  ·refine J.know (λh' s=>D1 (c:=(a1,c1)) (by simp) (s.get (i:=2) rfl)) λhg=>?_;obtain⟨ga,rfl⟩:=hg;refine J.pq (.of [0,4,8,12,16,20,25,29,34,36,40]) [] [1,2,3] λ_ _=>?_;refine J.vT (fdV y) rfl rfl (λhg a w he hC=>?_) ?_
   ·exact L4 tk rfl rfl he hg rfl rfl (hC rfl _ (B3 (i:=2) rfl)) rfl rfl
   have hnz:(((y::o).length:Int)==0)=false:=by rw[n9,m7];omega
   rw[hnz];refine J.qp (b1k y x) [] λ_=>?_;refine J.qd (λ_ h2=>?_) λ_ h2=>?_
   ·refine J.q λbs=>?_;refine J.cO 202 25 1 1 (H1 [x]) 4 ?_;have hs:V.tops (l.take (k+1))=[x]:=by rw[hts];rw[V.topsStep,f0 (by simpa using h2)]
    refine J.slot (k:=3) (s':=⟨3,slv (some (bs 0)) [x].length 1,0, .tt⟩) rfl rfl rfl ?_;refine J.q λ_=>?_;refine J.n ((k+1,some (bs 0),1,[x])) (⟨by dsimp only;omega,hs⟩) (by dsimp only;omega) [0,1,4]
   ·refine J.pq (.of [1,4,8,13,19,20,24]) [4,5,6] [1,2,3] λ_ _=>?_;refine J.vT (fdV y) rfl rfl (λhg a w he hC=>?_) ?_
    ·exact L4 tk rfl rfl he hg rfl rfl (hC rfl _ (B3 (i:=2) rfl)) rfl rfl
    refine J.qp (b1k x y) [] λ_=>?_;refine J.qd (λ_ h3=>?_) λ_ h3=>?_
    ·refine J.q λ_=>?_;have hs:V.tops (l.take (k+1))=y::o++[x]:=by rw[hts,V.topsStep,d8 (by simpa using h2),d8 (by simpa using h3)]
     refine J.append hX tk 2 4 0 rfl rfl rfl rfl rfl rfl rfl rfl rfl rfl rfl rfl rfl rfl rfl rfl ?_ ?_ (λ_=>rfl) λa3 c3=>⟨_,(congrArg (λz=>U9 _ 2 (n7 _ _ _ _ _ z)) (a3W (y::o) x).symm).trans rfl,trivial,?_⟩
     ·simp only[maxLen];omega
     ·omega
     rw[show(y::o).length+1=(y::o++[x]).length from by simp];refine J.q λ_=>?_;refine J.n ((k+1,a3,c3,y::o++[x])) (⟨by dsimp only;omega,hs⟩) (by dsimp only;omega) [0,1,2]
    ·have hs:V.tops (l.take (k+1))=y::o:=by rw[hts,V.topsStep,d8 (by simpa using h2),f0 (by simpa using h3)]
     refine J.q λ_=>?_;refine J.n ((k+1,some ga,c1,y::o)) (⟨by dsimp only;omega,hs⟩) (by dsimp only;omega) [0,1,2]
 ·simp only[c9,i6]at h1;obtain rfl:k=n:=by omega
  rw[t6 (by omega)]at hto;subst hto;refine J.qr [1,2] λ_=>?_;exact⟨a1,c1,rfl,rfl⟩
def b0d (x:Int):Bool:=x !=2&&x !=4
theorem b8y (A:Atom) (x:Int):FP 177 [iI x] [A] (Ps (.bool (b0d x)) [A]):=by
 refine FE [0] Tryz.func177 λX F hX=>?_;exact J.qx [1]
theorem b0V (N:Nand) (b r:Int):V.blankRow N b r= !(((M.rowN N b r N.dies).map (·.2)).any b0d):=by
 unfold V.blankRow;rw[List.any_map,List.not_any_eq_all_not];congr 1;funext x;show(x.2==2||x.2==4)= !(!(x.2==2)&& !(x.2==4));cases(x.2==2)<;>cases(x.2==4)<;>rfl
def V.upto (N:Nand) (f:Fnd) (k:Nat):Bool:=(List.range k).all λr:Nat=>decide ((r:Int)<=f.row)||V.blankRow N f.block r
theorem V.upto_succ (N:Nand) (f:Fnd) (k:Nat):V.upto N f (k+1)=(V.upto N f k&&(decide ((k:Int)<=f.row)||V.blankRow N f.block k)):=by
 unfold V.upto;rw[A8,List.all_append];simp
theorem V.upto_le (N:Nand) (f:Fnd) (k r0:Nat) (hr:f.row=(r0:Int)) (h:k<=r0+1):V.upto N f k=true:=by
 unfold V.upto;rw[H6];intro r hr2;rw[J7]at hr2;rw[j3 (by omega)];rfl
theorem c0v (p:Nat) (N:Nand) (hN:N.Ok) (hR:N.Room) (sp:Nat) (H:Value) (f:Fnd) (r0:Nat) (hr:f.row=(r0:Int)) (hr2:r0<=1000):FP 122 [pp sp,fdV f] [C0 p N, .pt sp 198 [pp p,H]]
  (Ps (.bool (V.last N f)) [C0 p N, .pt sp 198 [pp p,H]]):=by
 have hbd:=hN.bd;refine FE [3,0] Tryz.func122 λX F hX=>?_;refine J.q λbb=>?_;rw[hr];refine J.q λ_=>?_;refine J.l (α:=Nat) (λk=>r0+1<=k/\V.upto N f k=true/\(k=r0+1\/k<=N.pages)) (λk=>[si 5 k,⟨0,pp sp,3, .tt⟩,⟨3,pp (bb 0),4, .tt⟩]) [] (λk=>[]) (λk=>N.pages-k) (r0+1) (⟨j4 _,V.upto_le N f _ r0 hr (j4 _), .inl rfl⟩) λk hI=>?_;refine J.qp (a1T p N) [1] λ_=>?_;refine J.qd (λ_ h1=>?_) λ_ h1=>?_
 ·simp only[d7,i6]at h1;refine J.p (.of [0,4,8,13,16,20,25,28,34,36,40,44,48,52]) [13] [1,2,3] λ_=>?_;refine J.qc (c0p p N hN hR f.block k) [1] λ_=>?_;rintro v As ⟨a1,c1,a2,c2,rfl,rfl⟩;refine⟨_,rfl,stq,?_⟩;refine J.q λ_=>?_;refine J.ca hX (by kernel_rfl) (a6g 177 [] b0d (C0 p N) (by kernel_rfl) ((M.rowN N f.block k N.dies).map (·.2)) (λx _=>b8y (C0 p N) x) a2 N.dies c2 (by simp[M.rowN]) (by omega)) [5,1] 0 rfl rfl rfl rfl rfl rfl (λ_=>rfl) ?_;refine cpq ⟨_,rfl,trivial,?_⟩;have hbl:=b0V N f.block k;have hk:=V.upto_succ N f k;have hlt:decide ((k:Int)<=f.row)=false:=by rw[c9];omega
  rw[hI.2.1,hlt]at hk;refine J.qd (λ_ h2=>?_) λ_ h2=>?_
  ·rw[h2]at hbl;refine J.qr [1,2] λ_=>?_;refine⟨?_,rfl⟩;have:V.last N f=false:=by
    unfold V.last;rw[a1a];left;rw[List.all_eq_false];exact⟨k,List.mem_range.2 h1,by rw[hlt,hbl];simp⟩
   rw[this]
  ·rw[h2]at hbl;rw[hbl]at hk;refine J.q λ_=>?_;refine J.n (k+1) (⟨by omega,hk,by omega⟩) (by omega) [0,1,2,3]
 ·simp only[c9,i6]at h1;have hup:V.upto N f N.pages=true:=by
   rcases hI.2.2 with h | h
   ·exact V.upto_le N f _ r0 hr (by omega)
   ·rw[show N.pages=k by omega];exact hI.2.1
  refine J.qp (a1s f.mask f.block f.row) [] λ_=>?_;have hv:V.last N f=((M.look N (G.parity f.mask f.block f.row) f.block f.row).2 !=4):=by
   unfold V.last;have:((List.range N.pages).all λr:Nat=>decide ((r:Int)<=f.row)||V.blankRow N f.block r)=true:=hup;rw[this,x6]
  refine J.pq (.take true 0 (.take true 1 (.take true 2 (.take false 3 (.take true 4 (.take true 5 (.take true 6 (.take false 7 (.take true 8 (.take true 9 (.take false 10 (.take true 11 (.alt false 12 ((.of [52,56,60,66,70,72])) (.alt false 16 ((.of [50,52,56,60,70,72])) .non)))))))))))))) [18] [1,2,3] λ_ _=>?_;refine J.alts ?_ ?_
  ·skip
   refine J.qp (a5O p N hN hR (G.parity f.mask f.block f.row) f.block f.row) [1] λ_=>?_;refine J.qr [1,2] λ_=>?_;exact⟨by rw[hv],rfl⟩
  ·skip
   refine J.qn 1 λ_=>?_;refine J.qp (a5O p N hN hR (G.parity f.mask f.block f.row) f.block f.row) [1] λ_=>?_;refine J.qr [1,2] λ_=>?_;exact⟨by rw[hv],rfl⟩
theorem a9T (l:List Fnd) (r:List Value) (k:Nat) (x:Fnd) (h:l[k]? =some x):((H1 l++r).drop (k*25)).take 25=fnL x:=by
 have hk:k<l.length:=(List.getElem?_eq_some_iff.1 h).1;rw[List.drop_append_of_le_length (by rw[X9];omega),List.take_append_of_le_length (by rw[B4,X9];omega)];exact a2e h
theorem a8t:∀(l:List Fnd) (r:List Value) (k:Nat) (x:Fnd),k<l.length->(H1 l++r).take (k*25)++fnL x++(H1 l++r).drop (k*25+25)=H1 (l.set k x)++r
 | [],_,_,_,h=>by simp at h
 | y::l,r,0,x,h=>by simp[H1,fnL]
 | y::l,r,k+1,x,h=>by
  have:=a8t l r k x (by simpa using h);have hy:(fnL y).length=25:=rfl;have e1:H1 (y::l)++r=fnL y++(H1 l++r):=by simp[H1]
  have e2:H1 ((y::l).set (k+1) x)++r=fnL y++(H1 (l.set k x)++r):=by simp[H1]
  rw[e1,e2,<- this,show(k+1)*25=(fnL y).length+k*25 from by omega,S9,show(fnL y).length+k*25+25=(fnL y).length+(k*25+25)from by omega,<- B8,U3 rfl];simp only[n8]
def b9E (p:Fnd->Bool) (l:List Fnd):Int:=match l.findIdx? p with
 | some k=>k
 | none=> -1
theorem b5m {p:Fnd->Bool} {l:List Fnd} {k:Nat} {x:Fnd} (h:l[k]? =some x) (h0:∀i<k,p (l.getD i Fnd.zero)=false) (hp:p x=true):l.findIdx? p=some k:=by
 rw[q9];obtain⟨h1,h2⟩:=List.getElem?_eq_some_iff.1 h;refine⟨h1,by rw[h2];exact hp,λj hj=>?_⟩;have:=h0 j hj;rw[d6,d5 (by omega),j5]at this;simp[this]
theorem b5n {p:Fnd->Bool} {l:List Fnd} (h0:∀i<l.length,p (l.getD i Fnd.zero)=false):l.findIdx? p=none:=by
 rw[C9];intro x hx;obtain⟨i,hi,rfl⟩:=List.mem_iff_getElem.1 hx;have:=h0 i hi
 rwa [d6,d5 hi,j5]at this
theorem b5P (c:Nat) (cs:List Value) (p:Fnd->Bool) (A:Atom) (hcal:J4 Tryz.prog c=true) (l:List Fnd) (hf:∀x∈l,Fn Tryz.prog c (fdV x::cs) [A] (λv As=>v= .bool (p x)/\As=[A]))
  (a:Option Nat) (n cap:Nat) (hl:l.length=n) (hn:n<=4611686018427387904):FP 216 [slv a n cap,fnC c cs] [n7 202 25 a n cap (H1 l),A]
  (λv As=>v=iI (b9E p l)/\As=[n7 202 25 a n cap (H1 l),A]):=by
 refine FE [0,0] Tryz.func216 λX F hX=>?_;refine J.q λ_=>?_;refine J.l (α:=Nat) (λk=>k<=n/\∀i<k,p (l.getD i Fnd.zero)=false) (λk=>[si 8 k,si 7 n,sv 0 (slv a n cap),⟨1,fnC c cs,0, .tt⟩]) [] (λk=>[]) (λk=>n-k) (0) (⟨by omega,by omega⟩) λk hI=>?_;refine J.qd (λ_ h1=>?_) λ_ h1=>?_
 ·simp only[d7,i6]at h1;cases a with
  | none=>
   refine J.know (λh' s=>(s.get (i:=1) rfl).2.1) λhn0=>?_;omega
  | some g=>
   have hk:l[k]? =some (l.getD k Fnd.zero):=by rw[d6,d5 (by omega),j5]
   refine J.q λ_=>?_;refine J.v (fdV (l.getD k Fnd.zero)) rfl rfl (λhg a w he hs=>?_) ?_
   ·exact L4 tk rfl rfl he rfl rfl rfl (hs.get (i:=1) rfl) (by rw[show 0+(k:Int).toNat*25=k*25 from by omega];have:=a9T l [] k _ hk;rwa [y8]at this) rfl
   refine J.q λ_=>?_;refine J.call hX hcal (hf (l.getD k Fnd.zero) (o0 hk)) [2] 0 rfl rfl rfl rfl (by(repeat' (first | exact Conj.nil | refine Conj.cons ?_ ?_ | omega | exact hq0 | (simpa using hq0) | (exactλh=>h) | exact rfl | (intro hq;have hq0:=hq;try simp only[f8,l8,d7,g7,c9]at hq) | (simp;done) | (simp;omega) | decide))) rfl rfl (λ_=>rfl) ?_;refine cpq ⟨_,rfl,trivial,?_⟩;refine J.qd (λ_ h2=>?_) λ_ h2=>?_
   ·refine J.qr [1,2] λ_=>?_;exact⟨by rw[b9E,b5m hk hI.2 h2],rfl⟩
   ·refine J.q λ_=>?_;refine J.nx (k+1) (⟨by omega,λi hi=>by
     rcases Nat.lt_succ_iff_lt_or_eq.1 hi with h3 | h3
     ·exact hI.2 i h3
     ·rw[h3];exact h2⟩) (by omega) (λ_ s=>s)
 ·simp only[c9,i6]at h1;refine J.qr [1,2] λ_=>?_;exact⟨by rw[b9E,b5n (λi hi=>hI.2 i (by omega))],rfl⟩
theorem b3h (l:List Fnd):∀u∈H1 l,u.oneCell'=true:=by
 intro u hu;simp only[H1,L7]at hu;obtain⟨s,_,hu⟩:=hu;simp only[fnL,I6,V1,a5A]at hu;rcases hu with rfl | rfl | rfl | rfl | rfl | rfl | rfl | rfl | rfl | rfl | rfl | rfl | rfl | rfl | rfl | rfl | rfl | rfl | rfl | rfl | rfl | rfl | rfl | rfl | rfl<;>rfl
theorem b5S (a:Option Nat) (n cap:Nat) (l:List Fnd) (hl:l.length=n) (hn:n<=1000000):FP 181 [slv a n cap] [n7 202 25 a n cap (H1 l)]
  (λv As=>∃a' c',v=slv a' n c'/\As=[n7 202 25 a n cap (H1 l),n7 202 25 a' n c' (H1 l)]):=by
 refine FE [0] Tryz.func181 λX F hX=>?_;cases a with
 | none=>
  refine J.know (λh' s=>(s.get (i:=1) rfl).2) λhn0=>?_;obtain⟨rfl,rfl⟩:=hn0;have:l=[]:=m6 hl;subst this;refine J.qT λ_=>?_;refine J.turn1 [] rfl (As:=[n7 202 25 none 0 0 (H1 [])]) (λh s=>Sep.one ⟨rfl,rfl,rfl⟩) rfl ?_;refine J.qr [1,2] λ_=>?_;exact⟨none,0,rfl,rfl⟩
 | some g=>
  refine J.qF λ_=>?_;refine J.qn 5 λbb=>?_;refine J.closeOwn (e:=202) (size:=25) (n:=0) (cap:=0) (xs:=[]) 2 rfl rfl rfl (j4 _) (j8 _) rfl rfl rfl ?_;refine J.q λ_=>?_;refine J.appendR hX tk (a:=some (bb 0)) (n:=0) (cap:=0) (xs:=[]) (oo:=0) (Ay:=n7 202 25 (some g) n cap (H1 l)) 2 1 0 rfl rfl rfl rfl rfl rfl rfl rfl rfl rfl (X6 _ _ (some g) _ _ _) rfl rfl rfl rfl (b3h l) ?_ ?_ (λ_=>rfl) λa' c'=>⟨_,rfl,trivial,?_⟩
  ·simp only[maxLen];omega
  ·omega
  rw[I5 n,R1];refine J.qr [1,2] λ_=>?_;exact⟨a',c',rfl,rfl⟩
def DelF (p:Fnd->Bool) (l m:List Fnd) (i j:Nat):Prop:=m.length=l.length/\i<j/\j<=l.length/\m.drop j=l.drop j/\m.take i++(l.drop j).filter (λx=>!p x)=l.filter (λx=>!p x)
theorem DelF.start {p:Fnd->Bool} {l:List Fnd} {k:Nat} (h:l.findIdx? p=some k):DelF p l l k (k+1):=by
 rw[q9]at h;obtain⟨h1,h2,h3⟩:=h;refine⟨rfl,by omega,by omega,rfl,?_⟩;have e:l=l.take k++l[k]::l.drop (k+1):=by rw[<- t7 h1,C5]
 have e2:(l.take k).filter (λx=>!p x)=l.take k:=by
  rw[X0];intro x hx;obtain⟨i,hi,rfl⟩:=List.mem_iff_getElem.1 hx;rw[a0f];have:=h3 i (by simp at hi;omega);simpa using this
 conv=>rhs;rw[e]
 rw[R5,e2,S8 (by simp[h2])]
theorem DelF.skip {p:Fnd->Bool} {l m:List Fnd} {i j:Nat} (h:DelF p l m i j) (hj:j<l.length) (hp:p (m.getD j Fnd.zero)=true):DelF p l m i (j+1):=by
 obtain⟨h1,h2,h3,h4,h5⟩:=h;have e1:m[j]? =l[j]?:=by have:=congrArg (λz=>z[0]?) h4;simpa using this
 have hx:l[j]=m.getD j Fnd.zero:=by rw[d6,e1,d5 hj,j5]
 refine⟨h1,by omega,by omega,?_,?_⟩
 ·have:=congrArg (List.drop 1) h4;simpa[B8]using this
 ·rw[<- h5,t7 hj,S8 (by rw[hx,hp];simp)]
theorem DelF.keep {p:Fnd->Bool} {l m:List Fnd} {i j:Nat} (h:DelF p l m i j) (hj:j<l.length) (hp:p (m.getD j Fnd.zero)=false):DelF p l (m.set i (m.getD j Fnd.zero)) (i+1) (j+1):=by
 obtain⟨h1,h2,h3,h4,h5⟩:=h;have e1:m[j]? =l[j]?:=by have:=congrArg (λz=>z[0]?) h4;simpa using this
 have hx:l[j]=m.getD j Fnd.zero:=by rw[d6,e1,d5 hj,j5]
 refine⟨by simp[h1],by omega,by omega,?_,?_⟩
 ·rw[List.drop_set_of_lt (by omega)];have:=congrArg (List.drop 1) h4;simpa[B8]using this
 ·rw[<- h5,t7 hj,a2F (by rw[hx,hp];simp),hx,a4a,C7,d5 (by omega)];rw[N9 _ _ (by simp;omega)];simp[l9,L5 (show i<=m.length by omega)]
theorem b4m (c:Nat) (cs:List Value) (p:Fnd->Bool) (A:Atom) (hcal:J4 Tryz.prog c=true) (hf:∀x,Fn Tryz.prog c (fdV x::cs) [A] (λv As=>v= .bool (p x)/\As=[A]))
  (a:Option Nat) (n cap:Nat) (l:List Fnd) (hl:l.length=n) (hn:n<=4611686018427387904):FP 180 [slv a n cap,fnC c cs] [n7 202 25 a n cap (H1 l),A]
  (λv As=>∃l',l'=l.filter (λx=>!p x)/\v=slv a l'.length cap/\As=[n7 202 25 a l'.length cap (H1 l'),A]):=by
 refine FE [0,0] Tryz.func180 λX F hX=>?_;refine J.qp (b5P c cs p A hcal l (λx _=>hf x) a n cap hl hn) [1,2] λ_=>?_;rw[b9E];cases hx:l.findIdx? p with
 | none=>
  dsimp only;refine J.qT λ_=>?_;refine J.qr [1,2] λ_=>?_;have:l.filter (λx=>!p x)=l:=by
   rw[X0];intro x hm;rw[C9]at hx;simp[hx x hm]
  exact⟨l,this.symm,by rw[hl],by rw[hl];rfl⟩
 | some k=>
  dsimp only;refine J.qd (λ_ h0=>?_) λ_ h0=>?_
  ·simp only[A5]at h0;omega
  have hk:k<n:=by rw[q9]at hx;obtain⟨h1,_⟩:=hx;omega
  cases a with
  | none=>
   refine J.know (λh' s=>(s.get (i:=1) rfl).2.1) λhn0=>?_;omega
  | some g=>
   refine J.openOwn 1 rfl rfl (λ_=>rfl) λr q1 q2 q3 q4=>?_;refine J.q λ_=>?_;rw[show(k:Int)+1=((k+1:Nat):Int)from by omega];refine J.q λ_=>?_;refine J.l (α:=(Nat×Nat×List Fnd)) (λx=>DelF p l x.2.2 x.1 x.2.1) (λx=>[si 6 x.2.1,si 5 x.1,sv 0 (slv (some g) n cap),⟨1,fnC c cs,0, .tt⟩]) [1] (λx=>[.pt g 202 (H1 x.2.2++r)]) (λx=>n-x.2.1) ((k,k+1,l)) (DelF.start hx) λx hI=>?_;obtain⟨i,j,m⟩:=x;dsimp only at hI ⊢;have hml:m.length=n:=hI.1.trans hl;have hij:i<j:=hI.2.1;have hjn:j<=n:=by have:=hI.2.2.1;omega
   refine J.qd (λ_ h1=>?_) λ_ h1=>?_
   ·simp only[d7,i6]at h1;have hget:m[j]? =some (m.getD j Fnd.zero):=by rw[d6,d5 (by omega),j5]
    refine J.q λ_=>?_;refine J.v (fdV (m.getD j Fnd.zero)) rfl rfl (λhg a w he hs=>?_) ?_
    ·exact H7 tk rfl rfl he rfl rfl rfl (hs.get (i:=1) rfl) (by rw[show 0+(j:Int).toNat*25=j*25 from by omega];exact a9T m r _ _ hget) rfl
    refine J.q λ_=>?_;refine J.call hX hcal (hf (m.getD j Fnd.zero)) [2] 0 rfl rfl rfl rfl (by(repeat' (first | exact Conj.nil | refine Conj.cons ?_ ?_ | omega | exact hq0 | (simpa using hq0) | (exactλh=>h) | exact rfl | (intro hq;have hq0:=hq;try simp only[f8,l8,d7,g7,c9]at hq) | (simp;done) | (simp;omega) | decide))) rfl rfl (λ_=>rfl) ?_;refine cpq ⟨_,rfl,trivial,?_⟩;refine J.qd (λ_ h2=>?_) λ_ h2=>?_
    ·simp only[g7]at h2;refine J.q λ_=>?_;refine J.storeN hX tk 1 rfl rfl rfl rfl rfl rfl rfl rfl rfl rfl rfl rfl rfl ?_ (H1 (m.set i (m.getD j Fnd.zero))++r) ?_ rfl (λ_=>rfl) ⟨trivial,?_⟩
     ·rw[f9,X9];show 0+(i:Int).toNat*25+25<=_;omega
     ·rw[show 0+(i:Int).toNat*25=i*25 from by omega];exact a8t m r i _ (by omega)
     refine J.q λ_=>?_;refine J.n ((i+1,j+1,m.set i (m.getD j Fnd.zero))) (hI.keep (by omega) h2) (by dsimp only;omega) [0,1,2]
    ·simp only[B2]at h2;refine J.q λ_=>?_;refine J.n ((i,j+1,m)) (hI.skip (by omega) h2) (by dsimp only;omega) [0,1,2]
   ·simp only[c9,i6]at h1;obtain rfl:j=n:=by omega
    have hfil:m.take i=l.filter (λx=>!p x):=by
     have h5:=hI.2.2.2.2;rw[G9 (by omega)]at h5;simpa using h5
    refine J.q λ_=>?_;refine J.clear hX tk 1 rfl rfl rfl rfl rfl rfl rfl rfl rfl rfl rfl ?_ (λ_=>rfl) (λ_=>rfl) λcs' z1 z2=>⟨trivial,?_⟩
    ·rw[f9,X9];rw[X9]at q4;show 0+(i:Int).toNat*25+(j-(i:Int).toNat)*25<=_;have:(i:Int).toNat=i:=by omega
     rw[this];omega
    have hilen:(l.filter (λx=>!p x)).length=i:=by rw[<- hfil,l9];omega
    refine J.closeOwn (e:=202) (size:=25) (n:=i) (cap:=cap) (xs:=H1 (l.filter (λx=>!p x))) 1 rfl rfl (by rw[X9,hilen]) (by omega) q3 (by rw[z1,f9,X9,hml];rw[X9,hl]at q4;exact q4) ?_ rfl ?_
    ·have z3:(0+(i:Int).toNat*25)=i*25:=by omega
     rw[z3]at z2;rw[z2,<- hfil];have e:H1 m=H1 (m.take i)++H1 (m.drop i):=by
      conv=>lhs;rw[<- C5 i m]
      simp only[H1,J5]
     rw[e,n8,D6 (by rw[X9,l9,L5 (by omega)])]
    refine J.qr [1,2] λ_=>?_;exact⟨_,rfl,by rw[hilen];rfl,by rw[hilen];rfl⟩
structure FSlot where
 a:Option Nat
 cap:Nat
 l:List Fnd
def FSlot.hdr (z:FSlot):Value:=slv z.a z.l.length z.cap
def FSlot.atom (z:FSlot):Atom:=n7 202 25 z.a z.l.length z.cap (H1 z.l)
def a3R (Z:List FSlot):List Value:=Z.map FSlot.hdr
def a5p (Z:List FSlot):List Atom:=Z.map FSlot.atom
theorem b2a {Z:List FSlot} {k:Nat} {z:FSlot} (h:Z[k]? =some z):(a3R Z)[0+(k:Int).toNat*1]? =some z.hdr:=by
 rw[show 0+(k:Int).toNat*1=k from by omega,a3R,i7,h];rfl
theorem a5o {Z:List FSlot} {k:Nat} {z:FSlot} (h:Z[k]? =some z):(a5p Z)[k]? =some z.atom:=by
 rw[a5p,i7,h];rfl
theorem a5X {Z:List FSlot} {k:Nat} {z:FSlot} (h:Z[k]? =some z):(a5p Z).set k z.atom=a5p Z:=by
 apply s8;intro i;rw[s7];split
 ·rename_i e;subst e;split
  ·exact(a5o h).symm
  ·rename_i e2;rw[j9 (by omega)]
 ·rfl
theorem b7V (Z:List FSlot) (k:Nat) (z:FSlot):(a5p Z).set k z.atom=a5p (Z.set k z):=by rw[a5p,a5p,x8]
theorem b7F (Z:List FSlot) (k:Nat) (z:FSlot):(a3R Z).set k z.hdr=a3R (Z.set k z):=by rw[a3R,a3R,x8]
def V.standOf (l:List Fnd):Fnd×Bool:=match V.tops l with
 | []=>(Fnd.zero,false)
 | f::_=>(f,true)
def ScP (sp p g:Nat) (Z:List FSlot):List Atom:=[.pt sp 198 [pp p, .slice (some ⟨g,0,none⟩) Z.length Z.length], .pt g 199 (a3R Z), .hp (HP.of (a5p Z))]
theorem b5Y (sp p g:Nat) (Z:List FSlot) (k:Nat) (z:FSlot) (hz:Z[k]? =some z) (hn:Z.length<=100000) (hl:z.l.length<=100000):FP 120 [pp sp,iI k] (ScP sp p g Z)
  (Ps (.tuple #[fdV (V.standOf z.l).1, .bool (V.standOf z.l).2]) (ScP sp p g Z)):=by
 have hk:k<Z.length:=(List.getElem?_eq_some_iff.1 hz).1;refine FE [2,0] Tryz.func120 λX F hX=>?_;refine J.q λ_=>?_;refine J.v z.hdr rfl rfl (λhg a w he hs=>?_) ?_
 ·exact A9 tk rfl rfl he rfl rfl rfl (hs.get (i:=2) rfl) (b2a hz)
 refine J.openAt 3 k rfl rfl (a5o hz) rfl ?_;refine J.qc (b5X z.a z.l.length z.cap z.l rfl hl) [5] λ_=>?_;rintro v As ⟨a',c',rfl,rfl⟩;refine⟨_,rfl,trivial,?_⟩;have hv:V.standOf z.l=match V.tops z.l with
  | []=>(Fnd.zero,false)
  | f::_=>(f,true):=rfl
 rcases ht:V.tops z.l with _ | ⟨f,o⟩
 ·rw[ht]at hv;refine J.qT λ_=>?_;refine J.q λ_=>?_;refine J.closeAt (A:=z.atom) 3 5 k rfl rfl rfl ?_;rw[a5X hz];refine J.qr [1,2,3] λ_=>?_;exact⟨by rw[hv];rfl,rfl⟩
 ·rw[ht]at hv;refine J.know (λh' s=>D1 (c:=(a',c')) (by simp) (s.get (i:=6) rfl)) λhg=>?_;obtain⟨ga,rfl⟩:=hg;refine J.qd (λ_ h1=>?_) λ_ h1=>?_
  ·simp only[A5,m7]at h1;omega
  refine J.q λ_=>?_;refine J.v (fdV f) rfl rfl (λhg a w he hs=>?_) ?_
  ·exact L4 tk rfl rfl he rfl rfl rfl (hs.get (i:=6) rfl) rfl rfl
  refine J.q λ_=>?_;refine J.closeAt (A:=z.atom) 3 5 k rfl rfl rfl ?_;rw[a5X hz];refine J.qr [1,2,3] λ_=>?_;exact⟨by rw[hv];rfl,rfl⟩
theorem b5Z (A:Atom) (x:Fnd):FP 182 [fdV x] [A] (Ps (.bool (!x.whole)) [A]):=by
 refine FE [0] Tryz.func182 λX F hX=>?_;exact J.qx [1]
theorem b8z (sp p g:Nat) (Z:List FSlot) (k:Nat) (z:FSlot) (hz:Z[k]? =some z) (hn:Z.length<=100000) (hl:z.l.length<=100000):FP 123 [pp sp,iI k] (ScP sp p g Z)
  (λv As=>∃a c,v=slv a (V.holds z.l).length c/\As=ScP sp p g Z++[n7 3 1 a (V.holds z.l).length c (A7 (V.holds z.l))]):=by
 have hk:k<Z.length:=(List.getElem?_eq_some_iff.1 hz).1;refine FE [2,0] Tryz.func123 λX F hX=>?_;refine J.q λ_=>?_;refine J.v z.hdr rfl rfl (λhg a w he hs=>?_) ?_
 ·exact A9 tk rfl rfl he rfl rfl rfl (hs.get (i:=2) rfl) (b2a hz)
 refine J.openAt 3 k rfl rfl (a5o hz) rfl ?_;refine J.qc (b5S z.a z.l.length z.cap z.l rfl (by omega)) [4] λ_=>?_;rintro v As ⟨a1,c1,rfl,rfl⟩;refine⟨_,rfl,trivial,?_⟩;refine J.closeAt (A:=z.atom) 3 4 k rfl rfl rfl ?_;rw[a5X hz];refine J.q λ_=>?_;refine J.ca hX (by kernel_rfl) (b4m 182 [] (λx=>!x.whole) (.pt sp 198 [pp p, .slice (some ⟨g,0,none⟩) Z.length Z.length]) (by kernel_rfl) (λx=>b5Z _ x) a1 z.l.length c1 z.l rfl (by omega)) [5,1] 0 rfl rfl rfl rfl rfl rfl (λ_=>rfl) ?_;rintro v As ⟨l',hl',rfl,rfl⟩;refine⟨_,rfl,trivial,?_⟩;have hl2:l'=z.l.filter λf=>f.whole:=by rw[hl'];congr 1;funext x;simp
 have hll:l'.length<=z.l.length:=by rw[hl'];exact J3 _ _
 have htl:=a7i l';have hh:V.holds z.l=(V.tops l').map (·.block):=by rw[hl2];rfl
 refine J.qc (b5X a1 l'.length c1 l' rfl (by omega)) [5] λ_=>?_;rintro v As ⟨a2,c2,rfl,rfl⟩;refine⟨_,rfl,trivial,?_⟩;refine J.turn1 [] rfl (As:=[n7 3 1 none 0 0 (A7 [])]) (λh s=>Sep.one ⟨rfl,rfl,rfl⟩) rfl ?_;refine J.q λ_=>?_;refine J.l (α:=(Nat×Option Nat×Nat)) (λw=>w.1<=(V.tops l').length) (λw=>[si 21 w.1,⟨20,iI (V.tops l').length,0, .tt⟩,sv 19 (slv a2 (V.tops l').length c2),sv 6 (slv w.2.1 w.1 w.2.2)]) [7] (λw=>[n7 3 1 w.2.1 w.1 w.2.2 (A7 (((V.tops l').take w.1).map (·.block)))]) (λw=>(V.tops l').length-w.1) ((0,none,0)) (j8 _) λw hI=>?_;obtain⟨j,a3,c3⟩:=w;dsimp only at hI ⊢;refine J.qd (λ_ h1=>?_) λ_ h1=>?_
 ·simp only[d7,i6]at h1;obtain⟨x,hx⟩:∃x,(V.tops l')[j]? =some x:=⟨_,d5 h1⟩;have htk:((V.tops l').take (j+1)).map (·.block)=((V.tops l').take j).map (·.block)++[x.block]:=by rw[C7,hx];simp
  refine J.know (λh' s=>D1 (c:=(a2,c2)) (by omega) (s.get (i:=6) rfl)) λhg=>?_;obtain⟨ga,rfl⟩:=hg;refine J.q λ_=>?_;refine J.v (fdV x) rfl rfl (λhg a w he hs=>?_) ?_
  ·exact L4 tk rfl rfl he rfl rfl rfl (hs.get (i:=6) rfl) (by rw[show 0+(j:Int).toNat*25=j*25 from by omega];exact a2e hx) rfl
  refine J.q λ_=>?_;refine J.ap 7 9 0 ((a1v _ x.block).symm.trans (congrArg A7 htk.symm)) λa4 c4=>?_;refine J.q λ_=>?_;refine J.n ((j+1,a4,c4)) (by dsimp only;omega) (by dsimp only;omega) [0,1,2,3,4,5,6,7]
 ·simp only[c9,i6]at h1;obtain rfl:j=(V.tops l').length:=by omega
  rw[V0,<- hh];refine J.qr [1,2,3,7] λ_=>?_;have hlen:(V.tops l').length=(V.holds z.l).length:=by rw[hh,j7]
  rw[hlen];exact⟨a3,c3,rfl,rfl⟩
end Go.Proofs.YtnffkcabeecopaaGreat
namespace Go.Proofs.YtnffkcabeecopaaGreat
open Go Go.Shelf
def b8T:Ren:=⟨λn=>if n=125 then 184 else if n=128 then 226 else if n=129 then 227 else if n=189 then 124 else if n=215 then 153 else if n=216 then 223 else if n=257 then 183 else if n=294 then 217 else if n=295 then 218 else if n=296 then 219 else if n=297 then 220 else if n=298 then 221 else if n=299 then 222 else if n=300 then 224 else if n=301 then 225 else if n=328 then 253 else if n=329 then 254 else if n=330 then 255 else if n=331 then 256 else if n=332 then 257 else if n=343 then 273 else 0,λn=>if n=0 then 0 else if n=3 then 3 else if n=4 then 4 else if n=5 then 5 else if n=9 then 9 else if n=28 then 74 else if n=46 then 193 else if n=51 then 292 else if n=53 then 294 else if n=131 then 289 else if n=182 then 284 else if n=183 then 285 else if n=218 then 323 else if n=222 then 321 else if n=228 then 336 else if n=229 then 337 else 0,λn=>n⟩
theorem b7i:Lays.n189 Tryz.prog b8T where
 mixed:=by kernel_rfl
 f125:=by kernel_rfl
 f128:=by kernel_rfl
 f129:=by kernel_rfl
 f189:=by kernel_rfl
 f215:=by kernel_rfl
 f216:=by kernel_rfl
 f257:=by kernel_rfl
 f294:=by kernel_rfl
 f295:=by kernel_rfl
 f296:=by kernel_rfl
 f297:=by kernel_rfl
 f298:=by kernel_rfl
 f299:=by kernel_rfl
 f300:=by kernel_rfl
 f301:=by kernel_rfl
 f328:=by kernel_rfl
 f329:=by kernel_rfl
 f330:=by kernel_rfl
 f331:=by kernel_rfl
 f332:=by kernel_rfl
 f343:=by kernel_rfl
 t0:=by kernel_rfl
 a0:=λw=>by kernel_rfl
 z0:=λw=>by kernel_rfl
 v0:=λw=>by kernel_rfl
 t3:=by kernel_rfl
 a3:=λw=>by kernel_rfl
 z3:=λw=>by kernel_rfl
 v3:=λw=>by kernel_rfl
 t4:=by kernel_rfl
 a4:=λw=>by kernel_rfl
 z4:=λw=>by kernel_rfl
 v4:=λw=>by kernel_rfl
 t5:=by kernel_rfl
 a5:=λw=>by kernel_rfl
 z5:=λw=>by kernel_rfl
 v5:=λw=>by kernel_rfl
 t9:=by kernel_rfl
 a9:=λw=>by kernel_rfl
 z9:=λw=>by kernel_rfl
 v9:=λw=>by kernel_rfl
 t28:=by kernel_rfl
 a28:=λw=>by kernel_rfl
 z28:=λw=>by kernel_rfl
 v28:=λw=>by kernel_rfl
 t46:=by kernel_rfl
 a46:=λw=>by kernel_rfl
 z46:=λw=>by kernel_rfl
 v46:=λw=>by kernel_rfl
 t51:=by kernel_rfl
 a51:=λw=>by kernel_rfl
 z51:=λw=>by kernel_rfl
 v51:=λw=>by kernel_rfl
 t53:=by kernel_rfl
 a53:=λw=>by kernel_rfl
 z53:=λw=>by kernel_rfl
 v53:=λw=>by kernel_rfl
 t131:=by kernel_rfl
 a131:=λw=>by kernel_rfl
 z131:=λw=>by kernel_rfl
 v131:=λw=>by kernel_rfl
 t182:=by kernel_rfl
 a182:=λw=>by kernel_rfl
 z182:=λw=>by kernel_rfl
 v182:=λw=>by kernel_rfl
 t183:=by kernel_rfl
 a183:=λw=>by kernel_rfl
 z183:=λw=>by kernel_rfl
 v183:=λw=>by kernel_rfl
 t218:=by kernel_rfl
 a218:=λw=>by kernel_rfl
 z218:=λw=>by kernel_rfl
 v218:=λw=>by kernel_rfl
 t222:=by kernel_rfl
 a222:=λw=>by kernel_rfl
 z222:=λw=>by kernel_rfl
 v222:=λw=>by kernel_rfl
 t228:=by kernel_rfl
 a228:=λw=>by kernel_rfl
 z228:=λw=>by kernel_rfl
 v228:=λw=>by kernel_rfl
 t229:=by kernel_rfl
 a229:=λw=>by kernel_rfl
 z229:=λw=>by kernel_rfl
 v229:=λw=>by kernel_rfl
end Go.Proofs.YtnffkcabeecopaaGreat
namespace Go.Proofs.YtnffkcabeecopaaGreat
open Go Go.RowKit
def leI (x y:Int):Bool:=decide (x<=y)
def a0Q (l:List Int):List Int:=l.mergeSort leI
theorem a2K (l:List Int):(a0Q l).length=l.length:=by rw[a0Q,List.length_mergeSort]
theorem b5p {g n cap:Nat} {l:List Int} {w:World} (hl':l.length=n) (h:a1b 3 1 (some g) n cap (A7 l) (hl w)):Go.Sort.Holds (Value.int .i64) w g 0 l.toArray:=by
 obtain⟨h0,cur,h1,h2,h3,h4,h5⟩:=h;have h1':w.heap[g]? =some (.cells cur 3 (0,0)):=h1;intro j hj;have hj':j<l.length:=by simpa using hj
 have hc:cur.toList[j]? =some (.int .i64 l[j]):=by
  have:(cur.toList.take (n*1))[j]? =(A7 l)[j]?:=by rw[h5]
  rw[List.getElem?_take_of_lt (by omega)]at this;rw[this,A7,i7,d5 hj'];rfl
 have hg:l.toArray[j]! =l[j]:=by simp[hj']
 rw[hg];refine⟨?_,?_⟩
 ·simp only[World.cell?,I5,h1'];rw[D3]at hc;simp[hc]
 ·simp[World.frozen?,h1']
theorem b8t (a:Option Nat) (n cap:Nat) (l:List Int) (hl':l.length=n) (hn:n<=1000000):Fn Tryz.prog 124 [slv a n cap] [n7 3 1 a n cap (A7 l)]
  (λv As=>v= .tuple #[]/\As=[n7 3 1 a n cap (A7 (a0Q l))]):=by
 cases a with
 | none=>
  intro F w s;have h0:n=0:=(s.get (i:=1) rfl).2.1;subst h0;have:l=[]:=m6 hl';subst this;have e:a0Q []=a2B []:=by rw[a0Q,List.mergeSort_nil];rfl
  rw[e];exact a7t none 0 cap [] rfl (by omega) F w s
 | some g=>
  intro F w s;have ho:a1b 3 1 (some g) n cap (A7 l) (hl w):=s.get (i:=1) rfl;have hH:=b5p hl' ho;obtain⟨h0,cur,h1,h2,h3,h4,h5⟩:=ho;have h1':w.heap[g]? =some (.cells cur 3 (0,0)):=h1;have hlt:g<w.heap.size:=(Array.getElem?_eq_some_iff.1 h1').1;have hc:=Any.slices_Sort_int b7i g 0 cap l w hH hlt (by omega);subst hl';refine Calls.mono hc λe w' ⟨e1,m,os,e2⟩=>?_;subst e1;have hsz:w.heap.size<=w'.heap.size:=by rw[e2];simp[Go.Sort.grow]
  have hother:∀k,k<w.heap.size->some k≠some g->w'.heap[k]? =w.heap[k]?:=λk hk hne=>by
   rw[e2];have:g≠k:=λe=>hne (by rw[e]);show(w.heap.modify g (Go.Sort.onCells (Go.Sort.putCells (Value.int .i64) 0 (a0Q l).toArray))++os)[k]? =_;rw[Array.getElem?_append_left (by rw[Array.size_modify];exact hk),Y9,d8 this]
  have hthis:w'.heap[g]? =some (.cells (Go.Sort.putCells (Value.int .i64) 0 (a0Q l).toArray cur) 3 (0,0)):=by
   rw[e2];show(w.heap.modify g (Go.Sort.onCells (Go.Sort.putCells (Value.int .i64) 0 (a0Q l).toArray))++os)[g]? =_;rw[Array.getElem?_append_left (by rw[Array.size_modify];exact hlt),Y9,f0 rfl,h1'];rfl
  have hgr:w.grownBy w' (some g):=⟨by rw[e2];rfl,by rw[e2];rfl,by rw[e2];rfl,hsz,hother⟩;refine⟨.tuple #[],_,rfl,⟨rfl,rfl⟩,?_,⟨hgr.os,hgr.tape,hgr.output,hsz⟩⟩;refine Sep.step s (i:=1) (A:=n7 3 1 (some g) l.length cap (A7 l)) rfl (x:=some g) (x':=some g) (λh g' hs e=>?_) hgr (.inl rfl) (λh hh=>?_)
  ·injection e with e;subst e;obtain⟨_,cur',q,_⟩:=hs;exact⟨_,q⟩
  ·refine⟨by rw[A7,j7,a2K,U1],_,(hh g rfl).trans hthis,h2,h3,?_,?_⟩
   ·rw[Go.Sort.putCells,Array.size_mapIdx];exact h4
   ·apply s8;intro i;rw[U1,D0];split
    ·rename_i hi;have hi2:i<(a0Q l).length:=by rw[a2K];exact hi
     rw[D3,Go.Sort.putCells,Array.getElem?_mapIdx,M5 (by omega),C8,f0 ⟨j8 _,by simpa using hi2⟩,A7,i7,d5 hi2];simp[hi2]
    ·rw[j9 (by rw[A7,j7,a2K];omega)]
end Go.Proofs.YtnffkcabeecopaaGreat
namespace Go.Proofs.YtnffkcabeecopaaGreat
structure Scd where
 tb:Tb
 torn:List En
 first:Nat
 held:List Int
 next:Int
 pages:Nat
structure Sst where
 tb:Tb
 torn:List En
 held:List Int
 others:List En
namespace V
def nextOf (l:List Fnd):Int:=l.foldl (λm f=>max m (f.en.seq+1)) 1
def step (N:Nand) (L:List Fnd) (s:Sst) (k:Nat):Sst:=
 if(standOf (of L k)).2=true then
  if(standOf (of L k)).1.whole=true then {s with tb:=s.tb.put (standOf (of L k)).1.en (standOf (of L k)).1.block (standOf (of L k)).1.row (standOf (of L k)).1.slot (standOf (of L k)).1.mask}
  else if last N (standOf (of L k)).1=true then⟨s.tb.put (standOf (of L k)).1.en (standOf (of L k)).1.block (standOf (of L k)).1.row (standOf (of L k)).1.slot (standOf (of L k)).1.mask,s.torn++[(standOf (of L k)).1.en],s.held++holds (of L k),s.others⟩
  else⟨s.tb.put (standOf (of L k)).1.en (standOf (of L k)).1.block (standOf (of L k)).1.row (standOf (of L k)).1.slot (standOf (of L k)).1.mask,s.torn,s.held,s.others++[(standOf (of L k)).1.en]⟩
 else s
def goS (N:Nand) (L:List Fnd) (n:Int) (k:Nat):Sst:=(List.range k).foldl (step N L) ⟨Tb.new n,[],[],[]⟩
def size (n:Int):Nat:=(min (max n 0) 65536).toNat
def scanOf (N:Nand) (L:List Fnd) (n:Int):Scd:=⟨(goS N L n (size n)).tb,(goS N L n (size n)).torn++(goS N L n (size n)).others,(goS N L n (size n)).torn.length,K5 (a0Q (goS N L n (size n)).held),nextOf L,L.length⟩
def scan (N:Nand) (n:Int):Scd:=scanOf N (all N) n
theorem goS_succ (N:Nand) (L:List Fnd) (n:Int) (k:Nat):goS N L n (k+1)=step N L (goS N L n k) k:=by unfold goS;rw[A8,C2];rfl
theorem step_tb (N:Nand) (L:List Fnd) (s:Sst) (k:Nat):(step N L s k).tb=s.tb\/(standOf (of L k)).2=true/\(step N L s k).tb=s.tb.put (standOf (of L k)).1.en (standOf (of L k)).1.block (standOf (of L k)).1.row (standOf (of L k)).1.slot (standOf (of L k)).1.mask:=by
 unfold step;split
 ·right;rename_i h;refine⟨h,?_⟩;split
  ·rfl
  ·split<;>rfl
 ·left;rfl
theorem goS_ok (N:Nand) (L:List Fnd) (n:Int):∀k,(goS N L n k).tb.Ok
 | 0=>Tb.Ok.new n
 | k+1=>by
  rw[goS_succ];rcases step_tb N L (goS N L n k) k with h | ⟨_,h⟩
  ·rw[h];exact goS_ok N L n k
  ·rw[h];exact(goS_ok N L n k).put _ _ _ _ _
theorem goS_log (N:Nand) (L:List Fnd) (n:Int):∀k,(goS N L n k).tb.logical=min (max n 0) 65536
 | 0=>rfl
 | k+1=>by
  rw[goS_succ];rcases step_tb N L (goS N L n k) k with h | ⟨_,h⟩
  ·rw[h];exact goS_log N L n k
  ·rw[h,Tb.put_logical];exact goS_log N L n k
theorem tops_mem {l:List Fnd} {f:Fnd}:f∈tops l->f∈l:=by
 have:∀k,k<=l.length->∀f∈tops (l.take k),f∈l:=by
  intro k
  induction k with
  | zero=>intro _ f hf;simp[tops]at hf
  | succ k ih=>
   intro hk f hf;rw[a5I (d5 (by omega))]at hf;have ih:=ih (by omega);have hx:l[k]∈l:=H5 _
   revert hf ih
   generalize tops (l.take k)=o;intro hf ih;cases o with
   | nil=>simp[topsStep]at hf;rw[hf];exact hx
   | cons h t=>
    simp only[topsStep]at hf;split at hf
    ·simp at hf;rw[hf];exact hx
    ·split at hf
     ·exact ih f hf
     ·rw[L6]at hf;rcases hf with hf | hf
      ·exact ih f hf
      ·simp at hf;rw[hf];exact hx
 intro h;refine this l.length (j4 _) f ?_
 rwa [V0]
theorem standOf_mem {l:List Fnd} (h:(standOf l).2=true):(standOf l).1∈l:=by
 have hm:∀f,f∈tops l->f∈l:=λf=>tops_mem
 revert h
 unfold standOf;cases ht:tops l with
 | nil=>intro h;cases h
 | cons f o=>intro _;exact hm f (by rw[ht];exact D2 ..)
theorem of_len (L:List Fnd) (k:Int):(of L k).length<=L.length:=J3 _ _
theorem holds_len (l:List Fnd):(holds l).length<=l.length:=by
 unfold holds;rw[j7];exact C6 (a7i _) (J3 _ _)
theorem of_sum (L:List Fnd):∀k,((List.range k).map λi:Nat=>(of L (i:Int)).length).sum<=L.length:=by
 intro k
 induction L with
 | nil=>
  have:∀k:Nat,((List.range k).map λi:Nat=>(of [] (i:Int)).length).sum=0:=λk=>by
   induction k with
   | zero=>rfl
   | succ k ih=>rw[A8,x5,List.sum_append,ih];rfl
  rw[this];exact j8 _
 | cons x L ih=>
  have h1:∀i:Nat,(of (x::L) (i:Int)).length=(of L (i:Int)).length+(if x.en.lpn=(i:Int)then 1 else 0):=by
   intro i;unfold of;rw[Y4];split
   ·rename_i h;simp only[A5]at h;rw[f0 h,m7]
   ·rename_i h;simp only[A5]at h;rw[d8 h];rfl
  have h2:∀k,((List.range k).map λi:Nat=>(of (x::L) (i:Int)).length).sum<=((List.range k).map λi:Nat=>(of L (i:Int)).length).sum+(if 0<=x.en.lpn/\x.en.lpn<(k:Int)then 1 else 0):=by
   intro k
   induction k with
   | zero=>simp
   | succ k ih=>
    rw[A8,x5,List.sum_append,x5,List.sum_append];simp only[p5,R2,a0m,List.sum_nil,R0];rw[h1];split at ih<;>split<;>split<;>omega
  have:=h2 k;rw[m7];split at this<;>omega
theorem goS_len (N:Nand) (L:List Fnd) (n:Int):∀k,(goS N L n k).torn.length<=k/\(goS N L n k).others.length<=k/\(goS N L n k).held.length<=((List.range k).map λi:Nat=>(of L (i:Int)).length).sum
 | 0=>by simp[goS]
 | k+1=>by
  have ih:=goS_len N L n k;have hh:=holds_len (of L k);rw[goS_succ,A8,x5,List.sum_append];simp only[p5,R2,a0m,List.sum_nil,R0];unfold step;split
  ·split
   ·dsimp only;omega
   ·split
    ·simp only[f9,m7,a4v];omega
    ·simp only[f9,m7,a4v];omega
  ·omega
theorem goS_held (N:Nand) (L:List Fnd) (n:Int) (k:Nat):(goS N L n k).held.length<=L.length:=C6 (goS_len N L n k).2.2 (of_sum L k)
theorem nextOf_snoc (l:List Fnd) (f:Fnd):nextOf (l++[f])=max (nextOf l) (f.en.seq+1):=by unfold nextOf;rw[C2];rfl
theorem of_snoc (l:List Fnd) (f:Fnd) (k:Int):of (l++[f]) k=if f.en.lpn=k then of l k++[f]else of l k:=by
 unfold of;rw[R5,Y4]
 by_cases h:f.en.lpn=k
 ·rw[f0 h,f0 (by simpa using h)];rfl
 ·rw[d8 h,d8 (by simpa using h)];simp
def upB (N:Nand) (b:Nat):List Fnd:=(List.range b).flatMap λb=>(List.range N.pages).flatMap λr=>R.all N (b:Nat) (r:Nat)
def upR (N:Nand) (b r:Nat):List Fnd:=upB N b++(List.range r).flatMap λr=>R.all N (b:Nat) (r:Nat)
def upI (N:Nand) (b r i:Nat):List Fnd:=upR N b r++(R.all N (b:Nat) (r:Nat)).take i
theorem upR_zero (N:Nand) (b:Nat):upR N b 0=upB N b:=by simp[upR]
theorem upI_zero (N:Nand) (b r:Nat):upI N b r 0=upR N b r:=by simp[upI]
theorem upR_succ (N:Nand) (b r:Nat):upR N b (r+1)=upI N b r (R.all N (b:Nat) (r:Nat)).length:=by
 unfold upI upR;rw[V0,A8,J5,n8];simp
theorem upB_succ (N:Nand) (b:Nat):upB N (b+1)=upR N b N.pages:=by
 unfold upR upB;rw[A8,J5];simp
theorem upB_all (N:Nand):upB N N.blocks=all N:=rfl
theorem upI_succ {N:Nand} {b r i:Nat} {x:Fnd} (h:(R.all N (b:Nat) (r:Nat))[i]? =some x):upI N b r (i+1)=upI N b r i++[x]:=by
 unfold upI;rw[C7,h,K0,n8]
theorem nextOf_bd {l:List Fnd} (h:∀f∈l,a6f f.en):1<=nextOf l/\nextOf l<=1099511627776:=by
 have:∀(l:List Fnd) (m:Int),(∀f∈l,a6f f.en)->1<=m->m<=1099511627776->1<=l.foldl (λm f=>max m (f.en.seq+1)) m/\l.foldl (λm f=>max m (f.en.seq+1)) m<=1099511627776:=by
  intro l
  induction l with
  | nil=>intro m _ h1 h2;exact⟨h1,h2⟩
  | cons x l ih=>
   intro m hl h1 h2;have:=hl x (D2 ..);unfold a6f at this;exact ih (max m (x.en.seq+1)) (λf hf=>hl f (E5 _ hf)) (by omega) (by omega)
 exact this l 1 h (by omega) (by omega)
end V
end Go.Proofs.YtnffkcabeecopaaGreat
namespace Go.Proofs.YtnffkcabeecopaaGreat
open Go
namespace Tl
def ofD (N:Nand) (b:Nat) (t:Tl) (d:Nat):Tl:=
 let t:=t.wore b (N.wornAt d b)
 if L.has (t.mask b) d&&decide ((N.next d b:Int)>0)then t.clean b false else t
def ofB (N:Nand) (t:Tl) (b:Nat):Tl:=(List.range N.dies).foldl (ofD N b) t
def of (N:Nand):Tl:=(List.range N.blocks).foldl (ofB N) (Dv.seeDead N (Tl.new N.dies N.blocks N.pages))
end Tl
structure Fv where
 S:Dv
 L:List En
 nx:Int
 off:Bool
namespace Fv
def lg (F:Fv):Int:=lgN F.S.N.dies F.S.N.blocks F.S.N.pages
def ask (F:Fv):Fv:={F with off:=F.off||F.S.N.off}
def told (F:Fv) (e:Int):Fv:={F with off:=F.off||e==9}
def get (F:Fv) (i:Int):List UInt8×Int:=
 if(a2s F.L i).2 then((a2s F.L i).1.data,0)
 else match Tb.look F.S.T.at_ i with
  | none=>(zeros16,0)
  | some a=>
   if a.role=2 then(zeros16,0)else if a.role=4 then(zeros16,10)
   else
    let x:=R.read F.S.N a.block a.row a.slot a.mask
    if x.2≠0\/x.1.lpn≠i\/x.1.seq≠a.seq then(zeros16,10)else(x.1.data,0)
def read (F:Fv) (i:Int):Fv×List UInt8×Int:=
 if F.ask.off then(F.ask,zeros16,9)
 else if i<0\/i>=F.ask.lg then(F.ask,zeros16,3)
 else(F.ask,F.ask.get i)
def writes (F:Fv):Fv×Int:=
 let r:=F.S.room
 if r.2≠0 then({F with S:=r.1}.told r.2,r.2)
 else
  let w:=r.1.pen F.L
  ({F with S:=w.1,L:=a0o F.L (F.L.take w.2.1.toNat)}.told w.2.2,w.2.2)
def put (F:Fv) (e:En):Fv:={F with L:=a2S F.L {e with seq:=F.nx},nx:=F.nx+1}
def waits (F:Fv) (e:En):Fv×Int:=
 if F.ask.off then(F.ask,9)
 else if e.lpn<0\/e.lpn>=F.ask.lg then(F.ask,3)
 else if(F.ask.L.length:Int)>=F.ask.S.slots then
  let w:=F.ask.writes
  if w.2≠0 then w else(w.1.put e,0)
 else(F.ask.put e,0)
def write (F:Fv) (i:Int) (d:List UInt8):Fv×Int:=F.waits ⟨i,0,1,d⟩
def trim (F:Fv) (i:Int):Fv×Int:=F.waits ⟨i,0,2,zeros16⟩
def flushGo:Nat->Fv->Fv×Int
 | 0,F=>(F,0)
 | k+1,F=>
  if F.L.length=0 then(F,0)
  else
   let w:=F.writes
   if w.2≠0 then w else flushGo k w.1
def flush (F:Fv):Fv×Int:=if F.ask.off then(F.ask,9)else flushGo F.L.length F.ask
def tick (F:Fv):Fv×Int:=
 if F.ask.off then(F.ask,9)
 else
  let s:=F.ask.S.step 4
  ({F.ask with S:=s.1}.told s.2.2,s.2.2)
def whole (F:Fv):Fv×Bool:=
 if F.ask.off then(F.ask,false)
 else({F.ask with S:=F.ask.S.seen},F.ask.S.seen.leftN==0)
end Fv
namespace Dv
def holds (S:Dv) (l:List Int) (on:Bool):Dv:={S with t:=l.foldl (λt b=>t.hold b on) S.t}
end Dv
def Q6 (N:Nand):Dv×Int:=
 let s:=V.scan N (lgN N.dies N.blocks N.pages)
 let S:Dv:=⟨N,Tl.of N,s.tb,-1,0,0,max s.next 1⟩
 let a:=(S.holds s.held true).torn (s.torn.take s.first)
 if a.2≠0 then a
 else
  let b:=(a.1.holds s.held false).clear
  if b.2≠0 then b
  else
   let c:=b.1.torn (s.torn.drop s.first)
   if c.2≠0 then c else c.1.room
def Fv.of (S:Dv):Fv:=⟨S,[],0,false⟩
end Go.Proofs.YtnffkcabeecopaaGreat
