/- Helpers. No condition. -/
import Derived.Test.YtpakpgkdpofbhaaGreatC00
import Derived.Test.YtpakpgkdpofbhaaGreatC04
import Derived.Test.YtpakpgkdpofbhaaGreatC11
import Derived.Test.YtpakpgkdpofbhaaGreatC12
import Derived.Test.YtpakpgkdpofbhaaGreatC20
import Derived.Test.YtpakpgkdpofbhaaGreatC25
set_option maxRecDepth 20000
set_option linter.all false
namespace Go.Proofs.YtpakpgkdpofbhaaGreat
open Go Go.RowKit
theorem b4R (N:Nand) (b r:Nat):V.upR N b (r+1)=V.upR N b r++R.all N (b:Nat) (r:Nat):=by
 rw[V.upR_succ];unfold V.upI;rw[D2]
def inF (L:List Fnd) (m i:Nat):List Fnd:=(L.take i).filter λf=>decide (f.en.lpn<(m:Int))
theorem b8r (L:List Fnd) (m i:Nat) (x:Fnd) (h:L[i]? =some x):inF L m (i+1)=if x.en.lpn<(m:Int)then inF L m i++[x]else inF L m i:=by
 unfold inF;rw[s6,h,y9,H2]
 by_cases hp:x.en.lpn<(m:Int)
 ·rw[d8 hp,M2 (by simpa using hp)];rfl
 ·rw[d7 hp,J7 (by simpa using hp)];simp
theorem c0I (L:List Fnd) (m i:Nat):(inF L m i).length<=i:=by
 unfold inF;have:=B4 (λf:Fnd=>decide (f.en.lpn<(m:Int))) (L.take i);rw[l9]at this;omega
theorem b5v (L:List Fnd) (i:Nat) (x:Fnd) (h:L[i]? =some x):V.nextOf (L.take (i+1))=if x.en.seq>=V.nextOf (L.take i)then x.en.seq+1 else V.nextOf (L.take i):=by
 rw[s6,h,y9,V.nextOf_snoc];split<;>omega
def a4w (I:List Fnd) (m i:Nat):List Fnd:=(List.range m).map λk:Nat=>a0J (I.take i) (k:Int)
theorem a1Z (I:List Fnd) (m i:Nat):(a4w I m i).length=m:=by simp[a4w]
theorem a3Y (I:List Fnd) {m i k:Nat} (h:k<m):(a4w I m i)[k]? =some (a0J (I.take i) (k:Int)):=by simp[a4w,h]
theorem b6k (I:List Fnd) (m:Nat):a4w I m 0=List.replicate m Fnd.zero:=by
 unfold a4w;rw[W9];apply v6;intro j;rw[j6,D3]
 by_cases h:j<m
 ·rw[O9 h,d8 h];rfl
 ·rw[l4 (by rw[D9];omega),d7 h];rfl
theorem b6l (I:List Fnd) (m i k:Nat) (x:Fnd) (h:I[i]? =some x) (hk:x.en.lpn=(k:Int)) (hr:∀f∈I,f.en.role≠0):a4w I m (i+1)=if(a0J (I.take i) (k:Int)).en.role=0\/a8U x (a0J (I.take i) (k:Int))=true then(a4w I m i).set k x else a4w I m i:=by
 have hs:∀j:Nat,a0J (I.take (i+1)) (j:Int)=if x.en.lpn=(j:Int)/\((a0J (I.take i) (j:Int)).en.role=0\/a8U x (a0J (I.take i) (j:Int))=true)then x else a0J (I.take i) (j:Int):=λj=>by
  rw[s6,h,y9];exact b3C _ x (λf hf=>hr f (H9 hf)) j
 apply v6;intro j
 by_cases hj:j<m
 ·rw[a3Y I hj,hs j]
  by_cases hc:(a0J (I.take i) (k:Int)).en.role=0\/a8U x (a0J (I.take i) (k:Int))=true
  ·rw[d8 hc,r9,a1Z]
   by_cases e:k=j
   ·subst e;rw[d8 ⟨hk,hc⟩,d8 rfl,d8 hj]
   ·rw[d7 (λh=>e (by have:=h.1;omega)),d7 e,a3Y I hj]
  ·rw[d7 hc,a3Y I hj]
   by_cases e:k=j
   ·subst e;rw[d7 (λh=>hc h.2)]
   ·rw[d7 (λh=>e (by have:=h.1;omega))]
 ·rw[l4 (by rw[a1Z];omega),l4];split
  ·rw[n8,a1Z];omega
  ·rw[a1Z];omega
theorem b3A (m:Nat):(List.replicate m (fnL Fnd.zero)).flatten=y7 (List.replicate m Fnd.zero):=by
 unfold y7;rw[List.flatMap_def,X0]
theorem c0H {L:List Fnd} {m i:Nat} {f:Fnd} (h:f∈inF L m i):f∈L/\f.en.lpn<(m:Int):=by
 unfold inF at h;obtain⟨h1,h2⟩:=List.mem_filter.1 h;exact⟨H9 h1,A7 h2⟩
theorem b9o (L:List Fnd) (m k:Nat) (hk:k<m):a0J (inF L m L.length) (k:Int)=(V.standOf (V.of L (k:Int))).1:=by
 unfold a0J inF;rw[D2,c1z L m k hk]
theorem b6j {l:List Fnd} {k:Nat} {x:Fnd} (h:l[k]? =some x):((y7 l).drop (k*25+19)).take 3=plL x.block x.row x.slot:=by
 have h1:=Q4 h;have h2:=congrArg (λz=>(z.drop 19).take 3) h1;rw[List.drop_take,a2R,A4]at h2;exact h2
theorem b9d (p:Nat) (N:Nand) (hN:N.Ok) (hR:N.Room) (n:Int) (m:Nat) (hm:min (max n 0) 65536=(m:Int)):FP 78 [pp p,iI n] [x6 p N]
  (λv As=>∃q a1 c1 a2 c2,v=svV q (V.scan N n) a1 c1 a2 c2/\As=[x6 p N,b0W q (V.scan N n).tb m,l5 113 19 a1 (V.scan N n).torn.length c1 (p5 (V.scan N n).torn),l5 3 1 a2 (V.scan N n).held.length c2 (n7 (V.scan N n).held)]):=by
 have hbd:=hN.bd;have hsz:V.size n=m:=by unfold V.size;omega
 have hm1:m<=65536:=by omega
 refine FE [2,0] Tryz.func78 λX F hX=>?_;refine J.q λbr=>?_;refine J.cb (c1b n m hm) [] ?_;rintro v As ⟨q,rfl,rfl⟩;refine⟨_,rfl,trivial,?_⟩;refine J.turn1 [] rfl (As:=[l5 191 25 none 0 0 (y7 (V.upB N 0))]) (λh s=>Sep.one ⟨rfl,rfl,rfl⟩) rfl ?_;refine J.q λbo=>?_;refine J.l (α:=(Nat×Option Nat×Nat)) (λz=>z.1<=N.blocks) (λz=>[si 7 z.1,sv 6 (slv z.2.1 (V.upB N z.1).length z.2.2),⟨5,pp (bo 0),6, .tt⟩,⟨4,pp (br 0),3, .tt⟩,⟨0,pp p,2, .tt⟩]) [4] (λz=>[l5 191 25 z.2.1 (V.upB N z.1).length z.2.2 (y7 (V.upB N z.1))]) (λz=>N.blocks-z.1) ((0,none,0)) (j4 _) λz hI=>?_;obtain⟨b,ab,cb⟩:=z;dsimp only at hI ⊢;refine J.qp (a0H p N) [1] λ_=>?_;refine J.qd (λ_ h1=>?_) λ_ h1=>?_
 ·simp only[c9,g6]at h1;rw[<- V.upR_zero];refine J.q λ_=>?_;refine J.l (α:=(Nat×Option Nat×Nat)) (λz=>z.1<=N.pages) (λz=>[si 8 z.1,si 7 b,sv 6 (slv z.2.1 (V.upR N b z.1).length z.2.2),⟨5,pp (bo 0),6, .tt⟩,⟨4,pp (br 0),3, .tt⟩,⟨0,pp p,2, .tt⟩]) [4] (λz=>[l5 191 25 z.2.1 (V.upR N b z.1).length z.2.2 (y7 (V.upR N b z.1))]) (λz=>N.pages-z.1) ((0,ab,cb)) (j4 _) λz hI=>?_;obtain⟨r,ar,cr⟩:=z;dsimp only at hI ⊢;refine J.qp (a0H p N) [1] λ_=>?_;refine J.qd (λ_ h2=>?_) λ_ h2=>?_
  ·simp only[c9,g6]at h2;have hul:=b3L N hN b r (by omega) (by omega);have hal:=a3H N hN b r;have hus:=b4R N b r;refine J.qc (c2D p N hN hR b r) [1] λ_=>?_;rintro v As ⟨a1,c1,rfl,rfl⟩;refine⟨_,rfl,trivial,?_⟩;refine J.q λ_=>?_;refine J.appendO hX tk 4 6 rfl rfl rfl rfl rfl rfl rfl rfl rfl rfl rfl rfl rfl (a4O _) ?_ ?_ (λ_=>rfl) λa6 c6=>⟨_,(congrArg (λy=>Q2 _ 4 (l5 _ _ _ _ _ y)) (a6B _ _)).trans rfl,trivial,?_⟩
   ·simp only[maxLen];omega
   ·omega
   rw[show(V.upR N b r).length+(R.all N (b:Nat) (r:Nat)).length=(V.upR N b (r+1)).length from by rw[hus,f9],<- hus];refine J.q λ_=>?_;refine J.n ((r+1,a6,c6)) (by dsimp only;omega) (by dsimp only;omega) [0,1,2,3,4,5]
  simp only[c8,g6]at h2;obtain rfl:r=N.pages:=by omega
  rw[<- V.upB_succ];refine J.q λ_=>?_;refine J.n ((b+1,ar,cr)) (by dsimp only;omega) (by dsimp only;omega) [0,1,2,3,4,5]
 simp only[c8,g6]at h1;obtain rfl:b=N.blocks:=by omega
 rw[V.upB_all];obtain⟨L,hL⟩:∃L,L=V.all N:=⟨_,rfl⟩;have hLl:=a7d N hN;have hLb:∀f∈L,a3y f.en/\(f.en.role=1\/f.en.role=2\/f.en.role=4)/\∃r:Nat,f.row=(r:Int)/\r<N.pages:=λf hf=>by
  rw[hL]at hf;have:=b0V hf;exact⟨this.2,b9t hf,this.1⟩
 rw[<- hL]at hLl ⊢;refine J.turn1 [] rfl (As:=[l5 191 25 none 0 0 (y7 (inF L m 0))]) (λh s=>Sep.one ⟨rfl,rfl,rfl⟩) rfl ?_;refine J.o (α:=Nat) 3 λg=>?_;refine J.q λ_=>?_;refine J.l (α:=(Nat×Option Nat×Nat)) (λz=>z.1<=L.length) (λz=>[si 11 z.1,sv 9 (slv z.2.1 (inF L m z.1).length z.2.2),sv 6 (slv ab L.length cb),⟨5,pp (bo 0),6, .tt⟩,⟨4,pp (br 0),3, .tt⟩,⟨0,pp p,2, .tt⟩]) [5,6] (λz=>[.pt (bo 0) 110 (svL q (.slice none 0 0) 0 (.slice none 0 0) (V.nextOf (L.take z.1)) L.length),l5 191 25 z.2.1 (inF L m z.1).length z.2.2 (y7 (inF L m z.1))]) (λz=>L.length-z.1) ((0,none,0)) (j4 _) λz hI=>?_;obtain⟨i,ai,ci⟩:=z;dsimp only at hI ⊢;have hil:=c0I L m i;refine J.qd (λ_ h3=>?_) λ_ h3=>?_
 ·simp only[c9,g6]at h3;obtain⟨x,hx⟩:∃x,L[i]? =some x:=⟨_,d5 h3⟩;have hxb:=(hLb x (l7 hx)).1;unfold a3y at hxb;have hns:=b5v L i x hx;have his:=b8r L m i x hx;refine J.know (λh' s=>u7 (c:=(ab,cb)) (by omega) (s.get (i:=4) rfl)) λhg=>?_;obtain⟨gl,rfl⟩:=hg;refine J.pq (.of [0,4,8,12,16,21,24,29,32]) [] [4,5] λ_ _=>?_;refine J.vT (iI x.en.seq) rfl rfl (λhg a w he hC=>z7 tk rfl rfl he rfl rfl rfl (hC rfl _ (r8 (i:=4) rfl)) (by rw[show 0+(i:Int).toNat*25+0+1=0+(i:Int).toNat*25+1 from rfl,Q3 hx 1 (by decide)];rfl)) ?_;refine J.q λ_=>?_;refine J.join (α:=Unit) (λ_=>[si 11 i,sv 9 (slv ai (inF L m i).length ci),sv 6 (slv (some gl) L.length cb),⟨5,pp (bo 0),6, .tt⟩,⟨4,pp (br 0),3, .tt⟩,⟨0,pp p,2, .tt⟩]) (λ_=>[.hp F,x6 p N, .pt (br 0) 110 [.pointer none, .slice none 0 0,iI 0, .slice none 0 0,iI 0,iI 0], .pt q 202 [.slice (some ⟨g,0,none⟩) m m,iI 1],l5 191 25 (some gl) L.length cb (y7 L), .pt (bo 0) 110 (svL q (.slice none 0 0) 0 (.slice none 0 0) (V.nextOf (L.take (i+1))) L.length),l5 191 25 ai (inF L m i).length ci (y7 (inF L m i)), .pt g 207 (stC [] m)]) (λhj=>?_) (λ_=>?_)
  ·refine J.qd (λ_ h4=>?_) λ_ h4=>?_
   ·rw[d8 (A7 h4)]at hns;rw[hns]at hj;refine J.q λ_=>?_;refine J.v (iI x.en.seq) rfl rfl (λhg a w he hs=>z7 tk rfl rfl he rfl rfl rfl (hs.get (i:=4) rfl) (by rw[show 0+(i:Int).toNat*25+0+1=0+(i:Int).toNat*25+1 from rfl,Q3 hx 1 (by decide)];rfl)) ?_;refine J.qn 4 λ_=>?_;exact J.goto [0,1,2,3,4,5,6,7] (hj ()) ⟨rfl,rfl,rfl,rfl,rfl,rfl,trivial⟩ rfl rfl
   ·rw[d7 (a5A h4)]at hns;rw[hns]at hj;refine J.qn 1 λ_=>?_;exact J.goto [0,1,2,3,4,5,6,7] (hj ()) ⟨rfl,rfl,rfl,rfl,rfl,rfl,trivial⟩ rfl rfl
  refine J.pq (.of [0,4,8,12,16,21,24,29,32,36,41,44,48]) [] [3,4,5] λ_ _=>?_;refine J.vT (iI x.en.lpn) rfl rfl (λhg a w he hC=>z7 tk rfl rfl he rfl rfl rfl (hC rfl _ (r8 (i:=4) rfl)) (by rw[show 0+(i:Int).toNat*25+0+0=0+(i:Int).toNat*25+0 from rfl,Q3 hx 0 (by decide)];rfl)) ?_;refine J.q λ_=>?_;refine J.vT (.slice (some ⟨g,0,none⟩) m m) rfl rfl (λhg a w he hC=>x9 tk rfl rfl he rfl rfl rfl (hC rfl _ (r8 (i:=3) rfl)) rfl) ?_;refine J.qd (λ_ h5=>?_) λ_ h5=>?_
  ·rw[d8 (A7 h5)]at his;refine J.q λ_=>?_;refine J.v (fdV x) rfl rfl (λhg a w he hs=>E6 tk rfl rfl he rfl rfl rfl (hs.get (i:=4) rfl) (by rw[show 0+(i:Int).toNat*25=i*25 from by omega];exact Q4 hx) rfl) ?_;refine J.q λ_=>?_;refine J.ap 6 8 0 (a5v _ x) λa2 c2=>?_;rw[show(inF L m i).length+1=(inF L m (i+1)).length from by rw[his];simp,<- his];refine J.q λ_=>?_;refine J.n ((i+1,a2,c2)) (by dsimp only;omega) (by dsimp only;omega) [0,1,2,3,4,5,6,7]
  ·rw[d7 (a5A h5)]at his;rw[<- his];refine J.q λ_=>?_;refine J.n ((i+1,ai,ci)) (by dsimp only;omega) (by dsimp only;omega) [0,1,2,3,4,5,6,7]
 simp only[c8,g6]at h3;obtain rfl:i=L.length:=by omega
 rw[D2];have hbin:=b9o L m;have hIm:∀f∈inF L m L.length,f∈L/\f.en.lpn<(m:Int):=λf hf=>c0H hf;have hIn0:∀k:Nat,k<m->V.of (inF L m L.length) (k:Int)=V.of L (k:Int):=λk hk=>by unfold inF;rw[D2];exact c1z L m k hk
 obtain⟨I,hI⟩:∃I,I=inF L m L.length:=⟨_,rfl⟩;rw[<- hI]at hil hbin hIm hIn0 ⊢;have hIr:∀f∈I,f.en.role≠0:=λf hf=>by have:=(hLb f (hIm f hf).1).2.1;omega
 refine J.q λ_=>?_;refine J.v (.slice (some ⟨g,0,none⟩) m m) rfl rfl (λhg a w he hs=>x9 tk rfl rfl he rfl rfl rfl (hs.get (i:=3) rfl) rfl) ?_;refine J.qn 1 λ_=>?_;refine J.mk 9 λgB=>?_;refine J.turn1 [8] rfl (As:=[.pt gB 191 (y7 (a4w I m 0))]) (λh s=>by rw[b6k,<- b3A];exact s) rfl ?_;refine J.q λ_=>?_;refine J.l (α:=Nat) (λk=>k<=I.length) (λk=>[si 12 k,⟨10, .slice (some ⟨gB,0,none⟩) m m,9, .tt⟩,sv 9 (slv ai I.length ci),⟨5,pp (bo 0),6, .tt⟩,⟨4,pp (br 0),3, .tt⟩,⟨0,pp p,2, .tt⟩]) [8] (λk=>[.pt gB 191 (y7 (a4w I m k))]) (λk=>I.length-k) (0) (j4 _) λk hI=>?_;refine J.qd (λ_ h6=>?_) λ_ h6=>?_
 ·simp only[c9,g6]at h6;obtain⟨x,hx⟩:∃x,I[k]? =some x:=⟨_,d5 h6⟩;obtain⟨hxL,hxm⟩:=hIm x (l7 hx);have hxb:=(hLb x hxL).1;unfold a3y at hxb;obtain⟨kk,hkk⟩:=g7 hxb.1.1;have hkm:kk<m:=by omega
  have hbg:=a3Y I (i:=k) hkm;have hbs:=b6l I m k kk x hx hkk hIr;obtain⟨y,hy⟩:∃y,y=a0J (I.take k) (kk:Int):=⟨_,rfl⟩;rw[<- hy]at hbg hbs;refine J.know (λh' s=>u7 (c:=(ai,ci)) (by omega) (s.get (i:=6) rfl)) λhg=>?_;obtain⟨gi,rfl⟩:=hg;refine J.q λ_=>?_;refine J.v (iI kk) rfl rfl (λhg a w he hs=>z7 tk rfl rfl he rfl rfl rfl (hs.get (i:=6) rfl) (by rw[show 0+(k:Int).toNat*25+0+0=0+(k:Int).toNat*25+0 from rfl,Q3 hx 0 (by decide),<- hkk];rfl)) ?_;refine J.q λ_=>?_;refine J.join (α:=Unit) (λ_=>[sv 121 (.bool (y.en.role==0||a8U x y)),si 13 kk,si 12 k,⟨10, .slice (some ⟨gB,0,none⟩) m m,9, .tt⟩,sv 9 (slv (some gi) I.length ci),⟨5,pp (bo 0),6, .tt⟩,⟨4,pp (br 0),3, .tt⟩,⟨0,pp p,2, .tt⟩]) (λ_=>[.hp F,x6 p N, .pt (br 0) 110 [.pointer none, .slice none 0 0,iI 0, .slice none 0 0,iI 0,iI 0], .pt q 202 [.slice (some ⟨g,0,none⟩) m m,iI 1],l5 191 25 ab L.length cb (y7 L), .pt (bo 0) 110 (svL q (.slice none 0 0) 0 (.slice none 0 0) (V.nextOf L) L.length),l5 191 25 (some gi) I.length ci (y7 I), .pt g 207 (stC [] m), .pt gB 191 (y7 (a4w I m k))]) (λhj=>?_) (λ_=>?_)
  ·refine J.pq (.of [0,4,8,12,16,21,24,28,32,36,40,45,48,52,56,61,66,68]) [] [6,8] λ_ _=>?_;refine J.vT (iI y.en.role) rfl rfl (λhg a w he hC=>x9 tk rfl rfl he rfl rfl rfl (hC rfl _ (r8 (i:=8) rfl)) (by rw[show 0+(kk:Int).toNat*25+0+2=0+(kk:Int).toNat*25+2 from rfl,Q3 hbg 2 (by decide)];rfl)) ?_
   by_cases hz:y.en.role=0
   ·rw[beq_iff_eq.2 hz]at hj;refine J.qn 2 λ_=>?_;rw[beq_iff_eq.2 hz];refine J.q λ_=>?_;refine J.vT (fdV x) rfl rfl (λhg a w he hC=>by simp[G.on]at hg) ?_;refine J.q λ_=>?_;refine J.vT (fdV y) rfl rfl (λhg a w he hC=>by simp[G.on]at hg) ?_;refine J.q λ_=>?_;refine J.gcase hX rfl rfl rfl stq (λh=>by cases h) (λ_=>?_);refine J.slot (k:=120) (s':=⟨120, .bool false,0, .when false⟩) rfl rfl rfl ?_;refine J.qn 2 λ_=>?_;exact J.goto [0,1,2,3,4,5,6,7,8] (hj ()) ⟨rfl,rfl,rfl,rfl,rfl,rfl,rfl,rfl,trivial⟩ rfl rfl
   ·rw[beq_eq_false_iff_ne.2 hz]at hj;refine J.qn 2 λ_=>?_;rw[beq_eq_false_iff_ne.2 hz];refine J.q λ_=>?_;refine J.vT (fdV x) rfl rfl (λhg a w he hC=>E6 tk rfl rfl he hg rfl rfl (hC rfl _ (r8 (i:=6) rfl)) (by rw[show 0+(k:Int).toNat*25=k*25 from by omega];exact Q4 hx) rfl) ?_;refine J.q λ_=>?_;refine J.vT (fdV y) rfl rfl (λhg a w he hC=>C7 tk rfl rfl he hg rfl rfl (hC rfl _ (r8 (i:=8) rfl)) (by rw[show 0+(kk:Int).toNat*25=kk*25 from by omega];exact Q4 hbg) rfl) ?_;refine J.qp (b3u x y) [] λ_=>?_;refine J.qn 2 λ_=>?_;exact J.goto [0,1,2,3,4,5,6,7,8] (hj ()) ⟨rfl,rfl,rfl,rfl,rfl,rfl,rfl,rfl,trivial⟩ rfl rfl
  refine J.qd (λ_ h7=>?_) λ_ h7=>?_
  ·have hc:y.en.role=0\/a8U x y=true:=by simpa using h7
   rw[d8 hc]at hbs;refine J.q λ_=>?_;refine J.v (fdV x) rfl rfl (λhg a w he hs=>E6 tk rfl rfl he rfl rfl rfl (hs.get (i:=6) rfl) (by rw[show 0+(k:Int).toNat*25=k*25 from by omega];exact Q4 hx) rfl) ?_;refine J.qn 1 λ_=>?_;refine J.storeN hX tk 8 rfl rfl rfl rfl rfl rfl rfl rfl rfl rfl rfl rfl rfl ?_ (y7 ((a4w I m k).set kk x)) ?_ rfl (λ_=>rfl) ⟨trivial,?_⟩
   ·rw[V2,a1Z];show 0+(kk:Int).toNat*25+25<=m*25;omega
   ·have:=a4N (a4w I m k) [] kk x (by rw[a1Z];exact hkm);simp only[n9]at this;rw[show 0+(kk:Int).toNat*25=kk*25 from by omega];exact this
   rw[<- hbs];refine J.q λ_=>?_;refine J.n (k+1) (by omega) (by omega) [0,1,2,3,4,5,6,7,8]
  ·have hc:¬(y.en.role=0\/a8U x y=true):=by simpa using h7
   rw[d7 hc]at hbs;rw[<- hbs];refine J.q λ_=>?_;refine J.n (k+1) (by omega) (by omega) [0,1,2,3,4,5,6,7,8]
 simp only[c8,g6]at h6;obtain rfl:k=I.length:=by omega
 have hbfin:∀j:Nat,j<m->(a4w I m I.length)[j]? =some (V.standOf (V.of L (j:Int))).1:=λj hj=>by
  rw[a3Y I hj,D2,hbin j hj]
 have hbl:=a1Z I m I.length;generalize a4w I m I.length=Bs at hbfin hbl;refine J.cl (λg:Nat=>b2B q (Tb.new n) m g) g [3,7] ?_;refine J.turn1 [] rfl (As:=[l5 113 19 none 0 0 (p5 [])]) (λh s=>Sep.one ⟨rfl,rfl,rfl⟩) rfl ?_;refine J.turn1 [] rfl (As:=[l5 3 1 none 0 0 (n7 [])]) (λh s=>Sep.one ⟨rfl,rfl,rfl⟩) rfl ?_;refine J.turn1 [] rfl (As:=[l5 113 19 none 0 0 (p5 [])]) (λh s=>Sep.one ⟨rfl,rfl,rfl⟩) rfl ?_;refine J.q λ_=>?_;have hS0:V.goS N L n 0=⟨Tb.new n,[],[],[]⟩:=rfl;refine J.q λ_=>?_;refine J.lo (α:=(Nat×(Option Nat×Nat)×(Option Nat×Nat)×(Option Nat×Nat))) (λz=>z.1<=m) (λz=>[si 15 z.1,sv 14 (slv z.2.2.2.1 (V.goS N L n z.1).others.length z.2.2.2.2),⟨10, .slice (some ⟨gB,0,none⟩) m m,9, .tt⟩,sv 9 (slv ai I.length ci),⟨5,pp (bo 0),6, .tt⟩,⟨4,pp (br 0),3, .tt⟩,⟨0,pp p,2, .tt⟩]) [3,5,9,10,11] (λz=>[b0W q (V.goS N L n z.1).tb m, .pt (bo 0) 110 (svL q (slv z.2.1.1 (V.goS N L n z.1).torn.length z.2.1.2) 0 (slv z.2.2.1.1 (Z8 (V.goS N L n z.1).held).length z.2.2.1.2) (V.nextOf L) L.length),l5 113 19 z.2.1.1 (V.goS N L n z.1).torn.length z.2.1.2 (p5 (V.goS N L n z.1).torn),l5 3 1 z.2.2.1.1 (Z8 (V.goS N L n z.1).held).length z.2.2.1.2 (n7 (Z8 (V.goS N L n z.1).held)),l5 113 19 z.2.2.2.1 (V.goS N L n z.1).others.length z.2.2.2.2 (p5 (V.goS N L n z.1).others)]) (λz=>m-z.1) ((0,(none,0),(none,0),(none,0))) (j4 _) rfl ?_ (λ_=>rfl) λz hI=>?_
 ·rw[hS0];dsimp only;rw[a5M];rfl
 obtain⟨k,⟨at_,ct⟩,⟨ah,ch⟩,⟨ao,co⟩⟩:=z;dsimp only at hI ⊢;have hgl:=V.goS_len N L n k;have hgh:=V.goS_held N L n k;have hnl:=a5N (V.goS N L n k).held;refine J.qd (λ_ h8=>?_) λ_ h8=>?_
 ·simp only[c9,g6]at h8;have hbk:=hbfin k h8;obtain⟨f,hf⟩:∃f,f=(V.standOf (V.of L (k:Int))).1:=⟨_,rfl⟩;have hrole0:=a7s (l:=V.of L (k:Int)) (λf hf=>by have:=(hLb f (List.mem_filter.1 hf).1).2.1;omega);rw[<- hf]at hbk hrole0;have hst:=V.goS_succ N L n k;refine J.q λ_=>?_;refine J.v (iI f.en.role) rfl rfl (λhg a w he hs=>x9 tk rfl rfl he rfl rfl rfl (hs.get (i:=8) rfl) (by rw[show 0+(k:Int).toNat*25+0+2=0+(k:Int).toNat*25+2 from rfl,Q3 hbk 2 (by decide)];rfl)) ?_;refine J.qd (λ_ h9=>?_) λ_ h9=>?_
  ·have h2:(V.standOf (V.of L (k:Int))).2=false:=hrole0.1 (by simpa using h9);have hstep:V.goS N L n (k+1)=V.goS N L n k:=by
    rw[hst];unfold V.step;rw[d7 (by rw[h2];exact s9)]
   rw[<- hstep];refine J.q λ_=>?_;refine J.n ((k+1,(at_,ct),(ah,ch),(ao,co))) (by dsimp only;omega) (by dsimp only;omega) [0,1,2,3,4,5,6,7,8,9,10,11]
  have h2:(V.standOf (V.of L (k:Int))).2=true:=by
   cases hc:(V.standOf (V.of L (k:Int))).2 with
   | true=>rfl
   | false=>
    have:=hrole0.2 hc;rw[this]at h9;cases h9
  have hmem:f∈V.of L (k:Int):=by rw[hf];exact V.standOf_mem h2
  obtain⟨hfL,hfk0⟩:=List.mem_filter.1 hmem;have hfk:f.en.lpn=(k:Int):=eq_of_beq hfk0;obtain⟨hfb,hfr,r0,hfrow,hr0⟩:=hLb f hfL;unfold a3y at hfb;have hstep:V.goS N L n (k+1)=if f.whole=true then {V.goS N L n k with tb:=(V.goS N L n k).tb.put f.en f.block f.row f.slot f.mask}else if V.last N f=true then⟨(V.goS N L n k).tb.put f.en f.block f.row f.slot f.mask,(V.goS N L n k).torn++[f.en],(V.goS N L n k).held++V.holds (V.of L k),(V.goS N L n k).others⟩else⟨(V.goS N L n k).tb.put f.en f.block f.row f.slot f.mask,(V.goS N L n k).torn,(V.goS N L n k).held,(V.goS N L n k).others++[f.en]⟩:=by
   rw[hst];unfold V.step;rw[d8 h2,<- hf]
  have hno:Tb.look (V.goS N L n k).tb.at_ f.en.lpn=none:=by rw[hfk,V.goS_look,d7 (by omega)]
  have hlog:(V.goS N L n k).tb.logical=(m:Int):=by rw[V.goS_log];exact hm
  have hheld:=b5T (V.goS N L n k).held I (k:Int) (λf hf=>by have:=(hLb f (hIm f hf).1).1;unfold a3y at this;omega);rw[hIn0 k h8]at hheld;have hhl:=V.holds_len (V.of L (k:Int));have hol:=V.of_len L (k:Int);generalize V.goS N L n k=S at hgl hgh hnl hstep hno hlog hheld;refine J.pq (.of [0,5,8,12,16,20,25,28,32,36,40,45,48,52,56,60,65,70]) [] [5,8] λ_ _=>?_;refine J.vT (enV f.en) rfl rfl (λhg a w he hC=>C7 tk rfl rfl he rfl rfl rfl (hC rfl _ (r8 (i:=8) rfl)) (by rw[show 0+(k:Int).toNat*25+0=k*25 from by omega];exact a6f hbk) rfl) ?_;refine J.q λ_=>?_;refine J.vT (plV f.block f.row f.slot) rfl rfl (λhg a w he hC=>C7 tk rfl rfl he rfl rfl rfl (hC rfl _ (r8 (i:=8) rfl)) (by rw[show 0+(k:Int).toNat*25+19=k*25+19 from by omega];exact b6j hbk) rfl) ?_;refine J.q λ_=>?_;refine J.vT (iI f.mask) rfl rfl (λhg a w he hC=>x9 tk rfl rfl he rfl rfl rfl (hC rfl _ (r8 (i:=8) rfl)) (by rw[Q3 hbk 22 (by decide)];rfl)) ?_;refine J.qp (c1a q S.tb m f.en f.block f.row f.slot f.mask (by omega) hm1 hlog hfr hfb.2 hno) [3] λ_=>?_;refine J.q λ_=>?_;refine J.v (.bool f.whole) rfl rfl (λhg a w he hs=>x9 tk rfl rfl he rfl rfl rfl (hs.get (i:=8) rfl) (by rw[Q3 hbk 23 (by decide)];rfl)) ?_;refine J.qd (λ_ h10=>?_) λ_ h10=>?_
  ·rw[d8 h10]at hstep;have e1:=congrArg Sst.tb hstep;have e2:=congrArg Sst.torn hstep;have e3:=congrArg Sst.held hstep;have e4:=congrArg Sst.others hstep;dsimp only at e1 e2 e3 e4;rw[<- e1,<- e2,<- e3,<- e4];refine J.q λ_=>?_;refine J.n ((k+1,(at_,ct),(ah,ch),(ao,co))) (by dsimp only;omega) (by dsimp only;omega) [0,1,2,3,4,5,6,7,8,9,10,11]
  rw[d7 (by rw[h10];exact s9)]at hstep;refine J.q λ_=>?_;refine J.v (fdV f) rfl rfl (λhg a w he hs=>C7 tk rfl rfl he rfl rfl rfl (hs.get (i:=8) rfl) (by rw[show 0+(k:Int).toNat*25=k*25 from by omega];exact Q4 hbk) rfl) ?_;refine J.qp (b9b p N hN hR f r0 hfrow (by omega)) [1] λ_=>?_;refine J.qd (λ_ h11=>?_) λ_ h11=>?_
  ·rw[d8 h11]at hstep;have e1:=congrArg Sst.tb hstep;have e2:=congrArg Sst.torn hstep;have e3:=congrArg Sst.held hstep;have e4:=congrArg Sst.others hstep;dsimp only at e1 e2 e3 e4;refine J.pq (.of [0,5,8,12,16,20,25,30,34,36,43]) [9,10] [5,8] λ_ _=>?_;refine J.vT (enV f.en) rfl rfl (λhg a w he hC=>C7 tk rfl rfl he rfl rfl rfl (hC rfl _ (r8 (i:=8) rfl)) (by rw[show 0+(k:Int).toNat*25+0=k*25 from by omega];exact a6f hbk) rfl) ?_;refine J.q λ_=>?_;refine J.ap 9 12 0 (W1 S.torn f.en) λa4 c4=>?_;rw[show S.torn.length+1=(S.torn++[f.en]).length from by simp];refine J.qc (b9c ah (Z8 S.held).length ch (Z8 S.held) rfl (by omega) ai I.length ci I rfl (by omega) k) [10,6] λ_=>?_;rintro v As ⟨a5,c5,rfl,rfl⟩;refine⟨_,rfl,trivial,?_⟩;rw[hheld,<- e1,<- e2,<- e3,<- e4];refine J.q λ_=>?_;refine J.n ((k+1,(a4,c4),(a5,c5),(ao,co))) (by dsimp only;omega) (by dsimp only;omega) [0,1,2,3,4,5,6,7,8,9,10,11]
  ·rw[d7 (by rw[h11];exact s9)]at hstep;have e1:=congrArg Sst.tb hstep;have e2:=congrArg Sst.torn hstep;have e3:=congrArg Sst.held hstep;have e4:=congrArg Sst.others hstep;dsimp only at e1 e2 e3 e4;refine J.q λ_=>?_;refine J.v (enV f.en) rfl rfl (λhg a w he hs=>C7 tk rfl rfl he rfl rfl rfl (hs.get (i:=8) rfl) (by rw[show 0+(k:Int).toNat*25+0=k*25 from by omega];exact a6f hbk) rfl) ?_;refine J.q λ_=>?_;refine J.ap 11 12 0 (W1 S.others f.en) λa4 c4=>?_;rw[show S.others.length+1=(S.others++[f.en]).length from by simp,<- e1,<- e2,<- e3,<- e4];refine J.q λ_=>?_;refine J.n ((k+1,(at_,ct),(ah,ch),(a4,c4))) (by dsimp only;omega) (by dsimp only;omega) [0,1,2,3,4,5,6,7,8,9,10,11]
 simp only[c8,g6]at h8;obtain rfl:k=m:=by omega
 have hsc:V.scan N n=⟨(V.goS N L n k).tb,(V.goS N L n k).torn++(V.goS N L n k).others,(V.goS N L n k).torn.length,Z8 (V.goS N L n k).held,V.nextOf L,L.length⟩:=by
  unfold V.scan V.scanOf;rw[hsz,<- hL];rfl
 obtain⟨S,hSS⟩:∃S,V.goS N L n k=S:=⟨_,rfl⟩;rw[hSS]at hgl hgh hnl hsc;rw[hSS];refine J.q λ_=>?_;refine J.appendO hX tk 9 11 rfl rfl rfl rfl rfl rfl rfl rfl rfl rfl rfl rfl rfl (a4P _) ?_ ?_ (λ_=>rfl) λa6 c6=>⟨_,(congrArg (λy=>Q2 _ 9 (l5 _ _ _ _ _ y)) (a8t S.torn S.others)).trans rfl,trivial,?_⟩
 ·simp only[maxLen];omega
 ·omega
 rw[show S.torn.length+S.others.length=(S.torn++S.others).length from by simp];refine J.qr [1,3,9,10] λ_=>?_;rw[hsc];exact⟨q,a6,c6,ah,ch,rfl,rfl⟩
theorem c3L (x:En):C9 (enL x) (enL x)=true:=by simp[enL,byC,bv,C9,a1Y]
theorem b1m (g0 g1 g2:Int) (A:Atom) (ar:Option Addr) (nr cr:Nat) (rows:List RowV) (hAr:Rd A ar 3 nr (rows.flatMap RowV.cells)) (hlr:rows.length=nr) (hrows:∀x∈rows,x.Ok A)
  (af:Option Addr) (nf cf:Nat) (fs:List FaV) (hAf:Rd A af 7 nf (fs.flatMap FaV.cells)) (hlf:fs.length=nf) (ap:Option Addr) (np cp:Nat) (pgs:List (List UInt8)) (hAp:Rd A ap 32 np (pgs.flatMap J9)) (hlp:pgs.length=np) (hpg:∀p∈pgs,p.length=32) (li:Int):
  FP 23 [.agg #[iI g0,iI g1,iI g2], .slice ar nr cr, .slice af nf cf, .slice ap np cp,iI li] [A] (Ps (.bool true) [A]):=by
 have hl1:=a7j li 40 (by decide);have hl2:=b6J li 40 (by decide);obtain⟨m,hme⟩:=g7 hl2.1;rw[hme]at hl2;have hm40:m<40:=by omega
 refine FE [0,0,0,0,0] Tryz.func23 λX F hX=>?_;refine J.qp (a9v) [] λ_=>?_;refine J.qF λ_=>?_;refine J.qc (b5H g0 g1 g2 A ar nr cr rows hAr hlr hrows af nf cf fs hAf hlf ap np cp pgs hAp hlp hpg) [1] λ_=>?_;rintro v As ⟨q,N,rfl,⟨hG,hT⟩,rfl⟩;refine⟨_,rfl,trivial,?_⟩;refine J.q λ_=>?_;rw[hme];refine J.qc (b2G q N hG.ok hG.room hT.off m) [3] λ_=>?_;rintro v As ⟨q1,a1,c1,a2,c2,rfl,rfl⟩;refine⟨_,rfl,trivial,?_⟩;refine J.q λbs=>?_;refine J.cb (b9d q N hG.ok hG.room m m (by omega)) [3] ?_;rintro v As ⟨q2,a3,c3,a4,c4,rfl,rfl⟩;refine⟨_,rfl,trivial,?_⟩;have hok:(V.scan N m).tb.Ok:=V.goS_ok N (V.all N) m (V.size m);have hlog:(V.scan N m).tb.logical=(m:Int):=by
  have:=V.goS_log N (V.all N) m (V.size m);show(V.goS N (V.all N) m (V.size m)).tb.logical=_;rw[this];omega
 have hgl:=V.goS_len N (V.all N) m (V.size m);have hgh:=V.goS_held N (V.all N) m (V.size m);have hLl:=a7d N hG.ok;have hnl:=a5N (V.goS N (V.all N) m (V.size m)).held;have hm40':V.size m=m:=by unfold V.size;omega
 have htl:(V.scan N m).torn.length<=10000000:=by
  show((V.goS N (V.all N) m (V.size m)).torn++(V.goS N (V.all N) m (V.size m)).others).length<=_;rw[f9];omega
 have hhl:(V.scan N m).held.length<=10000000:=by
  show(Z8 (V.goS N (V.all N) m (V.size m)).held).length<=_;omega
 clear hgl hgh hnl;generalize V.scan N m=S at hok hlog htl hhl;refine J.q λbt=>?_;refine J.cF ?_;refine J.q λ_=>?_;refine J.l (α:=Nat) (λi=>i<=S.torn.length) (λi=>[si 16 i,⟨13,pp (bs 0),8, .tt⟩,⟨15,pp (bt 0),12, .tt⟩]) [] (λi=>[]) (λi=>S.torn.length-i) (0) (j4 _) λi hI=>?_;refine J.qd (λ_ h1=>?_) λ_ h1=>?_
 ·simp only[c9,g6]at h1;obtain⟨y,hy⟩:∃y,S.torn[i]? =some y:=⟨_,d5 h1⟩;refine J.know (p:=∃g,a1=some g) (λh' s=>u7 (c:=(a1,c1)) (by omega) (s.get (i:=5) rfl)) λhg=>?_;obtain⟨g1,rfl⟩:=hg;refine J.know (p:=∃g,a3=some g) (λh' s=>u7 (c:=(a3,c3)) (by omega) (s.get (i:=9) rfl)) λhg=>?_;obtain⟨g3,rfl⟩:=hg;refine J.pq (.of [0,5,8,12,17,20,25,28,32,37,40]) [] [5,7,9,11] λ_ _=>?_;refine J.vT (enV y) rfl rfl (λhg aa w he hC=>E6 tk rfl rfl he rfl rfl rfl (hC rfl _ (r8 (i:=5) rfl)) (by rw[show 0+(i:Int).toNat*19=i*19 from by omega];exact a8s hy) rfl) ?_;refine J.q λ_=>?_;refine J.vT (enV y) rfl rfl (λhg aa w he hC=>E6 tk rfl rfl he rfl rfl rfl (hC rfl _ (r8 (i:=9) rfl)) (by rw[show 0+(i:Int).toNat*19=i*19 from by omega];exact a8s hy) rfl) ?_;refine J.vT (.bool false) rfl rfl (λhg aa w he hC=>(a2H (xs:=enL y) (ys:=enL y) rfl rfl rfl he rfl rfl a7Z (a6a _) (a6a _) c2j c2y).trans (by rw[c3L];rfl)) ?_;refine J.qF λ_=>?_;refine J.q λ_=>?_;refine J.n (i+1) (by omega) (by omega) [0,1,2,3,4,5,6,7,8,9,10,11]
 refine J.q λ_=>?_;refine J.l (α:=Nat) (λj=>j<=S.held.length) (λj=>[si 17 j,⟨13,pp (bs 0),8, .tt⟩,⟨15,pp (bt 0),12, .tt⟩]) [] (λj=>[]) (λj=>S.held.length-j) (0) (j4 _) λj hI=>?_;refine J.qd (λ_ h2=>?_) λ_ h2=>?_
 ·simp only[c9,g6]at h2;obtain⟨y,hy⟩:∃y,S.held[j]? =some y:=⟨_,d5 h2⟩;refine J.know (p:=∃g,a2=some g) (λh' s=>u7 (c:=(a2,c2)) (by omega) (s.get (i:=6) rfl)) λhg=>?_;obtain⟨g2,rfl⟩:=hg;refine J.know (p:=∃g,a4=some g) (λh' s=>u7 (c:=(a4,c4)) (by omega) (s.get (i:=10) rfl)) λhg=>?_;obtain⟨g4,rfl⟩:=hg;refine J.pq (.of [0,5,8,12,17,20,25,28,32,37,40]) [] [6,7,10,11] λ_ _=>?_;refine J.vT (iI y) rfl rfl (λhg aa w he hC=>z7 tk rfl rfl he rfl rfl rfl (hC rfl _ (r8 (i:=6) rfl)) (by rw[show 0+(j:Int).toNat*1=j from by omega];exact L5 hy)) ?_;refine J.q λ_=>?_;refine J.vT (iI y) rfl rfl (λhg aa w he hC=>z7 tk rfl rfl he rfl rfl rfl (hC rfl _ (r8 (i:=10) rfl)) (by rw[show 0+(j:Int).toNat*1=j from by omega];exact L5 hy)) ?_;refine J.qF λ_=>?_;refine J.q λ_=>?_;refine J.n (j+1) (by omega) (by omega) [0,1,2,3,4,5,6,7,8,9,10,11]
 refine J.qp (a8P q1 q2 S.tb m (by omega) hok hlog) [4,8] λ_=>?_;exact J.qx [1]
end Go.Proofs.YtpakpgkdpofbhaaGreat
