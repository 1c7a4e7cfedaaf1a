/- Helpers. No condition. -/
import Derived.Test.YtpakpgkdpofbhaaGreatC00
import Derived.Test.YtpakpgkdpofbhaaGreatC03
import Derived.Test.YtpakpgkdpofbhaaGreatC04
import Derived.Test.YtpakpgkdpofbhaaGreatC06
import Derived.Test.YtpakpgkdpofbhaaGreatC07
import Derived.Test.YtpakpgkdpofbhaaGreatC08
import Derived.Test.YtpakpgkdpofbhaaGreatC09
import Derived.Test.YtpakpgkdpofbhaaGreatC10
set_option maxRecDepth 20000
set_option linter.all false
namespace Go.Proofs.YtpakpgkdpofbhaaGreat
open Go Go.RowKit
def FOk (m:Nat) (L:List Fnd) (Z:List FSlot):Prop:=Z.map (·.l)=(List.range m).map λk:Nat=>V.of L (k:Int)
theorem FOk.len {m:Nat} {L:List Fnd} {Z:List FSlot} (h:FOk m L Z):Z.length=m:=by have:=congrArg List.length h;simpa using this
theorem FOk.get {m:Nat} {L:List Fnd} {Z:List FSlot} (h:FOk m L Z) {k:Nat} (hk:k<m):∃z,Z[k]? =some z/\z.l=V.of L (k:Int):=by
 have hl:=h.len;refine⟨Z[k],d5 (by omega),?_⟩;have:=congrArg (λl=>l[k]?) h;simp only[j6,O9 hk,d5 (show k<Z.length by omega),B5,l8]at this;exact this
theorem FOk.zero (m:Nat):FOk m [] (List.replicate m ⟨none,0,[]⟩):=by
 unfold FOk;apply v6;intro i;rw[j6,D3,j6]
 by_cases h:i<m
 ·rw[d8 h,O9 h];simp[V.of]
 ·rw[d7 h,l4 (by simp;omega)];rfl
theorem FOk.hit {m:Nat} {L:List Fnd} {Z:List FSlot} (h:FOk m L Z) {x:Fnd} {k:Nat} (hx:x.en.lpn=(k:Int)) {z z':FSlot} (hz:Z[k]? =some z) (hz':z'.l=z.l++[x]):FOk m (L++[x]) (Z.set k z'):=by
 have hl:=h.len;have hk:k<Z.length:=(List.getElem?_eq_some_iff.1 hz).1;have hzl:z.l=V.of L (k:Int):=by
  obtain⟨z2,h1,h2⟩:=h.get (k:=k) (by omega);rw[hz]at h1;injection h1 with h1;subst h1;exact h2
 unfold FOk;rw[D7,show Z.map (·.l)=_ from h,hz',hzl];apply v6;intro i;rw[r9,j6,j6]
 by_cases e:k=i
 ·subst e;rw[d8 rfl,d8 (by simp;omega),O9 (by omega),B5,V.of_snoc,d8 hx]
 ·rw[d7 e]
  by_cases h2:i<m
  ·rw[O9 h2,B5,B5,V.of_snoc,d7 (by omega)]
  ·rw[l4 (by simp;omega)];rfl
theorem FOk.miss {m:Nat} {L:List Fnd} {Z:List FSlot} (h:FOk m L Z) {x:Fnd} (hx:(m:Int)<=x.en.lpn):FOk m (L++[x]) Z:=by
 unfold FOk;rw[show Z.map (·.l)=_ from h];apply List.map_congr_left;intro i hi;rw[M8]at hi;rw[V.of_snoc,d7 (by omega)]
theorem FOk.le {m:Nat} {L:List Fnd} {Z:List FSlot} (h:FOk m L Z) {k:Nat} {z:FSlot} (hz:Z[k]? =some z):z.l.length<=L.length:=by
 have hl:=h.len;have hk:k<Z.length:=(List.getElem?_eq_some_iff.1 hz).1;obtain⟨z2,h1,h2⟩:=h.get (k:=k) (by omega);rw[hz]at h1;injection h1 with h1;subst h1
 rw[h2];exact V.of_len L k
theorem a4J {α β:Type} (f:α->List β) (c:Nat) (l:List α) (h:∀x∈l,(f x).length<=c):(l.flatMap f).length<=c*l.length:=by
 induction l with
 | nil=>simp
 | cons x l ih=>
  rw[q9,f9,m6];have:=h x (z6 ..);have:=ih (λy hy=>h y (B3 _ hy));rw[Nat.mul_add];omega
theorem a3H (N:Nand) (hN:N.Ok) (b r:Int):(R.all N b r).length<=42:=by
 have hbd:=hN.bd;have:=a5e N b r (M.masks N b r).length (by omega);unfold a1k at this
 rwa [D2]at this
theorem b9K (N:Nand) (hN:N.Ok) (b:Nat) (hb:b<=16):(V.upB N b).length<=5376:=by
 have hbd:=hN.bd;unfold V.upB;have:=a4J (λb:Nat=>(List.range N.pages).flatMap λr=>R.all N (b:Nat) (r:Nat)) 336 (List.range b) (λx _=>by
  have:=a4J (λr:Nat=>R.all N (x:Nat) (r:Nat)) 42 (List.range N.pages) (λr _=>a3H N hN _ _);rw[D9]at this;omega)
 rw[D9]at this;omega
theorem b3L (N:Nand) (hN:N.Ok) (b r:Nat) (hb:b<=16) (hr:r<=8):(V.upR N b r).length<=5712:=by
 have h1:=b9K N hN b hb;have:=a4J (λr:Nat=>R.all N (b:Nat) (r:Nat)) 42 (List.range r) (λr _=>a3H N hN _ _);rw[D9]at this;unfold V.upR;rw[f9];omega
theorem b9J (N:Nand) (hN:N.Ok) (b r i:Nat) (hb:b<=16) (hr:r<=8):(V.upI N b r i).length<=5754:=by
 have h1:=b3L N hN b r hb hr;have:=a3H N hN b r;unfold V.upI;rw[f9,l9];omega
theorem c1L (N:Nand) (b:Nat):∀f∈V.upB N b,a3y f.en:=by
 intro f h;unfold V.upB at h;rw[H0]at h;obtain⟨_,_,h⟩:=h;rw[H0]at h;obtain⟨_,_,h⟩:=h;exact(a8f h).2.2
theorem c1J (N:Nand) (b r:Nat):∀f∈V.upR N b r,a3y f.en:=by
 intro f h;unfold V.upR at h;rw[K9]at h;rcases h with h | h
 ·exact c1L N b f h
 ·rw[H0]at h;obtain⟨_,_,h⟩:=h;exact(a8f h).2.2
theorem c1K (N:Nand) (b r i:Nat):∀f∈V.upI N b r i,a3y f.en:=by
 intro f h;unfold V.upI at h;rw[K9]at h;rcases h with h | h
 ·exact c1J N b r f h
 ·exact(a8f (H9 h)).2.2
theorem Sep.ofAll {L:List Atom} {h:Hl} (hL:∀A∈L,∀h,A.sat h):Sep L h:=⟨λ_=>0,λi A hA=>hL A (l7 hA) _⟩
def svL (q:Nat) (torn:Value) (first:Int) (held:Value) (next pages:Int):List Value:=[pp q,torn,iI first,held,iI next,iI pages]
def svV (q:Nat) (S:Scd) (a1:Option Nat) (c1:Nat) (a2:Option Nat) (c2:Nat):Value:= .agg (svL q (slv a1 S.torn.length c1) S.first (slv a2 S.held.length c2) S.next S.pages).toArray
def sv0 (q:Nat) (L:List Fnd):List Value:=svL q (.slice none 0 0) 0 (.slice none 0 0) (V.nextOf L) L.length
theorem a6v {α:Type} (x:α):∀n:Nat,(List.replicate n [x]).flatten=List.replicate n x
 | 0=>rfl
 | n+1=>by rw[Z9,Z9,List.flatten_cons,a6v x n];rfl
theorem b5U (m:Nat):(List.replicate m [Value.slice none 0 0]).flatten=a3Q (List.replicate m ⟨none,0,[]⟩):=by
 rw[a6v];unfold a3Q;rw[X0];rfl
theorem b5V {Z:List FSlot} {k:Int} {z:FSlot} (h:Z[k.toNat]? =some z):(a3Q Z)[0+k.toNat*1]? =some z.hdr:=by
 rw[show 0+k.toNat*1=k.toNat from by omega,a3Q,j6,h];rfl
theorem c2n (a b:Int):(if b>a then b else a)=max a b:=by split<;>omega
theorem b3z (l m:List Int):n7 l++n7 m=n7 (l++m):=by simp[n7]
theorem a8t (l m:List En):p5 l++p5 m=p5 (l++m):=by simp[p5]
theorem a1X (l:List Int):∀u∈n7 l,u.oneCell'=true:=by
 intro u hu;simp only[n7,W3]at hu;obtain⟨x,_,rfl⟩:=hu;rfl
theorem b2G (p:Nat) (N:Nand) (hN:N.Ok) (hR:N.Room) (hoff:N.off=false) (n:Int):FP 77 [pp p,iI n] [x6 p N]
  (λv As=>∃q a1 c1 a2 c2,v= .tuple #[svV q (V.scan N n) a1 c1 a2 c2,iI 0]/\As=[x6 p N,TbA q (V.scan N n).tb,l5 113 19 a1 (V.scan N n).torn.length c1 (p5 (V.scan N n).torn),l5 3 1 a2 (V.scan N n).held.length c2 (n7 (V.scan N n).held)]):=by
 have hbd:=hN.bd;refine FE [2,0] Tryz.func77 λX F hX=>?_;refine J.q λbr=>?_;refine J.cF ?_;refine J.qp (a4e p N) [1] λ_=>?_;rw[hoff];refine J.qF λ_=>?_;refine J.qc (b2K n) [] λ_=>?_;rintro v As ⟨q,rfl,rfl⟩;refine⟨_,rfl,trivial,?_⟩;refine J.qn 11 λbo=>?_;rw[b6O];obtain⟨m,hm⟩:∃m:Nat,min (max n 0) 65536=(m:Int):=⟨(min (max n 0) 65536).toNat,by omega⟩;have hms:V.size n=m:=by unfold V.size;omega
 have hm1:m<=65536:=by omega
 rw[hm];refine J.mk 6 λg=>?_;rw[b5U];refine J.q λbs=>?_;refine J.turn1 [] rfl (As:=[.hp (HP.of (a5n (List.replicate m ⟨none,0,[]⟩)))]) (λh s=>Sep.hpOf.2 (Sep.ofAll λA hA h=>by
  unfold a5n at hA;rw[X0,List.mem_replicate]at hA;rw[hA.2];exact⟨rfl,rfl,rfl⟩)) rfl ?_
 refine J.qp (a0H p N) [1] λ_=>?_;refine J.q λ_=>?_;refine J.l (α:=(Nat×List FSlot)) (λz=>z.1<=N.blocks/\FOk m (V.upB N z.1) z.2) (λz=>[si 38 z.1,si 37 N.blocks,⟨0,pp p,2, .tt⟩,⟨4,pp (br 0),3, .tt⟩,⟨6,pp (bo 0),5, .tt⟩,⟨7,pp (bs 0),7, .tt⟩]) [4,5,7] (λz=>[.pt (bo 0) 105 (sv0 q (V.upB N z.1)), .pt g 188 (a3Q z.2), .hp (HP.of (a5n z.2))]) (λz=>N.blocks-z.1) ((0,List.replicate m ⟨none,0,[]⟩)) (⟨j4 _,FOk.zero m⟩) λz hI=>?_;obtain⟨b,Z⟩:=z;dsimp only at hI ⊢;obtain⟨hb,hZ⟩:=hI;refine J.qd (λ_ h1=>?_) λ_ h1=>?_
 ·simp only[c9,g6]at h1;refine J.qp (a0H p N) [1] λ_=>?_;rw[<- V.upR_zero]at hZ;rw[<- V.upR_zero];refine J.q λ_=>?_;refine J.l (α:=(Nat×List FSlot)) (λz=>z.1<=N.pages/\FOk m (V.upR N b z.1) z.2) (λz=>[si 44 z.1,si 43 N.pages,si 8 b,si 38 b,si 37 N.blocks,⟨0,pp p,2, .tt⟩,⟨4,pp (br 0),3, .tt⟩,⟨6,pp (bo 0),5, .tt⟩,⟨7,pp (bs 0),7, .tt⟩]) [4,5,7] (λz=>[.pt (bo 0) 105 (sv0 q (V.upR N b z.1)), .pt g 188 (a3Q z.2), .hp (HP.of (a5n z.2))]) (λz=>N.pages-z.1) ((0,Z)) (⟨j4 _,hZ⟩) λz hI=>?_;clear hZ Z;obtain⟨r,Z⟩:=z;dsimp only at hI ⊢;obtain⟨hr,hZ⟩:=hI;refine J.qd (λ_ h2=>?_) λ_ h2=>?_
  ·simp only[c9,g6]at h2;refine J.qc (c1x p N hN hR b r) [1] λ_=>?_;rintro v As ⟨al,cl,rfl,rfl⟩;refine⟨_,rfl,trivial,?_⟩;rw[<- V.upI_zero]at hZ;rw[<- V.upI_zero];refine J.q λ_=>?_;refine J.l (α:=(Nat×List FSlot)) (λz=>z.1<=(R.all N b r).length/\FOk m (V.upI N b r z.1) z.2) (λz=>[si 52 z.1,⟨51,iI (R.all N b r).length,0, .tt⟩,sv 50 (slv al (R.all N b r).length cl),si 9 r,si 44 r,si 43 N.pages,si 8 b,si 38 b,si 37 N.blocks,⟨0,pp p,2, .tt⟩,⟨4,pp (br 0),3, .tt⟩,⟨6,pp (bo 0),5, .tt⟩,⟨7,pp (bs 0),7, .tt⟩]) [4,5,7] (λz=>[.pt (bo 0) 105 (sv0 q (V.upI N b r z.1)), .pt g 188 (a3Q z.2), .hp (HP.of (a5n z.2))]) (λz=>(R.all N b r).length-z.1) ((0,Z)) (⟨j4 _,hZ⟩) λz hI=>?_;clear hZ Z;obtain⟨i,Z⟩:=z;dsimp only at hI ⊢;obtain⟨hi,hZ⟩:=hI;refine J.qd (λ_ h3=>?_) λ_ h3=>?_
   ·simp only[c9,g6]at h3;obtain⟨x,hx⟩:∃x,(R.all N b r)[i]? =some x:=⟨_,d5 h3⟩;have hup:=V.upI_succ hx;have hrl:=a3H N hN b r;have hxb:=(a8f (l7 hx)).2.2;have hul:=b9J N hN b r i (by omega) (by omega);have hnb:=V.nextOf_bd (c1K N b r i);refine J.know (λh' s=>u7 (c:=(al,cl)) (by omega) (s.get (i:=8) rfl)) λhg=>?_;obtain⟨gl,rfl⟩:=hg;refine J.q λ_=>?_;refine J.v (fdV x) rfl rfl (λhg a w he hs=>?_) ?_
    ·exact E6 tk rfl rfl he rfl rfl rfl (hs.get (i:=8) rfl) (by rw[show 0+(i:Int).toNat*25=i*25 from by omega];exact Q4 hx) rfl
    unfold a3y at hxb;refine J.q λbf=>?_;have hn1:V.nextOf (V.upI N b r (i+1))=max (V.nextOf (V.upI N b r i)) (x.en.seq+1):=by rw[hup,V.nextOf_snoc]
    have hn2:((V.upI N b r i).length:Int)+1=((V.upI N b r (i+1)).length:Int):=by rw[hup,f9];rfl
    rw[c2n,<- hn1,hn2];refine J.p (.of [0,4,9,12,16,20,25,28,32]) [] [6,9] λ_=>?_;refine J.qd (λ_ h4=>?_) λ_ h4=>?_
    ·simp only[c9]at h4;obtain⟨z,hz,hzl⟩:=hZ.get (k:=x.en.lpn.toNat) (by omega);have hzle:=hZ.le hz;have hZl:=hZ.len;refine J.openAt 7 x.en.lpn.toNat rfl rfl (a5m hz) rfl ?_;refine J.pn 15 (.of [0,4,8,13,16,20,25,28,32,36,41,44,48,53,56,61,65,70,74,76,83]) [19,20] [5,6,9] λ_ _=>?_;refine J.vT z.hdr rfl rfl (λhg a w he hC=>x9 tk rfl rfl he rfl rfl rfl (hC rfl _ (r8 (i:=5) rfl)) (b5V hz)) ?_;refine J.q λ_=>?_;refine J.append hX tk 10 11 0 rfl rfl rfl rfl rfl rfl rfl rfl rfl rfl rfl rfl rfl rfl rfl rfl ?_ ?_ (λ_=>rfl) λa' c'=>⟨_,(congrArg (λy=>Q2 _ 10 (l5 _ _ _ _ _ y)) (a3W z.l x).symm).trans rfl,⟨rfl,rfl,rfl,trivial⟩,?_⟩
     ·simp only[maxLen];omega
     ·omega
     rw[show z.l.length+1=(z.l++[x]).length from by simp];refine J.q λ_=>?_;have hhit:=hZ.hit (x:=x) (k:=x.en.lpn.toNat) (by omega) hz (z':=⟨a',c',z.l++[x]⟩) rfl;refine J.s1 5 (a3Q (Z.set x.en.lpn.toNat ⟨a',c',z.l++[x]⟩)) ?_ ?_ ?_
     ·rw[show(a3Q Z).length=Z.length from by simp[a3Q]];omega
     ·rw[show 0+x.en.lpn.toNat*1=x.en.lpn.toNat from by omega];exact b8B Z _ ⟨a',c',z.l++[x]⟩
     refine J.closeAt (A:=(FSlot.mk a' c' (z.l++[x])).atom) 7 10 x.en.lpn.toNat rfl rfl rfl ?_;rw[b8W];refine J.q λ_=>?_;refine J.n ((i+1,Z.set x.en.lpn.toNat ⟨a',c',z.l++[x]⟩)) (⟨by dsimp only;omega,by dsimp only;rw[hup];exact hhit⟩) (by dsimp only;omega) [0,1,2,3,4,5,6,7,8]
    ·simp only[c8]at h4;have hmiss:=hZ.miss (x:=x) (by omega);refine J.q λ_=>?_;refine J.n ((i+1,Z)) (⟨by dsimp only;omega,by dsimp only;rw[hup];exact hmiss⟩) (by dsimp only;omega) [0,1,2,3,4,5,6,7,8]
   ·simp only[c8,g6]at h3;obtain rfl:i=(R.all N b r).length:=by omega
    rw[<- V.upR_succ]at hZ;rw[<- V.upR_succ];refine J.q λ_=>?_;refine J.n ((r+1,Z)) (⟨by dsimp only;omega,hZ⟩) (by dsimp only;omega) [0,1,2,3,4,5,6,7]
  ·simp only[c8,g6]at h2;obtain rfl:r=N.pages:=by omega
   rw[<- V.upB_succ]at hZ;rw[<- V.upB_succ];refine J.q λ_=>?_;refine J.n ((b+1,Z)) (⟨by dsimp only;omega,hZ⟩) (by dsimp only;omega) [0,1,2,3,4,5,6,7]
 simp only[c8,g6]at h1;obtain rfl:b=N.blocks:=by omega
 rw[V.upB_all]at hZ;rw[V.upB_all];have hZl:=hZ.len;have hLb:∀f∈V.all N,a3y f.en:=λf hf=>(b0V hf).2;have hLl:=a7d N hN;subst hZl;refine J.q λ_=>?_;refine J.turn1 [] rfl (As:=[l5 113 19 none 0 0 (p5 []),l5 3 1 none 0 0 (n7 []),l5 113 19 none 0 0 (p5 [])]) (λh s=>Sep.ofAll λA hA h=>by
  simp only[D6,T9,a5z]at hA;rcases hA with rfl | rfl | rfl<;>exact⟨rfl,rfl,rfl⟩) rfl ?_
 refine J.q λ_=>?_;refine J.l (α:=(Nat×(Option Nat×Nat)×(Option Nat×Nat)×(Option Nat×Nat))) (λz=>z.1<=Z.length) (λz=>[si 105 z.1,si 104 Z.length,⟨12,slv z.2.2.2.1 (V.goS N (V.all N) n z.1).others.length z.2.2.2.2,0, .tt⟩,⟨0,pp p,2, .tt⟩,⟨4,pp (br 0),3, .tt⟩,⟨6,pp (bo 0),5, .tt⟩,⟨7,pp (bs 0),7, .tt⟩]) [3,4,8,9,10] (λz=>[TbA q (V.goS N (V.all N) n z.1).tb, .pt (bo 0) 105 (svL q (slv z.2.1.1 (V.goS N (V.all N) n z.1).torn.length z.2.1.2) 0 (slv z.2.2.1.1 (V.goS N (V.all N) n z.1).held.length z.2.2.1.2) (V.nextOf (V.all N)) (V.all N).length),l5 113 19 z.2.1.1 (V.goS N (V.all N) n z.1).torn.length z.2.1.2 (p5 (V.goS N (V.all N) n z.1).torn),l5 3 1 z.2.2.1.1 (V.goS N (V.all N) n z.1).held.length z.2.2.1.2 (n7 (V.goS N (V.all N) n z.1).held),l5 113 19 z.2.2.2.1 (V.goS N (V.all N) n z.1).others.length z.2.2.2.2 (p5 (V.goS N (V.all N) n z.1).others)]) (λz=>Z.length-z.1) ((0,(none,0),(none,0),(none,0))) (j4 _) λz hI=>?_;obtain⟨k,⟨a1,c1⟩,⟨a2,c2⟩,⟨a3,c3⟩⟩:=z;dsimp only at hI ⊢;have hgl:=V.goS_len N (V.all N) n k;have hgh:=V.goS_held N (V.all N) n k;refine J.qd (λ_ h2=>?_) λ_ h2=>?_
 ·simp only[c9,g6]at h2;obtain⟨z,hz,hzl⟩:=hZ.get (k:=k) h2;have hzle:=hZ.le hz;have hstep:=V.goS_succ N (V.all N) n k;have hok:=V.goS_ok N (V.all N) n k;have hhl:=V.holds_len (V.of (V.all N) k);have hol:=V.of_len (V.all N) k;have hsm:=V.standOf_mem (l:=V.of (V.all N) k);generalize hS:V.goS N (V.all N) n k=S at hgl hgh hstep hok;refine J.qp (b6F (bs 0) p g Z k z hz (by omega) (by omega)) [6,5,7] λ_=>?_;rw[hzl];unfold V.step at hstep;obtain⟨f,is,hs⟩:∃f is,V.standOf (V.of (V.all N) k)=(f,is):=⟨_,_,rfl⟩;rw[hs]at hsm hstep ⊢;dsimp only at hsm hstep ⊢;refine J.q λbf=>?_;refine J.cond rfl (λh3=>?_) (λh3=>?_)
  ·simp only[i7]at h3;subst h3;rw[d7 s9]at hstep;rw[<- hstep];refine J.q λ_=>?_;refine J.n ((k+1,(a1,c1),(a2,c2),(a3,c3))) (by dsimp only;omega) (by dsimp only;omega) [0,1,2,3,4,5,6,7,8,9,10]
  simp only[p9]at h3;subst h3;rw[d8 rfl]at hstep;have hfm:f∈V.all N:=by have:=hsm rfl;unfold V.of at this;exact(List.mem_filter.1 this).1
  obtain⟨⟨r0,hr0,hr1⟩,hfb⟩:=b0V hfm;unfold a3y at hfb;refine J.qp (a7n q S.tb f.en f.block f.row f.slot f.mask (by omega) hok.bd) [3] λ_=>?_;refine J.qd (λ_ h4=>?_) λ_ h4=>?_
  ·rw[d8 h4]at hstep;have e1:=congrArg Sst.tb hstep;have e2:=congrArg Sst.torn hstep;have e3:=congrArg Sst.held hstep;have e4:=congrArg Sst.others hstep;dsimp only at e1 e2 e3 e4;rw[<- e1,<- e2,<- e3,<- e4];refine J.q λ_=>?_;refine J.n ((k+1,(a1,c1),(a2,c2),(a3,c3))) (by dsimp only;omega) (by dsimp only;omega) [0,1,2,3,4,5,6,7,8,9,10]
  rw[d7 (by rw[h4];exact s9)]at hstep;refine J.qp (c1I p N hN hR (bs 0) (.slice (some ⟨g,0,none⟩) Z.length Z.length) f r0 hr0 (by omega)) [1,6] λ_=>?_;refine J.qd (λ_ h5=>?_) λ_ h5=>?_
  ·rw[d8 h5]at hstep;have e1:=congrArg Sst.tb hstep;have e2:=congrArg Sst.torn hstep;have e3:=congrArg Sst.held hstep;have e4:=congrArg Sst.others hstep;dsimp only at e1 e2 e3 e4;refine J.q λ_=>?_;refine J.ap 8 12 0 (W1 S.torn f.en) λa4 c4=>?_;rw[show S.torn.length+1=(S.torn++[f.en]).length from by simp];refine J.p (.of [0,5,8,12,18,23,24,31]) [5,6,7] [4] λ_=>?_;refine J.qc (b9I (bs 0) p g Z k z hz (by omega) (by omega)) [6,5,7] λ_=>?_;rintro v As ⟨a5,c5,rfl,rfl⟩;refine⟨_,rfl,stq,?_⟩;rw[hzl];refine J.q λ_=>?_;refine J.appendO hX tk 9 13 rfl rfl rfl rfl rfl rfl rfl rfl rfl rfl rfl rfl rfl (a1X _) ?_ ?_ (λ_=>rfl) λa6 c6=>⟨_,(congrArg (λy=>Q2 _ 9 (l5 _ _ _ _ _ y)) (b3z S.held (V.holds (V.of (V.all N) k)))).trans rfl,stq,?_⟩
   ·simp only[maxLen];omega
   ·omega
   rw[show S.held.length+(V.holds (V.of (V.all N) k)).length=(S.held++V.holds (V.of (V.all N) k)).length from by simp];rw[<- e1,<- e2,<- e3,<- e4];refine J.q λ_=>?_;refine J.n ((k+1,(a4,c4),(a6,c6),(a3,c3))) (by dsimp only;omega) (by dsimp only;omega) [0,1,2,3,4,5,6,7,8,9,10]
  ·rw[d7 (by rw[h5];exact s9)]at hstep;have e1:=congrArg Sst.tb hstep;have e2:=congrArg Sst.torn hstep;have e3:=congrArg Sst.held hstep;have e4:=congrArg Sst.others hstep;dsimp only at e1 e2 e3 e4;refine J.q λ_=>?_;refine J.ap 10 12 0 (W1 S.others f.en) λa4 c4=>?_;rw[show S.others.length+1=(S.others++[f.en]).length from by simp];rw[<- e1,<- e2,<- e3,<- e4];refine J.q λ_=>?_;refine J.n ((k+1,(a1,c1),(a2,c2),(a4,c4))) (by dsimp only;omega) (by dsimp only;omega) [0,1,2,3,4,5,6,7,8,9,10]
 simp only[c8,g6]at h2;obtain rfl:k=Z.length:=by omega
 have hsc:V.scan N n=⟨(V.goS N (V.all N) n Z.length).tb,(V.goS N (V.all N) n Z.length).torn++(V.goS N (V.all N) n Z.length).others,(V.goS N (V.all N) n Z.length).torn.length,I3 (a0u (V.goS N (V.all N) n Z.length).held),V.nextOf (V.all N),(V.all N).length⟩:=by
  unfold V.scan V.scanOf;rw[hms]
 generalize V.goS N (V.all N) n Z.length=S at hgl hgh hsc;refine J.q λ_=>?_;refine J.appendO hX tk 8 10 rfl rfl rfl rfl rfl rfl rfl rfl rfl rfl rfl rfl rfl (a4P _) ?_ ?_ (λ_=>rfl) λa6 c6=>⟨_,(congrArg (λy=>Q2 _ 8 (l5 _ _ _ _ _ y)) (a8t S.torn S.others)).trans rfl,stq,?_⟩
 ·simp only[maxLen];omega
 ·omega
 rw[show S.torn.length+S.others.length=(S.torn++S.others).length from by simp];refine J.qp (b9D a2 S.held.length c2 S.held rfl (by omega)) [9] λ_=>?_;refine J.q λ_=>?_;refine J.ca hX (by kernel_rfl) (a8X a2 S.held.length c2 (a0u S.held) (a2E _) (by omega)) [9] 0 rfl rfl rfl rfl rfl rfl (λ_=>rfl) ?_;rintro v As ⟨l',hl',rfl,rfl⟩;refine⟨_,rfl,trivial,?_⟩;refine J.qr [1,3,8,9] λ_=>?_;rw[hsc,<- hl'];exact⟨q,a6,c6,a2,c2,rfl,rfl⟩
end Go.Proofs.YtpakpgkdpofbhaaGreat
namespace Go.Proofs.YtpakpgkdpofbhaaGreat
def Z8 (l:List Int):List Int:=I3 (a0u l)
def a2N:List Int->Int->List Int
 | [],b=>[b]
 | x::l,b=>if x<b then x::a2N l b else if x=b then x::l else b::x::l
theorem insI_mem {b c:Int}:∀{l:List Int},c∈a2N l b↔c=b\/c∈l
 | []=>by simp[a2N]
 | x::l=>by
  simp only[a2N];split
  ·rw[D6,insI_mem,D6];constructor
   ·rintro(h | h | h)<;>simp[h]
   ·rintro(h | h | h)<;>simp[h]
  ·split
   ·rename_i e;subst e;simp
   ·simp
theorem a6t {b:Int}:∀{l:List Int},l.Pairwise (· < ·)->(a2N l b).Pairwise (· < ·)
 | [],_=>by simp[a2N]
 | x::l,h=>by
  simp only[a2N];have h1:=List.pairwise_cons.1 h;split
  ·rename_i e;refine List.pairwise_cons.2 ⟨λc hc=>?_,a6t h1.2⟩;rcases insI_mem.1 hc with rfl | hc
   ·exact e
   ·exact h1.1 c hc
  ·split
   ·exact h
   ·refine List.pairwise_cons.2 ⟨λc hc=>?_,h⟩;rcases List.mem_cons.1 hc with rfl | hc
    ·omega
    ·have:=h1.1 c hc;omega
theorem a3h:∀(l:List Int) (p:Int),(p::l).Pairwise (· <= ·)->(J2 p l).Pairwise (· < ·)/\(∀c∈J2 p l,p<c)/\∀c,c∈J2 p l\/c=p↔c∈l\/c=p
 | [],p,_=>by simp[J2]
 | x::l,p,h=>by
  have h1:=List.pairwise_cons.1 h;simp only[J2]
  by_cases e:x=p
  ·subst e;obtain⟨a,b,c⟩:=a3h l x h1.2;rw[d8 rfl];refine⟨a,b,λd=>?_⟩;rw[c d,D6];constructor
   ·rintro(h | h)<;>simp[h]
   ·rintro((h | h) | h)<;>simp[h]
  ·obtain⟨a,b,c⟩:=a3h l x h1.2;have hx:p<x:=by have:=h1.1 x (z6 ..);omega
   rw[d7 e];refine⟨List.pairwise_cons.2 ⟨b,a⟩,λd hd=>?_,λd=>?_⟩
   ·rcases List.mem_cons.1 hd with rfl | hd
    ·exact hx
    ·have:=b d hd;omega
   ·have:=c d;rw[D6,D6];constructor
    ·rintro((h | h) | h)
     ·simp[h]
     ·rcases this.1 (.inl h)with h | h<;>simp[h]
     ·simp[h]
    ·rintro((h | h) | h)
     ·simp[h]
     ·rcases this.2 (.inl h)with h | h<;>simp[h]
     ·simp[h]
theorem b0a (l:List Int):(a0u l).Pairwise (· <= ·):=by
 have:=List.pairwise_mergeSort (le:=leI) (λa b c h1 h2=>by simp only[leI,c9]at*;omega) (λa b=>by simp only[leI,j8,c9];omega) l;exact this.imp (λh=>by simpa[leI]using h)
theorem b4Y (l:List Int) (c:Int):c∈a0u l↔c∈l:=List.mem_mergeSort
theorem a1I (l:List Int):(Z8 l).Pairwise (· < ·)/\∀c,c∈Z8 l↔c∈l:=by
 have hs:=b0a l;have hm:=b4Y l;unfold Z8
 revert hs hm
 cases a0u l with
 | nil=>intro _ hm;exact⟨by simp[I3],λc=>by rw[<- hm c];simp[I3]⟩
 | cons x m=>
  intro hs hm;obtain⟨a,b,c⟩:=a3h m x hs;refine⟨List.pairwise_cons.2 ⟨b,a⟩,λd=>?_⟩;rw[<- hm d];show d∈x::J2 x m↔_;rw[D6,D6];have:=c d;constructor
  ·rintro(h | h)
   ·simp[h]
   ·rcases this.1 (.inl h)with h | h<;>simp[h]
  ·rintro(h | h)
   ·simp[h]
   ·rcases this.2 (.inl h)with h | h<;>simp[h]
theorem a7t:∀{a b:List Int},a.Pairwise (· < ·)->b.Pairwise (· < ·)->(∀c,c∈a↔c∈b)->a=b
 | [],[],_,_,_=>rfl
 | [],y::b,_,_,h=>by have:=(h y).2 (z6 ..);cases this
 | x::a,[],_,_,h=>by have:=(h x).1 (z6 ..);cases this
 | x::a,y::b,ha,hb,h=>by
  have ha1:=List.pairwise_cons.1 ha;have hb1:=List.pairwise_cons.1 hb;have e:x=y:=by
   rcases List.mem_cons.1 ((h x).1 (z6 ..))with e | e
   ·exact e
   ·rcases List.mem_cons.1 ((h y).2 (z6 ..))with e2 | e2
    ·exact e2.symm
    ·have:=ha1.1 y e2;have:=hb1.1 x e;omega
  subst e;rw[a7t ha1.2 hb1.2 (λc=>?_)];constructor
  ·intro hc;rcases List.mem_cons.1 ((h c).1 (B3 _ hc))with e | e
   ·have:=ha1.1 c hc;omega
   ·exact e
  ·intro hc;rcases List.mem_cons.1 ((h c).2 (B3 _ hc))with e | e
   ·have:=hb1.1 c hc;omega
   ·exact e
theorem a5M:Z8 []=[]:=by have:=(a1I []).2;exact List.eq_nil_iff_forall_not_mem.2 (λc hc=>by simpa using(this c).1 hc)
theorem b3c (l:List Int) (b:Int):Z8 (l++[b])=a2N (Z8 l) b:=by
 refine a7t (a1I _).1 (a6t (a1I l).1) λc=>?_;rw[(a1I _).2,insI_mem,(a1I l).2,K9,U0,or_comm]
theorem a5N (l:List Int):(Z8 l).length<=l.length:=by
 have h:∀(l:List Int),(I3 l).length<=l.length:=λl=>by
  have:∀(l:List Int) (p:Int),(J2 p l).length<=l.length:=λl=>by
   induction l with
   | nil=>intro p;simp[J2]
   | cons x l ih=>intro p;simp only[J2];split<;>simp only[m6]<;>have:=ih x<;>have:=ih p<;>omega
  cases l with
  | nil=>simp[I3]
  | cons x l=>have:=this l x;simp only[I3,m6];omega
 have:=h (a0u l);rw[a2E]at this;exact this
def a3n (l:List Int) (b:Int):Nat:=(l.takeWhile λx=>decide (x<b)).length
theorem a8d (b:Int):∀l:List Int,a2N l b=if l[a3n l b]? =some b then l else l.take (a3n l b)++[b]++l.drop (a3n l b)
 | []=>by simp[a2N,a3n]
 | x::l=>by
  simp only[a2N]
  by_cases h:x<b
  ·have hs:a3n (x::l) b=a3n l b+1:=by simp[a3n,a4R,h]
   rw[d8 h,a8d b l,hs];simp only[R1,S8,P4];split
   ·rfl
   ·rfl
  ·have hs:a3n (x::l) b=0:=by simp[a3n,a4R,h]
   rw[d7 h,hs];simp only[R0,l8,W9,J6,Q0];rfl
namespace V
theorem standOf_nil:standOf []=(Fnd.zero,false):=rfl
theorem tops_snoc (l:List Fnd) (x:Fnd):tops (l++[x])=topsStep (tops l) x:=by unfold tops;rw[z8];rfl
theorem standOf_snoc (l:List Fnd) (x:Fnd):standOf (l++[x])=if(standOf l).2=false\/behind (standOf l).1 x=true then(x,true)else standOf l:=by
 unfold standOf;rw[tops_snoc];cases tops l with
 | nil=>simp[topsStep]
 | cons h t=>
  simp only[topsStep,Bool.true_eq_false,false_or]
  by_cases hb:behind h x=true
  ·rw[d8 hb,d8 hb]
  ·rw[d7 hb,d7 hb]
   by_cases hb2:behind x h=true
   ·rw[d8 hb2]
   ·rw[d7 hb2];rfl
def topSeq (l:List Fnd):Int:=l.foldl (λm f=>max m f.en.seq) (-1)
theorem topSeq_snoc (l:List Fnd) (x:Fnd):topSeq (l++[x])=max (topSeq l) x.en.seq:=by unfold topSeq;rw[z8];rfl
theorem topSeq_le (l:List Fnd): -1<=topSeq l/\∀f∈l,f.en.seq<=topSeq l:=by
 have:∀(l:List Fnd) (m:Int),m<=l.foldl (λm f=>max m f.en.seq) m/\∀f∈l,f.en.seq<=l.foldl (λm f=>max m f.en.seq) m:=by
  intro l
  induction l with
  | nil=>intro m;simp
  | cons x l ih=>
   intro m;have:=ih (max m x.en.seq);refine⟨by simp only[C0];omega,λf hf=>?_⟩;rcases List.mem_cons.1 hf with rfl | hf
   ·simp only[C0];omega
   ·exact this.2 f hf
 exact this l (-1)
theorem behind_whole {a b:Fnd} (ha:a.whole=true) (hb:b.whole=true):behind a b=decide (a.en.seq<b.en.seq):=by
 unfold behind;split
 ·rfl
 ·rename_i h;rw[ha];have:¬a.en.seq<b.en.seq:=by omega
  simp[this]
theorem tops_whole (l:List Fnd) (h:∀f∈l,f.whole=true/\0<=f.en.seq):tops l=l.filter λf=>f.en.seq==topSeq l:=by
 have:∀k,k<=l.length->tops (l.take k)=(l.take k).filter (λf=>f.en.seq==topSeq (l.take k))/\(tops (l.take k)=[]->k=0):=by
  intro k
  induction k with
  | zero=>intro _;simp[tops]
  | succ k ih=>
   intro hk;obtain⟨ih0,ih2⟩:=ih (by omega);clear ih;have ih:=ih0;clear ih0;obtain⟨x,hx⟩:∃x,l[k]? =some x:=⟨_,d5 (by omega)⟩;have hxl:=h x (l7 hx);rw[s6,hx,y9,tops_snoc,topSeq_snoc,H2];have htl:=topSeq_le (l.take k);have hml:∀f∈l.take k,f.whole=true/\0<=f.en.seq:=λf hf=>h f (H9 hf);generalize htp:tops (l.take k)=o at ih ih2;generalize l.take k=m at ih htl hml htp;cases o with
   | nil=>
    have hk0:=ih2 rfl;have hno:m.filter (λf=>f.en.seq==max (topSeq m) x.en.seq)=[]:=by
     rw[List.filter_eq_nil_iff];intro f hf;have h1:=htl.2 f hf;have:f∉m.filter (λf=>f.en.seq==topSeq m):=by rw[<- ih];simp
     simp only[List.mem_filter,hf,true_and,m5]at this;simp only[m5];omega
    have hmt:topSeq m<=x.en.seq:=by
     by_cases hm:m=[]
     ·subst hm;simp only[topSeq,a5E];omega
     ·exfalso
      clear hno hk0
      --the top is there
      have:∃f∈m,f.en.seq=topSeq m:=topSeq_in m hm (λf hf=>(hml f hf).2);obtain⟨f,hf,e⟩:=this;have:f∈m.filter (λf=>f.en.seq==topSeq m):=by simp[hf,e]
      rw[<- ih]at this;cases this
    rw[hno];simp only[topsStep,J6];refine⟨?_,λh=>by simp at h⟩;rw[M2 (by simp only[m5];omega)];rfl
   | cons y o=>
    have hy:y∈m.filter (λf=>f.en.seq==topSeq m):=by rw[<- ih];exact z6 ..
    simp only[List.mem_filter,m5]at hy;have hyw:=(hml y hy.1).1;simp only[topsStep];rw[behind_whole hyw hxl.1,behind_whole hxl.1 hyw]
    by_cases h1:y.en.seq<x.en.seq
    ·rw[d8 (by simpa using h1)];refine⟨?_,λh=>by simp at h⟩;have hno:m.filter (λf=>f.en.seq==max (topSeq m) x.en.seq)=[]:=by
      rw[List.filter_eq_nil_iff];intro f hf;have h1:=htl.2 f hf;simp only[m5];omega
     rw[hno,M2 (by simp only[m5];omega)];rfl
    ·rw[d7 (by simpa using h1),show max (topSeq m) x.en.seq=topSeq m by omega]
     by_cases h2:x.en.seq<y.en.seq
     ·rw[d8 (by simpa using h2)];refine⟨?_,λh=>by simp at h⟩;rw[<- ih,J7 (by simp only[m5];omega)];simp
     ·rw[d7 (by simpa using h2)];refine⟨?_,λh=>by simp at h⟩;rw[<- ih,M2 (by simp only[m5];omega)];rfl
 have:=(this l.length (j7 _)).1
 rwa [D2]at this
where
 topSeq_in (m:List Fnd) (hm:m≠[]) (h0:∀f∈m,0<=f.en.seq):∃f∈m,f.en.seq=topSeq m:=by
  have:∀(m:List Fnd) (a:Int),m.foldl (λm f=>max m f.en.seq) a=a\/∃f∈m,f.en.seq=m.foldl (λm f=>max m f.en.seq) a:=by
   intro m
   induction m with
   | nil=>intro a;left;rfl
   | cons x m ih=>
    intro a;rcases ih (max a x.en.seq)with h | ⟨f,hf,e⟩
    ·by_cases ha:x.en.seq<=a
     ·left;simp only[C0];rw[h];omega
     ·right;exact⟨x,z6 ..,by simp only[C0];rw[h];omega⟩
    ·right;exact⟨f,B3 _ hf,e⟩
  rcases this m (-1)with h | h
  ·cases m with
   | nil=>exact absurd rfl hm
   | cons x m=>
    have h1:=(topSeq_le (x::m)).2 x (z6 ..);have h2:=h0 x (z6 ..);have h3:topSeq (x::m)= -1:=h;omega
  ·exact h
end V
end Go.Proofs.YtpakpgkdpofbhaaGreat
namespace Go.Proofs.YtpakpgkdpofbhaaGreat
open Go Go.RowKit
namespace B16
def e1:En:=⟨2,5,1,1::List.replicate 15 0⟩
def e2:En:=⟨2,4,1,2::List.replicate 15 0⟩
def e3:En:=⟨1,8,2,zeros16⟩
def w1:En:=⟨4,1,0,zeros16⟩
def w2:En:=⟨5,2,0,zeros16⟩
def w3:En:=⟨4,3,0,zeros16⟩
def N0:Nand:=Nand.new 3 8 2
def N1:Nand:=(R.write N0 1 0 7 [e1,B9.pad]).1
def N2:Nand:=(R.write N1 2 0 7 [e2,e3]).1
theorem G0:N0.Gd 100 0:=Nand.Gd.new 3 8 2 rfl 100 (by decide)
theorem G1:N1.Gd 92 0:=a3D (by decide) G0
theorem G2:N2.Gd 84 0:=a3D (by decide) G1
theorem off2:N2.off=false:=by kernel_rfl
def L:List Fnd:=[⟨e1,1,0,0,7,true,false⟩,⟨e2,2,0,0,7,true,false⟩,⟨e3,2,0,1,7,true,false⟩]
def T:Tb:=⟨3,[(1,⟨2,0,1,7,8,2⟩),(2,⟨1,0,0,7,5,1⟩)],[(2,1),(1,1)],9⟩
theorem h_all:V.all N2=L:=by kernel_rfl
theorem h_go:V.goS N2 L 3 3=⟨T,[],[],[]⟩:=by kernel_rfl
theorem h_size:V.size 3=3:=by kernel_rfl
theorem h_next:V.nextOf L=9:=by kernel_rfl
theorem h_scan:V.scan N2 3=⟨T,[],0,[],9,3⟩:=by
 unfold V.scan;rw[h_all];unfold V.scanOf;rw[h_size,h_go,h_next];have:I3 (a0u [])=[]:=a5M;dsimp only;rw[this];rfl
end B16
end Go.Proofs.YtpakpgkdpofbhaaGreat
namespace Go.Proofs.YtpakpgkdpofbhaaGreat
open Go Go.RowKit
theorem b5I:FP 122 [] [] (Ps (.bool true) []):=by
 refine FE [] Tryz.func122 λX F hX=>?_;refine J.qp (b5G) [] λ_=>?_;exact J.qx []
open B16
theorem a9v:FP 75 [] [] (Ps (.bool true) []):=by
 refine FE [] Tryz.func75 λX F hX=>?_;refine J.qc (a7M 3 8 2 rfl) [] λ_=>?_;rintro v As ⟨q,rfl,rfl⟩;refine⟨_,rfl,trivial,?_⟩;refine J.qF λ_=>?_;refine J.q λbx=>?_;refine J.ca hX (by kernel_rfl) (a5c q N0 (.pt (bx 0) 113 (p5 [e1,B9.pad])) 1 0 7 (some ⟨bx 0,0,none⟩) 2 2 0 [e1,B9.pad] (a2g _ _ _ _ _ rfl) rfl (by decide) (G0.less (by decide) (j7 _))) [1,2] 0 rfl rfl rfl rfl rfl rfl (λ_=>rfl) ?_;refine cpq ⟨_,rfl,trivial,?_⟩;refine J.q λby_=>?_;refine J.ca hX (by kernel_rfl) (a5c q N1 (.pt (by_ 0) 113 (p5 [e2,e3])) 2 0 7 (some ⟨by_ 0,0,none⟩) 2 2 0 [e2,e3] (a2g _ _ _ _ _ rfl) rfl (by decide) (G1.less (by decide) (j7 _))) [1,3] 0 rfl rfl rfl rfl rfl rfl (λ_=>rfl) ?_;refine cpq ⟨_,rfl,trivial,?_⟩;refine J.qc (b2G q N2 G2.ok G2.room off2 3) [1] λ_=>?_;rintro v As ⟨r,a1,c1,a2,c2,rfl,rfl⟩;refine⟨_,rfl,trivial,?_⟩;rw[h_scan];refine J.qF λ_=>?_;refine J.qp (a2W r T 2) [4] λ_=>?_;rw[show Tb.look T.at_ 2=some ⟨1,0,0,7,5,1⟩from rfl,j5,a2t];refine J.qc (c1C) [] λ_=>?_;rintro v As ⟨d,rfl,rfl⟩;refine⟨_,rfl,trivial,?_⟩;refine J.qp (b4A d [] (by decide) w1) [9] λ_=>?_;rw[show a3U [] w1=[w1]from rfl];refine J.qp (b4A d [w1] (by decide) w2) [9] λ_=>?_;rw[show a3U [w1] w2=[w1,w2]from rfl];refine J.qp (b4A d [w1,w2] (by decide) w3) [9] λ_=>?_;rw[show a3U [w1,w2] w3=[w2,w3]from rfl];refine J.qc (b4C d [w2,w3] (by decide) 5) [9] λ_=>?_;rintro v As ⟨a3,c3,rfl,rfl⟩;refine⟨_,rfl,trivial,?_⟩;rw[show dkN [w2,w3] 5=2 from rfl,show[w2,w3].take 2=[w2,w3]from rfl];refine J.know (λh' s=>u7 (c:=(a3,c3)) (by decide) (s.get (i:=10) rfl)) λhg=>?_;obtain⟨ga,rfl⟩:=hg;refine J.know (λh' s=>a0w (show a0E _ _ (some ga) 2 c3 _ _ from s.get (i:=10) rfl)) λhcap=>?_;refine J.qp (c1D d [w2,w3] (by decide) 4) [9] λ_=>?_;rw[show a3u [w2,w3] 4=(w3,true)from rfl];refine J.qp (b5I) [] λ_=>?_;refine J.qp (b5F) [] λ_=>?_;refine J.qp (b2L r T) [4] λ_=>?_;refine J.q λ_=>?_;refine J.v (iI 5) rfl rfl (λhg a w he hw=>z7 tk rfl rfl he hg rfl rfl (hw.get (i:=10) rfl) rfl) ?_;refine J.q λ_=>?_;have hRd:Rd (l5 113 19 (some ga) 2 c3 (p5 [w2,w3])) (some ⟨ga,0,none⟩) 19 1 (p5 [w2]):=(R8 113 19 (some ga) 2 c3 (p5 [w2,w3])).take 1 (by decide);refine J.qp (b9h d [w2,w3] (by decide) (l5 113 19 (some ga) 2 c3 (p5 [w2,w3])) (some ⟨ga,0,none⟩) 1 c3 [w2] hRd rfl (by decide)) [9,10] λ_=>?_;rw[show a1l [w2,w3] [w2]=[w3]from rfl];refine J.qp (b4B d [w3]) [9] λ_=>?_;exact J.qx []
end Go.Proofs.YtpakpgkdpofbhaaGreat
namespace Go.Proofs.YtpakpgkdpofbhaaGreat
open Go Go.RowKit
theorem b1x (k:Nat) (h:k<63):((2^k:Nat):Int)*2=((2^(k+1):Nat):Int)/\0<((2^k:Nat):Int)/\((2^k:Nat):Int)*2<18446744073709551616:=by
 have h1:2^(k+1)<=2^63:=V0 (by omega) (by omega);have h2:0<2^k:=Nat.two_pow_pos k;have h3:(2:Nat)^(k+1)=2^k*2:=a1s 2 k;omega
theorem b8Z (n:Nat) (hn:n<=63):FP 311 [iI n] [] (Ps (.int .u64 ((2^n:Nat):Int)) []):=by
 refine FE [0] Tryz.func311 λX F hX=>?_;refine J.q λ_=>?_;refine J.l (α:=(Nat×Int)) (λz=>z.1<=n/\z.2=((2^z.1:Nat):Int)) (λz=>[si 4 z.1,⟨3, .int .u64 z.2,0, .tt⟩,si 0 n]) [] (λz=>[]) (λz=>n-z.1) ((0,1)) (⟨j4 _,rfl⟩) λz hI=>?_;obtain⟨k,x⟩:=z;dsimp only at hI ⊢;obtain⟨hk,hx⟩:=hI;refine J.qd (λ_ h1=>?_) λ_ h1=>?_
 ·simp only[c9,g6]at h1;have hp:=b1x k (by omega);rw[<- hx]at hp;refine J.q λ_=>?_;refine J.n ((k+1,x*2)) (⟨by dsimp only;omega,hp.1⟩) (by dsimp only;omega) [0]
 ·simp only[c8,g6]at h1;obtain rfl:k=n:=by omega
  subst hx;exact J.qx []
def dsk (m:Int) (k:Nat):List Int:=((List.range k).filter (λd:Nat=>L.has m d)).map (λd:Nat=>(d:Int))
theorem b2l (m:Int) (k:Nat):dsk m (k+1)=dsk m k++(if L.has m k then[(k:Int)]else[]):=by
 unfold dsk;rw[t6,H2,x7];cases h:L.has m k<;>simp[h]
theorem b4z (m:Int) (k:Nat):(dsk m k).length<=k:=by
 unfold dsk;rw[m9];exact E7 (B4 _ _) (by simp)
theorem b9g (m:Int) (k:Nat) (h:¬(0<=m/\m<256)):dsk m k=[]:=by simp[dsk,L.has_no m _ h]
def dI (m:Int):List Int:=dsk m 8
theorem b3x (m:Int):(dI m).length<=8:=b4z m 8
theorem c2R (m d:Nat) (hm:m<256) (hd:d<8):(((m:Int).tdiv ((2^d:Nat):Int)).tmod 2==1)=L.has (m:Int) (d:Int):=by
 rw[<- a2U,show(2:Int)=((2:Nat):Int)from rfl,<- Int.ofNat_tmod];have:L.has (m:Int) (d:Int)=m.testBit d:=by
  simp only[L.has,L.set,l6];rw[j3 (show(0:Int)<=(m:Int)by omega),j3 (show(m:Int)<256 by omega),j3 (show(0:Int)<=(d:Int)by omega),j3 (show(d:Int)<8 by omega)];rfl
 rw[this,I9]
 by_cases h:m/2^d % 2=1
 ·simp[h]
 ·rw[u9 h,j9];omega
theorem c1S (m d:Nat) (hm:m<256):(0<=(m:Int).tdiv ((2^d:Nat):Int)/\(m:Int).tdiv ((2^d:Nat):Int)<256)/\(0<=((m:Int).tdiv ((2^d:Nat):Int)).tmod 2/\((m:Int).tdiv ((2^d:Nat):Int)).tmod 2<2):=by
 rw[<- a2U,show(2:Int)=((2:Nat):Int)from rfl,<- Int.ofNat_tmod];have:=Nat.div_le_self m (2^d);generalize m/2^d=q at this ⊢;omega
theorem a5p (m:Int):FP 281 [iI m] [] (λv As=>∃a c,v=slv a (dI m).length c/\As=[l5 3 1 a (dI m).length c (n7 (dI m))]):=by
 refine FE [0] Tryz.func281 λX F hX=>?_;refine J.turn1 [] rfl (As:=[l5 3 1 none 0 0 (n7 (dsk m 0))]) (λh s=>Sep.one ⟨rfl,rfl,rfl⟩) rfl ?_;refine J.q λ_=>?_;refine J.l (α:=(Nat×Option Nat×Nat)) (λz=>z.1<=8) (λz=>[si 4 z.1,sv 3 (slv z.2.1 (dsk m z.1).length z.2.2),si 0 m]) [1] (λz=>[l5 3 1 z.2.1 (dsk m z.1).length z.2.2 (n7 (dsk m z.1))]) (λz=>8-z.1) ((0,none,0)) (j4 _) λz hI=>?_;obtain⟨k,a,c⟩:=z;dsimp only at hI ⊢;have hml:=b4z m k;refine J.qd (λ_ h1=>?_) λ_ h1=>?_
 ·simp only[i9,c9]at h1;obtain⟨⟨h1,h2⟩,h3⟩:=h1;obtain⟨m,rfl⟩:=g7 h2;have hk:k<8:=by omega
  have hp:=b1x k (by omega);have hq1:=c1S m k (by omega);have hbit:=c2R m k (by omega) hk;refine J.qp (b8Z k (by omega)) [] λ_=>?_;refine J.qd (λ_ h4=>?_) λ_ h4=>?_
  ·rw[hbit]at h4;have hs:dsk m (k+1)=dsk m k++[(k:Int)]:=by rw[b2l,d8 h4]
   have hl:(dsk m k).length+1=(dsk m (k+1)).length:=by rw[hs];simp
   refine J.q λ_=>?_;refine J.ap 1 2 0 ((U9 _ _).symm.trans (congrArg n7 hs.symm)) λa4 c4=>?_;rw[hl];refine J.q λ_=>?_;refine J.n ((k+1,a4,c4)) (by dsimp only;omega) (by dsimp only;omega) [0,1]
  ·rw[hbit]at h4;have hs:dsk m k=dsk m (k+1):=by rw[b2l,h4];simp
   rw[hs];refine J.q λ_=>?_;refine J.n ((k+1,a,c)) (by dsimp only;omega) (by dsimp only;omega) [0,1]
 ·have he:dsk m k=dI m:=by
   by_cases hm:0<=m/\m<256
   ·simp only[P9,c8]at h1;obtain rfl:k=8:=by omega
    rfl
   ·rw[b9g m k hm,dI,b9g m 8 hm]
  rw[he];refine J.qr [1] λ_=>?_;exact⟨a,c,rfl,rfl⟩
def a3m:List Int->Int->Int
 | [],_=> -1
 | x::r,d=>if x=d then 0 else if a3m r d<0 then-1 else a3m r d+1
theorem b1i:∀(l:List Int) (d:Int) (k:Nat),(∀j,j<k->l[j]?≠some d)->l[k]? =some d->a3m l d=k
 | [],d,k,_,h=>by simp at h
 | x::r,d,0,_,h=>by simp at h;simp[a3m,h]
 | x::r,d,k+1,h1,h=>by
  have h0:x≠d:=λe=>h1 0 (by omega) (by simp[e]);have:=b1i r d k (λj hj=>by have:=h1 (j+1) (by omega);simpa using this) (by simpa using h);rw[a3m,d7 h0,this,d7 (by omega)];omega
theorem b1h:∀(l:List Int) (d:Int),(∀j,j<l.length->l[j]?≠some d)->a3m l d= -1
 | [],_,_=>rfl
 | x::r,d,h=>by
  have h0:x≠d:=λe=>h 0 (by simp) (by simp[e]);have:=b1h r d (λj hj=>by have:=h (j+1) (by simpa using hj);simpa using this);rw[a3m,d7 h0,this,d8 (by omega)]
theorem c0Z (m d:Int):FP 280 [iI m,iI d] [] (Ps (iI (a3m (dI m) d)) []):=by
 have hlen:=b3x m;refine FE [0,0] Tryz.func280 λX F hX=>?_;refine J.qc (a5p m) [] λ_=>?_;rintro v As ⟨a,c,rfl,rfl⟩;refine⟨_,rfl,trivial,?_⟩;refine J.q λ_=>?_;refine J.l (α:=Nat) (λk=>k<=(dI m).length/\∀j,j<k->(dI m)[j]?≠some d) (λk=>[si 6 k,sv 5 (slv a (dI m).length c),si 1 d]) [] (λk=>[]) (λk=>(dI m).length-k) (0) (⟨j4 _,λj hj=>absurd hj (Nat.not_lt_zero j)⟩) λk hI=>?_;obtain⟨hk,hno⟩:=hI;refine J.qd (λ_ h1=>?_) λ_ h1=>?_
 ·simp only[c9,g6]at h1;refine J.know (λh' s=>u7 (c:=(a,c)) (by omega) (s.get (i:=1) rfl)) λhg=>?_;obtain⟨g1,rfl⟩:=hg;obtain⟨x,hx⟩:∃x,(dI m)[k]? =some x:=⟨_,d5 h1⟩;refine J.q λ_=>?_;refine J.v (iI x) rfl rfl (λhg a w he hs=>?_) ?_
  ·exact z7 tk rfl rfl he rfl rfl rfl (hs.get (i:=1) rfl) (by rw[show 0+(k:Int).toNat*1=k from by omega];exact L5 hx)
  refine J.qd (λ_ h2=>?_) λ_ h2=>?_
  ·simp only[m5]at h2;subst h2;rw[show(k:Int)=a3m (dI m) x from(b1i _ _ k hno hx).symm];exact J.qx []
  ·simp only[j9,D4]at h2;refine J.q λ_=>?_;refine J.n ((k+1)) (⟨by omega,λj hj=>by rcases Nat.lt_succ_iff_lt_or_eq.1 hj with h | rfl;exact hno j h;rw[hx];simpa using h2⟩) (by omega) [0,1]
 ·simp only[c8,g6]at h1;refine J.qr [] λ_=>?_;exact⟨by rw[b1h _ _ (λj hj=>hno j (by omega))],rfl⟩
theorem b8Y (m:Int):FP 275 [iI m] [] (Ps (iI (if 2<=(dI m).length then((dI m).length:Int)-1 else 0)) []):=by
 have hlen:=b3x m;refine FE [0] Tryz.func275 λX F hX=>?_;refine J.qc (a5p m) [] λ_=>?_;rintro v As ⟨a,c,rfl,rfl⟩;refine⟨_,rfl,trivial,?_⟩;refine J.qd (λ_ h1=>?_) λ_ h1=>?_
 ·simp only[c9]at h1;refine J.qr [] λ_=>?_;exact⟨by rw[d8 (by omega)],rfl⟩
 ·simp only[c8]at h1;refine J.qr [] λ_=>?_;exact⟨by rw[d7 (by omega)],rfl⟩
namespace K
theorem step_lt0 {s x:Nat} (hs:s<4294967296) (hx:x<256):s ^^^ (x*16777216)<4294967296:=J1 (n:=32) (by omega) (by omega)
end K
namespace Bt
theorem byteAt_congr {a b:List Bool} {i j:Nat} (h:∀k,k<8->a.getD (i+k) false=b.getD (j+k) false):byteAt a i=byteAt b j:=by
 have h0:=h 0 (by omega);rw[L8,L8]at h0;unfold byteAt;rw[h0,h 1 (by omega),h 2 (by omega),h 3 (by omega),h 4 (by omega),h 5 (by omega),h 6 (by omega),h 7 (by omega)]
theorem pack_append (A C:List Bool) (q:Nat) (hA:A.length=8*q):pack (A++C)=pack A++pack C:=by
 apply v6;intro j;have hl:(pack A).length=q:=by rw[length_pack,hA];omega
 rw[M9,hl]
 by_cases hj:j<(A.length+C.length+7)/8
 ·rw[pack_get _ _ (by rw[f9];exact hj)];split
  ·rename_i h;rw[pack_get _ _ (by rw[hA];omega)];congr 2;refine byteAt_congr λk hk=>?_;simp only[d6];rw[t7 (by omega)]
  ·rename_i h;rw[pack_get _ _ (by omega)];congr 2;refine byteAt_congr λk hk=>?_;simp only[d6];rw[y6 (by omega)];congr 2;omega
 ·rw[l4 (by rw[length_pack,f9];omega),d7 (by omega),l4 (by rw[length_pack];omega)]
theorem bits_inj {u v:Nat} (hu:u<4294967296) (hv:v<4294967296) (h:pack (bits u 32)=pack (bits v 32)):u=v:=by
 have h1:=numAt_pack [] [] u 32 0 rfl;have h2:=numAt_pack [] [] v 32 0 rfl;simp only[J6,n9]at h1 h2;rw[h,h2]at h1;omega
end Bt
namespace Bt
theorem num_snoc (l:List Bool) (x:Bool):num (l++[x])=num l*2+x.toNat:=by
 unfold num;rw[z8];rfl
theorem num_take_succ (l:List Bool) (k:Nat) (x:Bool) (h:l[k]? =some x):num (l.take (k+1))=num (l.take k)*2+x.toNat:=by
 rw[s6,h,y9,num_snoc]
theorem num_take_lt (l:List Bool):∀k,num (l.take k)<2^k
 | 0=>by simp[num]
 | k+1=>by
  have ih:=num_take_lt l k;rw[a1s];cases h:l[k]? with
  | none=>rw[s6,h,Option.toList_none,n9];omega
  | some x=>rw[num_take_succ l k x h];have:=Z0 x;omega
theorem bits_at (u w i:Nat) (h:i<w):(bits u w)[i]? =some (u.testBit (w-1-i)):=by simp[bits,h]
theorem num_bits_take (u w:Nat):∀k,k<=w->num ((bits u w).take k)=u/2^(w-k) % 2^k
 | 0,_=>by simp[num,Nat.mod_one]
 | v+1,hv=>by
  rw[num_take_succ _ _ _ (bits_at u w v (by omega)),num_bits_take u w v (by omega),I9];have e1:w-v=(w-1-v)+1:=by omega
  have e2:w-(v+1)=w-1-v:=by omega
  rw[e1,e2,a1s,<- Nat.div_div_eq_div_mul,a1s 2 v,R4 (2^v) 2,Nat.mod_mul,R4 _ 2];generalize u/2^(w-1-v)=x;rcases Nat.mod_two_eq_zero_or_one x with hx | hx
  ·rw[hx];simp
  ·rw[hx];simp[U7]
theorem num_bits (u w:Nat) (h:u<2^w):num (bits u w)=u:=by
 have:=num_bits_take u w w (j7 _);rw[m7 (by rw[length_bits];exact j7 _),U6,Nat.pow_zero,Nat.div_one,G9 h]at this;exact this
theorem length_unpack (b:List UInt8):(unpack b).length=8*b.length:=by
 induction b with
 | nil=>rfl
 | cons x b ih=>
  unfold unpack at ih ⊢;rw[q9,f9,length_bits,ih,m6];omega
theorem unpack_get:∀(b:List UInt8) (j:Nat),j<8*b.length->(unpack b)[j]? =some (bitAt b j)
 | [],j,h=>by simp at h
 | x::b,j,h=>by
  have ih:=unpack_get b (j-8);unfold unpack at ih ⊢;rw[q9]
  by_cases h8:j<8
  ·rw[t7 (by rw[length_bits];exact h8),bits_at _ _ _ h8];unfold bitAt;rw[show j/8=0 from by omega,show j % 8=j from by omega];rfl
  ·rw[y6 (by rw[length_bits];omega),length_bits,ih (by rw[m6]at h;omega)];unfold bitAt;rw[show j/8=(j-8)/8+1 from by omega,show(j-8) % 8=j % 8 from by omega];rfl
theorem unpack_snoc (b:List UInt8) (x:UInt8):unpack (b++[x])=unpack b++bits x.toNat 8:=by
 unfold unpack;rw[C5];simp
theorem numAt_num (b:List UInt8) (k:Nat):∀w,k+w<=8*b.length->num (((unpack b).drop k).take w)=numAt b k w
 | 0,_=>by simp[num,numAt]
 | w+1,h=>by
  rw[num_take_succ _ _ (bitAt b (k+w)) (by rw[C4];exact unpack_get b _ (by omega)),numAt_num b k w (by omega),numAt,R4]
theorem ext_bits {l m:List Bool} (n:Nat) (h1:l.length=n) (h2:m.length=n) (h:∀i,i<n->l.getD i false=m.getD i false):l=m:=by
 apply List.ext_getElem (by omega);intro i a b;have:=h i (by omega)
 rwa [d6,d6,d5 a,d5 b,j5,j5]at this
theorem bits_getD (u w i:Nat) (h:i<w):(bits u w).getD i false=u.testBit (w-1-i):=by
 rw[d6,bits_at u w i h];rfl
theorem bits_xor (a b w i:Nat) (h:i<w):(bits (a ^^^ b) w).getD i false=((bits a w).getD i false !=(bits b w).getD i false):=by
 rw[bits_getD _ _ _ h,bits_getD _ _ _ h,bits_getD _ _ _ h,Nat.testBit_xor]
theorem bits_shift (a i:Nat) (h:i<32):(bits (a*2 % 4294967296) 32).getD i false=if i=31 then false else(bits a 32).getD (i+1) false:=by
 rw[bits_getD _ _ _ h,show(4294967296:Nat)=2^32 from rfl,Nat.testBit_mod_two_pow,j3 (by omega),o0]
 by_cases e:i=31
 ·subst e;rw[d8 rfl];simp
 ·rw[d7 e,bits_getD _ _ _ (by omega),show 32-1-i=(32-1-(i+1))+1 from by omega,Nat.testBit_succ,Nat.mul_div_cancel _ (by omega)]
theorem bits_top (x i:Nat) (hx:x<256) (h:i<32):(bits (x*16777216) 32).getD i false=if i<8 then(bits x 8).getD i false else false:=by
 rw[bits_getD _ _ _ h,show(16777216:Nat)=2^24 from rfl,Nat.testBit_mul_two_pow]
 by_cases e:i<8
 ·rw[d8 e,bits_getD _ _ _ e,j3 (by omega),o0];congr 1;omega
 ·rw[d7 e,u9 (by omega),O0]
theorem bits_high (a:Nat) (h:a<4294967296):(bits a 32).getD 0 false=decide (2147483648<=a):=by
 rw[bits_getD _ _ _ (by omega),I9];show decide (a/2147483648 % 2=1)=_
 by_cases h2:2147483648<=a
 ·rw[j3 h2,j3 (by omega)]
 ·rw[u9 h2,u9 (by omega)]
theorem unpack_append (a b:List UInt8):unpack (a++b)=unpack a++unpack b:=by unfold unpack;rw[C5]
theorem unpack_take (c:List UInt8) (n:Nat) (h:n<=c.length):unpack (c.take n)=(unpack c).take (8*n):=by
 have h1:=unpack_append (c.take n) (c.drop n);rw[C1]at h1;rw[h1,B6 (by rw[length_unpack,l9,J5 h])]
theorem unpack_drop (c:List UInt8) (n:Nat) (h:n<=c.length):unpack (c.drop n)=(unpack c).drop (8*n):=by
 have h1:=unpack_append (c.take n) (c.drop n);rw[C1]at h1;rw[h1,T4 (by rw[length_unpack,l9,J5 h])]
theorem pack_byte (x:UInt8):pack (bits x.toNat 8)=[x]:=by
 have key:∀n,n<256->pack (bits n 8)=[UInt8.ofNat n]:=by decide+kernel
 rw[key _ x.toNat_lt,UInt8.ofNat_toNat]
theorem pack_unpack (c:List UInt8):pack (unpack c)=c:=by
 induction c with
 | nil=>rfl
 | cons x c ih=>
  have h1:unpack (x::c)=bits x.toNat 8++unpack c:=by unfold unpack;rw[q9]
  rw[h1,pack_append _ _ 1 (length_bits _ _),pack_byte,ih];rfl
theorem numAt_bit (b:List UInt8) (k:Nat):∀w i,i<w->(numAt b k w).testBit (w-1-i)=bitAt b (k+i)
 | 0,i,h=>by omega
 | w+1,i,h=>by
  rw[numAt];have hb:=Z0 (bitAt b (k+w))
  by_cases e:i=w
  ·subst e;rw[show i+1-1-i=0 from by omega,Nat.testBit_zero];cases bitAt b (k+i)<;>simp<;>omega
  ·rw[show w+1-1-i=(w-1-i)+1 from by omega,Nat.testBit_succ,show(2*numAt b k w+(bitAt b (k+w)).toNat)/2=numAt b k w from by omega];exact numAt_bit b k w i (by omega)
theorem bits_numAt (b:List UInt8) (k w:Nat) (h:k+w<=8*b.length):bits (numAt b k w) w=((unpack b).drop k).take w:=by
 refine ext_bits w (length_bits _ _) (by rw[l9,x4,length_unpack];omega) λi hi=>?_;rw[bits_getD _ _ _ hi,numAt_bit b k w i hi,d6,A9,d8 hi,C4,unpack_get b _ (by omega)];rfl
end Bt
namespace K
theorem round_bits (a:Nat) (h:a<4294967296) (i:Nat) (hi:i<32):(Bt.bits (round a) 32).getD i false=((if i=31 then false else(Bt.bits a 32).getD (i+1) false) !=((Bt.bits a 32).getD 0 false&&(Bt.bits 1947962583 32).getD i false)):=by
 rw[Bt.bits_high a h,<- Bt.bits_shift a i hi];unfold round;split
 ·rename_i h2;rw[u9 (by omega),O0,Bool.bne_false,G9 (by omega)]
 ·rename_i h2;rw[j3 (by omega),o0,Bt.bits_xor _ _ _ _ hi]
theorem step_bits (s x:Nat) (hx:x<256) (i:Nat) (hi:i<32):(Bt.bits (s ^^^ (x*16777216)) 32).getD i false=if i<8 then((Bt.bits s 32).getD i false !=(Bt.bits x 8).getD i false)else(Bt.bits s 32).getD i false:=by
 rw[Bt.bits_xor _ _ _ _ hi,Bt.bits_top x i hx hi];split
 ·rfl
 ·rw[Bool.bne_false]
end K
namespace S
theorem head_fields (p:List UInt8) (hp:p.length=32):head (fields p)=Bt.unpack ((p.drop 16).take 12):=by
 have hl:(p.drop 16).length=16:=by rw[x4,hp]
 rw[Bt.unpack_take _ _ (by omega)];have hm:=Bt.numAt_lt (p.drop 16) 0 64;have hmeta:meta_ (fields p).role (fields p).lpn (fields p).seq=Bt.numAt (p.drop 16) 0 64:=by
  show meta_ ((Bt.numAt (p.drop 16) 0 64/72057594037927936:Nat):Int) ((Bt.numAt (p.drop 16) 0 64/1099511627776 % 65536:Nat):Int) ((Bt.numAt (p.drop 16) 0 64 % 1099511627776:Nat):Int)=_;generalize Bt.numAt (p.drop 16) 0 64=m at hm;have hm2:m<18446744073709551616:=hm;unfold meta_;omega
 unfold head;rw[hmeta];show Bt.bits (Bt.numAt (p.drop 16) 0 64) 64++Bt.bits ((Bt.numAt (p.drop 16) 64 8:Nat):Int).toNat 8++Bt.bits ((Bt.numAt (p.drop 16) 72 8:Nat):Int).toNat 8++Bt.bits ((Bt.numAt (p.drop 16) 80 8:Nat):Int).toNat 8++Bt.bits ((Bt.numAt (p.drop 16) 88 8:Nat):Int).toNat 8=_;rw[l6,l6,l6,l6,Bt.bits_numAt _ _ _ (by omega),Bt.bits_numAt _ _ _ (by omega),Bt.bits_numAt _ _ _ (by omega),Bt.bits_numAt _ _ _ (by omega),Bt.bits_numAt _ _ _ (by omega)];generalize Bt.unpack (p.drop 16)=U;rw[show 8*12=64+8+8+8+8 from rfl,List.take_add,List.take_add,List.take_add,List.take_add,Q0]
theorem put_eq (p:List UInt8) (hp:p.length=32):put (fields p)=p.take 28++Bt.pack (Bt.bits (K.sum (p.take 28)) 32):=by
 have hd:(fields p).data=p.take 16:=rfl;have h28:p.take 16++(p.drop 16).take 12=p.take 28:=by rw[show 28=16+12 from rfl,List.take_add]
 unfold put;rw[head_fields p hp,hd,Bt.pack_append _ _ 12 (by rw[Bt.length_unpack,l9,x4,hp];rfl),Bt.pack_unpack,<- s8,h28]
theorem put_fields (p:List UInt8) (hp:p.length=32):put (fields p)=p↔Bt.numAt p 224 32=K.sum (p.take 28):=by
 rw[put_eq p hp];have h1:Bt.pack (Bt.bits (Bt.numAt p 224 32) 32)=p.drop 28:=by
  rw[Bt.bits_numAt _ _ _ (by omega),m7 (by rw[x4,Bt.length_unpack,hp];exact j7 _),show 224=8*28 from rfl,<- Bt.unpack_drop _ _ (by omega),Bt.pack_unpack]
 constructor
 ·intro h;have h2:p.take 28++Bt.pack (Bt.bits (K.sum (p.take 28)) 32)=p.take 28++p.drop 28:=by rw[h,C1]
  have h3:=List.append_cancel_left h2;exact Bt.bits_inj (Bt.numAt_lt p 224 32) (K.sum_lt _) (h1.trans h3.symm)
 ·intro h;rw[<- h,h1,C1]
theorem get_some (p:List UInt8) (hp:p.length=32):get p=if Bt.numAt p 224 32=K.sum (p.take 28)/\may (fields p)=true then some (fields p)else none:=by
 unfold get
 by_cases h1:Bt.numAt p 224 32=K.sum (p.take 28)
 ·by_cases h2:may (fields p)=true
  ·rw[d8 ⟨h2,(put_fields p hp).2 h1⟩,d8 ⟨h1,h2⟩]
  ·rw[d7 (λh=>h2 h.1),d7 (λh=>h2 h.2)]
 ·rw[d7 (λh=>h1 ((put_fields p hp).1 h.2)),d7 (λh=>h1 h.1)]
theorem field_role (p:List UInt8) (hp:p.length=32):(fields p).role=(Bt.numAt p 128 8:Nat)/\(fields p).lpn=(Bt.numAt p 136 16:Nat)/\(fields p).seq=(Bt.numAt p 152 40:Nat):=by
 have hb:∀j,Bt.bitAt (p.drop 16) j=Bt.bitAt p (128+j):=λj=>by
  unfold Bt.bitAt;rw[show(128+j)/8=16+j/8 from by omega,show(128+j) % 8=j % 8 from by omega];simp[d6]
 have hs:∀k w,Bt.numAt (p.drop 16) k w=Bt.numAt p (128+k) w:=λk w=>by
  induction w with
  | zero=>rfl
  | succ w ih=>rw[Bt.numAt,Bt.numAt,ih,hb,a0G]
 have hadd:∀k v w,Bt.numAt p k (v+w)=Bt.numAt p k v*2^w+Bt.numAt p (k+v) w:=λk v w=>by
  induction w with
  | zero=>simp[Bt.numAt]
  | succ w ih=>rw[<- a0G,Bt.numAt,Bt.numAt,ih,a1s,a0G k v w];generalize Bt.numAt p k v=x;generalize Bt.numAt p (k+v) w=y;rw[Nat.mul_add,<- Nat.mul_assoc,R4 2 x,Nat.mul_assoc x 2,R4 2 (2^w),a0G]
 have e:Bt.numAt (p.drop 16) 0 64=Bt.numAt p 128 8*72057594037927936+(Bt.numAt p 136 16*1099511627776+Bt.numAt p 152 40):=by
  rw[hs,show(64:Nat)=8+(16+40)from rfl,hadd,hadd]
 have h1:=Bt.numAt_lt p 128 8;have h2:=Bt.numAt_lt p 136 16;have h3:=Bt.numAt_lt p 152 40;show((Bt.numAt (p.drop 16) 0 64/72057594037927936:Nat):Int)=_/\((Bt.numAt (p.drop 16) 0 64/1099511627776 % 65536:Nat):Int)=_/\((Bt.numAt (p.drop 16) 0 64 % 1099511627776:Nat):Int)=_;rw[e];generalize Bt.numAt p 128 8=a at*;generalize Bt.numAt p 136 16=b at*;generalize Bt.numAt p 152 40=c at*;have h1:a<256:=h1;have h2:b<65536:=h2;have h3:c<1099511627776:=h3;omega
theorem field_rest (p:List UInt8) (hp:p.length=32):(fields p).block=(Bt.numAt p 192 8:Nat)/\(fields p).row=(Bt.numAt p 200 8:Nat)/\(fields p).mask=(Bt.numAt p 208 8:Nat)/\(fields p).kind=(Bt.numAt p 216 8:Nat):=by
 have hb:∀j,Bt.bitAt (p.drop 16) j=Bt.bitAt p (128+j):=λj=>by
  unfold Bt.bitAt;rw[show(128+j)/8=16+j/8 from by omega,show(128+j) % 8=j % 8 from by omega];simp[d6]
 have hs:∀k w,Bt.numAt (p.drop 16) k w=Bt.numAt p (128+k) w:=λk w=>by
  induction w with
  | zero=>rfl
  | succ w ih=>rw[Bt.numAt,Bt.numAt,ih,hb,a0G]
 refine⟨?_,?_,?_,?_⟩
 ·show((Bt.numAt (p.drop 16) 64 8:Nat):Int)=_;rw[hs]
 ·show((Bt.numAt (p.drop 16) 72 8:Nat):Int)=_;rw[hs]
 ·show((Bt.numAt (p.drop 16) 80 8:Nat):Int)=_;rw[hs]
 ·show((Bt.numAt (p.drop 16) 88 8:Nat):Int)=_;rw[hs]
end S
section
variable {P : Program} {T : Tab} {E : Env} {n : Nat} {ac : Act} {w : World}
end
theorem a1E {l:List Bool} (r:List Value) {k:Nat} (h:k<l.length):(C3 l++r)[k]? =some (.bool (l.getD k false)):=by
 rw[t7 (by rw[Q5];exact h),a0R (d5 h),d6,d5 h];rfl
theorem a8u {l:List Bool} (r:List Value) {k:Nat} (v:Bool) (h:k<l.length):(C3 l++r).set k (.bool v)=C3 (l.set k v)++r:=by
 rw[H8 _ _ (by rw[Q5];exact h)];unfold C3;rw[D7]
theorem b3B (a b:List Bool):C3 (a++b)=C3 a++C3 b:=by simp[C3]
theorem a6C (a:List Bool) (k:Nat):C3 (a.drop k)=(C3 a).drop k:=by simp[C3,List.map_drop]
theorem b2v (a:List Bool) (k:Nat):C3 (a.take k)=(C3 a).take k:=by simp[C3,a4a]
theorem a8v (l:List Bool):∀u∈C3 l,u.oneCell'=true:=by
 intro u hu;obtain⟨b,_,rfl⟩:=List.mem_map.1 hu;rfl
theorem c3Q (u j:Nat):((((u:Int).tdiv ((2^j:Nat):Int)).tmod 2)==1)=u.testBit j:=by
 rw[<- a2U,show(2:Int)=((2:Nat):Int)from rfl,<- Int.ofNat_tmod,I9]
 by_cases h:u/2^j % 2=1
 ·simp[h]
 ·rw[u9 h,j9];omega
theorem a7a (u w:Nat) (hu:u<18446744073709551616) (hw:w<=64):FP 339 [.int .u64 u,iI w] [] (λv As=>∃a c,v=slv a w c/\As=[l5 4 1 a w c (C3 (Bt.bits u w))]):=by
 refine FE [0,0] Tryz.func339 λX F hX=>?_;refine J.turn1 [] rfl (As:=[l5 4 1 none 0 0 (C3 ((Bt.bits u w).take 0))]) (λh s=>Sep.one ⟨rfl,rfl,rfl⟩) rfl ?_;refine J.q λ_=>?_;refine J.l (α:=(Nat×Int×Option Nat×Nat)) (λz=>z.1<=w/\z.2.1=(w:Int)-1-z.1) (λz=>[si 6 z.2.1,sv 5 (slv z.2.2.1 z.1 z.2.2.2),⟨0, .int .u64 u,0, .tt⟩]) [1] (λz=>[l5 4 1 z.2.2.1 z.1 z.2.2.2 (C3 ((Bt.bits u w).take z.1))]) (λz=>w-z.1) ((0,(w:Int)-1,none,0)) (⟨j4 _,by simp⟩) λz hI=>?_;obtain⟨k,ii,a,c⟩:=z;dsimp only at hI ⊢;obtain⟨hI,hi⟩:=hI;refine J.qd (λ_ h1=>?_) λ_ h1=>?_
 ·simp only[c9]at h1;obtain⟨j,rfl⟩:=g7 h1;have hj:j=w-1-k:=by omega
  have h2:2^j<=2^63:=V0 (by omega) (by omega);have h3:0<2^j:=Nat.two_pow_pos _;have hq:(0<=(u:Int).tdiv ((2^j:Nat):Int)/\(u:Int).tdiv ((2^j:Nat):Int)<18446744073709551616)/\(0<=((u:Int).tdiv ((2^j:Nat):Int)).tmod 2/\((u:Int).tdiv ((2^j:Nat):Int)).tmod 2<2):=by
   rw[<- a2U,show(2:Int)=((2:Nat):Int)from rfl,<- Int.ofNat_tmod];have:=Nat.div_le_self u (2^j);generalize u/2^j=q at this ⊢;omega
  have hbit:=c3Q u j;have hs:(Bt.bits u w).take (k+1)=(Bt.bits u w).take k++[u.testBit j]:=by
   rw[s6,Bt.bits_at u w k (by omega),hj];rfl
  refine J.qp (b8Z j (by omega)) [] λ_=>?_;refine J.q λ_=>?_;rw[hbit];refine J.ap 1 2 0 ((a3X _ _).symm.trans (congrArg C3 hs.symm)) λa4 c4=>?_;refine J.q λ_=>?_;refine J.n ((k+1,(j:Int)-1,a4,c4)) (⟨by dsimp only;omega,by dsimp only;omega⟩) (by dsimp only;omega) [0,1]
 ·simp only[c8]at h1;have hkw:k=w:=by omega
  have ht:(Bt.bits u w).take k=Bt.bits u w:=m7 (by rw[Bt.length_bits];omega);rw[ht,hkw];refine J.qr [1] λ_=>?_;exact⟨a,c,rfl,rfl⟩
theorem b9a (A:Atom) (a:Option Addr) (n cap:Nat) (l:List Bool) (hA:Rd A a 1 n (C3 l)) (hl:l.length=n) (hn:n<=64):FP 328 [.slice a n cap] [A] (Ps (.int .u64 (Bt.num l)) [A]):=by
 refine FE [0] Tryz.func328 λX F hX=>?_;refine J.q λ_=>?_;refine J.l (α:=Nat) (λk=>k<=n) (λk=>[si 4 k,⟨3, .int .u64 (Bt.num (l.take k)),0, .tt⟩,sv 0 (.slice a n cap)]) [] (λk=>[]) (λk=>n-k) (0) (j4 _) λk hI=>?_;refine J.qd (λ_ h1=>?_) λ_ h1=>?_
 ·simp only[c9,g6]at h1;obtain⟨x,hx⟩:∃x,l[k]? =some x:=⟨_,d5 (by omega)⟩;have hs:=Bt.num_take_succ l k x hx;have hlt:=Bt.num_take_lt l (k+1);have hp:2^(k+1)<=2^64:=V0 (by omega) (by omega);have hlt2:Bt.num (l.take (k+1))<18446744073709551616:=a5D hlt hp;rw[hs]at hlt2;refine J.know (p:=∃g o,a=some ⟨g,o,none⟩) (λh' s=>Rd.addr (hA _ (s.get (i:=1) rfl)) (by omega)) λhk=>?_;obtain⟨gm,om,rfl⟩:=hk;refine J.q λ_=>?_;refine J.v (.bool x) rfl rfl (λhg a w he hw=>a2f tk rfl rfl he rfl rfl rfl (hA _ (hw.get (i:=1) rfl)) (by omega) (j:=k) (by omega) (a0R hx)) ?_;refine J.qd (λ_ h3=>?_) λ_ h3=>?_
  ·subst h3;rw[show(true:Bool).toNat=1 from rfl]at hs hlt2;refine J.q λ_=>?_;rw[show((Bt.num (l.take k):Nat):Int)*2+1=((Bt.num (l.take (k+1)):Nat):Int)from by omega];refine J.q λ_=>?_;refine J.n (k+1) (by omega) (by omega) [0,1]
  ·subst h3;rw[show(false:Bool).toNat=0 from rfl]at hs hlt2;rw[show((Bt.num (l.take k):Nat):Int)*2=((Bt.num (l.take (k+1)):Nat):Int)from by omega];refine J.q λ_=>?_;refine J.n (k+1) (by omega) (by omega) [0,1]
 simp only[c8,g6]at h1;have htk:l.take k=l:=m7 (by omega);rw[htk];exact J.qx [1]
theorem c3I (A:Atom) (a:Option Addr) (n cap:Nat) (l:List UInt8) (hA:Rd A a 1 n (l.map bv)) (hl:l.length=n) (hn:n<=64):FP 329 [.slice a n cap] [A] (λv As=>∃a' c',v=slv a' (n*8) c'/\As=[A,l5 4 1 a' (n*8) c' (C3 (Bt.unpack l))]):=by
 refine FE [0] Tryz.func329 λX F hX=>?_;refine J.turn1 [] rfl (As:=[l5 4 1 none (0*8) 0 (C3 (Bt.unpack (l.take 0)))]) (λh s=>Sep.one ⟨rfl,rfl,rfl⟩) rfl ?_;refine J.q λ_=>?_;refine J.l (α:=(Nat×Option Nat×Nat)) (λz=>z.1<=n) (λz=>[si 4 z.1,sv 3 (slv z.2.1 (z.1*8) z.2.2),sv 0 (.slice a n cap)]) [2] (λz=>[l5 4 1 z.2.1 (z.1*8) z.2.2 (C3 (Bt.unpack (l.take z.1)))]) (λz=>n-z.1) ((0,none,0)) (j4 _) λz hI=>?_;obtain⟨k,b,c⟩:=z;dsimp only at hI ⊢;refine J.qd (λ_ h1=>?_) λ_ h1=>?_
 ·simp only[c9,g6]at h1;obtain⟨x,hx⟩:∃x,l[k]? =some x:=⟨_,d5 (by omega)⟩;have hs:Bt.unpack (l.take (k+1))=Bt.unpack (l.take k)++Bt.bits x.toNat 8:=by
   rw[s6,hx,y9,Bt.unpack_snoc]
  have hxl:x.toNat<256:=x.toNat_lt;refine J.know (p:=∃g o,a=some ⟨g,o,none⟩) (λh' s=>Rd.addr (hA _ (s.get (i:=1) rfl)) (by omega)) λhk=>?_;obtain⟨gm,om,rfl⟩:=hk;refine J.q λ_=>?_;refine J.v (bv x) rfl rfl (λhg a w he hw=>a2f tk rfl rfl he rfl rfl rfl (hA _ (hw.get (i:=1) rfl)) (by omega) (j:=k) (by omega) (by rw[j6,hx];rfl)) ?_;refine J.qc (a7a x.toNat 8 (by omega) (by omega)) [] λ_=>?_;rintro v As ⟨a3,c3,rfl,rfl⟩;refine⟨_,rfl,trivial,?_⟩;refine J.know (λh' s=>u7 (c:=(a3,c3)) (by omega) (s.get (i:=3) rfl)) λhg=>?_;obtain⟨g3,rfl⟩:=hg;refine J.q λ_=>?_;refine J.appendR hX tk 2 3 0 rfl rfl rfl rfl rfl rfl rfl rfl rfl rfl (R8 _ _ _ _ _ _) rfl rfl rfl rfl (a8v _) ?_ ?_ (λ_=>rfl) λa4 c4=>⟨_,(congrArg (λz=>Q2 _ 2 (l5 _ _ _ _ _ z)) ((b3B _ _).symm.trans (congrArg C3 hs.symm))).trans rfl,trivial,?_⟩
  ·simp only[maxLen];omega
  ·omega
  rw[show k*8+8=(k+1)*8 from by omega];refine J.q λ_=>?_;refine J.n ((k+1,a4,c4)) (by dsimp only;omega) (by dsimp only;omega) [0,1,2]
 ·simp only[c8,g6]at h1;have hkn:k=n:=by omega
  have ht:l.take k=l:=m7 (by omega);rw[ht,hkn];refine J.qr [1,2] λ_=>?_;exact⟨b,c,rfl,rfl⟩
theorem c0Y (s x:Nat) (hs:s<4294967296) (hx:x<256):FP 330 [.int .u32 s, .int .u8 x] [] (Ps (.int .u32 (K.step s x)) []):=by
 have hs0:s ^^^ x*16777216<4294967296:=K.step_lt0 hs hx;have hst:K.step s x=K.rounds 8 (s ^^^ x*16777216):=rfl;obtain⟨s0,hs0e⟩:∃s0,s ^^^ x*16777216=s0:=⟨_,rfl⟩;have hsb:=K.step_bits s x hx;rw[hs0e]at hs0 hst hsb;obtain⟨P0,hP0⟩:∃P0,Bt.bits 1947962583 32=P0:=⟨_,rfl⟩;have hP0l:P0.length=32:=by rw[<- hP0,Bt.length_bits]
 refine FE [0,0] Tryz.func330 λX F hX=>?_;refine J.qc (a7a s 32 (by omega) (by omega)) [] λ_=>?_;rintro v As ⟨a1,c1,rfl,rfl⟩;refine⟨_,rfl,trivial,?_⟩;refine J.qc (a7a x 8 (by omega) (by omega)) [] λ_=>?_;rintro v As ⟨a2,c2,rfl,rfl⟩;refine⟨_,rfl,trivial,?_⟩;refine J.qc (a7a 1947962583 32 (by omega) (by omega)) [] λ_=>?_;rintro v As ⟨a3,c3,rfl,rfl⟩;refine⟨_,rfl,trivial,?_⟩;rw[hP0];refine J.know (λh' s=>u7 (c:=(a1,c1)) (by omega) (s.get (i:=1) rfl)) λhg=>?_;obtain⟨g1,rfl⟩:=hg;refine J.know (λh' s=>u7 (c:=(a2,c2)) (by omega) (s.get (i:=2) rfl)) λhg=>?_;obtain⟨g2,rfl⟩:=hg;refine J.know (λh' s=>u7 (c:=(a3,c3)) (by omega) (s.get (i:=3) rfl)) λhg=>?_;obtain⟨g3,rfl⟩:=hg;refine J.q λ_=>?_;refine J.openOwn 1 rfl rfl (λ_=>rfl) λr q1 q2 q3 q4=>?_;refine J.q λ_=>?_;refine J.l (α:=(Nat×List Bool)) (λz=>z.1<=8/\z.2.length=32/\∀i,i<32->z.2.getD i false=if i<z.1 then((Bt.bits s 32).getD i false !=(Bt.bits x 8).getD i false)else(Bt.bits s 32).getD i false) (λz=>[si 8 z.1,sv 5 (slv (some g1) 32 c1),sv 6 (slv (some g2) 8 c2),sv 7 (slv (some g3) 32 c3)]) [1] (λz=>[.pt g1 4 (C3 z.2++r)]) (λz=>8-z.1) ((0,Bt.bits s 32)) (⟨j4 _,Bt.length_bits _ _,λi hi=>by simp⟩) λz hI=>?_;obtain⟨k,l⟩:=z;dsimp only at hI ⊢;obtain⟨hk,hl,hv⟩:=hI;refine J.qd (λ_ h1=>?_) λ_ h1=>?_
 ·simp only[c9]at h1;have h1:k<8:=by omega
  refine J.pq (.of [0,4,8,12,16,21,24,28,32,37,40,44,51]) [11,12] [1,2,3] λ_ _=>?_;refine J.vT (.bool (l.getD k false)) rfl rfl (λhg a w he hC=>?_) ?_
  ·exact x9 tk rfl rfl he hg rfl rfl (hC rfl _ (r8 (i:=1) rfl)) (by rw[show 0+(k:Int).toNat*1=k from by omega];exact a1E r (by omega))
  refine J.q λ_=>?_;refine J.vT (.bool ((Bt.bits x 8).getD k false)) rfl rfl (λhg a w he hC=>z7 tk rfl rfl he hg rfl rfl (hC rfl _ (r8 (i:=2) rfl)) (by rw[show 0+(k:Int).toNat*1=k from by omega];have:=a1E (l:=Bt.bits x 8) [] (k:=k) (by rw[Bt.length_bits];omega);rwa [n9]at this)) ?_;refine J.q λ_=>?_;refine J.s1 1 (C3 (l.set k (l.getD k false !=(Bt.bits x 8).getD k false))++r) ?_ ?_ ?_
  ·rw[show 0+(k:Int).toNat*1=k from by omega,f9,Q5];omega
  ·rw[show 0+(k:Int).toNat*1=k from by omega];exact a8u r _ (by omega)
  refine J.q λ_=>?_;refine J.nS ((k+1,l.set k (l.getD k false !=(Bt.bits x 8).getD k false))) (⟨by dsimp only;omega,by rw[n8];exact hl,λi hi=>by
   have hvk:=hv k (by omega);rw[d7 (by omega)]at hvk;dsimp only;rw[d6,r9,hl]
   by_cases e:k=i
   ·subst e;rw[d8 rfl,d8 (by omega),d8 (by omega),hvk];rfl
   ·rw[d7 e,<- d6,hv i hi]
    by_cases h9:i<k
    ·rw[d8 h9,d8 (by omega)]
    ·rw[d7 h9,d7 (by omega)]⟩) (by dsimp only;omega) [0,1,2,3] rfl rfl
 simp only[c8]at h1;obtain rfl:l=Bt.bits s0 32:=Bt.ext_bits 32 hl (Bt.length_bits _ _) λi hi=>by
  rw[hv i hi,hsb i hi]
  by_cases h9:i<8
  ·rw[d8 h9,d8 (by omega)]
  ·rw[d7 h9,d7 (by omega)]
 refine J.closeOwn (e:=4) (size:=1) (n:=32) (cap:=c1) (xs:=C3 (Bt.bits s0 32)) 1 rfl rfl (by rw[Q5,hl]) q2 q3 (by rw[f9,Q5,hl];rw[Q5,Bt.length_bits]at q4;exact q4) (B6 (by rw[Q5,hl])) rfl ?_;refine J.q λ_=>?_;refine J.l (α:=(Nat×Option Nat×Nat)) (λz=>z.1<=8) (λz=>[si 9 z.1,sv 5 (slv z.2.1 32 z.2.2),sv 7 (slv (some g3) 32 c3)]) [1] (λz=>[l5 4 1 z.2.1 32 z.2.2 (C3 (Bt.bits (K.rounds z.1 s0) 32))]) (λz=>8-z.1) ((0,some g1,c1)) (j4 _) λz hI=>?_;obtain⟨j,a,c⟩:=z;dsimp only at hI ⊢;refine J.qd (λ_ h2=>?_) λ_ h2=>?_
 ·simp only[c9]at h2;have h2:j<8:=by omega
  have hr:=K.rounds_lt j s0 hs0;obtain⟨u,hu⟩:∃u,K.rounds j s0=u:=⟨_,rfl⟩;have hn:K.rounds (j+1) s0=K.round u:=by rw[<- hu];rfl
  rw[hu]at hr ⊢;have hrb:=K.round_bits u hr;rw[hP0]at hrb;obtain⟨U,hU⟩:∃U,Bt.bits u 32=U:=⟨_,rfl⟩;have hUl:U.length=32:=by rw[<- hU,Bt.length_bits]
  rw[hU]at hrb ⊢;obtain⟨tb,htb⟩:∃tb,U.getD 0 false=tb:=⟨_,rfl⟩;rw[htb]at hrb;refine J.know (λh' s=>u7 (c:=(a,c)) (by omega) (s.get (i:=1) rfl)) λhg=>?_;obtain⟨g,rfl⟩:=hg;refine J.know (p:=32<=c) (λh' s=>by
   obtain⟨_,cur,h1,h2,_⟩:=s.get (i:=1) rfl;exact h2) λhc=>?_
  refine J.turn1 [] rfl (As:=[l5 4 1 none 0 0 []]) (λh s=>Sep.one ⟨rfl,rfl,rfl⟩) rfl ?_;refine J.q λ_=>?_;refine J.v (.bool tb) rfl rfl (λhg a w he hs=>z7 tk rfl rfl he rfl rfl rfl (hs.get (i:=1) rfl) (by have:=a1E (l:=U) [] (k:=0) (by omega);rw[n9,htb]at this;exact this)) ?_;refine J.q λ_=>?_;have hRd:Rd (l5 4 1 (some g) 32 c (C3 U)) (some ⟨g,0+Int.toNat 1*1,none⟩) 1 (32-Int.toNat 1) (C3 (U.drop 1)):=by
   have:=(R8 4 1 (some g) 32 c (C3 U)).drop 1 (by omega);rw[a6C];exact this
  refine J.appendR hX tk 4 1 0 rfl rfl rfl rfl rfl rfl rfl rfl rfl rfl hRd rfl rfl rfl rfl (a8v _) ?_ ?_ (λ_=>rfl) λa4 c4=>⟨_,rfl,trivial,?_⟩
  ·decide
  ·decide
  rw[show 0+(32-Int.toNat 1)=31 from rfl,J6];refine J.q λ_=>?_;refine J.append hX tk 4 5 0 rfl rfl rfl rfl rfl rfl rfl rfl rfl rfl rfl rfl rfl rfl rfl rfl ?_ ?_ (λ_=>rfl) λa5 c5=>⟨_,(congrArg (λz=>Q2 _ 4 (l5 _ _ _ _ _ z)) (a3X (U.drop 1) false).symm).trans rfl,trivial,?_⟩
  ·decide
  ·decide
  rw[show 31+1=32 from rfl];have hVl:(U.drop 1++[false]).length=32:=by rw[f9,x4,hUl];rfl
  have hVg:∀i,i<32->(U.drop 1++[false]).getD i false=if i=31 then false else U.getD (i+1) false:=λi hi=>by
   rw[d6]
   by_cases e:i=31
   ·subst e;rw[d8 rfl,y6 (by rw[x4,hUl];exact j7 _),x4,hUl];rfl
   ·rw[d7 e,t7 (by rw[x4,hUl];omega),C4,U7,<- d6]
  generalize U.drop 1++[false]=V at hVl hVg;refine J.know (λh' s=>u7 (c:=(a5,c5)) (by omega) (s.get (i:=4) rfl)) λhg=>?_;obtain⟨g5,rfl⟩:=hg;refine J.q λ_=>?_;refine J.openOwn 4 rfl rfl (λ_=>rfl) λr5 q5 q6 q7 q8=>?_;refine J.q λ_=>?_;refine J.l (α:=(Nat×List Bool)) (λz=>(z.1<=32/\(z.1=0\/tb=true))/\z.2.length=32/\∀i,i<32->z.2.getD i false=if i<z.1 then(V.getD i false !=P0.getD i false)else V.getD i false) (λz=>[si 11 z.1,sv 5 (slv (some g5) 32 c5),sv 7 (slv (some g3) 32 c3),si 9 j,sv 10 (.bool tb)]) [4] (λz=>[.pt g5 4 (C3 z.2++r5)]) (λz=>32-z.1) ((0,V)) (⟨⟨j4 _, .inl rfl⟩,hVl,λi hi=>by simp⟩) λz hI=>?_;obtain⟨k,l⟩:=z;dsimp only at hI ⊢;obtain⟨hk,hl,hv⟩:=hI;refine J.qd (λ_ h3=>?_) λ_ h3=>?_
  ·simp only[i9,c9]at h3;have h4:k<32:=by omega
   refine J.pq (.of [0,4,8,12,16,21,24,28,32,37,40,44,51]) [11,12] [1,2,3,4] λ_ _=>?_;refine J.vT (.bool (l.getD k false)) rfl rfl (λhg a w he hC=>?_) ?_
   ·exact x9 tk rfl rfl he hg rfl rfl (hC rfl _ (r8 (i:=4) rfl)) (by rw[show 0+(k:Int).toNat*1=k from by omega];exact a1E r5 (by omega))
   refine J.q λ_=>?_;refine J.vT (.bool (P0.getD k false)) rfl rfl (λhg a w he hC=>z7 tk rfl rfl he hg rfl rfl (hC rfl _ (r8 (i:=3) rfl)) (by rw[show 0+(k:Int).toNat*1=k from by omega];have:=a1E (l:=P0) [] (k:=k) (by omega);rwa [n9]at this)) ?_;refine J.q λ_=>?_;refine J.s1 4 (C3 (l.set k (l.getD k false !=P0.getD k false))++r5) ?_ ?_ ?_
   ·rw[show 0+(k:Int).toNat*1=k from by omega,f9,Q5];omega
   ·rw[show 0+(k:Int).toNat*1=k from by omega];exact a8u r5 _ (by omega)
   refine J.q λ_=>?_;refine J.nS ((k+1,l.set k (l.getD k false !=P0.getD k false))) (⟨⟨by dsimp only;omega, .inr h3.2⟩,by rw[n8];exact hl,λi hi=>by
    have hvk:=hv k (by omega);rw[d7 (by omega)]at hvk;dsimp only;rw[d6,r9,hl]
    by_cases e:k=i
    ·subst e;rw[d8 rfl,d8 (by omega),d8 (by omega),hvk];rfl
    ·rw[d7 e,<- d6,hv i hi]
     by_cases h9:i<k
     ·rw[d8 h9,d8 (by omega)]
     ·rw[d7 h9,d7 (by omega)]⟩) (by dsimp only;omega) [0,1,2,3,4,5] rfl rfl
  obtain rfl:l=Bt.bits (K.rounds (j+1) s0) 32:=Bt.ext_bits 32 hl (Bt.length_bits _ _) λi hi=>by
   rw[hv i hi,hn,hrb i hi,hVg i hi];cases tb with
   | true=>
    have hk32:k=32:=by
     simp only[a7e,c8]at h3;omega
    rw[d8 (by omega),o0]
   | false=>
    have hk0:k=0:=by
     rcases hk.2 with h | h
     ·exact h
     ·cases h
    rw[d7 (by omega),O0,Bool.bne_false]
  refine J.closeOwn (e:=4) (size:=1) (n:=32) (cap:=c5) (xs:=C3 (Bt.bits (K.rounds (j+1) s0) 32)) 4 rfl rfl (by rw[Q5,hl]) q6 q7 (by rw[f9,Q5,hl];rw[Q5,hVl]at q8;exact q8) (B6 (by rw[Q5,hl])) rfl ?_;refine J.q λ_=>?_;refine J.n ((j+1,some g5,c5)) (by dsimp only;omega) (by dsimp only;omega) [0,4,2,3]
 simp only[c8]at h2;obtain rfl:j=8:=by omega
 refine J.know (λh' s=>u7 (c:=(a,c)) (by omega) (s.get (i:=1) rfl)) λhg=>?_;obtain⟨g,rfl⟩:=hg;have hr8:=K.rounds_lt 8 s0 hs0;have hnum:=Bt.num_bits (K.rounds 8 s0) 32 hr8;refine J.q λ_=>?_;refine J.ca hX (by kernel_rfl) (b9a (l5 4 1 (some g) 32 c (C3 (Bt.bits (K.rounds 8 s0) 32))) (some ⟨g,0,none⟩) 32 c (Bt.bits (K.rounds 8 s0) 32) (R8 _ _ _ _ _ _) (Bt.length_bits _ _) (by decide)) [1] 0 rfl rfl rfl rfl rfl rfl (λ_=>rfl) ?_;refine cpq ⟨_,rfl,trivial,?_⟩;rw[hnum,<- hst];have hlt:K.step s x<4294967296:=K.step_lt s x hs hx;exact J.qx []
theorem c2F (A:Atom) (a:Option Addr) (n cap:Nat) (l:List UInt8) (hA:Rd A a 1 n (l.map bv)) (hl:l.length=n) (hn:n<=64):FP 309 [.slice a n cap] [A] (Ps (.int .u32 (K.sum l)) [A]):=by
 refine FE [0] Tryz.func309 λX F hX=>?_;refine J.q λ_=>?_;refine J.l (α:=Nat) (λk=>k<=n) (λk=>[si 4 k,⟨3, .int .u32 (K.sum (l.take k)),0, .tt⟩,sv 0 (.slice a n cap)]) [] (λk=>[]) (λk=>n-k) (0) (j4 _) λk hI=>?_;refine J.qd (λ_ h1=>?_) λ_ h1=>?_
 ·simp only[c9,g6]at h1;obtain⟨x,hx⟩:∃x,l[k]? =some x:=⟨_,d5 (by omega)⟩;have hs:=K.sum_snoc l k x hx;have hlt:=K.sum_lt (l.take k);have hxl:x.toNat<256:=x.toNat_lt;refine J.know (p:=∃g o,a=some ⟨g,o,none⟩) (λh' s=>Rd.addr (hA _ (s.get (i:=1) rfl)) (by omega)) λhk=>?_;obtain⟨gm,om,rfl⟩:=hk;refine J.q λ_=>?_;refine J.v (bv x) rfl rfl (λhg a w he hw=>a2f tk rfl rfl he rfl rfl rfl (hA _ (hw.get (i:=1) rfl)) (by omega) (j:=k) (by omega) (by rw[j6,hx];rfl)) ?_;refine J.qp (c0Y (K.sum (l.take k)) x.toNat hlt hxl) [] λ_=>?_;rw[<- hs];refine J.q λ_=>?_;refine J.n (k+1) (by omega) (by omega) [0,1]
 simp only[c8,g6]at h1;have htk:l.take k=l:=m7 (by omega);rw[htk];exact J.qx [1]
theorem a5t (m:Int):(dI m).length=L.count m:=by
 rw[<- L.below_eight m,dI,dsk,m9,L.below];refine congrArg List.length (Y7 λd hd=>?_);rw[M8]at hd;simp[hd]
def a3s (s:Sh):Bool:=((((((((((s.kind !=1)&&(s.kind !=2))||decide (s.block<0))||decide (s.block>=16))||decide (s.row<0))||decide (s.row>=8))||decide ((L.count s.mask:Int)<2))||decide (s.seq<0))||decide (s.seq>1099511627775))||decide (s.lpn<0))||decide (s.lpn>65535)
theorem b4p (s:Sh) (h:a3s s=true):S.may s=false:=by
 rw[a0W];intro hm;simp only[S.may,S.place,S.numbers,S.inB,i9,j8,c9]at hm;simp only[a3s,i9,j8,c9,C2,D4]at h;omega
theorem c0A (s:Sh) (h:a3s s=false) (hk:s.kind=2):S.may s=(decide (s.role>=0)&&decide (s.role<=255)):=by
 simp only[a3s,P9,A5,c8,p6]at h;simp only[S.may,S.place,S.numbers,S.inB];rw[j3 (show 0<=s.block by omega),j3 (show s.block<=15 by omega),j3 (show 0<=s.row by omega),j3 (show s.row<=7 by omega),j3 (show 2<=L.count s.mask by omega),j3 (show 0<=s.seq by omega),j3 (show s.seq<=1099511627775 by omega),j3 (show 0<=s.lpn by omega),j3 (show s.lpn<=65535 by omega),j3 hk];simp
theorem c0B (s:Sh) (h:a3s s=false) (hk:s.kind≠2):S.may s=S.entry s:=by
 simp only[a3s,P9,A5,c8,p6]at h;have h1:s.kind=1:=by omega
 have hr:S.entry s=true->0<=s.role/\s.role<=255:=by
  intro he;unfold S.entry at he;split at he
  ·omega
  ·split at he
   ·omega
   ·split at he
    ·omega
    ·cases he
 simp only[S.may,S.place,S.numbers,S.inB];rw[j3 (show 0<=s.block by omega),j3 (show s.block<=15 by omega),j3 (show 0<=s.row by omega),j3 (show s.row<=7 by omega),j3 (show 2<=L.count s.mask by omega),j3 (show 0<=s.seq by omega),j3 (show s.seq<=1099511627775 by omega),j3 (show 0<=s.lpn by omega),j3 (show s.lpn<=65535 by omega),j3 h1,u9 hk];cases he:S.entry s
 ·simp
 ·have:=hr he;rw[j3 this.1,j3 this.2];rfl
theorem b0F (s:Sh) (h:s.data.length=16):FP 310 [shV s] [] (Ps (.bool (S.may s)) []):=by
 refine FE [0] Tryz.func310 λX F hX=>?_;refine J.run hX tk 400 (λb1=>rfl) (λb1=>?_) (λb1=>?_)
 ·(repeat' (first | exact Conj.nil | refine Conj.cons ?_ ?_ | exact rfl | exact hq | (rw[hq];rfl) | (rw[(i7 _).mp hq]) | intro hq | omega | (simp;done)))
 refine J.gcase hX rfl rfl rfl trivial (λhb=>?_) (λhb=>?_)
 ·have hb2:=(i7 _).mp hb;rw[hb2];refine J.qc (a5p s.mask) [] λ_=>?_;rintro v As ⟨a,c,rfl,rfl⟩;refine⟨_,rfl,trivial,?_⟩;rw[a5t];refine J.run hX tk 400 (λb3=>rfl) (λb3=>?_) (λb3=>?_)
  ·(repeat' (first | exact Conj.nil | refine Conj.cons ?_ ?_ | exact rfl | exact hq | (rw[hq];rfl) | (rw[(i7 _).mp hq]) | intro hq | omega | (simp;done)))
  refine J.qd (λ_ h3=>?_) λ_ h3=>?_
  ·have ho:a3s s=true:=by unfold a3s;rw[hb2];exact h3
   refine J.qr [] λ_=>?_;exact⟨by rw[b4p s ho],rfl⟩
  have ho:a3s s=false:=by unfold a3s;rw[hb2];exact h3
  refine J.qd (λ_ h4=>?_) λ_ h4=>?_
  ·simp only[m5]at h4;refine J.qr [] λ_=>?_;exact⟨by rw[c0A s ho h4],rfl⟩
  simp only[j9,D4]at h4;have key:∀b,S.entry s=b->S.may s=b:=λb hb=>(c0B s ho h4).trans hb;refine J.q λ_=>?_;refine J.v (.bool (decide (s.data=zeros16))) rfl rfl (λhg a w he hs=>?_) ?_
  ·rw[<- eqD s.data zeros16 h rfl];exact I5 (xs:=B1 s.data) (ys:=B1 zeros16) rfl rfl rfl he rfl rfl T6 (O5 _) (O5 _) mkD gdD
  refine J.qd (λ_ h5=>?_) λ_ h5=>?_
  ·simp only[m5]at h5;refine J.qr [] λ_=>?_;exact⟨by rw[key true (by unfold S.entry;rw[d8 h5])],rfl⟩
  simp only[j9,D4]at h5;have k2:s.role=2\/s.role=4->S.may s=decide (s.data=zeros16):=λhr=>key _ (by unfold S.entry;rw[d7 h5,d8 hr]);refine J.qd (λ_ h6=>?_) λ_ h6=>?_
  ·have h6':=h6;simp only[m5]at h6';rw[h6];refine J.qT λ_=>?_;refine J.qr [] λ_=>?_;exact⟨by rw[k2 (.inl h6')],rfl⟩
  ·have h6':=h6;simp only[j9,D4]at h6';refine J.qd (λ_ h7=>?_) λ_ h7=>?_
   ·have h7':=h7;simp only[m5]at h7';refine J.qr [] λ_=>?_;exact⟨by rw[k2 (.inr h7')],rfl⟩
   have h7':=h7;simp only[j9,D4]at h7';refine J.qd (λ_ h8=>?_) λ_ h8=>?_
   ·have h8':=h8;simp only[m5]at h8';refine J.run hX tk 400 (λb17=>rfl) (λb17=>?_) (λb17=>?_)
    ·(repeat' (first | exact Conj.nil | refine Conj.cons ?_ ?_ | exact rfl | exact hq | (rw[hq];rfl) | (rw[(i7 _).mp hq]) | intro hq | omega | (simp;done)))
    refine J.qr [] λ_=>?_;exact⟨by rw[key _ (by unfold S.entry;rw[d7 h5,d7 (by omega),d8 h8'])];rfl,rfl⟩
   ·have h8':=h8;simp only[j9,D4]at h8';refine J.qr [] λ_=>?_;exact⟨by rw[key false (by unfold S.entry;rw[d7 h5,d7 (by omega),d7 h8'])],rfl⟩
 ·have hb2:=(p9 _).mp hb;rw[hb2];refine J.q λ_=>?_;refine J.v (iI 0) rfl rfl (λhg a w he hw=>by simp[G.on]at hg) ?_;refine J.run hX tk 400 (λb21=>rfl) (λb21=>?_) (λb21=>?_)
  ·(repeat' (first | exact Conj.nil | refine Conj.cons ?_ ?_ | exact rfl | exact hq | (exact Bool.noConfusion hq) | (rw[hq];rfl) | (rw[(i7 _).mp hq]) | intro hq | omega | (simp;done)))
  refine J.qT λ_=>?_;have ho:a3s s=true:=by unfold a3s;rw[hb2];rfl
  refine J.qr [] λ_=>?_;exact⟨by rw[b4p s ho],rfl⟩
theorem a1c (p:List UInt8) (hp:p.length=32) (fr w:Nat) (h:fr+w<=256) (hw:1<=w/\w<=64):FP 308 [pgV p,iI fr,iI w] [] (λv As=>v= .int .u64 (Bt.numAt p fr w)/\As=[]):=by
 have hnum:=Bt.numAt_num p fr w (by omega);have hul:=Bt.length_unpack p;refine FE [0,0,0] Tryz.func308 λX F hX=>?_;refine J.q λbb=>?_;refine J.ca hX (by kernel_rfl) (c3I (.pt (bb 0) 172 (J9 p)) (some ⟨bb 0,0,none⟩) 32 32 p (by rw[<- P7 p hp];exact a2g _ _ _ 1 32 rfl) hp (by decide)) [1] 0 rfl rfl rfl rfl rfl rfl (λ_=>rfl) ?_;rintro v As ⟨a,c,rfl,rfl⟩;refine⟨_,rfl,trivial,?_⟩;refine J.know (λh' s=>u7 (c:=(a,c)) (by omega) (s.get (i:=2) rfl)) λhg=>?_;obtain⟨g,rfl⟩:=hg;refine J.know (p:=32*8<=c) (λh' s=>by
  obtain⟨_,cur,h1,h2,_⟩:=s.get (i:=2) rfl;exact h2) λhc=>?_
 have hRd:Rd (l5 4 1 (some g) (32*8) c (C3 (Bt.unpack p))) (some ⟨g,0+fr*1,none⟩) 1 w (C3 (((Bt.unpack p).drop fr).take w)):=by
  have:=((R8 4 1 (some g) (32*8) c (C3 (Bt.unpack p))).drop fr (by omega)).take w (by omega);rw[b2v,a6C];rw[M6]at this ⊢
  rwa [M6]at this
 refine J.q λ_=>?_;rw[show((fr:Int)+(w:Int)).toNat-(fr:Int).toNat=w from by omega,show(fr:Int).toNat=fr from by omega];refine J.qp (b9a (l5 4 1 (some g) (32*8) c (C3 (Bt.unpack p))) (some ⟨g,0+fr*1,none⟩) w (c-fr) (((Bt.unpack p).drop fr).take w) hRd (by rw[l9,x4];omega) (by omega)) [2] λ_=>?_;rw[hnum];exact J.qx []
theorem c2C (p:List UInt8) (hp:p.length=32):FP 279 [pgV p] [] (λv As=>v= .tuple #[shV (S.getV p), .bool (S.get p).isSome]/\As=[]):=by
 obtain⟨r1,r2,r3⟩:=S.field_role p hp;obtain⟨r4,r5,r6,r7⟩:=S.field_rest p hp;have w1:=Bt.numAt_lt p 128 8;have w2:=Bt.numAt_lt p 136 16;have w3:=Bt.numAt_lt p 152 40;have w4:=Bt.numAt_lt p 192 8;have w5:=Bt.numAt_lt p 200 8;have w6:=Bt.numAt_lt p 208 8;have w7:=Bt.numAt_lt p 216 8;have w8:=Bt.numAt_lt p 224 32;rw[show(2:Nat)^8=256 from rfl]at w1 w4 w5 w6 w7;rw[show(2:Nat)^16=65536 from rfl]at w2;rw[show(2:Nat)^40=1099511627776 from rfl]at w3;rw[show(2:Nat)^32=4294967296 from rfl]at w8;refine FE [0] Tryz.func279 λX F hX=>?_;have hpl:(p.take 16).length=16:=by rw[l9,hp];rfl
 have hpc:(J9 p).take 16=B1 (p.take 16):=by rw[P7 p hp,a0A _ hpl,a4a]
 have hone:∀u∈J9 p,u.oneCell'=true:=by
  rw[P7 p hp];intro u hu;obtain⟨b,_,rfl⟩:=List.mem_map.1 hu;rfl
 have hsum:K.sum (p.take 28)<4294967296:=K.sum_lt _;refine J.q λbb=>?_;refine J.plan (.of [0,4,8,14]) [] [1] (by rw[hX.hP];kernel_rfl) (by kernel_rfl) ?_;refine J.q λ_=>?_;have hRd:∀k,k<=32->Rd (.pt (bb 0) 172 (J9 p)) (some ⟨bb 0,0+0*1,none⟩) 1 k ((J9 p).take k):=λk hk=>by
  have:=(a2g (bb 0) 172 (J9 p) 1 32 rfl).take k hk
  rwa [M6]at this
 refine J.copy hX tk 3 1 rfl rfl rfl rfl rfl rfl rfl rfl rfl rfl (hRd 16 (by decide)) rfl rfl (B1 (p.take 16)) (by rw[<- hpc];exact m7 (j7 _)) (H1 rfl) (λu hu=>hone u (H9 hu)) (shL ⟨p.take 16,0,0,0,0,0,0,0⟩) rfl rfl (λ_=>rfl) ⟨⟨rfl,trivial⟩,?_⟩;refine J.p (.of [1,13,25,6,8,18,20,30,32,36,42,44,50,52,59]) [13,14] [1] λ_=>?_;refine J.qp (a1c p hp 128 8 (by omega) (by omega)) [] λ_=>?_;refine J.qp (a1c p hp 136 16 (by omega) (by omega)) [] λ_=>?_;refine J.qp (a1c p hp 152 40 (by omega) (by omega)) [] λ_=>?_;refine J.p (.of [1,13,25,37,6,8,18,20,30,32,42,44,48,54,56,62,64,70,72,79]) [18,19] [1] λ_=>?_;refine J.qp (a1c p hp 192 8 (by omega) (by omega)) [] λ_=>?_;refine J.qp (a1c p hp 200 8 (by omega) (by omega)) [] λ_=>?_;refine J.qp (a1c p hp 208 8 (by omega) (by omega)) [] λ_=>?_;refine J.qp (a1c p hp 216 8 (by omega) (by omega)) [] λ_=>?_;have hsf:(⟨p.take 16,(Bt.numAt p 128 8:Nat),(Bt.numAt p 136 16:Nat),(Bt.numAt p 152 40:Nat),(Bt.numAt p 216 8:Nat),(Bt.numAt p 192 8:Nat),(Bt.numAt p 200 8:Nat),(Bt.numAt p 208 8:Nat)⟩:Sh)=S.fields p:=by
  rw[<- r1,<- r2,<- r3,<- r4,<- r5,<- r6,<- r7];rfl
 have hmayc:=b0F ⟨p.take 16,(Bt.numAt p 128 8:Nat),(Bt.numAt p 136 16:Nat),(Bt.numAt p 152 40:Nat),(Bt.numAt p 216 8:Nat),(Bt.numAt p 192 8:Nat),(Bt.numAt p 200 8:Nat),(Bt.numAt p 208 8:Nat)⟩ hpl;have hget:=S.get_some p hp;refine J.p (.of [1,12,6,8,18,20,24,29,34,36,40]) [] [1,3] λ_=>?_;refine J.qp (a1c p hp 224 32 (by omega) (by omega)) [] λ_=>?_;refine J.qp (c2F (.pt (bb 0) 172 (J9 p)) (some ⟨bb 0,0+0*1,none⟩) 28 32 (p.take 28) (by rw[a4a,<- P7 p hp];exact hRd 28 (by decide)) (by rw[l9,hp];rfl) (by decide)) [1] λ_=>?_;refine J.q λ_=>?_;refine J.gcase hX rfl rfl rfl ⟨rfl,rfl,trivial⟩ (λhb=>?_) (λhb=>?_)
 ·have hb2:(((Bt.numAt p 224 32:Nat):Int) !=((K.sum (p.take 28):Nat):Int))=false:=by simpa using hb
  rw[hb2];refine J.qp (hmayc) [] λ_=>?_;rw[hsf];have heq:Bt.numAt p 224 32=K.sum (p.take 28):=by
   simp only[i7,p6]at hb;omega
  refine J.qd (λ_ h1=>?_) λ_ h1=>?_
  ·have hg:S.get p=none:=by
    rw[hget,d7];rintro⟨_,hm⟩;rw[hm]at h1;simp at h1
   refine J.qr [] λ_=>?_;exact⟨by unfold S.getV;rw[hg];rfl,rfl⟩
  ·have hg:S.get p=some (S.fields p):=by
    rw[hget,d8];refine⟨heq,?_⟩;cases hm:S.may (S.fields p)with
    | true=>rfl
    | false=>rw[hm]at h1;simp at h1
   refine J.qr [] λ_=>?_;exact⟨by unfold S.getV;rw[hg,j5,<- hsf];rfl,rfl⟩
 ·have hb2:(((Bt.numAt p 224 32:Nat):Int) !=((K.sum (p.take 28):Nat):Int))=true:=by simpa using hb
  rw[hb2];have hne:Bt.numAt p 224 32≠K.sum (p.take 28):=by
   simp only[p9,C2,D4]at hb;omega
  have hg:S.get p=none:=by
   rw[hget,d7];exactλh=>hne h.1
  refine J.q λ_=>?_;refine J.vT (.bool false) rfl rfl (λhg a w he hC=>by simp[G.on]at hg) ?_;refine J.qd (λ_ h1=>?_) λ_ h1=>?_
  ·refine J.qr [] λ_=>?_;exact⟨by unfold S.getV;rw[hg];rfl,rfl⟩
  ·simp at h1
end Go.Proofs.YtpakpgkdpofbhaaGreat
