/- Helpers. No condition. -/
import Derived.Test.YtmafiplddapokaaGreatS00
import Derived.Test.YtmafiplddapokaaGreatS01
import Derived.Test.YtmafiplddapokaaGreatS04
import Derived.Test.YtmafiplddapokaaGreatS11
import Derived.Test.YtmafiplddapokaaGreatS12
import Derived.Test.YtmafiplddapokaaGreatS13
import Derived.Test.YtmafiplddapokaaGreatS14
import Derived.Test.YtmafiplddapokaaGreatS15
import Derived.Test.YtmafiplddapokaaGreatS16
set_option maxRecDepth 20000
set_option linter.all false
namespace Go.Proofs.YtmafiplddapokaaGreat
open Go Go.RowKit
def Fv.allG:Nat->Int->Fv->Fv×List (List UInt8)×Int
 | 0,_,Z=>(Z,[],0)
 | n+1,i,Z=>if(Z.read i).2.2≠0 then((Z.read i).1,[],(Z.read i).2.2)else((Fv.allG n (i+1) (Z.read i).1).1,(Z.read i).2.1::(Fv.allG n (i+1) (Z.read i).1).2.1,(Fv.allG n (i+1) (Z.read i).1).2.2)
theorem Fv.allG_succ (n:Nat) (i:Int) (Z:Fv):Fv.allG (n+1) i Z=if(Z.read i).2.2≠0 then((Z.read i).1,[],(Z.read i).2.2)else((Fv.allG n (i+1) (Z.read i).1).1,(Z.read i).2.1::(Fv.allG n (i+1) (Z.read i).1).2.1,(Fv.allG n (i+1) (Z.read i).1).2.2):=rfl
def Fv.all (Z:Fv):Fv×List (List UInt8)×Int:=if(Fv.allG Z.lg.toNat 0 Z).2.2≠0 then((Fv.allG Z.lg.toNat 0 Z).1,[],(Fv.allG Z.lg.toNat 0 Z).2.2)else Fv.allG Z.lg.toNat 0 Z
theorem b0H (l:List (List UInt8)) (d:List UInt8):P7 l++I7 d=P7 (l++[d]):=by unfold P7;rw[M7];simp
theorem c0Z (f p n t l d:Nat) (Z:Fv) (k m:Nat) (hO:Z.Ok k m):FP 24 [pp f] (FvP f p n t l d Z)
  (λv As=>∃a c,v= .tuple #[slv a Z.all.2.1.length c,iI Z.all.2.2]/\As=FvP f p n t l d Z.all.1++[m7 36 16 a Z.all.2.1.length c (P7 Z.all.2.1)]):=by
 refine FE [2] Tryz.func24 λX F hX=>?_;refine J.qF λ_=>?_;refine J.qp (a0l f n t l p d Z hO.dv.gd.ok) [1,3] λ_=>?_;have hlb:=Fv.lg_bd (F:=Z) hO.dv.gd.ok;obtain⟨N,hN⟩:=f8 (show 0<=Z.lg by omega);rw[hN];have hall:Z.all=if(Fv.allG N 0 Z).2.2≠0 then((Fv.allG N 0 Z).1,[],(Fv.allG N 0 Z).2.2)else Fv.allG N 0 Z:=by unfold Fv.all;rw[hN];rfl
 refine J.q λ_=>?_;refine J.turn1 [] rfl (As:=[m7 36 16 none 0 0 (P7 [])]) (λh s=>Sep.one ⟨rfl,rfl,rfl⟩) rfl ?_;refine J.q λ_=>?_;refine J.l (α:=(Nat×Fv×List (List UInt8)×Option Nat×Nat)) (λz=>z.1<=N/\z.2.1.Ok k m/\z.2.2.1.length=z.1/\Fv.allG N 0 Z=((Fv.allG (N-z.1) z.1 z.2.1).1,z.2.2.1++(Fv.allG (N-z.1) z.1 z.2.1).2.1,(Fv.allG (N-z.1) z.1 z.2.1).2.2)) (λz=>[si 12 z.1,si 11 N,⟨0,pp f,2, .tt⟩,sv 4 (slv z.2.2.2.1 z.2.2.1.length z.2.2.2.2)]) [1,2,3,4,5,6,7] (λz=>(FvP f p n t l d z.2.1++[m7 36 16 z.2.2.2.1 z.2.2.1.length z.2.2.2.2 (P7 z.2.2.1)])) (λz=>N-z.1) ((0,Z,[],none,0)) (⟨j6 _,hO,rfl,rfl⟩) λz hI=>?_;obtain⟨j,Y,acc,ga,ca⟩:=z;dsimp only at hI ⊢;obtain⟨hj,hY,hacc,hgo⟩:=hI;refine J.qd (λ_ h1=>?_) λ_ h1=>?_
 ·simp only[d5,i4]at h1;have hk:=Fv.read_keep hY j;rw[show N-j=(N-(j+1))+1 from by omega]at hgo;rw[Fv.allG_succ]at hgo;refine J.qp (a2P f p n t l d Y k m hY j) [1,2,3,4,5,6] λ_=>?_;generalize Y.read j=R at hgo hk ⊢;obtain⟨Y2,dd,er⟩:=R;dsimp only at hgo hk ⊢;refine J.qd (λ_ h2=>?_) λ_ h2=>?_
  ·have he:er≠0:=by simpa using h2
   rw[d7 he]at hgo;rw[hgo,d7 he]at hall;refine J.turn1 [] rfl (As:=[m7 36 16 none 0 0 (P7 [])]) (λh s=>Sep.one ⟨rfl,rfl,rfl⟩) rfl ?_;refine J.qr [1,2,3,4,5,6,9] λ_=>?_;rw[hall];exact⟨none,0,rfl,rfl⟩
  ·have he:er=0:=by simpa using h2
   rw[d4 (λh=>h he)]at hgo;refine J.qn 5 λ_=>?_;refine J.ap 7 9 0 (b0H acc dd) λa3 c3=>?_;refine J.q λ_=>?_;rw[show acc.length+1=(acc++[dd]).length from by simp];refine J.q λ_=>?_;refine J.n ((j+1,Y2,acc++[dd],a3,c3)) (⟨by dsimp only;omega,hk.1,by dsimp only;rw[f7];exact congrArg (· +1) hacc,by dsimp only;rw[hgo,l9];rfl⟩) (by dsimp only;omega) [0,1,2,3,4,5,6,7]
 simp only[c8,i4]at h1;obtain rfl:j=N:=by omega
 rw[Y6,show Fv.allG 0 (j:Int) Y=(Y,[],0)from rfl,l8]at hgo;rw[hgo,d4 (by simp)]at hall;refine J.qr [1,2,3,4,5,6,7] λ_=>?_;rw[hall];exact⟨ga,ca,rfl,rfl⟩
def UN:Nat:=Fv.cW+1
theorem b3S:UN=Dv.costM+8*Dv.fuel+1:=rfl
theorem c1k:96<=UN:=by
 have:96<=8*Dv.fuel:=by decide
 rw[b3S];omega
theorem a5j:Fv.cW*200<=UN*200:=J3 _ (Nat.le_succ _)
theorem b5o:FI.costW*200<=UN*200:=J3 _ (Nat.le_succ _)
theorem b8d:Dv.costK<=UN*402:=by
 have h:Dv.costT*200<=UN*200:=J3 _ (Nat.le_succ _);have:=c1k;have h2:Dv.costM<=UN:=by rw[b3S];omega
 unfold Dv.costK;omega
theorem b3a:UN*200000<=1000000000000000:=by decide+kernel
theorem c1R {n:Nat} (h:n<=200000):UN*n<=1000000000000000:=H7 (A7 _ h) b3a
def Fv.ticksG:Nat->Int->Fv->Fv×Int
 | 0,i,Z=>(Z.whole.1,if Z.whole.2 then i else-1)
 | f+1,i,Z=>if Z.whole.2 then(Z.whole.1,i)else if Z.whole.1.tick.2≠0 then(Z.whole.1.tick.1,-1)else Fv.ticksG f (i+1) Z.whole.1.tick.1
theorem Fv.ticksG_succ (f:Nat) (i:Int) (Z:Fv):Fv.ticksG (f+1) i Z=if Z.whole.2 then(Z.whole.1,i)else if Z.whole.1.tick.2≠0 then(Z.whole.1.tick.1,-1)else Fv.ticksG f (i+1) Z.whole.1.tick.1:=rfl
def a9i (most:Int):Nat:=(min (max most 0) 10000).toNat
def Fv.ticks (Z:Fv) (most:Int):Fv×Int:=Fv.ticksG (a9i most) 0 Z
theorem b7U (f p n t l d:Nat) (Z:Fv) (k m:Nat) (most:Int) (hO:Z.Ok (Dv.costS*a9i most+k) m) (hm:m<=1000):FP 26 [pp f,iI most] (FvP f p n t l d Z)
  (Ps (iI (Z.ticks most).2) (FvP f p n t l d (Z.ticks most).1)):=by
 obtain⟨M,hM⟩:∃M,a9i most=M:=⟨_,rfl⟩;have hMM:min (max most 0) 10000=(M:Int):=by rw[<- hM];unfold a9i;omega
 have hM1:M<=10000:=by omega
 rw[show Z.ticks most=Fv.ticksG M 0 Z from by unfold Fv.ticks;rw[hM]];rw[hM]at hO;refine FE [2,0] Tryz.func26 λX F hX=>?_;refine J.qn 9 λ_=>?_;have e:(if(10000:Int)<if(0:Int)>most then 0 else most then 10000 else if(0:Int)>most then 0 else most)=(M:Int):=by
  rw[<- hMM];split<;>split<;>omega
 rw[e];refine J.q λ_=>?_;refine J.l (α:=(Nat×Fv)) (λz=>(z.1<=M/\z.2.Ok (Dv.costS*(M-z.1)+k) m/\Fv.ticksG M 0 Z=Fv.ticksG (M-z.1) z.1 z.2)\/(z.1=M+1/\Fv.ticksG M 0 Z=(z.2,-1))) (λz=>[si 11 z.1,⟨10,iI ((M:Int)+1),0, .tt⟩,⟨0,pp f,2, .tt⟩,si 1 M]) [1,2,3,4,5,6] (λz=>FvP f p n t l d z.2) (λz=>M+1-z.1) ((0,Z)) (.inl ⟨j6 _,hO,rfl⟩) λz hI=>?_;obtain⟨j,Y⟩:=z;dsimp only at hI ⊢;refine J.qd (λ_ h1=>?_) λ_ h1=>?_
 ·simp only[d5]at h1;obtain⟨hj,hY,hgo⟩:j<=M/\Y.Ok (Dv.costS*(M-j)+k) m/\Fv.ticksG M 0 Z=Fv.ticksG (M-j) j Y:=by
   rcases hI with h | h
   ·exact h
   ·omega
  have hw:=Fv.whole_keep hY;refine J.qp (b7G f p n t l d Y _ m hY) [1,2,3,4,5,6] λ_=>?_;obtain⟨W,hW⟩:∃W,Y.whole=W:=⟨_,rfl⟩;rw[hW]at hw ⊢;obtain⟨Y1,wb⟩:=W;dsimp only at hw ⊢;refine J.qd (λ_ h2=>?_) λ_ h2=>?_
  ·have hr:Fv.ticksG (M-j) j Y=(Y1,(j:Int)):=by
    cases hc:M-j with
    | zero=>show(Y.whole.1,if Y.whole.2 then(j:Int)else-1)=_;rw[hW,d7 h2]
    | succ c=>rw[Fv.ticksG_succ,hW,d7 h2]
   refine J.qr [1,2,3,4,5,6] λ_=>?_;rw[hgo,hr];exact⟨rfl,rfl⟩
  refine J.qn 6 λ_=>?_;rcases O0 j M with hjM | hjM
  ·rw[show decide ((j:Int)<(M:Int))=true from i5 (by omega)];obtain⟨c,hc⟩:∃c,M-j=c+1:=⟨M-j-1,by omega⟩;have hO1:Y1.Ok (Dv.costS+(Dv.costS*c+k)) m:=hw.1.less (by rw[hc,H0];omega);have htk:=Fv.tick_keep hO1;refine J.qp (b3G f p n t l d Y1 _ m hO1 hm) [1,2,3,4,5,6] λ_=>?_;have hr:Fv.ticksG (M-j) j Y=if Y1.tick.2≠0 then(Y1.tick.1,-1)else Fv.ticksG c (j+1) Y1.tick.1:=by
    rw[hc,Fv.ticksG_succ,hW,d4 (by rw[h2];exact l6)]
   obtain⟨W,hW2⟩:∃W,Y1.tick=W:=⟨_,rfl⟩;rw[hW2]at htk hr ⊢;obtain⟨Y2,er⟩:=W;dsimp only at htk hr ⊢;refine J.qd (λ_ h3=>?_) λ_ h3=>?_
   ·have he:er≠0:=by simpa using h3
    rw[d7 he]at hr;refine J.qr [1,2,3,4,5,6] λ_=>?_;rw[hgo,hr];exact⟨rfl,rfl⟩
   ·have he:er=0:=by simpa using h3
    rw[d4 (λh=>h he)]at hr;refine J.q λ_=>?_;refine J.n ((j+1,Y2)) (.inl ⟨by dsimp only;omega,by dsimp only;rw[show M-(j+1)=c from by omega];exact htk.1,by dsimp only;rw[show M-(j+1)=c from by omega,hgo,hr];rfl⟩) (by dsimp only;omega) [0,1,2,3,4,5,6]
  ·obtain rfl:j=M:=by omega
   rw[show decide ((j:Int)<(j:Int))=false from n5 (by omega)];refine J.q λ_=>?_;refine J.v (iI 0) rfl rfl (λhg a w he hw=>by simp[G.on]at hg) ?_;refine J.qF λ_=>?_;refine J.q λ_=>?_;refine J.n ((j+1,Y1)) (.inr ⟨rfl,by rw[hgo,Y6];show(Y.whole.1,if Y.whole.2 then(j:Int)else-1)=_;rw[hW,d4 (by rw[h2];exact l6)]⟩) (by dsimp only;omega) [0,1,2,3,4,5,6]
 simp only[c8]at h1;obtain⟨rfl,hgo⟩:j=M+1/\Fv.ticksG M 0 Z=(Y,-1):=by
  rcases hI with h | h
  ·omega
  ·exact h
 refine J.qr [1,2,3,4,5,6] λ_=>?_;rw[hgo];exact⟨rfl,rfl⟩
def flS:Stp:=⟨4,0,zd,0,0,dF⟩
theorem Pv.step_flush (P:Pv) (Z:Fv) (hZ:P.Z=some Z) (s:Stp) (hs:s.fn=4):P.step s=(⟨a3w Z.S.N.ops P.L,P.log++[⟨(Z.setN (a1t Z.S.N (U0 Z.S.N.ops P.L))).flush.2,zd⟩],some (Z.setN (a1t Z.S.N (U0 Z.S.N.ops P.L))).flush.1,P.M⟩,⟨(Z.setN (a1t Z.S.N (U0 Z.S.N.ops P.L))).flush.2,zd⟩):=by
 have hnd:P.nd=Z.S.N:=by unfold Pv.nd;rw[hZ]
 have hrun:P.run=⟨a3w Z.S.N.ops P.L,P.log,some (Z.setN (a1t Z.S.N (U0 Z.S.N.ops P.L))),P.M⟩:=by unfold Pv.run;rw[hnd];unfold Pv.setN;rw[hZ]
 have hd:P.run.does s=({P.run with Z:=some (Z.setN (a1t Z.S.N (U0 Z.S.N.ops P.L))).flush.1},⟨(Z.setN (a1t Z.S.N (U0 Z.S.N.ops P.L))).flush.2,zd⟩):=by
  rw[hrun];unfold Pv.does;rw[d4 (by rw[hs];decide),d4 (by rw[hs];decide),d4 (by rw[hs];decide),d7 hs]
 unfold Pv.step;rw[hd,hrun]
theorem b9L (q n:Nat) (A:Pad) (P:Pv) (hA:A.Ok P) (Z:Fv) (hZ:P.Z=some Z) (most:Int) (k m:Nat) (hO:Z.Ok (Fv.cW*200+(Dv.costS+(Dv.costK+(1+(Dv.costS*a9i most+k))))) m) (hoff:Z.S.N.off=false) (hm:m+(U0 Z.S.N.ops P.L).length<=1000) (hL:P.L.length<=1000) (hlg:P.log.length<=1000) (Z1:Fv) (hZ1:(P.step flS).1.Z=some Z1):FP 23 [pp q,iI most] (a3h q n A P)
  (λv As=>∃A':Pad,v= .bool (decide ((Z1.ticks most).2>=0))/\A'.Ok {(P.step flS).1 with Z:=some (Z1.ticks most).1}/\As=a3h q n A' {(P.step flS).1 with Z:=some (Z1.ticks most).1}):=by
 have hsf:=Pv.step_flush P Z hZ flS rfl;obtain⟨D,hD⟩:∃D,U0 Z.S.N.ops P.L=D:=⟨_,rfl⟩;rw[hD]at hm hsf;have hO2:(Z.setN (a1t Z.S.N D)).Ok (Fv.cW*200+(Dv.costS+(Dv.costK+(1+(Dv.costS*a9i most+k))))) (m+D.length):=hO.setN (a7R _ _) (a6S hO.dv.gd D);have hkp:=Fv.flush_keep hO2;have hz1:Z1=(Z.setN (a1t Z.S.N D)).flush.1:=by rw[hsf]at hZ1;injection hZ1 with e;exact e.symm
 rw[<- hz1]at hkp;have hst:=b0j q n A P hA Z hZ _ m hO (by rw[hD];exact hm) hL hlg flS rfl;have hone:(P.step flS).1=⟨a3w Z.S.N.ops P.L,(P.step flS).1.log,some Z1,P.M⟩:=by rw[hsf,hz1]
 have hpl:a3h q n A P=[PlQ q n (some Z) A.f (pp A.fp) (slv A.a2 P.log.length A.c2), .pt A.fp 218 [.slice (R2 A.a) P.L.length A.c],rdA (R2 A.a) 7 P.L.length (A4 P.L),m7 83 17 A.a2 P.log.length A.c2 (T4 P.log)]++FvP A.f A.p n A.t A.l A.d Z:=by unfold a3h a4c;rw[hZ];rfl
 rw[hpl]at hst ⊢;refine FE [2,0] Tryz.func23 λX F hX=>?_;refine J.qp (b8O q n (flP (some Z) A.f) (pp A.fp) (slv A.a2 P.log.length A.c2)) [1] λ_=>?_;refine J.qp (a3R n Z.S.N) [7] λ_=>?_;rw[hoff];refine J.qp (b6n q n (some Z) A.f (pp A.fp) (slv A.a2 P.log.length A.c2)) [1] λ_=>?_;refine J.qF λ_=>?_;refine J.qc (hst) [1,2,3,4,5,6,7,8,9,10] λ_=>?_;rintro v As ⟨A',rfl,hA',rfl⟩;rw[hone]at hA' ⊢;refine⟨_,rfl,trivial,?_⟩;refine J.qp (b6n q n (some Z1) A'.f (pp A'.fp) (slv A'.a2 (P.step flS).1.log.length A'.c2)) [1] λ_=>?_;refine J.qp (b7U A'.f A'.p n A'.t A'.l A'.d Z1 k (m+D.length) most (hkp.1.less (by omega)) hm) [5,6,7,8,9,10] λ_=>?_;refine J.qr [1,2,3,4,5,6,7,8,9,10] λ_=>?_;refine⟨A',rfl,?_,?_⟩
 ·rw[hone];exact⟨hA'.z,hA'.c⟩
 ·rw[hone];rfl
theorem b9G (x d:List UInt8):decide (d=x)=(x==d):=by
 by_cases h:x=d
 ·rw[h];simp
 ·rw[n5 (λe=>h e.symm),beq_eq_false_iff_ne.2 h]
theorem b5v (a:Option Nat) (n c:Nat) (l:List (List UInt8)) (hl:l.length=n) (hn:n<=1000000) (d:List UInt8) (hd:d.length=16) (hs:∀x∈l,x.length=16):FP 141 [slv a n c,b0E d] [m7 36 16 a n c (P7 l)] (λv As=>v=iI (match l.findIdx? (λx=>x==d)with | some k=>(k:Int) | none=> -1)/\As=[m7 36 16 a n c (P7 l)]):=by
 refine FE [0,0] Tryz.func141 λX F hX=>?_;refine J.q λbb=>?_;refine J.l (α:=Nat) (λk=>k<=n/\∀j,j<k->∀x,l[j]? =some x->(x==d)=false) (λk=>[si 8 k,si 7 n,sv 0 (slv a n c),⟨3,pp (bb 0),3, .tt⟩]) [] (λk=>[]) (λk=>n-k) (0) (⟨j6 _,λj hj=>absurd hj (Nat.not_lt_zero _)⟩) λk hI=>?_;obtain⟨hk,hno⟩:=hI;refine J.qd (λ_ h1=>?_) λ_ h1=>?_
 ·simp only[d5,i4]at h1;obtain⟨x,hx⟩:∃x,l[k]? =some x:=⟨_,c9 (by omega)⟩;refine J.know (λh' s=>C9 (c:=(a,c)) (by omega) (s.get (i:=1) rfl)) λhg=>?_;obtain⟨g,rfl⟩:=hg;refine J.pn 4 (.of [1,4,8,12,17,20]) [] [1,2] λ_ _=>?_;have hxl:=hs x (j9 hx);refine J.vT (b0E x) rfl rfl (λhg aa w he hC=>L5 tk rfl rfl he rfl rfl rfl (hC rfl _ (C4 (i:=1) rfl)) (by rw[show 0+(k:Int).toNat*16=k*16 from by omega];exact a4Y I7 16 (λ_=>rfl) l k x hx) rfl) ?_;refine J.vT (.bool (x==d)) rfl rfl (λhg aa w he hC=>(W5 (xs:=I7 d) (ys:=I7 x) rfl rfl rfl he rfl rfl a1s (a0u _) (a0u _) mkD gdD).trans (by rw[eqD _ _ hd hxl,b9G])) ?_;refine J.qd (λ_ h2=>?_) λ_ h2=>?_
  ·have hf:l.findIdx? (λx=>x==d)=some k:=by
    rw[n7];obtain⟨g1,g2⟩:=List.getElem?_eq_some_iff.1 hx;refine⟨g1,by rw[g2];exact h2,λj hj=>?_⟩;have:=hno j hj _ (c9 (by omega));rw[this];exact l6
   refine J.qr [1] λ_=>?_;rw[hf];exact⟨rfl,rfl⟩
  ·refine J.q λ_=>?_;refine J.nS (k+1) (⟨by omega,λj hj y hy=>by
    rcases O0 j k with h | h
    ·exact hno j h y hy
    ·obtain rfl:j=k:=by omega
     rw[hx]at hy;injection hy with hy;rw[<- hy];exact h2⟩) (by omega) [0,1,2] rfl rfl
 simp only[c8,i4]at h1;have hf:l.findIdx? (λx=>x==d)=none:=by
  rw[C6];intro x hx;obtain⟨j,hj⟩:=Z0 hx;exact hno j (by have:=(List.getElem?_eq_some_iff.1 hj).1;omega) x hj
 refine J.qr [1] λ_=>?_;rw[hf];exact⟨rfl,rfl⟩
theorem b7o (l:List (List UInt8)) (d:List UInt8):decide ((match l.findIdx? (λx=>x==d)with | some k=>(k:Int) | none=> -1)>=0)=l.contains d:=by
 cases h:l.findIdx? (λx=>x==d)with
 | none=>
  rw[C6]at h;have:l.contains d=false:=by
   rw[List.contains_eq_any_beq,Z5];intro x hx e;have:=h x hx;rw[a4b e]at this;simp at this
  rw[this];rfl
 | some k=>
  rw[n7]at h;obtain⟨h1,h2,_⟩:=h;have:l.contains d=true:=by
   rw[List.contains_eq_any_beq,a1p];exact⟨_,H1 h1,by rw[a4b h2];simp⟩
  rw[this,i5 (by dsimp only;omega)]
theorem b8k (a:Option Nat) (n c:Nat) (l:List (List UInt8)) (hl:l.length=n) (hn:n<=1000000) (d:List UInt8) (hd:d.length=16) (hs:∀x∈l,x.length=16):FP 90 [slv a n c,b0E d] [m7 36 16 a n c (P7 l)] (Ps (.bool (l.contains d)) [m7 36 16 a n c (P7 l)]):=by
 refine FE [0,0] Tryz.func90 λX F hX=>?_;refine J.qp (b5v a n c l hl hn d hd hs) [1] λ_=>?_;have hc:=b7o l d;refine J.qr [1] λ_=>?_;exact⟨by rw[<- hc],rfl⟩
theorem a9A {α:Type} (f:α->List Value) (w:Nat) (hw:∀x,(f x).length=w) (vs:List Value):∀{l:List α} {k:Nat} {x y:α},l[k]? =some x->vs.length<=w->vs++(f x).drop vs.length=f y->(l.flatMap f).take (k*w)++vs++(l.flatMap f).drop (k*w+vs.length)=(l.set k y).flatMap f
 | [],k,x,y,h,hj,e=>by simp at h
 | z::l,0,x,y,h,hj,e=>by
  simp only[K6,l4]at h;subst h;rw[O8,J2,List.take_zero,Q7,t6,List.drop_append_of_le_length (by rw[hw];exact hj),<- l9,e];rfl
 | z::l,k+1,x,y,h,hj,e=>by
  have ih:=a9A f w hw vs (l:=l) (k:=k) (x:=x) (y:=y) (by simpa using h) hj e;rw[t6,show(k+1)*w=(f z).length+k*w from by rw[hw,R7];omega,R5,show(f z).length+k*w+vs.length=(f z).length+(k*w+vs.length)from by omega,List.drop_length_add_append,l9,l9,<- l9 (List.take _ _),ih];rfl
def MSl.Fine (z:MSl):Prop:=z.v.now.length=16/\(∀x∈z.v.may,x.length=16)/\(∀x∈z.v.ever,x.length=16)/\z.v.may.length<=1000/\z.v.ever.length<=1000
theorem a7m {α:Type} {l:List α} {k:Nat} {x:α} (h:l[k]? =some x):l.set k x=l:=by
 apply t7;intro i;rw[x9];split
 ·rename_i e;subst e;split
  ·exact h.symm
  ·rename_i e2;rw[j5 (by omega)]
 ·rfl
theorem b7Q (x d:List UInt8):decide (x=d)=(x==d):=by
 by_cases h:x=d
 ·rw[h];simp
 ·rw[n5 h,beq_eq_false_iff_ne.2 h]
theorem MSl.now_at {Z:List MSl} {k:Nat} {z:MSl} (hz:Z[k]? =some z):((Z.flatMap MSl.cells).drop (k*19+0)).take 16=I7 z.v.now:=by
 have h:=a4Y MSl.cells 19 (λ_=>rfl) Z k z hz;have h2:((Z.flatMap MSl.cells).drop (k*19)).take 16=(((Z.flatMap MSl.cells).drop (k*19)).take 19).take 16:=by rw[a5o];rfl
 rw[R9,h2,h];rfl
theorem b2B (q g:Nat) (Z:List MSl) (hn:Z.length<=65536) (hf:∀z∈Z,z.Fine) (i:Int) (d:List UInt8) (hd:d.length=16):FP 44 [pp q,iI i,b0E d] (b0N q g Z) (Ps (.bool (Mv.may (Z.map (·.v)) i d)) (b0N q g Z)):=by
 refine FE [2,0,0] Tryz.func44 λX F hX=>?_;refine J.qp (b9Z q g Z.length hn i) [1] λ_=>?_
 by_cases hi:0<=i/\i<(Z.length:Int)
 ·have ha:Mv.adr Z.length g i=some ⟨g,i.toNat*19,none⟩:=by unfold Mv.adr;rw[d7 hi]
  obtain⟨k,rfl⟩:=f8 hi.1;obtain⟨z,hz⟩:∃z,Z[k]? =some z:=⟨_,c9 (by omega)⟩;obtain⟨f1,f2,f3,f4,f5⟩:=hf z (j9 hz);have hin:Mv.inR (Z.map (·.v)) (k:Int)=true:=by unfold Mv.inR;rw[l5,i5 hi.1,i5 hi.2];rfl
  have hpg:Mv.pg (Z.map (·.v)) (k:Int)=z.v:=by unfold Mv.pg;rw[i9,d6,i6,hz];rfl
  have hmy:Mv.may (Z.map (·.v)) (k:Int) d=if z.v.op then z.v.may.contains d else z.v.now==d:=by unfold Mv.may;rw[hin,hpg,n8]
  rw[ha,i9];refine J.qF λ_=>?_;have hcell:=λj hj=>a2z MSl.cells 19 MSl.cells_len hz j hj;refine J.qn 7 λ_=>?_;refine J.v (.bool z.v.op) rfl rfl (λhg aa w he hw=>D0 tk rfl rfl he rfl rfl rfl (hw.get (i:=2) rfl) (hcell 16 (by omega))) ?_;refine J.qd (λ_ h1=>?_) λ_ h1=>?_
  ·rw[d7 h1]at hmy;refine J.openAt 3 k rfl rfl (by rw[i6,hz];rfl) rfl ?_;refine J.pn 3 (.of [0,4,8,13,17,23,24]) [5,6] [1,2,3,4,5,6] λ_ _=>?_;refine J.vT (slv z.a1 z.v.may.length z.c1) rfl rfl (λhg aa w he hC=>D0 tk rfl rfl he rfl rfl rfl (hC rfl _ (C4 (i:=2) rfl)) (hcell 17 (by omega))) ?_;refine J.qp (b8k z.a1 z.v.may.length z.c1 z.v.may rfl (by omega) d hd f2) [6] λ_=>?_;refine J.q λ_=>?_;refine J.closeAt (A:=z.m1) 3 6 k rfl rfl rfl ?_;have hsame:(Z.map MSl.m1).set k z.m1=Z.map MSl.m1:=a7m (by rw[i6,hz];rfl);rw[hsame];refine J.qr [1,2,3,4] λ_=>?_;rw[hmy];exact⟨rfl,rfl⟩
  ·rw[d4 (by rw[h1];decide)]at hmy;refine J.pn 3 (.of [0,4,8,13,17,20,24]) [5,6] [1,2,3,4,5] λ_ _=>?_;refine J.vT (b0E z.v.now) rfl rfl (λhg aa w he hC=>H3 tk rfl rfl he rfl rfl rfl (hC rfl _ (C4 (i:=2) rfl)) (MSl.now_at hz) rfl) ?_;refine J.qn 1 λ_=>?_;refine J.vT (.bool (z.v.now==d)) rfl rfl (λhg aa w he hC=>(W5 (xs:=I7 z.v.now) (ys:=I7 d) rfl rfl rfl he rfl rfl a1s (a0u _) (a0u _) mkD gdD).trans (by rw[eqD _ _ f1 hd,b7Q])) ?_;refine J.qr [1,2,3,4] λ_=>?_;rw[hmy];exact⟨rfl,rfl⟩
 ·have ha:Mv.adr Z.length g i=none:=by unfold Mv.adr;rw[d4 hi]
  have hmy:Mv.may (Z.map (·.v)) i d=false:=by
   unfold Mv.may Mv.inR;rw[l5];have:(decide (0<=i)&&decide (i<(Z.length:Int)))=false:=by simp;omega
   rw[this];rfl
  rw[ha];refine J.qT λ_=>?_;refine J.qr [1,2,3,4] λ_=>?_;rw[hmy];exact⟨rfl,rfl⟩

section
variable {P : Program} {ops : Array Oper}
theorem b6f {o:Oper} {x:Operand} (hx:o.op= .move x) {K:Act->World->Prop} {a:Act} {w:World} (h:sOp P ops o K a w):sOp P ops o (λa' w'=>K a' w'/\w'=w) a w:=by
 unfold sOp at*;split
 ·rename_i hw;rw[d7 hw]at h;have e:execOp a.eval o=pure (.value (a.eval x)):=by unfold execOp;rw[hx]
  rw[e]at h ⊢;exact⟨h,rfl⟩
 ·rename_i hw;rw[d4 hw]at h;exact⟨h,rfl⟩
theorem a6a {lt mv:List Nat} (hmv:∀j∈mv,∀o,ops[j]? =some o->∃x,o.op= .move x) {C D:World->Prop} {K:Act->World->Prop} {i:Nat} {oi:Oper} {v:Value} (hi:ops[i]? =some oi) (hsel:∀(j:Nat) (o:Oper) cs b,ops[j]? =some o->o.op≠ .select cs b)
  (hD:(i∉lt/\(∀w,C w->D w)/\∀j∈lt,j∈mv\/a2k ops 3 j i=true)\/(i∈lt/\∀w,D w)):
  ∀(fuel:Nat) (listed:Array Bool) (a:Act) (w:World),Shut ops listed->
   (∀j oj,ops[j]? =some oj->j≠i->listed.getD j true=false->(∀e∈oj.after,Region.binds .any e=true->e.on≠i)->oi.apart ops oj=true)->
   i∈Region.ready .any ops listed->YldIn P ops D oi v a->D w->(i∉lt->C w)->
   sAny P ops lt C K fuel (listed.setIfInBounds i true) (a.put oi.dst v) w->sAny P ops lt C K (fuel+1) listed a w:=by
 intro fuel
 induction fuel with
 | zero=>
  intro listed a w _ _ hr hy hDw hC H;refine⟨λh=>(by rw[h]at hr;cases hr),λj hj=>?_⟩
  by_cases hji:j=i
  ·subst hji;exact⟨oi,hi,hy.sOp hDw ⟨hC,H⟩⟩
  ·have:=ready_mono hj hji;rw[H.1]at this;cases this
 | succ fuel ih=>
  intro listed a w hsh hfree hr hy hDw hC H;refine⟨λh=>(by rw[h]at hr;cases hr),λj hj=>?_⟩
  by_cases hji:j=i
  ·subst hji;exact⟨oi,hi,hy.sOp hDw ⟨hC,H⟩⟩
  ·obtain⟨oj,hoj,h1⟩:=H.2 j (ready_mono hj hji);obtain⟨hjun,oj',hoj',hall⟩:=mem_ready.1 hj;have:oj'=oj:=by rw[hoj]at hoj';injection hoj' with e;exact e.symm
   subst this;have hiun:listed.getD i false≠true:=λh1=>by
    have h0:=(mem_ready.1 hr).1;rcases O0 i listed.size with h' | h'
    ·simp[h']at h0 h1;rw[h0]at h1;cases h1
    ·simp[P5 h']at h1
   have hnot:∀e∈oj'.after,Region.binds .any e=true->e.on≠i:=λe he hb heq=>hiun (heq▸hall e he hb);have h2:=b3i (hfree j oj' hoj hji hjun hnot) (λcs b=>hsel i oi cs b hi) (λcs b=>hsel j oj' cs b hoj) hy h1;have hfree':∀k ok,ops[k]? =some ok->k≠i->(listed.setIfInBounds j true).getD k true=false->
     (∀e∈ok.after,Region.binds .any e=true->e.on≠i)->oi.apart ops ok=true:=λk ok hk hki hun hno=>by
    refine hfree k ok hk hki ?_ hno
    by_cases hjk:j=k
    ·subst hjk;exact hjun
    ·rw[getD_set_ne true hjk]at hun;exact hun
   have h2':sOp P ops oj' (λa' w'=>(YldIn P ops D oi v a'/\(j∉lt->C w')/\sAny P ops lt C K fuel ((listed.setIfInBounds i true).setIfInBounds j true) (a'.put oi.dst v) w')/\(j∈mv->w'=w)) a w:=by
    by_cases hm:j∈mv
    ·obtain⟨x,hx⟩:=hmv j hm oj' hoj;exact(b6f hx h2).mono λ_ _ hh=>⟨hh.1,λ_=>hh.2⟩
    ·exact h2.mono λ_ _ hh=>⟨hh,λh=>absurd h hm⟩
   refine⟨oj',hoj,h2'.mono λa' w' ⟨⟨hy',hC',h3⟩,hww⟩=>⟨hC',?_⟩⟩;have hdc:D w'/\(i∉lt->C w'):=by
    rcases hD with⟨hil,hCD,hw⟩ | ⟨hil,hd⟩
    ·by_cases hm:j∈mv
     ·rw[hww hm];exact⟨hDw,hC⟩
     ·have hjl:j∉lt:=λh=>by
       rcases hw j h with h' | h'
       ·exact hm h'
       ·exact hiun (a4D hsh h' hj)
      exact⟨hCD _ (hC' hjl),λ_=>hC' hjl⟩
    ·exact⟨hd _,λh=>absurd hil h⟩
   refine ih (listed.setIfInBounds j true) a' w' (hsh.set hj) hfree' (ready_mono hr (Ne.symm hji)) hy' hdc.1 hdc.2 ?_;rw[Array.setIfInBounds_comm _ _ hji];exact h3
theorem PT.sound2 {lt mv:List Nat} {C:World->Prop} {K:Act->World->Prop} (hs:Region.noSelect ops=true) (hmv:∀j∈mv,∀o,ops[j]? =some o->∃x,o.op= .move x) (hlt:∀j∈lt,∀i,i<ops.size->i∉lt->j∈mv\/a2k ops 3 j i=true):∀(t:PT) (fl:Bool) (n:Nat) (listed:Array Bool) (a:Act) (w:World),Shut ops listed->t.ok ops lt fl n listed=true->(t.allLt lt=false->C w)->pT P ops C K t a w->
  (fl=false->sAny P ops lt C K n listed a w)/\(∀i∈t.heads,∃o,ops[i]? =some o/\∃m,n=m+1/\sOp P ops o (λa' w'=>(i∉lt->C w')/\sAny P ops lt C K m (listed.setIfInBounds i true) a' w') a w)
 | .done,fl,n,listed,a,w,hsh,h,hC,hp=>by
  cases fl with
  | true=>simp[PT.ok]at h
  | false=>exact⟨λ_=>a8W (by simpa[PT.ok]using h) hp n,by simp[PT.heads]⟩
 | .take p i t,fl,n,listed,a,w,hsh,h,hC,hp=>by
  cases fl with
  | true=>simp[PT.ok]at h
  | false=>
   cases n with
   | zero=>simp[PT.ok]at h
   | succ n=>
    simp only[PT.ok,d8]at h;obtain⟨⟨⟨hr,hf⟩,ht⟩,hp2⟩:=h;refine⟨λ_=>?_,by simp[PT.heads]⟩;obtain⟨o,v,hi,hy,hp⟩:=hp;have hisz:i<ops.size:=(Array.getElem?_eq_some_iff.1 hi).1
    by_cases hil:i∈lt
    ·have hpt:p=true:=by simpa[hil]using hp2
     subst hpt;refine a6a hmv hi (Region.noSelect_spec hs) (.inr ⟨hil,λw h=>by cases h⟩) n listed a w hsh (Region.free_spec hi hf) (by simpa using hr) hy (λh=>by cases h) (λh=>absurd hil h) ((PT.sound2 hs hmv hlt t false n _ _ w (hsh.set (by simpa using hr)) ht (λhe=>hC ?_) hp).1 rfl);simp[PT.allLt,he]
    ·have hCw:C w:=hC (by simp[PT.allLt,hil]);exact a6a hmv hi (Region.noSelect_spec hs) (.inl ⟨hil,λw h _=>h,λj hj=>hlt j hj i hisz hil⟩) n listed a w hsh (Region.free_spec hi hf) (by simpa using hr) hy (λ_=>hCw) (λ_=>hCw) ((PT.sound2 hs hmv hlt t false n _ _ w (hsh.set (by simpa using hr)) ht (λ_=>hCw) hp).1 rfl)
 | .alt l i t m,fl,n,listed,a,w,hsh,h,hC,hp=>by
  cases n with
  | zero=>simp[PT.ok]at h
  | succ n=>
   simp only[PT.ok,d8]at h;obtain⟨⟨⟨⟨⟨ht,hm⟩,hall⟩,hl⟩,hlate⟩,hrd⟩:=h;obtain⟨⟨o,hi,hp⟩,hpm⟩:=hp;have hl':l=true↔i∈lt:=by
    have:=a4b hl;rw[<- this];simp
   have hmm:=(PT.sound2 hs hmv hlt m true (n+1) listed a w hsh hm (λhe=>hC (by simp[PT.allLt,he])) hpm).2;have hheads:∀j∈PT.heads (.alt l i t m),∃o,ops[j]? =some o/\∃m,n+1=m+1/\sOp P ops o (λa' w'=>(j∉lt->C w')/\sAny P ops lt C K m (listed.setIfInBounds j true) a' w') a w:=by
    intro j hj;rcases List.mem_cons.1 hj with rfl | hj
    ·refine⟨o,hi,n,rfl,hp.mono λa' w' hh=>⟨λhn=>hh.1 ?_,(PT.sound2 hs hmv hlt t false n _ a' w' (hsh.set (by simpa using hrd)) ht (λhe=>hh.1 ?_) hh.2).1 rfl⟩⟩
     ·cases l with
      | false=>rfl
      | true=>exact absurd (hl'.1 rfl) hn
     ·cases l with
      | false=>rfl
      | true=>simp only[a1S,C7]at hlate;rw[hlate]at he;cases he
    ·exact hmm j hj
   refine⟨λhfl=>?_,hheads⟩;subst hfl;simp only[C7,d8,D5]at hall;refine⟨λh0=>absurd hall.1 (by simp[h0]),λj hj=>?_⟩;obtain⟨o,h1,m',h2,h3⟩:=hheads j (by simpa using hall.2 j hj);have:m'=n:=by omega
   subst this;exact⟨o,h1,h3⟩
 | .non,fl,n,listed,a,w,hsh,h,hC,hp=>by
  cases fl with
  | true=>exact⟨(λh=>by cases h),by simp[PT.heads]⟩
  | false=>simp[PT.ok]at h
end
def b7k (o:Oper):Bool:=match o.op with
 | .move _=>true
 | _=>false
def PT.good2 (ops:Array Oper) (lt mv:List Nat) (t:PT):Bool:=Region.noSelect ops&&(mv.all λj=>(ops[j]?.map b7k).getD true)&&lt.all (λj=>mv.contains j||(List.range ops.size).all λi=>lt.contains i||a2k ops 3 j i)&&t.ok ops lt false ops.size (Array.replicate ops.size false)
theorem a6y {P:Program} {id:Nat} {ops:Array Oper} {C:World->Prop} {Q:Exit->Act->World->Prop} {a:Act} {w:World} (hm:P.follows .mixedOrders=true) (t:PT) (lt mv:List Nat) (ht:t.good2 ops lt mv=true) (hC:C {w with drawn:=w.drawn+1})
  (h:pT P ops C (Q .normal) t a {w with drawn:=w.drawn+1}):(Code.region id ops true).wp P Q a w:=by
 simp only[PT.good2,d8,D5,I5]at ht;obtain⟨⟨⟨h1,h0⟩,h2⟩,h3⟩:=ht;refine wp_region_any hm (sAny.wpAny (λ_ _ h=>h) _ _ _ _ ((PT.sound2 h1 (lt:=lt) (mv:=mv) (λj hj o ho=>?_) (λj hj i hi hn=>?_) t false _ _ a _ (Shut.none _) h3 (λ_=>hC) h).1 rfl))
 ·have:=h0 j hj;rw[ho]at this;simp only[B8,i7]at this;unfold b7k at this;split at this
  ·exact⟨_,by assumption⟩
  ·cases this
 ·have:=h2 j hj;rcases Bool.or_eq_true_iff.1 this with h | h
  ·exact .inl (by simpa using h)
  ·rw[D5]at h;have:=h i (List.mem_range.2 hi);exact .inr (by simpa[hn]using this)
theorem J.plan2 {X:Cx} {K:List KI} {E:Env} {L:List Atom} {id:Nat} {ops:Array Oper} (t:PT) (lt mv ro:List Nat) (hm:X.P.follows .mixedOrders=true) (ht:t.good2 ops lt mv=true) (h:J X (.reg ops (snap L ro) t::K) E L):J X (.code (.region id ops true)::K) E L:=
 λa w hx he hs=>a6y hm t lt mv ht (CAt.snap (w:={w with drawn:=w.drawn+1}) hs ro) (h a _ hx.drew he hs)
theorem a0x (l:List (List UInt8)) (d:List UInt8):P7 l++I7 d=P7 (l++[d]):=by unfold P7;rw[M7];simp
theorem MSl.put17 (d:List UInt8) (o:Bool) (A B:List (List UInt8)) (a1:Option Nat) (c1:Nat) (a2:Option Nat) (c2:Nat) (x:Option Nat×Nat):(MSl.cells ⟨⟨d,o,A,B⟩,a1,c1,a2,c2⟩).set 17 (slv x.1 (A.length+1) x.2)=MSl.cells ⟨⟨d,o,A++[d],B⟩,x.1,x.2,a2,c2⟩:=by
 unfold MSl.cells;dsimp only;rw[f7];rfl
theorem MSl.put18 (d:List UInt8) (o:Bool) (A B:List (List UInt8)) (a1:Option Nat) (c1:Nat) (a2:Option Nat) (c2:Nat) (x:Option Nat×Nat):(MSl.cells ⟨⟨d,o,A,B⟩,a1,c1,a2,c2⟩).set 18 (slv x.1 (B.length+1) x.2)=MSl.cells ⟨⟨d,o,A,B++[d]⟩,a1,c1,x.1,x.2⟩:=by
 unfold MSl.cells;dsimp only;rw[f7];rfl
theorem b6P (q g:Nat) (Z:List MSl) (hn:Z.length<=65536) (hf:∀z∈Z,z.Fine) (i:Int) (d:List UInt8) (hd:d.length=16):FP 38 [pp q,iI i,b0E d] (b0N q g Z) (λv As=>∃Z',v= .bool (Mv.inR (Z.map (·.v)) i)/\As=b0N q g Z'/\Z'.map (·.v)=Mv.write (Z.map (·.v)) i d):=by
 refine FE [2,0,0] Tryz.func38 λX F hX=>?_;refine J.qp (b9Z q g Z.length hn i) [1] λ_=>?_
 by_cases hi:0<=i/\i<(Z.length:Int)
 ·have ha:Mv.adr Z.length g i=some ⟨g,i.toNat*19,none⟩:=by unfold Mv.adr;rw[d7 hi]
  obtain⟨k,rfl⟩:=f8 hi.1;obtain⟨z,hz⟩:∃z,Z[k]? =some z:=⟨_,c9 (by omega)⟩;obtain⟨f1,f2,f3,f4,f5⟩:=hf z (j9 hz);have hin:Mv.inR (Z.map (·.v)) (k:Int)=true:=by unfold Mv.inR;rw[l5,i5 hi.1,i5 hi.2];rfl
  rw[ha,i9];refine J.qF λ_=>?_;refine J.openAt 3 k rfl rfl (by rw[i6,hz];rfl) rfl ?_;refine J.openAt 4 k rfl rfl (by rw[i6,hz];rfl) rfl ?_;have hl1:k*19+19<=(Z.flatMap MSl.cells).length:=by rw[MSl.flat_len];omega
  have T7:∀y:MSl,(Z.set k y)[k]? =some y:=λy=>by rw[x9,d7 rfl,d7 (by omega)]
  refine J.qn 8 λ_=>?_;have hst:((Z.flatMap MSl.cells).take (k*19)++I7 d++(Z.flatMap MSl.cells).drop (k*19+(I7 d).length))=(Z.set k ⟨⟨d,z.v.op,z.v.may,z.v.ever⟩,z.a1,z.c1,z.a2,z.c2⟩).flatMap MSl.cells:=a9A MSl.cells 19 MSl.cells_len (I7 d) hz (by show 16<=19;omega) (y:=⟨⟨d,z.v.op,z.v.may,z.v.ever⟩,z.a1,z.c1,z.a2,z.c2⟩) rfl;refine J.sN (I7 d) 2 ((Z.set k ⟨⟨d,z.v.op,z.v.may,z.v.ever⟩,z.a1,z.c1,z.a2,z.c2⟩).flatMap MSl.cells) ?_ ?_ ?_
  ·show k*19+0+16<=_;omega
  ·rw[R9];exact hst
  refine J.qn 3 λ_=>?_;refine J.s1 2 ((Z.set k ⟨⟨d,false,z.v.may,z.v.ever⟩,z.a1,z.c1,z.a2,z.c2⟩).flatMap MSl.cells) ?_ ?_ ?_
  ·rw[MSl.flat_len,z8,<- MSl.flat_len];omega
  ·exact(P8 MSl.cells 19 MSl.cells_len 16 (y:=⟨⟨d,false,z.v.may,z.v.ever⟩,z.a1,z.c1,z.a2,z.c2⟩) _ (T7 ⟨⟨d,z.v.op,z.v.may,z.v.ever⟩,z.a1,z.c1,z.a2,z.c2⟩) (by omega) rfl).trans (by rw[Y8];all_goals rfl)
  refine J.q λ_=>?_;refine J.plan2 (.take true 0 (.take true 1 (.take true 2 (.take true 3 (.take true 4 (.take false 5 (.take false 6 (.take true 9 (.take true 10 (.take true 11 (.take false 12 (.take false 13 (.alt false 7 ((.alt false 8 ((.of [58,62,64,68,75,76,80,87])) (.alt false 14 ((.of [34,62,64,68,75,76,80,87])) .non))) (.alt false 14 ((.of [30,34,62,64,68,75,76,80,87])) .non)))))))))))))) [1,16,17,18,19,20,21] [1] [1,2,3,4,5] (by rw[hX.hP];kernel_rfl) (by kernel_rfl) ?_;have hcell:=λj hj=>a2z MSl.cells 19 MSl.cells_len (T7 ⟨⟨d,false,z.v.may,z.v.ever⟩,z.a1,z.c1,z.a2,z.c2⟩) j hj;refine J.qn 6 λ_=>?_;refine J.vT (slv z.a1 z.v.may.length z.c1) rfl rfl (λhg aa w he hC=>D0 tk rfl rfl he rfl rfl rfl (hC rfl _ (C4 (i:=2) rfl)) (hcell 17 (by omega))) ?_;refine J.qn 4 λ_=>?_;refine J.vT (slv z.a2 z.v.ever.length z.c2) rfl rfl (λhg aa w he hC=>D0 tk rfl rfl he rfl rfl rfl (hC rfl _ (C4 (i:=2) rfl)) (hcell 18 (by omega))) ?_;refine J.qn 1 λ_=>?_;refine J.join (α:=(Option Nat×Nat)×(Option Nat×Nat)) (λ_=>[sv 6 (.bool false)]) (λx=>[.hp F, .pt q 151 [.slice (some ⟨g,0,none⟩) Z.length Z.length], .pt g 153 ((Z.set k ⟨⟨d,false,z.v.may++[d],z.v.ever++[d]⟩,x.1.1,x.1.2,x.2.1,x.2.2⟩).flatMap MSl.cells), .hp (HP.of ((Z.map MSl.m1).set k .emp)), .hp (HP.of ((Z.map MSl.m2).set k .emp)),m7 36 16 x.1.1 (z.v.may.length+1) x.1.2 (P7 (z.v.may++[d])),m7 36 16 x.2.1 (z.v.ever.length+1) x.2.2 (P7 (z.v.ever++[d]))]) (λhj=>?_) (λx=>?_)
  ·refine J.alts ?_ ?_
   ·skip
    refine J.qn 1 λbb=>?_;refine J.alts ?_ ?_
    ·skip
     refine J.ap 6 8 0 (a0x z.v.may d) λa3 c3=>?_;refine J.qn 1 λbc=>?_;refine J.ap 7 9 0 (a0x z.v.ever d) λa4 c4=>?_;refine J.qn 2 λ_=>?_;refine J.s1 2 ((Z.set k ⟨⟨d,false,z.v.may++[d],z.v.ever⟩,a3,c3,z.a2,z.c2⟩).flatMap MSl.cells) ?_ ?_ ?_
     ·rw[MSl.flat_len,z8,<- MSl.flat_len];omega
     ·exact(P8 MSl.cells 19 MSl.cells_len 17 (y:=⟨⟨d,false,z.v.may++[d],z.v.ever⟩,a3,c3,z.a2,z.c2⟩) _ (T7 ⟨⟨d,false,z.v.may,z.v.ever⟩,z.a1,z.c1,z.a2,z.c2⟩) (by omega) (MSl.put17 _ _ _ _ _ _ _ _ (a3,c3))).trans (by rw[Y8];all_goals rfl)
     refine J.qn 2 λ_=>?_;refine J.s1 2 ((Z.set k ⟨⟨d,false,z.v.may++[d],z.v.ever++[d]⟩,a3,c3,a4,c4⟩).flatMap MSl.cells) ?_ ?_ ?_
     ·rw[MSl.flat_len,z8,<- MSl.flat_len];omega
     ·exact(P8 MSl.cells 19 MSl.cells_len 18 (y:=⟨⟨d,false,z.v.may++[d],z.v.ever++[d]⟩,a3,c3,a4,c4⟩) _ (T7 ⟨⟨d,false,z.v.may++[d],z.v.ever⟩,a3,c3,z.a2,z.c2⟩) (by omega) (MSl.put18 _ _ _ _ _ _ _ _ (a4,c4))).trans (by rw[Y8];all_goals rfl)
     exact J.goto [0,1,2,3,4,6,7] (hj ((a3,c3),(a4,c4))) ⟨rfl,trivial⟩ rfl rfl
    ·skip
     refine J.qn 1 λbc=>?_;refine J.ap 6 8 0 (a0x z.v.may d) λa3 c3=>?_;refine J.ap 7 9 0 (a0x z.v.ever d) λa4 c4=>?_;refine J.qn 2 λ_=>?_;refine J.s1 2 ((Z.set k ⟨⟨d,false,z.v.may++[d],z.v.ever⟩,a3,c3,z.a2,z.c2⟩).flatMap MSl.cells) ?_ ?_ ?_
     ·rw[MSl.flat_len,z8,<- MSl.flat_len];omega
     ·exact(P8 MSl.cells 19 MSl.cells_len 17 (y:=⟨⟨d,false,z.v.may++[d],z.v.ever⟩,a3,c3,z.a2,z.c2⟩) _ (T7 ⟨⟨d,false,z.v.may,z.v.ever⟩,z.a1,z.c1,z.a2,z.c2⟩) (by omega) (MSl.put17 _ _ _ _ _ _ _ _ (a3,c3))).trans (by rw[Y8];all_goals rfl)
     refine J.qn 2 λ_=>?_;refine J.s1 2 ((Z.set k ⟨⟨d,false,z.v.may++[d],z.v.ever++[d]⟩,a3,c3,a4,c4⟩).flatMap MSl.cells) ?_ ?_ ?_
     ·rw[MSl.flat_len,z8,<- MSl.flat_len];omega
     ·exact(P8 MSl.cells 19 MSl.cells_len 18 (y:=⟨⟨d,false,z.v.may++[d],z.v.ever++[d]⟩,a3,c3,a4,c4⟩) _ (T7 ⟨⟨d,false,z.v.may++[d],z.v.ever⟩,a3,c3,z.a2,z.c2⟩) (by omega) (MSl.put18 _ _ _ _ _ _ _ _ (a4,c4))).trans (by rw[Y8];all_goals rfl)
     exact J.goto [0,1,2,3,4,6,7] (hj ((a3,c3),(a4,c4))) ⟨rfl,trivial⟩ rfl rfl
   ·skip
    refine J.qn 2 λbb=>?_;refine J.ap 6 9 0 (a0x z.v.may d) λa3 c3=>?_;refine J.ap 7 8 0 (a0x z.v.ever d) λa4 c4=>?_;refine J.qn 2 λ_=>?_;refine J.s1 2 ((Z.set k ⟨⟨d,false,z.v.may++[d],z.v.ever⟩,a3,c3,z.a2,z.c2⟩).flatMap MSl.cells) ?_ ?_ ?_
    ·rw[MSl.flat_len,z8,<- MSl.flat_len];omega
    ·exact(P8 MSl.cells 19 MSl.cells_len 17 (y:=⟨⟨d,false,z.v.may++[d],z.v.ever⟩,a3,c3,z.a2,z.c2⟩) _ (T7 ⟨⟨d,false,z.v.may,z.v.ever⟩,z.a1,z.c1,z.a2,z.c2⟩) (by omega) (MSl.put17 _ _ _ _ _ _ _ _ (a3,c3))).trans (by rw[Y8];all_goals rfl)
    refine J.qn 2 λ_=>?_;refine J.s1 2 ((Z.set k ⟨⟨d,false,z.v.may++[d],z.v.ever++[d]⟩,a3,c3,a4,c4⟩).flatMap MSl.cells) ?_ ?_ ?_
    ·rw[MSl.flat_len,z8,<- MSl.flat_len];omega
    ·exact(P8 MSl.cells 19 MSl.cells_len 18 (y:=⟨⟨d,false,z.v.may++[d],z.v.ever++[d]⟩,a3,c3,a4,c4⟩) _ (T7 ⟨⟨d,false,z.v.may++[d],z.v.ever⟩,a3,c3,z.a2,z.c2⟩) (by omega) (MSl.put18 _ _ _ _ _ _ _ _ (a4,c4))).trans (by rw[Y8];all_goals rfl)
    exact J.goto [0,1,2,3,4,6,7] (hj ((a3,c3),(a4,c4))) ⟨rfl,trivial⟩ rfl rfl
  obtain⟨⟨a3,c3⟩,a4,c4⟩:=x;dsimp only;obtain⟨y,hy⟩:∃y:MSl,y=⟨⟨d,false,z.v.may++[d],z.v.ever++[d]⟩,a3,c3,a4,c4⟩:=⟨_,rfl⟩;rw[<- hy,show m7 36 16 a3 (z.v.may.length+1) c3 (P7 (z.v.may++[d]))=y.m1 from by rw[hy];unfold MSl.m1;rw[f7];rfl,show m7 36 16 a4 (z.v.ever.length+1) c4 (P7 (z.v.ever++[d]))=y.m2 from by rw[hy];unfold MSl.m2;rw[f7];rfl];refine J.closeAt (A:=y.m1) 3 5 k rfl rfl rfl ?_;refine J.closeAt (A:=y.m2) 4 6 k rfl rfl rfl ?_;rw[<- K0,<- K0];refine J.qr [1,2,3,4] λ_=>?_;refine⟨Z.set k y,?_,?_,?_⟩
  ·rw[hin]
  ·unfold b0N;rw[z8];rfl
  ·have hpg:Mv.pg (Z.map (·.v)) (k:Int)=z.v:=by unfold Mv.pg;rw[i9,d6,i6,hz];rfl
   unfold Mv.write;rw[hin,d7 rfl,hpg,K0,i9,hy];rfl
 ·have ha:Mv.adr Z.length g i=none:=by unfold Mv.adr;rw[d4 hi]
  have hin:Mv.inR (Z.map (·.v)) i=false:=by
   unfold Mv.inR;rw[l5];simp;omega
  rw[ha];refine J.qT λ_=>?_;refine J.qr [1,2,3,4] λ_=>?_;exact⟨Z,by rw[hin],rfl,by unfold Mv.write;rw[hin];rfl⟩
theorem MSl.m1_of {y z:MSl} (ha:y.a1=z.a1) (hc:y.c1=z.c1) (hv:y.v.may=z.v.may):y.m1=z.m1:=by unfold MSl.m1;rw[ha,hc,hv]
theorem MSl.m2_of {y z:MSl} (ha:y.a2=z.a2) (hc:y.c2=z.c2) (hv:y.v.ever=z.v.ever):y.m2=z.m2:=by unfold MSl.m2;rw[ha,hc,hv]
theorem MSl.map_m1 {Z:List MSl} {k:Nat} {z y:MSl} (hz:Z[k]? =some z) (h:y.m1=z.m1):(Z.set k y).map MSl.m1=Z.map MSl.m1:=by rw[K0,h];exact a7m (by rw[i6,hz];rfl)
theorem MSl.map_m2 {Z:List MSl} {k:Nat} {z y:MSl} (hz:Z[k]? =some z) (h:y.m2=z.m2):(Z.set k y).map MSl.m2=Z.map MSl.m2:=by rw[K0,h];exact a7m (by rw[i6,hz];rfl)
theorem b5F {α:Type} {f:α->α} {V Y:List α} {k:Nat} {x:α} (h:Y=(V.take k).map f++V.drop k) (hk:k<V.length) (hx:Y[k]? =some x):Y.set k (f x)=(V.take (k+1)).map f++V.drop (k+1):=by
 have hl:((V.take k).map f).length=k:=by simp;omega
 have hv:V.drop k=V[k]::V.drop (k+1):=s8 hk;have he:x=V[k]:=by
  rw[h,A8 (by omega),hl,Y6,hv,K6]at hx;injection hx with hx;exact hx.symm
 rw[h,hv,Q5 _ _ (by omega),hl,Y6,a0A,List.take_succ_eq_append_getElem hk,s9,l9,he];rfl
def Mv.cut1 (v:MPv):MPv:={v with op:=true}
theorem c0G (q g:Nat) (Z:List MSl) (hn:Z.length<=65536):FP 39 [pp q] (b0N q g Z) (λv As=>∃Z',v= .tuple #[]/\As=b0N q g Z'/\Z'.map (·.v)=Mv.cut (Z.map (·.v))):=by
 refine FE [2] Tryz.func39 λX F hX=>?_;refine J.qF λ_=>?_;refine J.q λ_=>?_;refine J.l (α:=(Nat×List MSl)) (λz=>z.1<=Z.length/\z.2.length=Z.length/\z.2.map MSl.m1=Z.map MSl.m1/\z.2.map MSl.m2=Z.map MSl.m2/\z.2.map (·.v)=((Z.map (·.v)).take z.1).map Mv.cut1++(Z.map (·.v)).drop z.1) (λz=>[si 10 z.1,si 9 Z.length,⟨0,pp q,2, .tt⟩]) [2] (λz=>[.pt g 153 (z.2.flatMap MSl.cells)]) (λz=>Z.length-z.1) ((0,Z)) (⟨j6 _,rfl,rfl,rfl,rfl⟩) λz hI=>?_;obtain⟨k,Y⟩:=z;dsimp only at hI ⊢;obtain⟨hk,hYl,hY1,hY2,hY⟩:=hI;refine J.qd (λ_ h1=>?_) λ_ h1=>?_
 ·simp only[d5,i4]at h1;obtain⟨z,hz⟩:∃z,Y[k]? =some z:=⟨_,c9 (by omega)⟩;have hstep:(Y.set k ⟨Mv.cut1 z.v,z.a1,z.c1,z.a2,z.c2⟩).map (·.v)=((Z.map (·.v)).take (k+1)).map Mv.cut1++(Z.map (·.v)).drop (k+1):=by
   rw[K0];exact b5F hY (by simpa using h1) (by rw[i6,hz];rfl)
  refine J.qn 16 λ_=>?_;refine J.s1 2 ((Y.set k ⟨Mv.cut1 z.v,z.a1,z.c1,z.a2,z.c2⟩).flatMap MSl.cells) ?_ ?_ ?_
  ·show 0+(k:Int).toNat*19+16<_;rw[MSl.flat_len];omega
  ·rw[show 0+(k:Int).toNat*19+16=k*19+16 from by omega];exact P8 MSl.cells 19 MSl.cells_len 16 (y:=⟨Mv.cut1 z.v,z.a1,z.c1,z.a2,z.c2⟩) _ hz (by omega) rfl
  refine J.q λ_=>?_;refine J.n ((k+1,Y.set k ⟨Mv.cut1 z.v,z.a1,z.c1,z.a2,z.c2⟩)) (⟨by dsimp only;omega,by dsimp only;rw[z8];exact hYl,(MSl.map_m1 (y:=⟨Mv.cut1 z.v,z.a1,z.c1,z.a2,z.c2⟩) hz (MSl.m1_of rfl rfl rfl)).trans hY1,(MSl.map_m2 (y:=⟨Mv.cut1 z.v,z.a1,z.c1,z.a2,z.c2⟩) hz (MSl.m2_of rfl rfl rfl)).trans hY2,hstep⟩) (by dsimp only;omega) [0,1,2,3,4]
 simp only[c8,i4]at h1;obtain rfl:k=Z.length:=by omega
 refine J.q λ_=>?_;refine J.f [1,2,3,4] ?_;refine⟨Y,rfl,?_,?_⟩
 ·unfold b0N;rw[hYl,hY1,hY2];rfl
 ·rw[hY,A6 (by simp),a2H (by simp),l8];rfl
theorem Fv.allG_keep {k m:Nat}:∀(n:Nat) (i:Int) (Z:Fv),Z.Ok k m->(Fv.allG n i Z).1.Ok k m
 | 0,_,_,h=>h
 | n+1,i,Z,h=>by
  rw[Fv.allG_succ];split
  ·exact(Fv.read_keep h i).1
  ·exact Fv.allG_keep n (i+1) _ (Fv.read_keep h i).1
theorem Fv.all_keep {Z:Fv} {k m:Nat} (h:Z.Ok k m):Z.all.1.Ok k m:=by
 unfold Fv.all;split
 ·exact Fv.allG_keep _ _ _ h
 ·exact Fv.allG_keep _ _ _ h
namespace B21
def d1 (n:UInt8):List UInt8:=n::List.replicate 15 0
def N0:Nand:=Nand.new 3 8 2
def F0:Fv:=Fv.of (M9 N0).1
def F1:Fv×Int:=F0.write 1 (d1 7)
def F2:Fv×Int:=F1.1.trim 2
def F3:Fv×Int:=F2.1.write 3 zd
def F4:Fv×List UInt8×Int:=F3.1.read 1
def F5:Fv×Int:=F4.1.flush
def F6:Fv:=F5.1.setN (F5.1.S.N.setCut (-1) 0)
def F7:Fv×List UInt8×Int:=F6.read 1
def N8:Nand:=F7.1.S.N.onN
def F8:Fv:=Fv.of (M9 N8).1
def F9:Fv×List UInt8×Int:=F8.read 1
def Fa:Fv×List (List UInt8)×Int:=F9.1.all
def P0:Pv:=Pv.new 3 8 2 []
def s1:Stp:=⟨2,0,d1 9,0,0,dF⟩
def s2:Stp:=⟨1,0,zd,0,0,dF⟩
def Z1:Fv:=((F0.setN F0.S.N).write 0 (d1 9)).1
def Z2:Fv:=((Z1.setN Z1.S.N).read 0).1
def Z3:Fv:=((Z2.setN Z2.S.N)).flush.1
theorem m0:(M9 N0).2=0:=by kernel_rfl
theorem v1:F1.2=0:=by kernel_rfl
theorem v2:F2.2=0:=by kernel_rfl
theorem v3:F3.2=3:=by kernel_rfl
theorem v4:F4.2.2=0:=by kernel_rfl
theorem w4:F4.2.1=d1 7:=by kernel_rfl
theorem v5:F5.2=0:=by kernel_rfl
theorem v7:F7.2.2=9:=by kernel_rfl
theorem m8:(M9 N8).2=0:=by kernel_rfl
theorem v9:F9.2.2=0:=by kernel_rfl
theorem w9:F9.2.1=d1 7:=by kernel_rfl
theorem va:Fa.2.1.length=3:=by kernel_rfl
theorem wa:Fa.2.2=0:=by kernel_rfl
theorem z0:P0.Z=some F0:=by kernel_rfl
theorem e1:(P0.step s1).2.err=0:=by kernel_rfl
theorem z1:(P0.step s1).1.Z=some Z1:=by kernel_rfl
def P1:Pv:=(P0.step s1).1
theorem e2:(P1.step s2).2.data=d1 9:=by kernel_rfl
theorem z2:(P1.step s2).1.Z=some Z2:=by kernel_rfl
def P2:Pv:=(P1.step s2).1
theorem z3:(P2.step flS).1.Z=some Z3:=by kernel_rfl
theorem pL1:P1.L=[]:=by kernel_rfl
theorem pl1:P1.log.length=1:=by kernel_rfl
theorem pL2:P2.L=[]:=by kernel_rfl
theorem lg2:P2.log.length=2:=by kernel_rfl
theorem t3:decide ((Z3.ticks 50).2>=0)=true:=by kernel_rfl
theorem lgA:Fa.1.lg=3:=by kernel_rfl
def M0:List MPv:=Mv.new 2
def M1:List MPv:=Mv.cut (Mv.write M0 0 (d1 1))
theorem q1:Mv.may M1 0 zd=true:=by kernel_rfl
theorem q2:Mv.may M1 0 (d1 1)=true:=by kernel_rfl
theorem q3:Mv.may M1 0 (d1 2)=false:=by kernel_rfl
def K (j:Nat):Nat:=(20-j)*10000000000000
theorem ok0:F0.Ok (K 0) 0:=Fv.of_ok (a7H (a6W 3 8 2 rfl _ (by decide))).1 (by decide)
theorem ok1:F1.1.Ok (K 1) 0:=(Fv.write_keep (ok0.less (k':=Fv.cW+(1+K 1)) (by decide)) 1 rfl).1
theorem ok2:F2.1.Ok (K 2) 0:=(Fv.trim_keep (ok1.less (k':=Fv.cW+(1+K 2)) (by decide)) 2).1
theorem ok3:F3.1.Ok (K 3) 0:=(Fv.write_keep (ok2.less (k':=Fv.cW+(1+K 3)) (by decide)) 3 rfl).1
theorem ok4:F4.1.Ok (K 4) 0:=(Fv.read_keep (ok3.less (k':=K 4) (by decide)) 1).1
theorem ok5:F5.1.Ok (K 5) 0:=(Fv.flush_keep (ok4.less (k':=Fv.cW*200+K 5) (by decide))).1
theorem ok6:F6.Ok (K 5) 0:=ok5.setN (Nand.like_cut _ _ _) (ok5.dv.gd.cut (-1) 0 (by decide) (by decide))
theorem ok7:F7.1.Ok (K 5) 0:=(Fv.read_keep ok6 1).1
theorem g8:N8.Gd (Dv.costK+K 6) 0:=(ok7.dv.gd.less (by decide) (j3 0)).on
theorem ok8:F8.Ok (K 6) 0:=Fv.of_ok (a7H g8).1 (by decide)
theorem ok9:F9.1.Ok (K 6) 0:=(Fv.read_keep ok8 1).1
theorem oka:Fa.1.Ok (K 6) 0:=Fv.all_keep ok9
theorem okz1:Z1.Ok (K 1) 0:=(Fv.write_keep ((ok0.setN (Nand.Like.refl _) ok0.dv.gd).less (k':=Fv.cW+(1+K 1)) (by decide)) 0 rfl).1
theorem okz2:Z2.Ok (K 1) 0:=(Fv.read_keep (okz1.setN (Nand.Like.refl _) okz1.dv.gd) 0).1
theorem okz2o:Z2.S.N.off=false:=by kernel_rfl
end B21
end Go.Proofs.YtmafiplddapokaaGreat
namespace Go.Proofs.YtmafiplddapokaaGreat
open Go Go.RowKit
theorem a2D (q n:Nat) (A:Pad) (P:Pv) (Z:Fv) (hZ:P.Z=some Z):a3h q n A P=[PlQ q n (some Z) A.f (pp A.fp) (slv A.a2 P.log.length A.c2), .pt A.fp 218 [.slice (R2 A.a) P.L.length A.c],rdA (R2 A.a) 7 P.L.length (A4 P.L),m7 83 17 A.a2 P.log.length A.c2 (T4 P.log)]++FvP A.f A.p n A.t A.l A.d Z:=by unfold a3h a4c;rw[hZ];rfl
theorem a6T {Z:List MSl} {M:List MPv} (h:Z.map (·.v)=M) (hM:∀v∈M,v.now.length=16/\(∀x∈v.may,x.length=16)/\(∀x∈v.ever,x.length=16)/\v.may.length<=1000/\v.ever.length<=1000):∀z∈Z,z.Fine:=λz hz=>hM z.v (by rw[<- h];exact List.mem_map.2 ⟨z,hz,rfl⟩)
theorem b4D:FP 43 [] [] (Ps (.bool true) []):=by
 refine FE [] Tryz.func43 λX F hX=>?_;refine J.qp (b4C) [] λ_=>?_;exact J.qx []
open B21
theorem b4z:FP 7 [] [] (Ps (.bool true) []):=by
 have G0:N0.Gd (Dv.costK+0) 0:=a6W 3 8 2 rfl _ (by decide);refine FE [] Tryz.func7 λX F hX=>?_;refine J.qc (a7E 3 8 2 rfl) [] λ_=>?_;rintro v As ⟨n,rfl,rfl⟩;refine⟨_,rfl,trivial,?_⟩;rw[show Nand.new 3 8 2=N0 from rfl];refine J.qc (a1K n N0 0 0 G0 (by decide) rfl) [1] λ_=>?_;rintro v As (⟨_,f,p,t,l,d,rfl,rfl⟩ | ⟨he,rfl,rfl⟩)
 rotate_left
 ·exact absurd m0 he
 refine⟨_,rfl,trivial,?_⟩;rw[show Fv.of (M9 N0).1=F0 from rfl];refine J.qF λ_=>?_;refine J.qp (a3A f p n t l d F0 (K 1) 0 (ok0.less (by decide)) (by decide) 1 (d1 7) rfl) [1,2,3,4,5,6] λ_=>?_;rw[show F0.write 1 (d1 7)=F1 from rfl,v1];refine J.qp (b3F f p n t l d F1.1 (K 2) 0 (ok1.less (by decide)) (by decide) 2) [1,2,3,4,5,6] λ_=>?_;rw[show F1.1.trim 2=F2 from rfl,v2];refine J.qp (a3A f p n t l d F2.1 (K 3) 0 (ok2.less (by decide)) (by decide) 3 zd rfl) [1,2,3,4,5,6] λ_=>?_;rw[show F2.1.write 3 zd=F3 from rfl,v3];refine J.qp (a2P f p n t l d F3.1 (K 3) 0 ok3 1) [1,2,3,4,5,6] λ_=>?_;rw[show F3.1.read 1=F4 from rfl,v4,w4];refine J.q λc7=>?_;refine J.cb (a4W f p n t l d F4.1 (K 5) 0 (ok4.less (by decide)) (by decide)) [1,2,3,4,5,6] ?_;refine cpq ⟨_,rfl,trivial,?_⟩;rw[show F4.1.flush=F5 from rfl,v5];refine J.qp (a9h n F5.1.S.N (-1) 0) [3] λ_=>?_;refine J.qp (a2P f p n t l d F6 (K 5) 0 ok6 1) [1,2,3,4,5,6] λ_=>?_;rw[show F6.read 1=F7 from rfl,v7];refine J.q λc10=>?_;refine J.cb (b6I n F7.1.S.N) [3] ?_;refine cpq ⟨_,rfl,trivial,?_⟩;rw[show F7.1.S.N.onN=N8 from rfl];refine J.qc (a1K n N8 (K 6) 0 g8 (by decide) rfl) [3] λ_=>?_;rintro v As (⟨_,f',p',t',l',d',rfl,rfl⟩ | ⟨he,rfl,rfl⟩)
 rotate_left
 ·exact absurd m8 he
 refine⟨_,rfl,trivial,?_⟩;rw[show Fv.of (M9 N8).1=F8 from rfl];refine J.qp (a2P f' p' n t' l' d' F8 (K 6) 0 ok8 1) [3,9,10,11,12,13] λ_=>?_;rw[show F8.read 1=F9 from rfl,v9,w9];refine J.q λc14=>?_;refine J.cb (c0F 2) [] ?_;rintro v As ⟨mq,mg,MZ,rfl,rfl,hM0⟩;refine⟨_,rfl,trivial,?_⟩;have ml0:MZ.length=2:=by have:=congrArg List.length hM0;rw[l5]at this;exact this
 refine J.qc (b6P mq mg MZ (by omega) (a6T hM0 (by decide)) 0 (d1 1) rfl) [15,16,17,18] λ_=>?_;rintro v As ⟨MZ1,rfl,rfl,hM1⟩;refine⟨_,rfl,trivial,?_⟩;rw[hM0]at hM1;have ml1:MZ1.length=2:=by have:=congrArg List.length hM1;rw[l5]at this;exact this
 refine J.qc (c0G mq mg MZ1 (by omega)) [15,16,17,18] λ_=>?_;rintro v As ⟨MZ2,rfl,rfl,hM2⟩;refine⟨_,rfl,trivial,?_⟩;rw[hM1]at hM2;have hM2:MZ2.map (·.v)=M1:=hM2;have ml2:MZ2.length=2:=by have:=congrArg List.length hM2;rw[l5]at this;exact this
 refine J.q λ_=>?_;refine J.turn1 [] rfl (As:=[rdA none 7 0 (A4 [])]) (λh s=>Sep.one ⟨rfl,λh=>absurd h (by decide)⟩) rfl ?_;refine J.q λ_=>?_;refine J.ca hX (by kernel_rfl) (c0t 3 8 2 rfl (rdA none 7 0 (A4 [])) none 0 0 [] (b0e _ _ _ _) rfl (by decide)) [19] 0 rfl rfl rfl rfl rfl rfl (λ_=>rfl) ?_;rintro v As ⟨q,nn,A0,rfl,hA0,rfl⟩;rw[show Pv.new 3 8 2 []=P0 from rfl]at hA0 ⊢;rw[a2D q nn A0 P0 F0 z0];refine⟨_,rfl,trivial,?_⟩;refine J.q λ_=>?_;have hst1:=b0j q nn A0 P0 hA0 F0 z0 (K 1) 0 (ok0.less (by decide)) (by decide) (by decide) (by decide) s1 rfl;rw[a2D q nn A0 P0 F0 z0]at hst1;refine J.qc (hst1) [20,21,22,23,24,25,26,27,28,29] λ_=>?_;rintro v As ⟨A1,rfl,hA1,rfl⟩;obtain⟨x1,hx1⟩:∃x,(P0.step s1).2=⟨0,x⟩:=⟨(P0.step s1).2.data,by rw[<- e1]⟩;rw[show(P0.step s1).1=P1 from rfl]at hA1 ⊢;rw[a2D q nn A1 P1 B21.Z1 z1,hx1];refine⟨_,rfl,trivial,?_⟩;refine J.q λc18=>?_;have hst2:=b0j q nn A1 P1 hA1 B21.Z1 z1 (K 2) 0 (okz1.less (by decide)) (by rw[pL1];decide) (by rw[pL1];decide) (by rw[pl1];decide) s2 rfl;rw[a2D q nn A1 P1 B21.Z1 z1]at hst2;refine J.qc (hst2) [20,21,22,23,24,25,26,27,28,29] λ_=>?_;rintro v As ⟨A2,rfl,hA2,rfl⟩;obtain⟨x2,hx2⟩:∃x,(P1.step s2).2=⟨x,d1 9⟩:=⟨(P1.step s2).2.err,by rw[<- e2]⟩;rw[show(P1.step s2).1=P2 from rfl]at hA2 ⊢;rw[a2D q nn A2 P2 B21.Z2 z2,hx2];refine⟨_,rfl,trivial,?_⟩;refine J.q λc19=>?_;refine J.cb (c0Z f' p' n t' l' d' F9.1 (K 6) 0 ok9) [3,9,10,11,12,13] ?_;rintro v As ⟨aa,ac,rfl,rfl⟩;refine⟨_,rfl,trivial,?_⟩;rw[show F9.1.all=Fa from rfl,va,wa];refine J.q λ_=>?_;have hz2:P2.Z=some B21.Z2:=z2;have hlog:=c0u q nn A2 P2 (by rw[lg2];decide);rw[hz2]at hlog;refine J.qc (hlog) [20,23] λ_=>?_;rintro v As ⟨la,lc,rfl,rfl⟩;refine⟨_,rfl,trivial,?_⟩;refine J.qp (b4D) [] λ_=>?_;refine J.qn 19 λ_=>?_;refine J.v (.bool true) rfl rfl (λhg aa w he hw=>(W5 (xs:=I7 (d1 7)) (ys:=I7 (d1 7)) rfl rfl rfl he hg rfl a1s (a0u _) (a0u _) mkD gdD).trans (by rw[eqD _ _ rfl rfl];simp)) ?_;refine J.qn 20 λ_=>?_;refine J.v (.bool true) rfl rfl (λhg aa w he hw=>(W5 (xs:=I7 (d1 7)) (ys:=I7 (d1 7)) rfl rfl rfl he hg rfl a1s (a0u _) (a0u _) mkD gdD).trans (by rw[eqD _ _ rfl rfl];simp)) ?_;refine J.qp (a0l f n t l p d (F7.1.setN Fa.1.S.N) oka.dv.gd.ok) [1,10] λ_=>?_;rw[show(F7.1.setN Fa.1.S.N).lg=3 from lgA];refine J.qp (b2B mq mg MZ2 (by omega) (a6T hM2 (by decide)) 0 (zd) rfl) [15,16,17,18] λ_=>?_;rw[hM2,q1];refine J.qp (b2B mq mg MZ2 (by omega) (a6T hM2 (by decide)) 0 (d1 1) rfl) [15,16,17,18] λ_=>?_;rw[hM2,q2];refine J.qp (b2B mq mg MZ2 (by omega) (a6T hM2 (by decide)) 0 (d1 2) rfl) [15,16,17,18] λ_=>?_;rw[hM2,q3];refine J.qn 11 λ_=>?_;refine J.v (.bool true) rfl rfl (λhg aa w he hw=>(W5 (xs:=I7 (d1 9)) (ys:=I7 (d1 9)) rfl rfl rfl he hg rfl a1s (a0u _) (a0u _) mkD gdD).trans (by rw[eqD _ _ rfl rfl];simp)) ?_;refine J.q λ_=>?_;have hrest:=b9L q nn A2 P2 hA2 B21.Z2 z2 50 0 0 (okz2.less (by decide)) okz2o (by rw[pL2];decide) (by rw[pL2];decide) (by rw[lg2];decide) B21.Z3 z3;rw[a2D q nn A2 P2 B21.Z2 z2]at hrest;refine J.qc (hrest) [20,21,22,23,24,25,26,27,28,29] λ_=>?_;rintro v As ⟨A3,rfl,_,rfl⟩;refine⟨_,rfl,trivial,?_⟩;rw[t3];refine J.qp (c1b 3 8 2) [] λ_=>?_;rw[show b3N 3 8 2=616 from rfl];refine J.qr [] λ_=>?_;refine⟨?_,rfl⟩;rw[lg2];rfl
end Go.Proofs.YtmafiplddapokaaGreat
namespace Go.Proofs.YtmafiplddapokaaGreat
open Go Go.RowKit
theorem b9i {d b p:Nat} (hd:3<=d/\d<=6) (hb:8<=b/\b<=16) (hp:2<=p/\p<=8):1<=lgN d b p/\lgN d b p<=200/\2*lgN d b p<=(b-5)*(p*(d-2))+1:=by
 have h1:(b-5)*p*(d-2)=(b-5)*(p*(d-2)):=Nat.mul_assoc _ _ _;have h2:3*2<=(b-5)*p:=R8 (by omega) hp.1;have h3:6*1<=(b-5)*p*(d-2):=R8 h2 (by omega);have h4:(b-5)*p<=11*8:=R8 (by omega) hp.2;have h5:(b-5)*p*(d-2)<=88*4:=R8 h4 (by omega);unfold lgN;omega
theorem b4A:FP 81 [] [] (Ps (.bool true) []):=by
 refine FE [] Tryz.func81 λX F hX=>?_;refine J.qp (b4z) [] λ_=>?_;exact J.qx []
theorem b5I:FP 29 [] [] (Ps (.bool true) []):=by
 refine FE [] Tryz.func29 λX F hX=>?_;refine J.qp (b4A) [] λ_=>?_;exact J.qx []
def a1i (x k:Int):Int:=if x.tmod k<0 then-(x.tmod k)else x.tmod k
theorem b4h (x:Int) {k:Int} (hk:1<=k):0<=a1i x k/\a1i x k<k:=by
 obtain⟨h2,h1⟩:=a8Q x k (by omega);unfold a1i;split<;>omega
theorem b0Y (x k:Int) (hk:1<=k/\k<=1000000):FP 32 [iI x,iI k] [] (Ps (iI (a1i x k)) []):=by
 obtain⟨h2,h1⟩:=a8Q x k (by omega);refine FE [0,0] Tryz.func32 λX F hX=>?_;refine J.qd (λ_ h=>?_) λ_ h=>?_
 ·simp only[d5]at h;refine J.qr [] λ_=>?_;unfold a1i;rw[d7 h,Int.zero_sub];exact⟨rfl,rfl⟩
 ·simp only[c8]at h;refine J.qr [] λ_=>?_;unfold a1i;rw[d4 h];exact⟨rfl,rfl⟩
def a1h (n:Int):List UInt8:=[u8 n,u8 (n/256),1,u8 (n*7),0,0,0,0,0,0,0,0,0,0,0,0]
theorem b1a (n:Int):(a1h n).length=16:=rfl
theorem a6I (n:Int) (h0:0<=n/\n<=1000000):FP 33 [iI n] [] (Ps (b0E (a1h n)) []):=by
 refine FE [0] Tryz.func33 λX F hX=>?_;refine J.qn 7 λ_=>?_;refine J.v (bv (u8 n)) rfl rfl (λhg a w he hs=>by rw[<- a5w n];exact Y0 tk rfl rfl he rfl rfl rfl) ?_;refine J.qn 2 λ_=>?_;rw[show n.fdiv (2^min (Int.toNat 8) IntKind.i64.bits)=n/256 from Int.fdiv_eq_ediv_of_nonneg n (by decide:(0:Int)<=256)];refine J.v (bv (u8 (n/256))) rfl rfl (λhg a w he hs=>by rw[<- a5w (n/256)];exact Y0 tk rfl rfl he rfl rfl rfl) ?_;refine J.qn 2 λ_=>?_;refine J.v (bv (u8 (n*7))) rfl rfl (λhg a w he hs=>by rw[<- a5w (n*7)];exact Y0 tk rfl rfl he rfl rfl rfl) ?_;exact J.qx []
theorem b2j (g0 g1 g2:Int):FP 30 [.agg #[iI g0,iI g1,iI g2]] []
  (λv As=>∃(D B P:Nat) (n f p t l d:Nat) (Z:Fv),v= .tuple #[pp n,pp f]/\(3<=D/\D<=6)/\(8<=B/\B<=16)/\(2<=P/\P<=8)/\Z=Fv.of (Dv.new D B P (lgN D B P))/\As=FvP f p n t l d Z):=by
 refine FE [0] Tryz.func30 λX F hX=>?_;refine J.qc (c0K g0 g1 g2) [] λ_=>?_;rintro v As ⟨D,B,P,rfl,hD,hB,hP,rfl⟩;refine⟨_,rfl,trivial,?_⟩;have hg:O1 D B P=true:=by simp[O1];omega
 refine J.qc (a7E D B P hg) [] λ_=>?_;rintro v As ⟨n,rfl,rfl⟩;refine⟨_,rfl,trivial,?_⟩;have hm:=b4x (Dv.Ok.new D B P (lgN D B P) hg 0 (by decide));refine J.q λ_=>?_;refine J.ca hX (by kernel_rfl) (a1K n (Nand.new D B P) 0 0 (a6W D B P hg _ (by decide)) (by decide) rfl) [2] 0 rfl rfl rfl rfl rfl rfl (λ_=>rfl) ?_;rintro v As (⟨_,f,p,t,l,d,rfl,rfl⟩ | ⟨he,rfl,rfl⟩)
 rotate_left
 ·exact absurd (congrArg (·.2) hm) he
 refine⟨_,rfl,trivial,?_⟩;rw[hm];refine J.qF λ_=>?_;refine J.qr [2,3,4,5,6,7] λ_=>?_;exact⟨D,B,P,n,f,p,t,l,d,_,rfl,hD,hB,hP,rfl,rfl⟩
theorem b8w (f p n t l d:Nat) (Z:Fv) (c:Int) (hc:0<=c/\c<=100000) (lg m:Nat) (hl2:lg<=200) (hm:m<=1000) (I:Nat->Fv->Prop) (Jq:Fv->Prop) (h0:I 0 Z)
  (hg:∀i Y,I i Y->Y.lg=(lg:Int)/\Y.S.N.Ok)
  (hw:∀i Y,I i Y->i<lg->Y.Ok (Fv.cW+(1+0)) m/\(Y.write i (a1h (c+i))).2=0/\I (i+1) (Y.write i (a1h (c+i))).1)
  (hf:∀Y,I lg Y->Y.Ok (Fv.cW*200+0) m/\Y.flush.2=0/\Jq Y.flush.1):
  FP 31 [pp f,iI c] (FvP f p n t l d Z) (λv As=>∃Y,v= .bool true/\Jq Y/\As=FvP f p n t l d Y):=by
 refine FE [2,0] Tryz.func31 λX F hX=>?_;refine J.q λ_=>?_;refine J.l (α:=(Nat×Fv)) (λz=>z.1<=lg/\I z.1 z.2) (λz=>[si 5 z.1,⟨0,pp f,2, .tt⟩,si 1 c]) [1,2,3,4,5,6] (λz=>FvP f p n t l d z.2) (λz=>lg-z.1) ((0,Z)) (⟨j6 _,h0⟩) λz hI=>?_;obtain⟨i,Y⟩:=z;dsimp only at hI ⊢;obtain⟨hi,hY⟩:=hI;have hgY:=hg i Y hY;refine J.qp (a0l f n t l p d Y hgY.2) [1,3] λ_=>?_;rw[hgY.1];refine J.qd (λ_ h1=>?_) λ_ h1=>?_
 ·simp only[d5,i4]at h1;obtain⟨w1,w2,w3⟩:=hw i Y hY h1;refine J.qp (a6I (c+i) (by omega)) [] λ_=>?_;refine J.qp (a3A f p n t l d Y 0 m w1 hm i (a1h (c+i)) rfl) [1,2,3,4,5,6] λ_=>?_;rw[w2];refine J.qF λ_=>?_;refine J.q λ_=>?_;refine J.n ((i+1,(Y.write i (a1h (c+i))).1)) (⟨by dsimp only;omega,w3⟩) (by dsimp only;omega) [0,1,2,3,4,5,6]
 simp only[c8,i4]at h1;obtain rfl:i=lg:=by omega
 obtain⟨f1,f2,f3⟩:=hf Y hY;refine J.qp (a4W f p n t l d Y 0 m f1 hm) [1,2,3,4,5,6] λ_=>?_;rw[f2];refine J.qr [1,2,3,4,5,6] λ_=>?_;exact⟨_,rfl,f3,rfl⟩
theorem b5J (n:Nat) (N:Nand) (k m:Nat) (hG:N.cyc.Gd (Dv.costK+k) m) (hm:m<=1000) (h0:(M9 N.cyc).2=0):
  FP 34 [pp n] [B3 n N] (λv As=>∃f p t l d,v=pp f/\As=FvP f p n t l d (Fv.of (M9 N.cyc).1)):=by
 refine FE [2] Tryz.func34 λX F hX=>?_;refine J.qp (a9h n N (-1) 0) [1] λ_=>?_;refine J.qp (b6I n (N.setCut (-1) 0)) [1] λ_=>?_;rw[show(N.setCut (-1) 0).onN=N.cyc from rfl];refine J.qc (a1K n N.cyc k m hG hm rfl) [1] λ_=>?_;rintro v As (⟨_,f,p,t,l,d,rfl,rfl⟩ | ⟨he,rfl,rfl⟩)
 rotate_left
 ·exact absurd h0 he
 refine⟨_,rfl,trivial,?_⟩;refine J.qF λ_=>?_;refine J.qr [1,2,3,4,5,6] λ_=>?_;exact⟨f,p,t,l,d,rfl,rfl⟩
def V.tornAt (L:List Fnd) (i:Nat):Option En:=if(V.standOf (V.of L i)).2=true/\(V.standOf (V.of L i)).1.whole=false then some (V.standOf (V.of L i)).1.en else none
theorem V.torn_lpn {L:List Fnd} {i:Nat} {e:En} (h:V.tornAt L i=some e):e.lpn=(i:Int):=by
 unfold V.tornAt at h;split at h
 ·rename_i hc;injection h with h;have:=(List.mem_filter.1 (V.standOf_mem hc.1)).2;rw[<- h];exact a4b this
 ·cases h
def V.tornF (N:Nand) (L:List Fnd) (i:Nat):Option En:=if V.last N (V.standOf (V.of L i)).1=true then V.tornAt L i else none
def V.tornB (N:Nand) (L:List Fnd) (i:Nat):Option En:=if V.last N (V.standOf (V.of L i)).1=true then none else V.tornAt L i
theorem V.goS_both {N:Nand} {L:List Fnd} (h:∀i:Nat,(V.standOf (V.of L i)).2=true->(V.standOf (V.of L i)).1.whole=false->V.last N (V.standOf (V.of L i)).1=true->V.holds (V.of L i)=[]) (n:Int):∀k,(V.goS N L n k).torn=(List.range k).filterMap (V.tornF N L)/\(V.goS N L n k).others=(List.range k).filterMap (V.tornB N L)/\(V.goS N L n k).held=[]
 | 0=>⟨rfl,rfl,rfl⟩
 | k+1=>by
  obtain⟨i1,i2,i3⟩:=V.goS_both h n k;rw[V.goS_succ,o0,T5,T5,<- i1,<- i2];unfold V.step
  by_cases hs:(V.standOf (V.of L k)).2=true
  ·rw[d7 hs];cases hw:(V.standOf (V.of L k)).1.whole with
   | true=>
    rw[d7 rfl];have e:V.tornAt L k=none:=by unfold V.tornAt;rw[d4];rintro⟨_,e⟩;rw[hw]at e;cases e
    have e1:V.tornF N L k=none:=by unfold V.tornF;rw[e];split<;>rfl
    have e2:V.tornB N L k=none:=by unfold V.tornB;rw[e];split<;>rfl
    rw[C0,C0,e1,e2];exact⟨(l8 _).symm,(l8 _).symm,i3⟩
   | false=>
    have e:V.tornAt L k=some (V.standOf (V.of L k)).1.en:=by unfold V.tornAt;rw[d7 ⟨hs,hw⟩]
    rw[d4 (by decide)];cases hl:V.last N (V.standOf (V.of L k)).1 with
    | true=>
     have e1:V.tornF N L k=some (V.standOf (V.of L k)).1.en:=by unfold V.tornF;rw[hl,d7 rfl,e]
     have e2:V.tornB N L k=none:=by unfold V.tornB;rw[hl,d7 rfl]
     rw[d7 rfl,C0,C0,e1,e2];refine⟨rfl,(l8 _).symm,?_⟩;show(V.goS N L n k).held++V.holds (V.of L k)=[];rw[i3,h k hs hw hl];rfl
    | false=>
     have e1:V.tornF N L k=none:=by unfold V.tornF;rw[hl,d4 (by decide)]
     have e2:V.tornB N L k=some (V.standOf (V.of L k)).1.en:=by unfold V.tornB;rw[hl,d4 (by decide),e]
     rw[d4 (by decide),C0,C0,e1,e2];exact⟨(l8 _).symm,rfl,i3⟩
  ·rw[d4 hs];have e:V.tornAt L k=none:=by unfold V.tornAt;rw[d4];rintro⟨e,_⟩;exact hs e
   have e1:V.tornF N L k=none:=by unfold V.tornF;rw[e];split<;>rfl
   have e2:V.tornB N L k=none:=by unfold V.tornB;rw[e];split<;>rfl
   rw[C0,C0,e1,e2];exact⟨(l8 _).symm,(l8 _).symm,i3⟩
theorem a9U {g:Nat->Option En} (hg:∀i e,g i=some e->e.lpn=(i:Int)):∀k,(((List.range k).filterMap g).map (·.lpn)).Sublist ((List.range k).map λi:Nat=>(i:Int))
 | 0=>a6G _
 | k+1=>by
  have ih:=a9U hg k;rw[o0,T5,s9,s9];refine ih.append ?_;rw[C0];cases he:g k with
  | none=>exact List.nil_sublist _
  | some e=>dsimp only;simp[hg k e he]
theorem b4M (T:Tb) (b:Int):(T.ins b).Nodup:=by
 unfold Tb.ins;split
 ·exact a5p
 ·unfold Tb.inK;exact List.pairwise_map.2 ((List.nodup_range.filter _).imp λhne e=>hne (by omega))
theorem a6Y {fd:Int} {S:Dv} {l:List En} (hI:Inv fd S) (hl:S.left=true) (hR:RowIs S.N S.op S.row S.mask (S.es l)) (hno:∀d:Nat,L.has S.mask (d:Nat)=true->S.N.failB S.op S.row d=false):Full (-1) (S.wrote l).N S.op S.row S.mask (S.es l):=by
 have ho:=hI.opn hl;have hrdy:RdyW S.N S.op S.row S.mask:=⟨hI.lit,λd hd ha=>(ho.cells d hd).2 ha⟩;have hq:=hrdy.rdy hR;have w:WroteR S.N (S.wrote l).N S.op S.row (R.job S.op S.row S.mask (S.es l)):=(a3L hrdy hR).2.2;have hpage:∀x∈R.job S.op S.row S.mask (S.es l),(S.wrote l).N.pageAt x.1 S.op S.row=some ⟨O2 x.2,false,false⟩:=λx hx=>by
  obtain⟨n1,n2,n3⟩:=hR.inn x hx;obtain⟨d,hd⟩:=f8 n1;have hf:=hno d (by rw[<- hd];exact n3);rw[<- hd]at hf;unfold Nand.failB at hf;rw[D6]at hf;have hc:=w.cells x hx;rw[hf.1,d4 (by decide),hf.2]at hc;have hlen:=hq.cells x hx hf.1;have hrow:=hR.row;unfold Nand.pageAt;rw[hc,A8 (by omega),show S.row.toNat-(S.N.blk x.1.toNat S.op.toNat).cells.length=0 from by omega];rfl
 exact⟨hR.like w.like,λx hx _=>⟨_,hpage x hx,rfl,a5K (hR.sh x hx).1⟩,λx hx c hc=>by
  rw[hpage x hx]at hc;injection hc with hc;rw[<- hc];exact .inr (.inl rfl)⟩
def Ent (lg:Nat) (l:List En):Prop:=(∀e∈l,FitR e/\e.lpn<(lg:Int))/\(l.map (·.lpn)).Nodup
theorem Msk.calm2 {D:Nat} {m:Int} (h:Msk D (-2) m):Msk D (-1) m:=⟨h.set,h.lt,λd hd _=>h.all d hd (by omega)⟩
theorem Inv.slots_full2 {S:Dv} {k m:Nat} (h:Inv (-2) S) (hO:S.Ok k m) (hr:0<S.rows):S.slots=(S.N.dies:Int)-1:=by
 have hg:=hO.gd.ok.bd16;unfold Dv.slots;cases hl:S.left with
 | true=>rw[d7 rfl];exact(a3T (h.opn hl).mask.calm2 hg.1).2
 | false=>
  rw[d4 (by decide)];have hp:=(h.rows_pos hO hr).resolve_left (by rw[hl];decide);have hb:=Dv.pick_blank hp;have hh:S.t.has S.pick=true:=by unfold Tl.blank at hb;simp only[d8]at hb;exact hb.1
  exact(a3T (h.msk hO hh).calm2 hg.1).2
structure Cm (W:List (Int×En)) (lg:Nat) (S:Dv):Prop where
 gi:GI (-2) W S
 no:NoF S
 log:S.T.logical=(lg:Int)
theorem V.goS_fb {N:Nand} {L:List Fnd} (n:Int):∀k,(V.goS N L n k).torn=(List.range k).filterMap (V.tornF N L)/\(V.goS N L n k).others=(List.range k).filterMap (V.tornB N L)
 | 0=>⟨rfl,rfl⟩
 | k+1=>by
  obtain⟨i1,i2⟩:=V.goS_fb (N:=N) (L:=L) n k;rw[V.goS_succ,o0,T5,T5,<- i1,<- i2];unfold V.step
  by_cases hs:(V.standOf (V.of L k)).2=true
  ·rw[d7 hs];cases hw:(V.standOf (V.of L k)).1.whole with
   | true=>
    rw[d7 rfl];have e:V.tornAt L k=none:=by unfold V.tornAt;rw[d4];rintro⟨_,e⟩;rw[hw]at e;cases e
    have e1:V.tornF N L k=none:=by unfold V.tornF;rw[e];split<;>rfl
    have e2:V.tornB N L k=none:=by unfold V.tornB;rw[e];split<;>rfl
    rw[C0,C0,e1,e2];exact⟨(l8 _).symm,(l8 _).symm⟩
   | false=>
    have e:V.tornAt L k=some (V.standOf (V.of L k)).1.en:=by unfold V.tornAt;rw[d7 ⟨hs,hw⟩]
    rw[d4 (by decide)];cases hl:V.last N (V.standOf (V.of L k)).1 with
    | true=>
     have e1:V.tornF N L k=some (V.standOf (V.of L k)).1.en:=by unfold V.tornF;rw[hl,d7 rfl,e]
     have e2:V.tornB N L k=none:=by unfold V.tornB;rw[hl,d7 rfl]
     rw[d7 rfl,C0,C0,e1,e2];exact⟨rfl,(l8 _).symm⟩
    | false=>
     have e1:V.tornF N L k=none:=by unfold V.tornF;rw[hl,d4 (by decide)]
     have e2:V.tornB N L k=some (V.standOf (V.of L k)).1.en:=by unfold V.tornB;rw[hl,d4 (by decide),e]
     rw[d4 (by decide),C0,C0,e1,e2];exact⟨(l8 _).symm,rfl⟩
  ·rw[d4 hs];have e:V.tornAt L k=none:=by unfold V.tornAt;rw[d4];rintro⟨e,_⟩;exact hs e
   have e1:V.tornF N L k=none:=by unfold V.tornF;rw[e];split<;>rfl
   have e2:V.tornB N L k=none:=by unfold V.tornB;rw[e];split<;>rfl
   rw[C0,C0,e1,e2];exact⟨(l8 _).symm,(l8 _).symm⟩
theorem a6R (on:Bool):∀(l:List Int) (t:Tl),t.l.length=t.b->TSame t (l.foldl (λt b=>t.hold b on) t)/\∀x,t.has x=true->((l.foldl (λt b=>t.hold b on) t).at_ x).held=if x∈l then on else(t.at_ x).held
 | [],t,_=>⟨TSame.refl t,λx _=>by rw[d4 (by simp)];rfl⟩
 | b::l,t,hl=>by
  have h1:TSame t (t.hold b on):=by
   unfold Tl.hold;refine⟨Tl.set_dead _ _ _,Tl.set_b _ _ _,Tl.set_d _ _ _,Tl.set_len _ _ _,λx hx=>?_⟩;rw[a8R hl _ hx];split
   ·rename_i e;rw[e];exact⟨rfl,rfl⟩
   ·exact⟨rfl,rfl⟩
  have h2:∀x,t.has x=true->((t.hold b on).at_ x).held=if x=b then on else(t.at_ x).held:=λx hx=>by
   unfold Tl.hold;rw[a8R hl _ hx];split<;>rfl
  obtain⟨i1,i2⟩:=a6R on l (t.hold b on) (by rw[h1.len,h1.b];exact hl);rw[y9];refine⟨h1.trans i1,λx hx=>?_⟩;rw[i2 x (by rw[h1.has];exact hx),h2 x hx]
  by_cases e1:x∈l
  ·rw[d7 e1,d7 (by simp[e1])]
  ·rw[d4 e1]
   by_cases e2:x=b
   ·rw[d7 e2,d7 (by simp[e2])]
   ·rw[d4 e2,d4 (by simp[e1,e2])]
theorem Inv.tsame {fd:Int} {S:Dv} {t':Tl} (h:Inv fd S) (hb:S.t.b=S.N.blocks) (e:TSame S.t t'):Inv fd {S with t:=t'}:=by
 have hm:∀x,S.t.has x=true->t'.mask x=S.t.mask x:=λx hx=>mask_eq e.dead e.b e.d (e.at_ x hx).1;refine⟨h.lit,h.dead,h.plan,h.flags,by show L.set t'.dead=true/\_;rw[e.dead];exact h.tdead,λb hb=>?_,?_,λb hb hu d hd=>?_,λi a ha=>?_⟩
 ·have hb:t'.has b=true:=hb;rw[e.has]at hb;show L.set (t'.at_ b).bad=true/\_;rw[(e.at_ b hb).1];exact h.tbad b hb
 ·rcases h.op with o | o
  ·exact .inl o
  ·have hh:S.t.has S.op=true:=Tl.has_iff.2 (by have:=o.blk;omega);exact .inr ⟨o.blk,by show(t'.at_ S.op).used=true;rw[(e.at_ _ hh).2];exact o.used,o.row,o.mask,o.cells⟩
 ·have hb:t'.has b=true:=hb;rw[e.has]at hb;have hu:(t'.at_ b).used=false:=hu;have hd:L.has (t'.mask b) (d:Nat)=true:=hd;rw[(e.at_ b hb).2]at hu;rw[hm b hb]at hd;exact h.blank b hb hu d hd
 ·have hs:=h.st i a ha;refine⟨hs.row,?_,hs.below,hs.seq⟩;obtain⟨l,g1,_⟩:=hs.row;have hh:S.t.has a.block=true:=Tl.has_iff.2 (by have:=g1.is.blk;omega);show(t'.at_ a.block).used=true;rw[(e.at_ _ hh).2];exact hs.used
theorem GI.tsame {fd:Int} {W:List (Int×En)} {S:Dv} {t':Tl} (h:GI fd W S) (hb:S.t.b=S.N.blocks) (e:TSame S.t t'):GI fd W {S with t:=t'}:=
 ⟨h.inv.tsame hb e,⟨h.hd.keys,h.hd.each⟩,h.wok,h.msk,h.dsc⟩
theorem blanks_same {t t':Tl} (hl:t.l.length=t.b) (e:TSame t t'):t'.blanks=t.blanks:=by
 have hl':t'.l.length=t'.b:=by rw[e.len,e.b];exact hl
 rw[a1v hl,a1v hl',e.b];refine List.countP_congr λi hi=>?_;have hi:=List.mem_range.1 hi;rw[(e.at_ (i:Nat) (Tl.has_iff.2 (by omega))).2]
theorem Cm.holds {W:List (Int×En)} {lg:Nat} {S:Dv} (h:Cm W lg S) (hF:S.t.Fit S.N) (l:List Int) (on:Bool):Cm W lg (S.holds l on)/\(S.holds l on).rows=S.rows/\∀b,S.t.has b=true->(S.holds l on).t.has b=true/\((S.holds l on).t.at_ b).held=if b∈l then on else(S.t.at_ b).held:=by
 obtain⟨e1,e2⟩:=a6R on l S.t hF.len;refine⟨⟨h.gi.tsame hF.b e1,⟨h.no.dead,h.no.plan,h.no.met,h.no.fl⟩,h.log⟩,?_,λb hb=>⟨by show(l.foldl (λt b=>t.hold b on) S.t).has b=true;rw[e1.has];exact hb,e2 b hb⟩⟩;unfold Dv.rows;show S.N.pages*(l.foldl (λt b=>t.hold b on) S.t).blanks+_=_;rw[blanks_same hF.len e1];rfl
theorem b2c {N:Nand} (h:N.Lit) (c:Nat) (kp:Int):(arm N (c+1) kp).cutB=false/\(arm N (c+1) kp).cutN=arm N.cutN c kp/\(arm N 0 kp).cutB=true:=by
 have hcb:(arm N (c+1) kp).cutB=false:=by
  unfold Nand.cutB arm;show(true&&decide (((c+1:Nat):Int)<=0))=false;rw[n5 (by omega)];rfl
 have hcN:N.cutB=false:=h.cutB;have hcts:=h.cuts;refine⟨hcb,?_,rfl⟩;unfold Nand.cutN;rw[hcb,hcN,hcts];unfold arm;simp only[W9,E8,V4];congr 1;omega
structure Qt (N:Nand):Prop where
 dead:∀i:Nat,N.dead.getD i false=false
 plan:N.plan=[]
 flags:∀i j:Nat,(N.blk i j).met=false/\(N.blk i j).fails=false
theorem Qt.erase {N:Nand} (h:Qt N) (x y:Int):Qt (N.eraseN x y):=by
 unfold Nand.eraseN;dsimp only;have key:∀(M:Nand) (B:NBlock),M.blk=N.blk->M.dead=N.dead->M.plan=[]->B.met=false->B.fails=false->Qt (M.setBlk x.toNat y.toNat B):=λM B hb hd hp h1 h2=>by
  refine⟨λi=>by show M.dead.getD i false=false;rw[hd];exact h.dead i,hp,λi j=>?_⟩;show((if i=x.toNat/\j=y.toNat then B else M.blk i j:NBlock)).met=false/\((if i=x.toNat/\j=y.toNat then B else M.blk i j:NBlock)).fails=false;split
  ·exact⟨h1,h2⟩
  ·rw[hb];exact h.flags i j
 have hf:=h.flags x.toNat y.toNat
 split
 ·exact h
 split
 ·exact key N.cutN _ rfl rfl h.plan hf.1 hf.2
 rw[d4 (by rw[hf.2];decide)];have:=key N.cutN {N.blk x.toNat y.toNat with cells:=[],worn:=(N.blk x.toNat y.toNat).worn+1} rfl rfl h.plan hf.1 hf.2;refine⟨this.dead,?_,this.flags⟩;show N.plan.filter _=[];rw[h.plan];rfl
theorem Qt.arm {N:Nand} (h:Qt N) (c:Nat) (kp:Int):Qt (arm N c kp):=⟨h.dead,h.plan,h.flags⟩
theorem b2N {N:Nand} (h:N.Lit) (x y:Int):N.eraseE x y≠9:=by
 unfold Nand.eraseE;rw[h.cutB];split
 ·unfold Nand.refuses;rw[h.off,d4 (by decide)];split
  ·decide
  split
  ·decide
  ·decide
 rw[d4 (by decide)];split<;>decide
theorem b5b {N:Nand} (h:N.Lit) (x y:Int) (c:Nat) (kp:Int):
  (∃c',(arm N c kp).eraseE x y=N.eraseE x y/\(arm N c kp).eraseN x y=arm (N.eraseN x y) c' kp)\/((arm N c kp).eraseE x y=9/\((arm N c kp).eraseN x y).off=true):=by
 have hra:(arm N c kp).refuses x y 0=N.refuses x y 0:=rfl
 by_cases hr:N.refuses x y 0=0
 ·cases c with
  | zero=>
   right;obtain⟨_,_,a3⟩:=b2c h 0 kp;refine⟨?_,?_⟩
   ·unfold Nand.eraseE;rw[hra,hr,d4 (by decide),a3,d7 rfl]
   ·unfold Nand.eraseN;dsimp only;rw[hra,hr,d4 (by decide),a3,d7 rfl];rfl
  | succ c=>
   left;obtain⟨a1,a2,_⟩:=b2c h c kp;refine⟨c,?_,?_⟩
   ·unfold Nand.eraseE;rw[hra,hr,a1,h.cutB];rfl
   ·unfold Nand.eraseN;dsimp only;rw[hra,hr,a1,h.cutB,a2];simp only[G9,a2E,V4,E8];have e:((arm N (c+1) kp).blk x.toNat y.toNat).fails=(N.blk x.toNat y.toNat).fails:=rfl;rw[e];split<;>rfl
 ·left;refine⟨c,?_,?_⟩
  ·unfold Nand.eraseE;rw[hra,d7 hr,d7 hr]
  ·unfold Nand.eraseN;dsimp only;rw[hra,d7 hr,d7 hr]
theorem a5d (b mk:Int) {x:Nand×Tl×Int} (h:x.2.2≠0):∀q:List Nat,q.foldl (Dv.eraseD b mk) x=x
 | []=>rfl
 | d::q=>by
  rw[y9];have e:Dv.eraseD b mk x d=x:=by unfold Dv.eraseD;rw[d7 h]
  rw[e];exact a5d b mk h q
theorem a2Q (b mk:Int) (kp:Int):∀(q:List Nat) (N:Nand) (t:Tl) (c:Nat),N.Lit->
  ∃N1 t1,q.foldl (Dv.eraseD b mk) (N,t,0)=(N1,t1,0)/\N1.Lit/\((∃c',q.foldl (Dv.eraseD b mk) (arm N c kp,t,0)=(arm N1 c' kp,t1,0))\/∃N2 t2,q.foldl (Dv.eraseD b mk) (arm N c kp,t,0)=(N2,t2,9)/\N2.off=true)
 | [],N,t,c,h=>⟨N,t,rfl,h, .inl ⟨c,rfl⟩⟩
 | d::q,N,t,c,h=>by
  rw[y9,y9]
  by_cases hh:L.has mk (d:Nat)=false
  ·have e1:Dv.eraseD b mk (N,t,0) d=(N,t,0):=by unfold Dv.eraseD;rw[d4 (by simp),d7 hh]
   have e2:Dv.eraseD b mk (arm N c kp,t,0) d=(arm N c kp,t,0):=by unfold Dv.eraseD;rw[d4 (by simp),d7 hh]
   rw[e1,e2];exact a2Q b mk kp q N t c h
  ·have h9:=b2N h (d:Int) b;obtain⟨t',ht'⟩:∃t',(if N.eraseE d b=0 then t else if N.eraseE d b=9 then t else if N.eraseE d b=8 then t.die d else t.bad d b)=t':=⟨_,rfl⟩;have e1:Dv.eraseD b mk (N,t,0) d=(N.eraseN d b,t',0):=by
    unfold Dv.eraseD;rw[d4 (by simp),d4 hh];dsimp only;rw[ht',d4 h9]
   rw[e1];rcases b5b h (d:Int) b c kp with⟨c',a1,a2⟩ | ⟨a1,a2⟩
   ·have e2:Dv.eraseD b mk (arm N c kp,t,0) d=(arm (N.eraseN d b) c' kp,t',0):=by
     unfold Dv.eraseD;rw[d4 (by simp),d4 hh];dsimp only;rw[a1,a2,ht',d4 h9]
    rw[e2];exact a2Q b mk kp q _ t' c' (h.erase _ _)
   ·obtain⟨N1,t1,f1,f2,_⟩:=a2Q b mk kp q (N.eraseN d b) t' 0 (h.erase _ _);refine⟨N1,t1,f1,f2, .inr ?_⟩;have e2:Dv.eraseD b mk (arm N c kp,t,0) d=((arm N c kp).eraseN d b,t,9):=by
     unfold Dv.eraseD;rw[d4 (by simp),d4 hh];dsimp only;rw[a1];rfl
    rw[e2,a5d b mk (show(9:Int)≠0 by decide) q];exact⟨_,_,rfl,a2⟩
theorem b2L (N:Nand) (t:Tl) (b:Int) (c:Nat) (kp:Int) (h:N.Lit):
  (Dv.erase N t b).2.2=0/\(Dv.erase N t b).1.Lit/\((∃c',Dv.erase (arm N c kp) t b=(arm (Dv.erase N t b).1 c' kp,(Dv.erase N t b).2.1,0))\/∃N2 t2,Dv.erase (arm N c kp) t b=(N2,t2,9)/\N2.off=true):=by
 obtain⟨N1,t1,f1,f2,f3⟩:=a2Q b (t.mask b) kp (List.range N.dies) N t c h;have e1:Dv.erase N t b=(N1,Dv.eraseT N1 t1 b,0):=by
  unfold Dv.erase Dv.eraseB;rw[f1];dsimp only;rw[d4 (by simp)]
 rw[e1];refine⟨rfl,f2,?_⟩;rcases f3 with⟨c',g⟩ | ⟨N2,t2,g1,g2⟩
 ·refine .inl ⟨c',?_⟩;have g:Dv.eraseB (arm N c kp) t b=(arm N1 c' kp,t1,0):=g;unfold Dv.erase;rw[g];dsimp only;rw[d4 (by simp)];rfl
 ·refine .inr ⟨N2,t2,?_,g2⟩;have g1:Dv.eraseB (arm N c kp) t b=(N2,t2,9):=g1;unfold Dv.erase;rw[g1];dsimp only;rw[d7 (by decide)]
theorem a3F (kp:Int):∀(l:List Int) (N:Nand) (t:Tl) (c:Nat),N.Lit->
  (Dv.clearGo l N t).2.2=0/\((∃c',Dv.clearGo l (arm N c kp) t=(arm (Dv.clearGo l N t).1 c' kp,(Dv.clearGo l N t).2.1,0))\/∃N2 t2,Dv.clearGo l (arm N c kp) t=(N2,t2,9)/\N2.off=true)
 | [],N,t,c,_=>⟨rfl, .inl ⟨c,rfl⟩⟩
 | b::l,N,t,c,h=>by
  obtain⟨a1,a2,a3⟩:=b2L N t b c kp h;have ec:Dv.clearGo (b::l) N t=Dv.clearGo l (Dv.erase N t b).1 (Dv.erase N t b).2.1:=by
   rw[Dv.clearGo,d4 (by rw[a1];simp)]
  rw[ec];rw[Dv.clearGo];rcases a3 with⟨c',g⟩ | ⟨N2,t2,g1,g2⟩
  ·rw[g];dsimp only;rw[d4 (by simp)];exact a3F kp l _ _ c' a2
  ·refine⟨(a3F kp l _ _ 0 a2).1, .inr ⟨N2,t2,?_,g2⟩⟩;rw[g1];dsimp only;rw[d7 (by decide)]
theorem Dv.clear_arm (S:Dv) (c:Nat) (kp:Int) (h:S.N.Lit):
  S.clear.2=0/\((∃c',(S.armed c kp).clear=(S.clear.1.armed c' kp,0))\/∃N2 t2,(S.armed c kp).clear=({S with N:=N2,t:=t2},9)/\N2.off=true):=by
 obtain⟨a1,a2⟩:=a3F kp (q9 (C5 S.t S.T) S.op S.t.b) S.N S.t c h;refine⟨a1,?_⟩;rcases a2 with⟨c',g⟩ | ⟨N2,t2,g1,g2⟩
 ·refine .inl ⟨c',?_⟩;unfold Dv.clear Dv.clearX;show(({S.armed c kp with N:=(Dv.clearGo (q9 (C5 S.t S.T) S.op S.t.b) (arm S.N c kp) S.t).1,t:=(Dv.clearGo (q9 (C5 S.t S.T) S.op S.t.b) (arm S.N c kp) S.t).2.1}:Dv),(Dv.clearGo (q9 (C5 S.t S.T) S.op S.t.b) (arm S.N c kp) S.t).2.2)=_;rw[g];rfl
 ·refine .inr ⟨N2,t2,?_,g2⟩;unfold Dv.clear Dv.clearX;show(({S.armed c kp with N:=(Dv.clearGo (q9 (C5 S.t S.T) S.op S.t.b) (arm S.N c kp) S.t).1,t:=(Dv.clearGo (q9 (C5 S.t S.T) S.op S.t.b) (arm S.N c kp) S.t).2.1}:Dv),(Dv.clearGo (q9 (C5 S.t S.T) S.op S.t.b) (arm S.N c kp) S.t).2.2)=_;rw[g1];rfl
theorem Qt.clearGo:∀(l:List Int) (N:Nand) (t:Tl),Qt N->Qt (Dv.clearGo l N t).1
 | [],_,_,h=>h
 | b::l,N,t,h=>by
  have hq:∀(q:List Nat) (mk:Int) (x:Nand×Tl×Int),Qt x.1->Qt (q.foldl (Dv.eraseD b mk) x).1:=λq mk=>by
   induction q with
   | nil=>intro x h;exact h
   | cons d q ih=>
    intro x h;rw[y9];apply ih;unfold Dv.eraseD;split
    ·exact h
    split
    ·exact h
    ·exact h.erase _ _
  have h1:Qt (Dv.erase N t b).1:=by
   unfold Dv.erase;dsimp only;split
   ·exact hq _ _ _ h
   ·exact hq _ _ _ h
  rw[Dv.clearGo];split
  ·exact h1
  ·exact clearGo l _ _ h1
end Go.Proofs.YtmafiplddapokaaGreat
