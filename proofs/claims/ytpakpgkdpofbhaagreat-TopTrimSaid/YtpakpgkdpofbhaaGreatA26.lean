/- Helpers. No condition. -/
import Derived.Test.YtpakpgkdpofbhaaGreatA00
import Derived.Test.YtpakpgkdpofbhaaGreatA04
import Derived.Test.YtpakpgkdpofbhaaGreatA20
set_option maxRecDepth 20000
set_option linter.all false
namespace Go.Proofs.YtpakpgkdpofbhaaGreat
open Go Go.RowKit
theorem b4b (m:Nat) (x:Bool):(List.replicate m [Value.bool x]).flatten=R9 (List.replicate m x):=by
 unfold R9;rw[K9,List.flatten_replicate_singleton]
theorem b6v (l:List Bool) (k:Nat) (v:Bool):(R9 l).set k (.bool v)=R9 (l.set k v):=by unfold R9;rw[x5]
def a3Y (T:List Bool) (j:Nat):List UInt8:=if T.getD j false then zeros16 else V7 (3+j)
theorem b5l (T:List Bool) (u:Nat) (hu:u<T.length) (j:Nat):a3Y (T.set u true) j=if j=u then zeros16 else a3Y T j:=by
 unfold a3Y;rw[f8,f8,x9]
 by_cases e:u=j
 ·subst e;rw[g7 rfl,g7 hu,g7 rfl,j5,g7 rfl]
 ·rw[f9 e,f9 (λh:j=u=>e h.symm)]
theorem b5t (g0 g1 g2:Int) (A:Atom) (ao:Option Addr) (no co:Nat) (xs:List Int) (hA:Rd A ao 1 no (xs.flatMap λx=>[Value.int .i64 x])) (hlo:xs.length=no) (hdo:∀x∈xs,-9223372036854775808<=x/\x<=9223372036854775807):
  FP 17 [.agg #[iI g0,iI g1,iI g2], .slice ao no co] [A] (Ps (.bool true) [A]):=by
 rw[a7d]at hA;refine FE [0,0] Tryz.func17 λX F hX=>?_;refine J.qp (a4a) [] λ_=>?_;refine J.qF λ_=>?_;refine J.qc (a2Q g0 g1 g2) [] λ_=>?_;rintro v As ⟨D,B,P,n,f,p,t,l,d,Z,rfl,hD,hB,hP,hZ,hZL,rfl⟩;refine⟨_,rfl,trivial,?_⟩;refine J.qc (a3Z f p n t l d 3 (by decide) (hZ.less (k:=400+100000) (by decide))) [3,4,5,6,7,8] λ_=>?_;rintro v As ⟨Z0,rfl,⟨hZ0,hZ0L⟩,rfl⟩;refine⟨_,rfl,trivial,?_⟩;refine J.qF λ_=>?_;have hlb:=Fv.lg_bd (F:=Z0) hZ0.ok.dv.gd.ok;rw[hZ0.lg]at hlb;obtain⟨g,hg⟩:∃g,lgN D B P=g:=⟨_,rfl⟩;refine J.q λb9=>?_;refine J.cb (R2 f n t l p d Z0 hZ0.ok.dv.gd.ok) [3,5] ?_;refine cpq ⟨_,rfl,trivial,?_⟩;rw[hZ0.lg];rw[hg]at hlb ⊢;refine J.mk 10 λgl=>?_;rw[b4b];refine J.q λ_=>?_;refine J.lo (α:=(Nat×Fv×List Bool)) (λz=>(z.1<=no/\z.1<=20)/\z.2.2.length=g/\Dev D B P z.2.1 (100000-300*z.1) (a3Y z.2.2)) (λz=>[si 9 z.1,sv 1 (.slice ao no co),sp 7 f,sp 6 n,⟨8, .slice (some ⟨gl,0,none⟩) g g,10, .tt⟩]) [3,4,5,6,7,8,9] (λz=>(FvP f p n t l d z.2.1++[.pt gl 4 (R9 z.2.2)])) (λz=>no-z.1) ((0,Z0,List.replicate g false)) (⟨⟨j7 _,j7 20⟩,H6 ..,hZ0.congr λj _=>by
  show V7 (3+j)=a3Y (List.replicate g false) j;unfold a3Y;rw[f8,D0];split<;>rfl⟩) rfl ?_ (λ_=>rfl) λz hI=>?_
 ·rfl
 obtain⟨i,Y,T⟩:=z;dsimp only at hI ⊢;obtain⟨⟨hi,hi20⟩,hTl,hY⟩:=hI;refine J.qd (λ_ h1=>?_) λ_ h1=>?_
 ·simp only[i3,d7]at h1;have hi1:i<no/\i<20:=by omega
  obtain⟨x,hx⟩:∃x,xs[i]? =some x:=⟨_,c9 (by omega)⟩;have hxb:=hdo x (m6 hx);have hu:=a1S x (k:=g) (by omega);refine J.know (p:=∃g o,ao=some ⟨g,o,none⟩) (λh' s=>Rd.addr (hA _ (s.get (i:=1) rfl)) (by omega)) λhk=>?_;obtain⟨gm,om,rfl⟩:=hk;refine J.pq (.of [0,4,8,13,16,22,27,28]) [6,7] [1] λ_ _=>?_;refine J.qn 4 λ_=>?_;refine J.vT (iI x) rfl rfl (λhg aa w he hC=>a3p tk rfl rfl he rfl rfl rfl (hA _ (hC rfl _ (B1 (i:=1) rfl))) (by omega) (j:=i) (by omega) (a1n hx)) ?_;refine J.qp (R2 f n t l p d Y hY.ok.dv.gd.ok) [3,5] λ_=>?_;rw[hY.lg,hg];refine J.qp (a2P x g (by omega)) [] λ_=>?_;obtain⟨u,hu2⟩:=i5 hu.1;rw[hu2]at hu ⊢;have hZ2:=hY.less (k:=(100000-300*(i+1))+1) (by omega);have hk1:Y.Ok (Fv.cW+(1+0)) 0:=hZ2.ok.less (k':=UN) (by rw[H3];omega);obtain⟨w1,w2,_⟩:=hZ2.trim (i:=u) (by omega);refine J.qp (b1q f p n t l d Y 0 0 hk1 (by decide) u) [3,4,5,6,7,8] λ_=>?_;rw[w1];refine J.qF λ_=>?_;have hput:(R9 T).set (0+(u:Int).toNat*1) (.bool true)=R9 (T.set u true):=by rw[show 0+(u:Int).toNat*1=u from by omega];exact b6v _ _ _
  refine J.qn 5 λ_=>?_;refine J.s1 9 (R9 (T.set u true)) ?_ hput ?_
  ·rw[b4c];omega
  refine J.q λ_=>?_;refine J.n ((i+1,(Y.trim u).1,T.set u true)) (⟨⟨by dsimp only;omega,by dsimp only;omega⟩,by dsimp only;rw[s9];exact hTl,w2.congr λj _=>(b5l T u (by omega) j).symm⟩) (by dsimp only;omega) [0,1,2,3,4,5,6,7,8,9]
 obtain⟨N8,hN8⟩:∃N8,N8=80000:=⟨_,rfl⟩;have hY:=hY.less (k:=N8+200) (by omega);have hk2:Y.Ok (Fv.cW*200+0) 0:=hY.ok.less (by rw[a0S];have:=a3g;omega);obtain⟨v1,v2,v3⟩:=hY.flush;refine J.qp (a3b f p n t l d Y 0 0 hk2 (by decide)) [3,4,5,6,7,8] λ_=>?_;rw[v1];generalize Y.flush.1=Y1 at v2 v3 ⊢;refine J.qF λ_=>?_;refine J.q λ_=>?_;refine J.l (α:=(Nat×Fv×Nat×Nat×Nat×Nat×Nat)) (λz=>z.1<=2/\Dev D B P z.2.1 (N8-1000*z.1) (a3Y T)/\z.2.1.L=[]) (λz=>[si 11 z.1,sp 6 n,sp 7 z.2.2.1,⟨8, .slice (some ⟨gl,0,none⟩) g g,10, .tt⟩]) [3,4,5,6,7,8] (λz=>FvP z.2.2.1 z.2.2.2.1 n z.2.2.2.2.1 z.2.2.2.2.2.1 z.2.2.2.2.2.2 z.2.1) (λz=>2-z.1) ((0,Y1,f,p,t,l,d)) (⟨j7 2,v2,v3⟩) λz hI=>?_;obtain⟨r,Z1,f,p,t,l,d⟩:=z;dsimp only at hI ⊢;obtain⟨hr2,hZ1,hL⟩:=hI;refine J.qd (λ_ h2=>?_) λ_ h2=>?_
 ·simp only[d7]at h2;refine J.q λ_=>?_;refine J.l (α:=Nat) (λj=>j<=g) (λj=>[si 12 j,si 11 r,sp 7 f,sp 6 n,⟨8, .slice (some ⟨gl,0,none⟩) g g,10, .tt⟩]) [] (λj=>[]) (λj=>g-j) (0) (j7 _) λj hI=>?_;refine J.qp (R2 f n t l p d Z1 hZ1.ok.dv.gd.ok) [3,5] λ_=>?_;rw[hZ1.lg,hg];refine J.qd (λ_ h3=>?_) λ_ h3=>?_
  ·simp only[d7,i7]at h3;have hr:=hZ1.read (i:=j) (by omega);obtain⟨x,hx⟩:∃x,T[j]? =some x:=⟨_,c9 (by omega)⟩;have hxg:T.getD j false=x:=by rw[f8,hx];rfl
   refine J.qp (a2z (3+j) (by omega)) [] λ_=>?_;refine J.qn 9 λ_=>?_;refine J.v (.bool x) rfl rfl (λhg aa w he hw=>B3 tk rfl rfl he rfl rfl rfl (hw.get (i:=9) rfl) (by rw[show 0+(j:Int).toNat*1=j from by omega];exact a2o hx)) ?_;refine J.qd (λ_ h4=>?_) λ_ h4=>?_
   ·have hpc:a3Y T j=zeros16:=by unfold a3Y;rw[hxg,h4];rfl
    refine J.qp (a0D f p n t l d Z1 _ 0 hZ1.ok j) [3,4,5,6,7,8] λ_=>?_;rw[hr,hpc];dsimp only;refine J.qn 14 λb9=>?_;refine J.v (.bool false) rfl rfl (λhg aa w he hw=>(a0o (xs:=D2 (zeros16)) (ys:=D2 (zeros16)) rfl rfl rfl he rfl rfl W6 (T6 _) (T6 _) mkD gdD).trans (by rw[eqD _ _ rfl rfl,j3 rfl];rfl)) ?_;refine J.qF λ_=>?_;refine J.q λ_=>?_;refine J.n (j+1) (h3) (by omega) [0,1,2,3,4,5,6,7,8,9]
   ·have hpc:a3Y T j=V7 (3+j):=by unfold a3Y;rw[hxg,h4];rfl
    refine J.qp (a0D f p n t l d Z1 _ 0 hZ1.ok j) [3,4,5,6,7,8] λ_=>?_;rw[hr,hpc];dsimp only;refine J.qn 14 λb9=>?_;refine J.v (.bool false) rfl rfl (λhg aa w he hw=>(a0o (xs:=D2 (V7 (3+j))) (ys:=D2 (V7 (3+j))) rfl rfl rfl he rfl rfl W6 (T6 _) (T6 _) mkD gdD).trans (by rw[eqD _ _ rfl rfl,j3 rfl];rfl)) ?_;refine J.qF λ_=>?_;refine J.q λ_=>?_;refine J.n (j+1) (h3) (by omega) [0,1,2,3,4,5,6,7,8,9]
  refine J.qc (a6c n (hZ1.less (k:=(N8-1000*(r+1))+403) (by omega))) [5] λ_=>?_;rintro v As ⟨f2,p2,t2,l2,d2,Y2,c2,rfl,hY2,hc2,hL2,rfl⟩;obtain rfl:=hc2 hL;refine⟨_,rfl,trivial,?_⟩;refine J.qF λ_=>?_;refine J.q λ_=>?_;refine J.n ((r+1,Y2,f2,p2,t2,l2,d2)) (⟨by dsimp only;omega,hY2,hL2⟩) (by dsimp only;omega) [0,1,2,5,10,11,12,13,14,9]
 refine J.qc (a3Z f p n t l d 90 (by decide) (hZ1.less (k:=400+0) (by omega))) [3,4,5,6,7,8] λ_=>?_;rintro v As ⟨Y3,rfl,⟨hY3,hY3L⟩,rfl⟩;refine⟨_,rfl,trivial,?_⟩;refine J.qp (a7L f p n t l d 90 (by decide) hY3) [3,4,5,6,7,8] λ_=>?_;exact J.qx [1]
end Go.Proofs.YtpakpgkdpofbhaaGreat
