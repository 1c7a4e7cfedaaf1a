/- Helpers. No condition. -/
import Derived.Test.YtpakpgkdpofbhaaGreatA00
import Derived.Test.YtpakpgkdpofbhaaGreatA04
import Derived.Test.YtpakpgkdpofbhaaGreatA19
set_option maxRecDepth 20000
set_option linter.all false
namespace Go.Proofs.YtpakpgkdpofbhaaGreat
open Go Go.RowKit
theorem b7n (g0 g1 g2 lp ti:Int) (A:Atom):FP 15 [.agg #[iI g0,iI g1,iI g2],iI lp,iI ti] [A] (Ps (.bool true) [A]):=by
 have hs:=a1S ti (k:=60) (by decide);refine FE [0,0,0] Tryz.func15 λX F hX=>?_;refine J.qp (a4a) [] λ_=>?_;refine J.qF λ_=>?_;refine J.qc (a2Q g0 g1 g2) [] λ_=>?_;rintro v As ⟨D,B,P,n,f,p,t,l,d,Z,rfl,hD,hB,hP,hZ,hZL,rfl⟩;refine⟨_,rfl,trivial,?_⟩;refine J.qc (a3Z f p n t l d 0 (by decide) (hZ.less (k:=400+100000) (by decide))) [3,4,5,6,7,8] λ_=>?_;rintro v As ⟨Y,rfl,⟨hY,hYL⟩,rfl⟩;refine⟨_,rfl,trivial,?_⟩;refine J.qF λ_=>?_;have hlb:=Fv.lg_bd (F:=Y) hY.ok.dv.gd.ok;rw[hY.lg]at hlb;obtain⟨g,hg⟩:∃g,lgN D B P=g:=⟨_,rfl⟩;refine J.q λb9=>?_;refine J.cb (R2 f n t l p d Y hY.ok.dv.gd.ok) [3,5] ?_;refine cpq ⟨_,rfl,trivial,?_⟩;rw[hY.lg];rw[hg]at hlb ⊢;have hu:=a1S lp (k:=g) (by omega);refine J.qp (a2P lp g (by omega)) [] λ_=>?_;obtain⟨u,hu2⟩:=i5 hu.1;rw[hu2]at hu ⊢;refine J.q λ_=>?_;refine J.l (α:=(Nat×Fv)) (λz=>(z.1:Int)<=a3o ti 60/\Dev D B P z.2 (100000-300*z.1) (λj=>if j=u/\0<z.1 then V7 (5000+((z.1:Int)-1))else V7 (0+j))/\z.2.L=[]) (λz=>[si 10 z.1,sp 9 f,sp 8 n,si 1 u,si 2 ti]) [3,4,5,6,7,8] (λz=>FvP f p n t l d z.2) (λz=>100-z.1) ((0,Y)) (⟨by dsimp only;omega,hY.congr λj _=>by rw[f9 (by dsimp only;omega)],hYL⟩) λz hI=>?_;obtain⟨i,Z1⟩:=z;dsimp only at hI ⊢;obtain⟨hi,hZ1,hL⟩:=hI;refine J.qp (a2P ti 60 (by decide)) [] λ_=>?_;refine J.qd (λ_ h1=>?_) λ_ h1=>?_
 ·simp only[d7]at h1;have hZ2:=hZ1.less (k:=(100000-300*(i+1)+200)+1) (by omega);have hk1:Z1.Ok (Fv.cW+(1+0)) 0:=hZ2.ok.less (k':=UN) (by rw[H3];omega);obtain⟨w1,w2,_⟩:=hZ2.write (i:=u) (by omega) (a7N (5000+i));have hk2:(Z1.write u (V7 (5000+i))).1.Ok (Fv.cW*200+0) 0:=w2.ok.less (by rw[a0S];have:=a3g;omega);obtain⟨v1,v2,v3⟩:=w2.flush;refine J.qp (a2z (5000+i) (by omega)) [] λ_=>?_;refine J.qp (a3a f p n t l d Z1 0 0 hk1 (by decide) u (V7 (5000+i)) rfl) [3,4,5,6,7,8] λ_=>?_;rw[w1];refine J.qp (a3b f p n t l d (Z1.write u (V7 (5000+i))).1 0 0 hk2 (by decide)) [3,4,5,6,7,8] λ_=>?_;rw[v1];generalize(Z1.write u (V7 (5000+i))).1.flush.1=Z3 at v2 v3 ⊢;have hr:=v2.read (i:=u) (by omega);rw[g7 rfl]at hr;refine J.qF λ_=>?_;refine J.qp (a0D f p n t l d Z3 _ 0 v2.ok u) [3,4,5,6,7,8] λ_=>?_;rw[hr];refine J.q λb9=>?_;refine J.plan (.of [0,4,8,13,16,20,26,28,32]) [] [9] (by rw[hX.hP];kernel_rfl) (by kernel_rfl) ?_;refine J.qp (a2z (5000+i) (by omega)) [] λ_=>?_;refine J.vT (.bool false) rfl rfl (λhg aa w he hC=>(a0o (xs:=D2 (V7 (5000+i))) (ys:=D2 (V7 (5000+i))) rfl rfl rfl he rfl rfl W6 (T6 _) (T6 _) mkD gdD).trans (by rw[eqD _ _ rfl rfl,j3 rfl];rfl)) ?_;refine J.qF λ_=>?_;refine J.q λ_=>?_;refine J.nS ((i+1,Z3)) (⟨by dsimp only;omega,v2.congr λj _=>by
   dsimp only
   by_cases e:j=u
   ·rw[g7 e,g7 ⟨e,by omega⟩];congr 1;omega
   ·rw[f9 e,f9 (λh=>e h.1),f9 (λh=>e h.1)],v3⟩) (by dsimp only;omega) [0,1,2,3,4,5,6,7,8] rfl rfl
 refine J.q λ_=>?_;refine J.l (α:=Nat) (λj=>j<=g) (λj=>[si 13 j,sp 9 f,sp 8 n,si 1 u]) [] (λj=>[]) (λj=>g-j) (0) (j7 _) λj hI=>?_;refine J.qp (R2 f n t l p d Z1 hZ1.ok.dv.gd.ok) [3,5] λ_=>?_;rw[hZ1.lg,hg];refine J.qd (λ_ h2=>?_) λ_ h2=>?_
 ·simp only[d7,i7]at h2;have hr:=hZ1.read (i:=j) (by omega);generalize hx:(if j=u/\0<i then V7 (5000+((i:Int)-1))else V7 (0+(j:Int)))=x at hr;refine J.qp (a0D f p n t l d Z1 _ 0 hZ1.ok j) [3,4,5,6,7,8] λ_=>?_;rw[hr];dsimp only;refine J.q λb9=>?_;refine J.plan (.of [0,4,8,12,16,20,24,29,32,38,40,44,48]) [] [9] (by rw[hX.hP];kernel_rfl) (by kernel_rfl) ?_;refine J.qn 4 λ_=>?_
  by_cases e:j=u
  ·rw[show((j:Int) !=(u:Int))=false from by simp[e]];refine J.q λ_=>?_;refine J.gcase hX rfl rfl rfl stq (λhb=>by simp at hb) (λhb=>?_);refine J.vT (.bool false) rfl rfl (λhg aa w he hC=>by simp[G.on]at hg) ?_;refine J.qF λ_=>?_;refine J.q λ_=>?_;refine J.n (j+1) (h2) (by omega) [0,1,2,3,4,5,6,7,8]
  ·have hx2:x=V7 j:=by rw[<- hx,f9 (λh=>e h.1),Int.zero_add]
   rw[show((j:Int) !=(u:Int))=true from by simp;omega,hx2];refine J.qp (a2z j (by omega)) [] λ_=>?_;refine J.vT (.bool false) rfl rfl (λhg aa w he hC=>(a0o (xs:=D2 (V7 j)) (ys:=D2 (V7 j)) rfl rfl rfl he rfl rfl W6 (T6 _) (T6 _) mkD gdD).trans (by rw[eqD _ _ rfl rfl,j3 rfl];rfl)) ?_;refine J.qF λ_=>?_;refine J.q λ_=>?_;refine J.n (j+1) (h2) (by omega) [0,1,2,3,4,5,6,7,8]
 refine J.qp (a4h n Z1.S.N) [5] λ_=>?_;rw[hZ1.br];exact J.qx [1]
end Go.Proofs.YtpakpgkdpofbhaaGreat
