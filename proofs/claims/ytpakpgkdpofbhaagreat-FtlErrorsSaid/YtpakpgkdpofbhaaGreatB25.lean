/- Helpers. No condition. -/
import Derived.Test.YtpakpgkdpofbhaaGreatB00
import Derived.Test.YtpakpgkdpofbhaaGreatB04
import Derived.Test.YtpakpgkdpofbhaaGreatB13
import Derived.Test.YtpakpgkdpofbhaaGreatB18
import Derived.Test.YtpakpgkdpofbhaaGreatB21
set_option maxRecDepth 20000
set_option linter.all false
namespace Go.Proofs.YtpakpgkdpofbhaaGreat
open Go Go.RowKit
theorem b1E (g0 g1 g2 lp:Int) (x:List UInt8) (hx:x.length=16) (A:Atom):FP 7 [.agg #[iI g0,iI g1,iI g2],iI lp,a6l x] [A] (λv As=>v= .bool true/\As=[A]):=by
 refine FE [0,0,0] Tryz.func7 λX F hX=>?_;refine J.q λbb=>?_;refine J.cb (a2R) [] ?_;refine cpq ⟨_,rfl,trivial,?_⟩;refine J.qF λ_=>?_;refine J.qc (b0M g0 g1 g2) [] λ_=>?_;rintro v As ⟨D,B,P,rfl,hD,hB,hP,rfl⟩;refine⟨_,rfl,trivial,?_⟩;have hgm:J3 D B P=true:=by simp[J3];omega
 have hgb:=a5j hD hB hP;refine J.qc (a5h D B P hgm) [] λ_=>?_;rintro v As ⟨n,rfl,rfl⟩;refine⟨_,rfl,trivial,?_⟩;have hm:=a4g (Dv.Ok.new D B P (lgN D B P) hgm 0 (by decide));have hZ:=Dev.new hD hB hP hgb.2.1 hgb.2.2 hgm;refine J.q λ_=>?_;refine J.ca hX (by kernel_rfl) (a1w n (Nand.new D B P) 0 0 (a4m D B P hgm _ (by decide)) (by decide) rfl) [4] 0 rfl rfl rfl rfl rfl rfl (λ_=>rfl) ?_;rintro v As (⟨_,f,p,t,l,d,rfl,rfl⟩ | ⟨he,rfl,rfl⟩)
 rotate_left
 ·exact absurd (congrArg (·.2) hm) he
 refine⟨_,rfl,trivial,?_⟩;rw[hm];dsimp only;generalize Fv.of (Dv.new D B P (lgN D B P))=Z at hZ ⊢;refine J.p (.of [0,4,8,12,21,18,26,28,32]) [] [2] λ_=>?_;refine J.qp (O5 f n t l p d Z hZ.ok.dv.gd.ok) [4,6] λ_=>?_;rw[hZ.lg];refine J.qp (a8t D B P hgm) [] λ_=>?_;refine J.qn 1 λ_=>?_;rw[b7j (lgN D B P:Int)];refine J.qF λ_=>?_;refine J.qn 2 λ_=>?_;refine J.join (α:=Unit) (λ_=>[⟨11, .bool (decide (lp>=0)&&decide (lp<(lgN D B P:Int))),0, .tt⟩,si 1 lp,sp 9 f,sp 8 n,⟨5,pp (bb (0+1)),4, .tt⟩]) (λ_=>[.hp F,A, .pt (bb 0) 23 [iI D,iI B,iI P], .pt (bb (0+1)) 30 (a6l x).cells.toList]++FvP f p n t l d Z) (λhj=>?_) (λ_=>?_)
 ·refine J.q λ_=>?_;refine J.gcase hX rfl rfl rfl trivial (λhb=>?_) (λhb=>?_)
  ·rw[hb];refine J.qp (O5 f n t l p d Z hZ.ok.dv.gd.ok) [4,6] λ_=>?_;rw[hZ.lg];refine J.qn 4 λ_=>?_;exact J.goto [0,1,2,3,4,5,6,7,8,9] (hj ()) ⟨by rw[hb];rfl,rfl,rfl,rfl,rfl,trivial⟩ rfl rfl
  ·rw[hb];refine J.v (.bool (decide (lp<(lgN D B P:Int)))) rfl rfl (λhg a w he hs=>by simp[G.on]at hg) ?_;refine J.qn 3 λ_=>?_;exact J.goto [0,1,2,3,4,5,6,7,8,9] (hj ()) ⟨by rw[hb];rfl,rfl,rfl,rfl,rfl,trivial⟩ rfl rfl
 obtain⟨want,hw⟩:∃w:Int,(if lp<0\/lp>=(lgN D B P:Int)then 3 else 0)=w:=⟨_,rfl⟩;refine J.q λ_=>?_;refine J.join (α:=Unit) (λ_=>[si 12 want,si 1 lp,sp 9 f,sp 8 n,⟨5,pp (bb (0+1)),4, .tt⟩]) (λ_=>[.hp F,A, .pt (bb 0) 23 [iI D,iI B,iI P], .pt (bb (0+1)) 30 (a6l x).cells.toList]++FvP f p n t l d Z) (λhj=>?_) (λ_=>?_)
 ·refine J.qd (λ_ h1=>?_) λ_ h1=>?_
  ·have e:want=3:=by
    rw[<- hw,i9];simp only[j7,Bool.and_eq_false_iff,c9]at h1;omega
   subst e;refine J.qn 3 λ_=>?_;exact J.goto [0,1,2,3,4,5,6,7,8,9] (hj ()) ⟨rfl,rfl,rfl,rfl,rfl,trivial⟩ rfl rfl
  ·have e:want=0:=by
    rw[<- hw,i7];simp only[B2,j5,g7]at h1;omega
   subst e;refine J.qn 1 λ_=>?_;exact J.goto [0,1,2,3,4,5,6,7,8,9] (hj ()) ⟨rfl,rfl,rfl,rfl,rfl,trivial⟩ rfl rfl
 have hl:∀k,k<=100000->Dev D B P Z k _:=λk hk=>hZ.less (by omega);have h0:Dev D B P Z (1001+1) _:=hZ.less (by decide);have hk0:Z.Ok (Fv.cW+(1+0)) 0:=h0.ok.less (k':=UN) (by rw[C2];omega);obtain⟨w1,c1,w2⟩:=h0.writeI lp hx;have w2:Dev D B P (Z.write lp x).1 (1000+1) c1:=w2;have hk1:(Z.write lp x).1.Ok (Fv.cW+(1+0)) 0:=w2.ok.less (k':=UN) (by rw[C2];omega);obtain⟨v1,c2,v2⟩:=w2.trimI lp;have hr0:Z.read lp=(Z,zeros16,want):=by
  rw[hZ.readI,<- hw];split<;>rfl
 rw[hw]at w1 v1;refine J.qp (a0h f p n t l d Z _ 0 hZ.ok lp) [4,5,6,7,8,9] λ_=>?_;rw[hr0];dsimp only;refine J.q λc0=>?_;refine J.cb (a0S f p n t l d Z 0 0 hk0 (by decide) lp x hx) [4,5,6,7,8,9] ?_;refine cpq ⟨_,rfl,trivial,?_⟩;rw[w1];generalize(Z.write lp x).1=Z1 at w2 hk1 v1 v2 ⊢;refine J.qp (a7o f p n t l d Z1 0 0 hk1 (by decide) lp) [4,5,6,7,8,9] λ_=>?_;rw[v1];generalize(Z1.trim lp).1=Z2 at v2 ⊢;have hok2:Z2.Ok (UN*1000) 0:=v2.ok;have hlk:=Nand.like_cut Z2.S.N (-1) 0;have hoff:(Z2.setN (Z2.S.N.setCut (-1) 0)).ask.off=true:=by
  show(Z2.off||(Z2.S.N.setCut (-1) 0).off)=true;rw[Nand.cut_off,Bool.or_true]
 have hk6:(Z2.setN (Z2.S.N.setCut (-1) 0)).Ok (UN*1000) 0:=hok2.setN hlk (hok2.dv.gd.cut (-1) 0 (by decide) (by decide));refine J.qp (b1V n Z2.S.N (-1) 0) [6] λ_=>?_;refine J.qp (a0h f p n t l d (Z2.setN (Z2.S.N.setCut (-1) 0)) _ 0 hk6 0) [4,5,6,7,8,9] λ_=>?_;rw[Fv.off_read hoff];dsimp only;have hk7:=hk6.ask;generalize(Z2.setN (Z2.S.N.setCut (-1) 0)).ask=F7 at hoff hk7 ⊢;have a7:=Fv.ask_off hoff;have o7:F7.ask.off=true:=by rw[a7];exact hoff
 have hk7w:F7.Ok (Fv.cW+(1+0)) 0:=hk7.less (E6 (show UN<=UN*1000 from Nat.le_mul_of_pos_right _ (by decide)) (m9 _));have hk7f:F7.Ok (Fv.cW*200+0) 0:=hk7.less (E6 a2j (s7 _ (by decide)));have hk7t:F7.Ok (Dv.costS+0) 0:=hk7.less (by
  have:Dv.costC<=Dv.costM:=by unfold Dv.costM Dv.costR;omega
  have h2:UN*2<=UN*1000:=s7 _ (by decide);have h3:=a8J;unfold Dv.costS;omega)
 refine J.q λc1=>?_;refine J.cb (a0S f p n t l d F7 0 0 hk7w (by decide) 0 x hx) [4,5,6,7,8,9] ?_;refine cpq ⟨_,rfl,trivial,?_⟩;rw[Fv.off_write o7,a7];dsimp only;refine J.qp (a7o f p n t l d F7 0 0 hk7w (by decide) 0) [4,5,6,7,8,9] λ_=>?_;rw[Fv.off_trim o7,a7];dsimp only;refine J.qp (a1x f p n t l d F7 0 0 hk7f (by decide)) [4,5,6,7,8,9] λ_=>?_;rw[Fv.off_flush o7,a7];dsimp only;refine J.qp (b0R f p n t l d F7 0 0 hk7t (by decide)) [4,5,6,7,8,9] λ_=>?_;rw[Fv.off_tick o7,a7];dsimp only;refine J.qp (a5u f p n t l d F7 _ 0 hk7) [4,5,6,7,8,9] λ_=>?_;rw[Fv.off_whole o7,a7];dsimp only;have o8:(F7.setN F7.S.N.onN).ask.off=true:=by
  show(F7.off||F7.S.N.onN.off)=true;rw[hoff,Bool.true_or]
 have hk8:(F7.setN F7.S.N.onN).Ok (UN*1000) 0:=hk7.setN (Nand.like_on F7.S.N) hk7.dv.gd.on;refine J.qp (b7m n F7.S.N) [6] λ_=>?_;refine J.qp (a0h f p n t l d (F7.setN F7.S.N.onN) _ 0 hk8 0) [4,5,6,7,8,9] λ_=>?_;rw[Fv.off_read o8];dsimp only;clear hm;refine J.qn 15 λc2=>?_;refine J.v (.bool true) rfl rfl (λhg aa w he hw=>(W8 (xs:=I1 zeros16) (ys:=I1 zeros16) rfl rfl rfl he hg hg a0v (X2 _) (X2 _) mkD gdD).trans (by rw[eqD _ _ rfl rfl];simp)) ?_;refine J.qr [1] λ_=>?_;refine⟨?_,rfl⟩;simp
end Go.Proofs.YtpakpgkdpofbhaaGreat
namespace Go.Proofs.YtpakpgkdpofbhaaGreat
open Go Go.RowKit
open Go.ChangeShapes Go.WideShapes Go.ChangeAt
theorem b1U {P:Program} {w:World} {r:Reach} {base:Nat} {t:TypeId} {v:Value} {n:Nat} {e:TypeId} (ht:P.underlying t=some (.array n e)) (h:Value.okWide P w r base t v):∃cs:Array Value,v= .agg cs:=by
 simp only[Value.okWide,ht]at h;obtain⟨cs,h1,_⟩:=h;exact⟨cs,h1⟩
end Go.Proofs.YtpakpgkdpofbhaaGreat
