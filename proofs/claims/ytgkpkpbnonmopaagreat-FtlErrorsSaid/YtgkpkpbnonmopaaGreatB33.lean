/- Helpers, proved here. No condition. -/
import Derived.Test.YtgkpkpbnonmopaaGreatB06
import Derived.Test.YtgkpkpbnonmopaaGreatB23
import Derived.Test.YtgkpkpbnonmopaaGreatB30
import Derived.Test.YtgkpkpbnonmopaaGreatB31
set_option maxRecDepth 20000
set_option linter.all false
namespace Go.Proofs.YtgkpkpbnonmopaaGreat
open Go Go.RowKit
namespace Fv
variable {F : Fv}
theorem off_read (h:F.ask.off=true) (i:Int):F.read i=(F.ask,zeros16,9):=by unfold read;rw[if_pos h]
theorem off_write (h:F.ask.off=true) (i:Int) (d:List UInt8):F.write i d=(F.ask,9):=by unfold write waits;rw[if_pos h]
theorem off_trim (h:F.ask.off=true) (i:Int):F.trim i=(F.ask,9):=by unfold trim waits;rw[if_pos h]
theorem off_flush (h:F.ask.off=true):F.flush=(F.ask,9):=by unfold flush;rw[if_pos h]
theorem off_tick (h:F.ask.off=true):F.tick=(F.ask,9):=by unfold tick;rw[if_pos h]
theorem off_whole (h:F.ask.off=true):F.whole=(F.ask,false):=by unfold whole;rw[if_pos h]
theorem ask_off (h:F.off=true):F.ask=F:=by
 cases F;unfold ask;dsimp only at h ⊢;rw[h,Bool.true_or]
end Fv
namespace Dev
variable {D B P n : Nat} {F : Fv} {c : Nat → List UInt8}
theorem ask (h:Dev D B P F n c):F.ask=F:=by
 obtain⟨W,hW,_⟩:=h.fc;exact hW.fi.ask
theorem foff (h:Dev D B P F n c):F.off=false:=by
 obtain⟨W,hW,_⟩:=h.fc;exact hW.fi.off
theorem readI (h:Dev D B P F n c) (i:Int):F.read i=if i<0\/i>=(lgN D B P:Int)then(F,zeros16,3)else(F,c i.toNat,0):=by
 by_cases hi:i<0\/i>=(lgN D B P:Int)
 ·obtain⟨W,hW,_⟩:=h.fc;rw[hW.fi.read,if_pos hi,if_pos hi]
 ·have:=h.read (i:=i.toNat) (by omega);rw[Int.toNat_of_nonneg (by omega)]at this;rw[if_neg hi,this]
theorem waits_out (h:Dev D B P F n c) {e:En} (hi:e.lpn<0\/e.lpn>=(lgN D B P:Int)):F.waits e=(F,3):=by
 unfold Fv.waits;rw[h.ask,h.foff,if_neg Bool.false_ne_true,h.lg,if_pos hi]
theorem writeI (h:Dev D B P F (n+1) c) (i:Int) {d:List UInt8} (hd:d.length=16):(F.write i d).2=(if i<0\/i>=(lgN D B P:Int)then 3 else 0)/\∃c',Dev D B P (F.write i d).1 n c':=by
 by_cases hi:i<0\/i>=(lgN D B P:Int)
 ·rw[show F.write i d=(F,3)from h.waits_out (e:=⟨i,0,1,d⟩) hi,if_pos hi];exact⟨rfl,c,h.less (by omega)⟩
 ·obtain⟨w1,w2,_⟩:=h.write (i:=i.toNat) (by omega) hd;rw[Int.toNat_of_nonneg (by omega)]at w1 w2;rw[if_neg hi];exact⟨w1,_,w2⟩
theorem trimI (h:Dev D B P F (n+1) c) (i:Int):(F.trim i).2=(if i<0\/i>=(lgN D B P:Int)then 3 else 0)/\∃c',Dev D B P (F.trim i).1 n c':=by
 by_cases hi:i<0\/i>=(lgN D B P:Int)
 ·rw[show F.trim i=(F,3)from h.waits_out (e:=⟨i,0,2,zeros16⟩) hi,if_pos hi];exact⟨rfl,c,h.less (by omega)⟩
 ·obtain⟨w1,w2,_⟩:=h.trim (i:=i.toNat) (by omega);rw[Int.toNat_of_nonneg (by omega)]at w1 w2;rw[if_neg hi];exact⟨w1,_,w2⟩
end Dev
theorem Nand.cut_off (N:Nand):(N.setCut (-1) 0).off=true:=by
 unfold Nand.setCut;split
 ·assumption
 ·rfl
theorem a7C (g0 g1 g2 lp:Int) (x:List UInt8) (hx:x.length=16) (A:Atom):FP 6 [.agg #[iI g0,iI g1,iI g2],iI lp,a2n x] [A] (λv As=>v= .bool true/\As=[A]):=by
 refine FE [0,0,0] Tryz.func6 λX F hX=>?_;refine J.q λbb=>?_;refine J.cb (a0E) [] ?_;refine cpq ⟨_,rfl,trivial,?_⟩;refine J.qF λ_=>?_;refine J.qc (a6I g0 g1 g2) [] λ_=>?_;rintro v As ⟨D,B,P,rfl,hD,hB,hP,rfl⟩;refine⟨_,rfl,trivial,?_⟩;have hgm:n9 D B P=true:=by simp[n9];omega
 have hgb:=a3l hD hB hP;refine J.qc (a1v D B P hgm) [] λ_=>?_;rintro v As ⟨n,rfl,rfl⟩;refine⟨_,rfl,trivial,?_⟩;have hm:=a0B (Dv.Ok.new D B P (lgN D B P) hgm 0 (by decide));have hZ:=Dev.new hD hB hP hgb.2.1 hgb.2.2 hgm;refine J.q λ_=>?_;refine J.ca hX (by kernel_rfl) (M9 n (Nand.new D B P) 0 0 (a0I D B P hgm _ (by decide)) (by decide) rfl) [4] 0 rfl rfl rfl rfl rfl rfl (λ_=>rfl) ?_;rintro v As (⟨_,f,p,t,l,d,rfl,rfl⟩ | ⟨he,rfl,rfl⟩)
 rotate_left
 ·exact absurd (congrArg (·.2) hm) he
 refine⟨_,rfl,trivial,?_⟩;rw[hm];dsimp only;generalize Fv.of (Dv.new D B P (lgN D B P))=Z at hZ ⊢;refine J.p (.of [0,4,8,12,21,18,26,28,32]) [] [2] λ_=>?_;refine J.qp (y0 f n t l p d Z hZ.ok.dv.gd.ok) [4,6] λ_=>?_;rw[hZ.lg];refine J.qp (a4u D B P hgm) [] λ_=>?_;refine J.qn 1 λ_=>?_;rw[b3B (lgN D B P:Int)];refine J.qF λ_=>?_;refine J.qn 2 λ_=>?_;refine J.join (α:=Unit) (λ_=>[⟨11, .bool (decide (lp>=0)&&decide (lp<(lgN D B P:Int))),0, .tt⟩,si 1 lp,sp 9 f,sp 8 n,⟨5,pp (bb (0+1)),4, .tt⟩]) (λ_=>[.hp F,A, .pt (bb 0) 24 [iI D,iI B,iI P], .pt (bb (0+1)) 29 (a2n x).cells.toList]++FvP f p n t l d Z) (λhj=>?_) (λ_=>?_)
 ·refine J.q λ_=>?_;refine J.gcase hX rfl rfl rfl trivial (λhb=>?_) (λhb=>?_)
  ·rw[hb];refine J.qp (y0 f n t l p d Z hZ.ok.dv.gd.ok) [4,6] λ_=>?_;rw[hZ.lg];refine J.qn 4 λ_=>?_;exact J.goto [0,1,2,3,4,5,6,7,8,9] (hj ()) ⟨by rw[hb];rfl,rfl,rfl,rfl,rfl,trivial⟩ rfl rfl
  ·rw[hb];refine J.v (.bool (decide (lp<(lgN D B P:Int)))) rfl rfl (λhg a w he hs=>by simp[G.on]at hg) ?_;refine J.qn 3 λ_=>?_;exact J.goto [0,1,2,3,4,5,6,7,8,9] (hj ()) ⟨by rw[hb];rfl,rfl,rfl,rfl,rfl,trivial⟩ rfl rfl
 obtain⟨want,hw⟩:∃w:Int,(if lp<0\/lp>=(lgN D B P:Int)then 3 else 0)=w:=⟨_,rfl⟩;refine J.q λ_=>?_;refine J.join (α:=Unit) (λ_=>[si 12 want,si 1 lp,sp 9 f,sp 8 n,⟨5,pp (bb (0+1)),4, .tt⟩]) (λ_=>[.hp F,A, .pt (bb 0) 24 [iI D,iI B,iI P], .pt (bb (0+1)) 29 (a2n x).cells.toList]++FvP f p n t l d Z) (λhj=>?_) (λ_=>?_)
 ·refine J.qd (λ_ h1=>?_) λ_ h1=>?_
  ·have e:want=3:=by
    rw[<- hw,if_pos];simp only[Bool.not_eq_true',Bool.and_eq_false_iff,decide_eq_false_iff_not]at h1;omega
   subst e;refine J.qn 3 λ_=>?_;exact J.goto [0,1,2,3,4,5,6,7,8,9] (hj ()) ⟨rfl,rfl,rfl,rfl,rfl,trivial⟩ rfl rfl
  ·have e:want=0:=by
    rw[<- hw,if_neg];simp only[Bool.not_eq_false',Bool.and_eq_true,decide_eq_true_eq]at h1;omega
   subst e;refine J.qn 1 λ_=>?_;exact J.goto [0,1,2,3,4,5,6,7,8,9] (hj ()) ⟨rfl,rfl,rfl,rfl,rfl,trivial⟩ rfl rfl
 have hl:∀k,k<=100000->Dev D B P Z k _:=λk hk=>hZ.less (by omega);have h0:Dev D B P Z (1001+1) _:=hZ.less (by decide);have hk0:Z.Ok (Fv.cW+(1+0)) 0:=h0.ok.less (k':=UN) (by rw[Nat.mul_succ];omega);obtain⟨w1,c1,w2⟩:=h0.writeI lp hx;have w2:Dev D B P (Z.write lp x).1 (1000+1) c1:=w2;have hk1:(Z.write lp x).1.Ok (Fv.cW+(1+0)) 0:=w2.ok.less (k':=UN) (by rw[Nat.mul_succ];omega);obtain⟨v1,c2,v2⟩:=w2.trimI lp;have hr0:Z.read lp=(Z,zeros16,want):=by
  rw[hZ.readI,<- hw];split<;>rfl
 rw[hw]at w1 v1;refine J.qp (E7 f p n t l d Z _ 0 hZ.ok lp) [4,5,6,7,8,9] λ_=>?_;rw[hr0];dsimp only;refine J.q λc0=>?_;refine J.cb (M8 f p n t l d Z 0 0 hk0 (by decide) lp x hx) [4,5,6,7,8,9] ?_;refine cpq ⟨_,rfl,trivial,?_⟩;rw[w1];generalize(Z.write lp x).1=Z1 at w2 hk1 v1 v2 ⊢;refine J.qp (a3n f p n t l d Z1 0 0 hk1 (by decide) lp) [4,5,6,7,8,9] λ_=>?_;rw[v1];generalize(Z1.trim lp).1=Z2 at v2 ⊢;have hok2:Z2.Ok (UN*1000) 0:=v2.ok;have hlk:=Nand.like_cut Z2.S.N (-1) 0;have hoff:(Z2.setN (Z2.S.N.setCut (-1) 0)).ask.off=true:=by
  show(Z2.off||(Z2.S.N.setCut (-1) 0).off)=true;rw[Nand.cut_off,Bool.or_true]
 have hk6:(Z2.setN (Z2.S.N.setCut (-1) 0)).Ok (UN*1000) 0:=hok2.setN hlk (hok2.dv.gd.cut (-1) 0 (by decide) (by decide));refine J.qp (a7R n Z2.S.N (-1) 0) [6] λ_=>?_;refine J.qp (E7 f p n t l d (Z2.setN (Z2.S.N.setCut (-1) 0)) _ 0 hk6 0) [4,5,6,7,8,9] λ_=>?_;rw[Fv.off_read hoff];dsimp only;have hk7:=hk6.ask;generalize(Z2.setN (Z2.S.N.setCut (-1) 0)).ask=F7 at hoff hk7 ⊢;have a7:=Fv.ask_off hoff;have o7:F7.ask.off=true:=by rw[a7];exact hoff
 have hk7w:F7.Ok (Fv.cW+(1+0)) 0:=hk7.less (Nat.le_trans (show UN<=UN*1000 from Nat.le_mul_of_pos_right _ (by decide)) (Nat.le_refl _));have hk7f:F7.Ok (Fv.cW*200+0) 0:=hk7.less (Nat.le_trans W9 (Nat.mul_le_mul_left _ (by decide)));have hk7t:F7.Ok (Dv.costS+0) 0:=hk7.less (by
  have:Dv.costC<=Dv.costM:=by unfold Dv.costM Dv.costR;omega
  have h2:UN*2<=UN*1000:=Nat.mul_le_mul_left _ (by decide);have h3:=a6a;unfold Dv.costS;omega)
 refine J.q λc1=>?_;refine J.cb (M8 f p n t l d F7 0 0 hk7w (by decide) 0 x hx) [4,5,6,7,8,9] ?_;refine cpq ⟨_,rfl,trivial,?_⟩;rw[Fv.off_write o7,a7];dsimp only;refine J.qp (a3n f p n t l d F7 0 0 hk7w (by decide) 0) [4,5,6,7,8,9] λ_=>?_;rw[Fv.off_trim o7,a7];dsimp only;refine J.qp (W1 f p n t l d F7 0 0 hk7f (by decide)) [4,5,6,7,8,9] λ_=>?_;rw[Fv.off_flush o7,a7];dsimp only;refine J.qp (a6O f p n t l d F7 0 0 hk7t (by decide)) [4,5,6,7,8,9] λ_=>?_;rw[Fv.off_tick o7,a7];dsimp only;refine J.qp (a8m f p n t l d F7 _ 0 hk7) [4,5,6,7,8,9] λ_=>?_;rw[Fv.off_whole o7,a7];dsimp only;have o8:(F7.setN F7.S.N.onN).ask.off=true:=by
  show(F7.off||F7.S.N.onN.off)=true;rw[hoff,Bool.true_or]
 have hk8:(F7.setN F7.S.N.onN).Ok (UN*1000) 0:=hk7.setN (Nand.like_on F7.S.N) hk7.dv.gd.on;refine J.qp (b3E n F7.S.N) [6] λ_=>?_;refine J.qp (E7 f p n t l d (F7.setN F7.S.N.onN) _ 0 hk8 0) [4,5,6,7,8,9] λ_=>?_;rw[Fv.off_read o8];dsimp only;clear hm;refine J.qn 15 λc2=>?_;refine J.v (.bool true) rfl rfl (λhg aa w he hw=>(D2 (xs:=n7 zeros16) (ys:=n7 zeros16) rfl rfl rfl he hg hg J9 (D4 _) (D4 _) mkD gdD).trans (by rw[eqD _ _ rfl rfl];simp)) ?_;refine J.qr [1] λ_=>?_;refine⟨?_,rfl⟩;simp
end Go.Proofs.YtgkpkpbnonmopaaGreat
namespace Go.Proofs.YtgkpkpbnonmopaaGreat
open Go Go.RowKit
open Go.ChangeShapes Go.WideShapes Go.ChangeAt
theorem a7Q {P:Program} {w:World} {r:Reach} {base:Nat} {t:TypeId} {v:Value} {n:Nat} {e:TypeId} (ht:P.underlying t=some (.array n e)) (h:Value.okWide P w r base t v):∃cs:Array Value,v= .agg cs:=by
 simp only[Value.okWide,ht]at h;obtain⟨cs,h1,_⟩:=h;exact⟨cs,h1⟩
end Go.Proofs.YtgkpkpbnonmopaaGreat
