/- Helpers, proved here. No condition. -/
import Derived.Test.YtgkpkpbnonmopaaGreatB31
set_option maxRecDepth 20000
set_option linter.all false
namespace Go.Proofs.YtgkpkpbnonmopaaGreat
open Go Go.RowKit
theorem b5s (f p n t l d:Nat) (Z:Fv) (c:Int) (hc:0<=c/\c<=100000) (lg m:Nat) (hl2:lg<=200) (hm:m<=12) (I:Nat->Fv->Prop) (Jq:Fv->Prop) (h0:I 0 Z)
  (hg:∀i Y,I i Y->Y.lg=(lg:Int)/\Y.S.N.Ok)
  (hw:∀i Y,I i Y->i<lg->Y.Ok (Fv.cW+(1+0)) m/\(Y.write i (J4 (c+i))).2=0/\I (i+1) (Y.write i (J4 (c+i))).1)
  (hf:∀Y,I lg Y->Y.Ok (Fv.cW*200+0) m/\Y.flush.2=0/\Jq Y.flush.1):
  FP 58 [pp f,iI c] (FvP f p n t l d Z) (λv As=>∃Y,v= .bool true/\Jq Y/\As=FvP f p n t l d Y):=by
 refine FE [2,0] Tryz.func58 λX F hX=>?_;refine J.q λ_=>?_;refine J.lo (α:=(Nat×Fv)) (λz=>z.1<=lg/\I z.1 z.2) (λz=>[si 5 z.1,⟨0,pp f,2, .tt⟩,si 1 c]) [1,2,3,4,5,6] (λz=>FvP f p n t l d z.2) (λz=>lg-z.1) ((0,Z)) (⟨Nat.zero_le _,h0⟩) rfl ?_ (λ_=>rfl) λz hI=>?_
 ·rfl
 obtain⟨i,Y⟩:=z;dsimp only at hI ⊢;obtain⟨hi,hY⟩:=hI;have hgY:=hg i Y hY;refine J.qp (y0 f n t l p d Y hgY.2) [1,3] λ_=>?_;rw[hgY.1];refine J.qd (λ_ h1=>?_) λ_ h1=>?_
 ·simp only[decide_eq_true_eq,Int.ofNat_lt]at h1;obtain⟨w1,w2,w3⟩:=hw i Y hY h1;refine J.qp (a1g (c+i) (by omega)) [] λ_=>?_;refine J.qp (M8 f p n t l d Y 0 m w1 hm i (J4 (c+i)) rfl) [1,2,3,4,5,6] λ_=>?_;rw[w2];refine J.qF λ_=>?_;refine J.q λ_=>?_;refine J.nS ((i+1,(Y.write i (J4 (c+i))).1)) (⟨by dsimp only;omega,w3⟩) (by dsimp only;omega) [0,1,2,3,4,5,6] rfl rfl
 simp only[decide_eq_false_iff_not,Int.ofNat_lt]at h1;obtain rfl:i=lg:=by omega
 obtain⟨f1,f2,f3⟩:=hf Y hY;refine J.qp (W1 f p n t l d Y 0 m f1 hm) [1,2,3,4,5,6] λ_=>?_;rw[f2];refine J.qr [1,2,3,4,5,6] λ_=>?_;exact⟨_,rfl,f3,rfl⟩
theorem b5r (f p n t l d:Nat) (Z:Fv) (c:Int) (hc:0<=c/\c<=100000) (lg k m:Nat) (hl2:lg<=200) (hO:Z.Ok k m) (hlg:Z.lg=(lg:Int)) (hall:Z.all=(Z,(List.range lg).map (λi:Nat=>J4 (c+i)),0)):
  FP 59 [pp f,iI c] (FvP f p n t l d Z) (λv As=>v= .bool true/\As=FvP f p n t l d Z):=by
 refine FE [2,0] Tryz.func59 λX F hX=>?_;refine J.qc (b4O f p n t l d Z k m hO) [1,2,3,4,5,6] λ_=>?_;rintro v As ⟨a,cc,rfl,rfl⟩;refine⟨_,rfl,trivial,?_⟩;rw[hall];dsimp only;obtain⟨Q,hQ⟩:∃Q,(List.range lg).map (λi:Nat=>J4 (c+i))=Q:=⟨_,rfl⟩;have hQl:Q.length=lg:=by rw[<- hQ];simp
 rw[hQ,hQl];refine J.q λ_=>?_;refine J.lo (α:=Nat) (λi=>i<=lg) (λi=>[si 7 i,sv 5 (slv a lg cc),si 6 0,⟨0,pp f,2, .tt⟩,si 1 c]) [] (λi=>[]) (λi=>lg-i) (0) (Nat.zero_le _) rfl ?_ (λ_=>rfl) λi hI=>?_
 ·rfl
 refine J.qd (λ_ h1=>?_) λ_ h1=>?_
 ·simp only[decide_eq_true_eq,Int.ofNat_lt]at h1;have hx:Q[i]? =some (J4 (c+i)):=by rw[<- hQ,List.getElem?_map,List.getElem?_range h1];rfl
  refine J.know (λh' s=>j7 (c:=(a,cc)) (by omega) (s.get (i:=7) rfl)) λhg=>?_;obtain⟨g,rfl⟩:=hg;refine J.pq (.of [0,4,8,13,16,20,24,30,32]) [] [7] λ_ _=>?_;refine J.qn 4 λ_=>?_;refine J.vT (a2n (J4 (c+i))) rfl rfl (λhg aa w he hC=>r9 tk rfl rfl he rfl rfl rfl (hC rfl _ (i9 (i:=7) rfl)) (by rw[show 0+(i:Int).toNat*16=i*16 from by omega];exact a0n n7 16 (λ_=>rfl) Q i _ hx) rfl) ?_;refine J.qp (a1g (c+i) (by omega)) [] λ_=>?_;refine J.vT (.bool false) rfl rfl (λhg aa w he hC=>(V0 (xs:=n7 (J4 (c+i))) (ys:=n7 (J4 (c+i))) rfl rfl rfl he rfl rfl J9 (D4 _) (D4 _) mkD gdD).trans (by rw[eqD _ _ rfl rfl,decide_eq_true rfl];rfl)) ?_;refine J.qF λ_=>?_;refine J.q λ_=>?_;refine J.nS (i+1) (h1) (by omega) [0,1,2,3,4,5,6,7] rfl rfl
 refine J.qp (y0 f n t l p d Z hO.dv.gd.ok) [1,3] λ_=>?_;rw[hlg];refine J.qr [1,2,3,4,5,6] λ_=>?_;exact⟨by simp,rfl⟩
theorem a7r (f p n t l d:Nat) {D B P k:Nat} {Z:Fv} {c0:Nat->List UInt8} (c:Int) (hc:0<=c/\c<=100000) (h:Dev D B P Z (400+k) c0):
  Fn Tryz.prog 58 [.pointer (some ⟨f,0,none⟩), .int .i64 c] (FvP f p n t l d Z) (λv As=>∃Y,v= .bool true/\(Dev D B P Y k (λj=>J4 (c+j))/\Y.L=[])/\As=FvP f p n t l d Y):=by
 have hlg:=(Fv.lg_bd (F:=Z) h.ok.dv.gd.ok).2;rw[h.lg]at hlg;have hUN:UN=Fv.cW+1:=rfl;refine b5s f p n t l d Z c hc (lgN D B P) 0 (by omega) (by decide) (λi Y=>Dev D B P Y (200-i+200+k) (λj=>if j<i then J4 (c+j)else c0 j)) (λY=>Dev D B P Y k (λj=>J4 (c+j))/\Y.L=[]) ?_ (λi Y hY=>⟨hY.lg,hY.ok.dv.gd.ok⟩) (λi Y hY hi=>?_) λY hY=>?_
 ·exact(h.less (by omega)).congr λi _=>by rw[if_neg (by omega)]
 ·have hY:Dev D B P Y ((200-(i+1)+200+k)+1) _:=hY.less (by omega);have hok:=hY.ok.less (k':=UN) (by rw[Nat.mul_succ];omega);obtain⟨w1,w2,_⟩:=hY.write hi (a7u (c+i));exact⟨hok,w1,w2.congr λj _=>by
   by_cases e:j=i
   ·rw[if_pos e,if_pos (by omega),e]
   ·rw[if_neg e]
    by_cases e2:j<i
    ·rw[if_pos e2,if_pos (by omega)]
    ·rw[if_neg e2,if_neg (by omega)]⟩
 ·have hY:Dev D B P Y (k+200) _:=hY.less (by omega);have hok:=hY.ok.less (k':=Fv.cW*200+0) (by rw[Nat.mul_add];have:=W9;omega);obtain⟨w1,w2,w3⟩:=hY.flush;exact⟨hok,w1,w2.congr λj hj=>if_pos hj,w3⟩
theorem b2z (f p n t l d:Nat) {D B P k:Nat} {Z:Fv} (c:Int) (hc:0<=c/\c<=100000) (h:Dev D B P Z k (λj=>J4 (c+j))):
  Fn Tryz.prog 59 [.pointer (some ⟨f,0,none⟩), .int .i64 c] (FvP f p n t l d Z) (λv As=>v= .bool true/\As=FvP f p n t l d Z):=by
 have hlg:=(Fv.lg_bd (F:=Z) h.ok.dv.gd.ok).2;rw[h.lg]at hlg;exact b5r f p n t l d Z c hc (lgN D B P) (UN*k) 0 (by omega) h.ok h.lg h.all
end Go.Proofs.YtgkpkpbnonmopaaGreat
