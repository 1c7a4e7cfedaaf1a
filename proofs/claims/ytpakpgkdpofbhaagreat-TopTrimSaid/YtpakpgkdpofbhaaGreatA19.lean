/- Helpers. No condition. -/
import Derived.Test.YtpakpgkdpofbhaaGreatA00
import Derived.Test.YtpakpgkdpofbhaaGreatA18
set_option maxRecDepth 20000
set_option linter.all false
namespace Go.Proofs.YtpakpgkdpofbhaaGreat
open Go Go.RowKit
theorem b9M (f p n t l d:Nat) (Z:Fv) (c:Int) (hc:0<=c/\c<=100000) (lg m:Nat) (hl2:lg<=200) (hm:m<=1000) (I:Nat->Fv->Prop) (Jq:Fv->Prop) (h0:I 0 Z)
  (hg:∀i Y,I i Y->Y.lg=(lg:Int)/\Y.S.N.Ok)
  (hw:∀i Y,I i Y->i<lg->Y.Ok (Fv.cW+(1+0)) m/\(Y.write i (V7 (c+i))).2=0/\I (i+1) (Y.write i (V7 (c+i))).1)
  (hf:∀Y,I lg Y->Y.Ok (Fv.cW*200+0) m/\Y.flush.2=0/\Jq Y.flush.1):
  FP 69 [pp f,iI c] (FvP f p n t l d Z) (λv As=>∃Y,v= .bool true/\Jq Y/\As=FvP f p n t l d Y):=by
 refine FE [2,0] Tryz.func69 λX F hX=>?_;refine J.q λ_=>?_;refine J.l (α:=(Nat×Fv)) (λz=>z.1<=lg/\I z.1 z.2) (λz=>[si 5 z.1,⟨0,pp f,2, .tt⟩,si 1 c]) [1,2,3,4,5,6] (λz=>FvP f p n t l d z.2) (λz=>lg-z.1) ((0,Z)) (⟨j7 _,h0⟩) λz hI=>?_;obtain⟨i,Y⟩:=z;dsimp only at hI ⊢;obtain⟨hi,hY⟩:=hI;have hgY:=hg i Y hY;refine J.qp (R2 f n t l p d Y hgY.2) [1,3] λ_=>?_;rw[hgY.1];refine J.qd (λ_ h1=>?_) λ_ h1=>?_
 ·simp only[d7,i7]at h1;obtain⟨w1,w2,w3⟩:=hw i Y hY h1;refine J.qp (a2z (c+i) (by omega)) [] λ_=>?_;refine J.qp (a3a f p n t l d Y 0 m w1 hm i (V7 (c+i)) rfl) [1,2,3,4,5,6] λ_=>?_;rw[w2];refine J.qF λ_=>?_;refine J.q λ_=>?_;refine J.n ((i+1,(Y.write i (V7 (c+i))).1)) (⟨by dsimp only;omega,w3⟩) (by dsimp only;omega) [0,1,2,3,4,5,6]
 simp only[d6,i7]at h1;obtain rfl:i=lg:=by omega
 obtain⟨f1,f2,f3⟩:=hf Y hY;refine J.qp (a3b f p n t l d Y 0 m f1 hm) [1,2,3,4,5,6] λ_=>?_;rw[f2];refine J.qr [1,2,3,4,5,6] λ_=>?_;exact⟨_,rfl,f3,rfl⟩
theorem b9L (f p n t l d:Nat) (Z:Fv) (c:Int) (hc:0<=c/\c<=100000) (lg k m:Nat) (hl2:lg<=200) (hO:Z.Ok k m) (hlg:Z.lg=(lg:Int)) (hall:Z.all=(Z,(List.range lg).map (λi:Nat=>V7 (c+i)),0)):
  FP 70 [pp f,iI c] (FvP f p n t l d Z) (Ps (.bool true) (FvP f p n t l d Z)):=by
 refine FE [2,0] Tryz.func70 λX F hX=>?_;refine J.qc (b1C f p n t l d Z k m hO) [1,2,3,4,5,6] λ_=>?_;rintro v As ⟨a,cc,rfl,rfl⟩;refine⟨_,rfl,trivial,?_⟩;rw[hall];dsimp only;obtain⟨Q,hQ⟩:∃Q,(List.range lg).map (λi:Nat=>V7 (c+i))=Q:=⟨_,rfl⟩;have hQl:Q.length=lg:=by rw[<- hQ];simp
 rw[hQ,hQl];refine J.q λ_=>?_;refine J.l (α:=Nat) (λi=>i<=lg) (λi=>[si 7 i,sv 5 (slv a lg cc),si 6 0,⟨0,pp f,2, .tt⟩,si 1 c]) [] (λi=>[]) (λi=>lg-i) (0) (j7 _) λi hI=>?_;refine J.qd (λ_ h1=>?_) λ_ h1=>?_
 ·simp only[d7,i7]at h1;have hx:Q[i]? =some (V7 (c+i)):=by rw[<- hQ,i9,J7 h1];rfl
  refine J.know (λh' s=>C6 (c:=(a,cc)) (by omega) (s.get (i:=7) rfl)) λhg=>?_;obtain⟨g,rfl⟩:=hg;refine J.pq (.of [0,4,8,13,16,20,24,30,32]) [] [7] λ_ _=>?_;refine J.qn 4 λ_=>?_;refine J.vT (a3C (V7 (c+i))) rfl rfl (λhg aa w he hC=>J4 tk rfl rfl he rfl rfl rfl (hC rfl _ (B1 (i:=7) rfl)) (by rw[show 0+(i:Int).toNat*16=i*16 from by omega];exact a0z D2 16 (λ_=>rfl) Q i _ hx) rfl) ?_;refine J.qp (a2z (c+i) (by omega)) [] λ_=>?_;refine J.vT (.bool false) rfl rfl (λhg aa w he hC=>(a0o (xs:=D2 (V7 (c+i))) (ys:=D2 (V7 (c+i))) rfl rfl rfl he rfl rfl W6 (T6 _) (T6 _) mkD gdD).trans (by rw[eqD _ _ rfl rfl,j3 rfl];rfl)) ?_;refine J.qF λ_=>?_;refine J.q λ_=>?_;refine J.n (i+1) (h1) (by omega) [0,1,2,3,4,5,6,7]
 refine J.qp (R2 f n t l p d Z hO.dv.gd.ok) [1,3] λ_=>?_;rw[hlg];refine J.qr [1,2,3,4,5,6] λ_=>?_;exact⟨by simp,rfl⟩
theorem b6U (n:Nat) (N:Nand) (k m:Nat) (hG:N.cyc.Gd (Dv.costK+k) m) (hm:m<=1000) (h0:(O0 N.cyc).2=0):
  FP 72 [pp n] [B8 n N] (λv As=>∃f p t l d,v=pp f/\As=FvP f p n t l d (Fv.of (O0 N.cyc).1)):=by
 refine FE [2] Tryz.func72 λX F hX=>?_;refine J.qp (b2q n N (-1) 0) [1] λ_=>?_;refine J.qp (b7T n (N.setCut (-1) 0)) [1] λ_=>?_;rw[show(N.setCut (-1) 0).onN=N.cyc from rfl];refine J.qc (a2j n N.cyc k m hG hm rfl) [1] λ_=>?_;rintro v As (⟨_,f,p,t,l,d,rfl,rfl⟩ | ⟨he,rfl,rfl⟩)
 rotate_left
 ·exact absurd h0 he
 refine⟨_,rfl,trivial,?_⟩;refine J.qF λ_=>?_;refine J.qr [1,2,3,4,5,6] λ_=>?_;exact⟨f,p,t,l,d,rfl,rfl⟩
theorem a3Z (f p n t l d:Nat) {D B P k:Nat} {Z:Fv} {c0:Nat->List UInt8} (c:Int) (hc:0<=c/\c<=100000) (h:Dev D B P Z (400+k) c0):
  Fn Tryz.prog 69 [.pointer (some ⟨f,0,none⟩), .int .i64 c] (FvP f p n t l d Z) (λv As=>∃Y,v= .bool true/\(Dev D B P Y k (λj=>V7 (c+j))/\Y.L=[])/\As=FvP f p n t l d Y):=by
 have hlg:=(Fv.lg_bd (F:=Z) h.ok.dv.gd.ok).2;rw[h.lg]at hlg;have hUN:UN=Fv.cW+1:=rfl;refine b9M f p n t l d Z c hc (lgN D B P) 0 (by omega) (by decide) (λi Y=>Dev D B P Y (200-i+200+k) (λj=>if j<i then V7 (c+j)else c0 j)) (λY=>Dev D B P Y k (λj=>V7 (c+j))/\Y.L=[]) ?_ (λi Y hY=>⟨hY.lg,hY.ok.dv.gd.ok⟩) (λi Y hY hi=>?_) λY hY=>?_
 ·exact(h.less (by omega)).congr λi _=>by rw[f9 (by omega)]
 ·have hY:Dev D B P Y ((200-(i+1)+200+k)+1) _:=hY.less (by omega);have hok:=hY.ok.less (k':=UN) (by rw[H3];omega);obtain⟨w1,w2,_⟩:=hY.write hi (a7N (c+i));exact⟨hok,w1,w2.congr λj _=>by
   by_cases e:j=i
   ·rw[g7 e,g7 (by omega),e]
   ·rw[f9 e]
    by_cases e2:j<i
    ·rw[g7 e2,g7 (by omega)]
    ·rw[f9 e2,f9 (by omega)]⟩
 ·have hY:Dev D B P Y (k+200) _:=hY.less (by omega);have hok:=hY.ok.less (k':=Fv.cW*200+0) (by rw[a0S];have:=a3g;omega);obtain⟨w1,w2,w3⟩:=hY.flush;exact⟨hok,w1,w2.congr λj hj=>g7 hj,w3⟩
theorem a7L (f p n t l d:Nat) {D B P k:Nat} {Z:Fv} (c:Int) (hc:0<=c/\c<=100000) (h:Dev D B P Z k (λj=>V7 (c+j))):
  Fn Tryz.prog 70 [.pointer (some ⟨f,0,none⟩), .int .i64 c] (FvP f p n t l d Z) (λv As=>v= .bool true/\As=FvP f p n t l d Z):=by
 have hlg:=(Fv.lg_bd (F:=Z) h.ok.dv.gd.ok).2;rw[h.lg]at hlg;exact b9L f p n t l d Z c hc (lgN D B P) (UN*k) 0 (by omega) h.ok h.lg h.all
theorem a6c (n:Nat) {D B P k:Nat} {Z:Fv} {c:Nat->List UInt8} (h:Dev D B P Z (k+403) c):
  Fn Tryz.prog 72 [.pointer (some ⟨n,0,none⟩)] [B8 n Z.S.N] (λv As=>∃f p t l d Y c',v= .pointer (some ⟨f,0,none⟩)/\Dev D B P Y k c'/\(Z.L=[]->c'=c)/\Y.L=[]/\As=FvP f p n t l d Y):=by
 have hm:Dv.costK+0<=UN*(k+403):=D4 a9h (x7 _ (by omega));have hG:Z.S.N.cyc.Gd (Dv.costK+0) 0:=h.gdC hm;obtain⟨h1,c',h2,h3⟩:=h.again;generalize hY:Fv.of (O0 Z.S.N.cyc).1=Y at h2;have hL:Y.L=[]:=by rw[<- hY];rfl
 have h0:=b6U n Z.S.N 0 0 hG (by decide) h1;rw[hY]at h0;exact h0.mono λv As ⟨f,p,t,l,d,e1,e2⟩=>⟨f,p,t,l,d,Y,c',e1,h2,h3,hL,e2⟩
end Go.Proofs.YtpakpgkdpofbhaaGreat
