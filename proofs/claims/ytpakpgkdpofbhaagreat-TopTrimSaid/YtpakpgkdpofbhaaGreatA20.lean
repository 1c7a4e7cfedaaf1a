/- Helpers. No condition. -/
import Derived.Test.YtpakpgkdpofbhaaGreatA00
import Derived.Test.YtpakpgkdpofbhaaGreatA19
set_option maxRecDepth 20000
set_option linter.all false
namespace Go.Proofs.YtpakpgkdpofbhaaGreat
open Go Go.RowKit
theorem b3W (m:Nat) (x:Int):(List.replicate m [Value.int .i64 x]).flatten=y7 (List.replicate m x):=by
 unfold y7;rw[K9,List.flatten_replicate_singleton]
theorem b3a (T:List Int) (k:Nat) (x:Int):(y7 T).set k (iI x)=y7 (T.set k x):=by unfold y7;rw[x5]
def a9v (T:List Int) (j:Nat):List UInt8:=if 0<T.getD j 0 then V7 (T.getD j 0)else zeros16
theorem b7D (T:List Int) (u:Nat) (hu:u<T.length) (x:Int) (hx:0<x) (j:Nat):a9v (T.set u x) j=if j=u then V7 x else a9v T j:=by
 unfold a9v;rw[f8,f8,x9]
 by_cases e:u=j
 ·subst e;rw[g7 rfl,g7 hu,g7 rfl,j5,g7 hx]
 ·rw[f9 e,f9 (λh:j=u=>e h.symm)]
theorem b7m (g0 g1 g2:Int) (A:Atom) (ao:Option Addr) (no co:Nat) (xs:List Int) (hA:Rd A ao 1 no (xs.flatMap λx=>[Value.int .i64 x])) (hlo:xs.length=no) (hdo:∀x∈xs,-9223372036854775808<=x/\x<=9223372036854775807):
  FP 18 [.agg #[iI g0,iI g1,iI g2], .slice ao no co] [A] (Ps (.bool true) [A]):=by
 rw[a7d]at hA;refine FE [0,0] Tryz.func18 λX F hX=>?_;refine J.qp (a4a) [] λ_=>?_;refine J.qF λ_=>?_;refine J.qc (a2Q g0 g1 g2) [] λ_=>?_;rintro v As ⟨D,B,P,n,f,p,t,l,d,Z,rfl,hD,hB,hP,hZ,hZL,rfl⟩;refine⟨_,rfl,trivial,?_⟩;refine J.qF λ_=>?_;have hlb:=Fv.lg_bd (F:=Z) hZ.ok.dv.gd.ok;rw[hZ.lg]at hlb;obtain⟨g,hg⟩:∃g,lgN D B P=g:=⟨_,rfl⟩;refine J.qp (R2 f n t l p d Z hZ.ok.dv.gd.ok) [3,5] λ_=>?_;rw[hZ.lg];rw[hg]at hlb ⊢;refine J.mk 10 λgl=>?_;rw[b3W];refine J.q λb9=>?_;refine J.lo (α:=(Nat×Fv×List Int)) (λz=>(z.1<=no/\z.1<=60)/\z.2.2.length=g/\(∀x∈z.2.2,0<=x/\x<=60)/\Dev D B P z.2.1 (100000-300*z.1) (a9v z.2.2)/\z.2.1.L=[]) (λz=>[si 9 z.1,sv 1 (.slice ao no co),sp 7 f,sp 6 n,⟨8, .slice (some ⟨gl,0,none⟩) g g,10, .tt⟩]) [3,4,5,6,7,8,9] (λz=>(FvP f p n t l d z.2.1++[.pt gl 3 (y7 z.2.2)])) (λz=>no-z.1) ((0,Z,List.replicate g 0)) (⟨⟨j7 _,j7 60⟩,H6 ..,λx hx=>by rw[List.eq_of_mem_replicate hx];decide,(hZ.less (by dsimp only;omega)).congr λj _=>by
  show zeros16=a9v (List.replicate g 0) j;unfold a9v;rw[f8,D0];split<;>rfl,hZL⟩) rfl ?_ (λ_=>rfl) λz hI=>?_
 ·rfl
 obtain⟨i,Y,T⟩:=z;dsimp only at hI ⊢;obtain⟨⟨hi,hi60⟩,hTl,hT,hY,hL⟩:=hI;refine J.qd (λ_ h1=>?_) λ_ h1=>?_
 ·simp only[i3,d7]at h1;have hi1:i<no/\i<60:=by omega
  obtain⟨x,hx⟩:∃x,xs[i]? =some x:=⟨_,c9 (by omega)⟩;have hxb:=hdo x (m6 hx);have hu:=a1S x (k:=g) (by omega);refine J.know (p:=∃g o,ao=some ⟨g,o,none⟩) (λh' s=>Rd.addr (hA _ (s.get (i:=1) rfl)) (by omega)) λhk=>?_;obtain⟨gm,om,rfl⟩:=hk;refine J.pq (.of [0,4,8,13,16,22,27,28]) [6,7] [1] λ_ _=>?_;refine J.qn 4 λ_=>?_;refine J.vT (iI x) rfl rfl (λhg aa w he hC=>a3p tk rfl rfl he rfl rfl rfl (hA _ (hC rfl _ (B1 (i:=1) rfl))) (by omega) (j:=i) (by omega) (a1n hx)) ?_;refine J.qp (R2 f n t l p d Y hY.ok.dv.gd.ok) [3,5] λ_=>?_;rw[hY.lg,hg];refine J.qp (a2P x g (by omega)) [] λ_=>?_;obtain⟨u,hu2⟩:=i5 hu.1;rw[hu2]at hu ⊢;refine J.qn 9 λ_=>?_;have hput:(y7 T).set (0+(u:Int).toNat*1) (iI ((i:Int)+1))=y7 (T.set u ((i:Int)+1)):=by rw[show 0+(u:Int).toNat*1=u from by omega];exact b3a _ _ _
  refine J.s1 9 (y7 (T.set u ((i:Int)+1))) ?_ hput ?_
  ·rw[L5];omega
  have hZ2:=hY.less (k:=(100000-300*(i+1)+200)+1) (by omega);have hk1:Y.Ok (Fv.cW+(1+0)) 0:=hZ2.ok.less (k':=UN) (by rw[H3];omega);obtain⟨w1,w2,_⟩:=hZ2.write (i:=u) (by omega) (a7N ((i:Int)+1));have hk2:(Y.write u (V7 ((i:Int)+1))).1.Ok (Fv.cW*200+0) 0:=w2.ok.less (by rw[a0S];have:=a3g;omega);obtain⟨v1,v2,v3⟩:=w2.flush;refine J.qp (a2z ((i:Int)+1) (by omega)) [] λ_=>?_;refine J.qp (a3a f p n t l d Y 0 0 hk1 (by decide) u (V7 ((i:Int)+1)) rfl) [3,4,5,6,7,8] λ_=>?_;rw[w1];refine J.qp (a3b f p n t l d (Y.write u (V7 ((i:Int)+1))).1 0 0 hk2 (by decide)) [3,4,5,6,7,8] λ_=>?_;rw[v1];generalize(Y.write u (V7 ((i:Int)+1))).1.flush.1=Z3 at v2 v3 ⊢;refine J.qp (a8J f n t l p d Z3) [3,8] λ_=>?_;rw[show Z3.L.length=0 from by rw[v3];rfl];refine J.qF λ_=>?_;refine J.q λ_=>?_;refine J.nS ((i+1,Z3,T.set u ((i:Int)+1))) (⟨⟨by dsimp only;omega,by dsimp only;omega⟩,by dsimp only;rw[s9];exact hTl,λy hy=>by
   rcases List.mem_or_eq_of_mem_set hy with h | h
   ·exact hT y h
   ·rw[h];omega,v2.congr λj _=>(b7D T u (by omega) _ (by omega) j).symm,v3⟩) (by dsimp only;omega) [0,1,2,3,4,5,6,7,8,9] rfl rfl
 refine J.qc (a6c n (hY.less (k:=0+403) (by omega))) [5] λ_=>?_;rintro v As ⟨f2,p2,t2,l2,d2,Y2,c2,rfl,hY2,hc2,hL2,rfl⟩;obtain rfl:=hc2 hL;refine⟨_,rfl,trivial,?_⟩;refine J.q λ_=>?_;refine J.l (α:=Nat) (λj=>j<=g) (λj=>[si 11 j,sp 7 f2,sp 6 n,⟨8, .slice (some ⟨gl,0,none⟩) g g,10, .tt⟩]) [] (λj=>[]) (λj=>g-j) (0) (j7 _) λj hI=>?_;refine J.qd (λ_ h2=>?_) λ_ h2=>?_
 ·simp only[i3,d7,i7]at h2;have hr:=hY2.read (i:=j) (by omega);obtain⟨x,hx⟩:∃x,T[j]? =some x:=⟨_,c9 (by omega)⟩;have hxg:T.getD j 0=x:=by rw[f8,hx];rfl
  have hxb:=hT x (m6 hx);refine J.qn 15 λ_=>?_;refine J.v (iI x) rfl rfl (λhg aa w he hw=>B3 tk rfl rfl he rfl rfl rfl (hw.get (i:=9) rfl) (by rw[show 0+(j:Int).toNat*1=j from by omega];exact a1n hx)) ?_;refine J.qn 1 λ_=>?_;refine J.qd (λ_ h3=>?_) λ_ h3=>?_
  ·simp only[d7]at h3;have hpc:a9v T j=V7 x:=by unfold a9v;rw[hxg,g7 h3]
   refine J.qn 4 λ_=>?_;refine J.v (iI x) rfl rfl (λhg aa w he hw=>B3 tk rfl rfl he rfl rfl rfl (hw.get (i:=9) rfl) (by rw[show 0+(j:Int).toNat*1=j from by omega];exact a1n hx)) ?_;refine J.qp (a2z x (by omega)) [] λ_=>?_;refine J.qp (a0D f2 p2 n t2 l2 d2 Y2 _ 0 hY2.ok j) [5,10,11,12,13,14] λ_=>?_;rw[hr,hpc];dsimp only;refine J.qn 14 λb9=>?_;refine J.v (.bool false) rfl rfl (λhg aa w he hw=>(a0o (xs:=D2 (V7 x)) (ys:=D2 (V7 x)) rfl rfl rfl he rfl rfl W6 (T6 _) (T6 _) mkD gdD).trans (by rw[eqD _ _ rfl rfl,j3 rfl];rfl)) ?_;refine J.qF λ_=>?_;refine J.q λ_=>?_;refine J.n (j+1) (h2.1) (by omega) [0,1,2,3,4,5,6,7,8,9,10,11,12,13,14]
  ·simp only[d6]at h3;have hpc:a9v T j=zeros16:=by unfold a9v;rw[hxg,f9 h3]
   refine J.qp (a0D f2 p2 n t2 l2 d2 Y2 _ 0 hY2.ok j) [5,10,11,12,13,14] λ_=>?_;rw[hr,hpc];dsimp only;refine J.qn 14 λb9=>?_;refine J.v (.bool false) rfl rfl (λhg aa w he hw=>(a0o (xs:=D2 (zeros16)) (ys:=D2 (zeros16)) rfl rfl rfl he rfl rfl W6 (T6 _) (T6 _) mkD gdD).trans (by rw[eqD _ _ rfl rfl,j3 rfl];rfl)) ?_;refine J.qF λ_=>?_;refine J.q λ_=>?_;refine J.n (j+1) (h2.1) (by omega) [0,1,2,3,4,5,6,7,8,9,10,11,12,13,14]
 refine J.qp (a4h n Y2.S.N) [11] λ_=>?_;rw[hY2.br];exact J.qx [1]
end Go.Proofs.YtpakpgkdpofbhaaGreat
