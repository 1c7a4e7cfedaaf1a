/- Helpers. No condition. -/
import Derived.Test.YtpakpgkdpofbhaaGreatB00
import Derived.Test.YtpakpgkdpofbhaaGreatB19
set_option maxRecDepth 20000
set_option linter.all false
namespace Go.Proofs.YtpakpgkdpofbhaaGreat
open Go Go.RowKit
theorem b3w (m:Nat) (x:Int):(List.replicate m [Value.int .i64 x]).flatten=A4 (List.replicate m x):=by
 unfold A4;rw[a0L,List.flatten_replicate_singleton]
theorem b2C (T:List Int) (k:Nat) (x:Int):(A4 T).set k (iI x)=A4 (T.set k x):=by unfold A4;rw[K1]
def a6W (n:Int):List UInt8:=[u8 n,0,0,0,0,0,0,0,0,0,0,0,0,0,0,0]
theorem b7h (T:List Int) (u:Nat) (hu:u<T.length) (x:Int) (j:Nat):a6W ((T.set u x).getD j 0)=if j=u then a6W x else a6W (T.getD j 0):=by
 rw[d7,d7,u0]
 by_cases e:u=j
 ·subst e;rw[i9 rfl,i9 hu,i9 rfl,m7]
 ·rw[i7 e,i7 (λh:j=u=>e h.symm)]
theorem b2U (g0 g1 g2:Int) (A:Atom) (ao:Option Addr) (no co:Nat) (xs:List Int) (hA:Rd A ao 1 no (xs.flatMap λx=>[Value.int .i64 x])) (hlo:xs.length=no) (hdo:∀x∈xs,-9223372036854775808<=x/\x<=9223372036854775807):
  FP 9 [.agg #[iI g0,iI g1,iI g2], .slice ao no co] [A] (Ps (.bool true) [A]):=by
 rw[a6N]at hA;refine FE [0,0] Tryz.func9 λX F hX=>?_;refine J.qp (a2R) [] λ_=>?_;refine J.qF λ_=>?_;refine J.qc (a9U g0 g1 g2) [] λ_=>?_;rintro v As ⟨D,B,P,n,f,p,t,l,d,Z,rfl,hD,hB,hP,hZ,hZL,rfl⟩;refine⟨_,rfl,trivial,?_⟩;refine J.qF λ_=>?_;have hlb:=Fv.lg_bd (F:=Z) hZ.ok.dv.gd.ok;rw[hZ.lg]at hlb;obtain⟨g,hg⟩:∃g,lgN D B P=g:=⟨_,rfl⟩;refine J.qp (O5 f n t l p d Z hZ.ok.dv.gd.ok) [3,5] λ_=>?_;rw[hZ.lg];rw[hg]at hlb ⊢;refine J.mk 10 λgl=>?_;rw[b3w];refine J.q λb9=>?_;refine J.lo (α:=(Nat×Fv×List Int)) (λz=>(z.1<=no/\z.1<=40)/\z.2.2.length=g/\(∀x∈z.2.2,0<=x/\x<=60)/\Dev D B P z.2.1 (100000-300*z.1) (λj=>a6W (z.2.2.getD j 0))) (λz=>[si 9 z.1,sv 1 (.slice ao no co),sp 7 f,sp 6 n,⟨8, .slice (some ⟨gl,0,none⟩) g g,10, .tt⟩]) [3,4,5,6,7,8,9] (λz=>(FvP f p n t l d z.2.1++[.pt gl 3 (A4 z.2.2)])) (λz=>no-z.1) ((0,Z,List.replicate g 0)) (⟨⟨n7 _,n7 40⟩,V1 ..,λx hx=>by rw[List.eq_of_mem_replicate hx];decide,(hZ.less (by dsimp only;omega)).congr λj _=>by
  show zeros16=a6W ((List.replicate g 0).getD j 0);rw[d7,G9];split<;>rfl⟩) rfl ?_ (λ_=>rfl) λz hI=>?_
 ·rfl
 obtain⟨i,Y,T⟩:=z;dsimp only at hI ⊢;obtain⟨⟨hi,hi60⟩,hTl,hT,hY⟩:=hI;refine J.qd (λ_ h1=>?_) λ_ h1=>?_
 ·simp only[j5,g7]at h1;have hi1:i<no/\i<40:=by omega
  obtain⟨x,hx⟩:∃x,xs[i]? =some x:=⟨_,d6 (by omega)⟩;have hxb:=hdo x (x9 hx);have hxt:=a3K x g (by omega);have hu:=b1y x g (by omega);refine J.know (p:=∃g o,ao=some ⟨g,o,none⟩) (λh' s=>Rd.addr (hA _ (s.get (i:=1) rfl)) (by omega)) λhk=>?_;obtain⟨gm,om,rfl⟩:=hk;refine J.pq (.of [0,4,8,13,16,28,40,22,24,34,36,46,48,52]) [13] [1] λ_ _=>?_;refine J.qn 4 λ_=>?_;refine J.vT (iI x) rfl rfl (λhg aa w he hC=>a4Z tk rfl rfl he rfl rfl rfl (hA _ (hC rfl _ (C4 (i:=1) rfl))) (by omega) (j:=i) (by omega) (a2h hx)) ?_;refine J.qp (O5 f n t l p d Y hY.ok.dv.gd.ok) [3,5] λ_=>?_;rw[hY.lg,hg];refine J.qp (O5 f n t l p d Y hY.ok.dv.gd.ok) [3,5] λ_=>?_;rw[hY.lg,hg];refine J.qp (O5 f n t l p d Y hY.ok.dv.gd.ok) [3,5] λ_=>?_;rw[hY.lg,hg];refine J.qn 2 λ_=>?_;obtain⟨u,hu2⟩:=j8 hu.1;rw[hu2]at hu ⊢;have hZ2:=hY.less (k:=(100000-300*(i+1))+1) (by omega);have hk1:Y.Ok (Fv.cW+(1+0)) 0:=hZ2.ok.less (k':=UN) (by rw[C2];omega);obtain⟨w1,w2,w3⟩:=hZ2.write (i:=u) (by omega) (d:=a6W ((i:Int)+1)) rfl;have hwt:=w2.wt;have hr:=w2.read (i:=u) (by omega);rw[i9 rfl]at hr;have hu8:((u8 ((i:Int)+1)).toNat:Int)<=255:=by have:=(u8 ((i:Int)+1)).toNat_lt;omega
  refine J.qn 8 λ_=>?_;refine J.v (bv (u8 ((i:Int)+1))) rfl rfl (λhg a w he hs=>by rw[<- a1b ((i:Int)+1)];exact O6 tk rfl rfl he rfl rfl rfl) ?_;refine J.qp (a0S f p n t l d Y 0 0 hk1 (by decide) u (a6W ((i:Int)+1)) rfl) [3,4,5,6,7,8] λ_=>?_;rw[w1];generalize(Y.write u (a6W ((i:Int)+1))).1=Z3 at w2 w3 hwt hr ⊢;refine J.qp (a2d f n t l p d Z3) [3,8] λ_=>?_;refine J.qn 1 λ_=>?_;rw[y8 (show¬(Z3.L.length:Int)<1 by omega)];refine J.qp (a2d f n t l p d Z3) [3,8] λ_=>?_;refine J.qp (a1s n Z3.S.N) [5] λ_=>?_;rw[w2.geo.1];refine J.qn 2 λ_=>?_;rw[y8 (show¬(Z3.L.length:Int)>=D by omega)];refine J.qF λ_=>?_;have hput:(A4 T).set (0+(u:Int).toNat*1) (iI ((i:Int)+1))=A4 (T.set u ((i:Int)+1)):=by rw[show 0+(u:Int).toNat*1=u from by omega];exact b2C _ _ _
  refine J.qn 8 λ_=>?_;refine J.s1 9 (A4 (T.set u ((i:Int)+1))) ?_ hput ?_
  ·rw[L4];omega
  refine J.qp (a0h f p n t l d Z3 _ 0 w2.ok u) [3,4,5,6,7,8] λ_=>?_;rw[hr];dsimp only;refine J.qn 15 λb9=>?_;refine J.v (bv (u8 ((i:Int)+1))) rfl rfl (λhg a w he hs=>by rw[<- a1b ((i:Int)+1)];exact O6 tk rfl rfl he rfl rfl rfl) ?_;refine J.qn 1 λ_=>?_;refine J.v (.bool false) rfl rfl (λhg aa w he hw=>(a1Q (xs:=I1 (a6W ((i:Int)+1))) (ys:=I1 (a6W ((i:Int)+1))) rfl rfl rfl he rfl rfl a0v (X2 _) (X2 _) mkD gdD).trans (by rw[eqD _ _ rfl rfl,l8 rfl];rfl)) ?_;refine J.qF λ_=>?_;refine J.q λ_=>?_;refine J.nS ((i+1,Z3,T.set u ((i:Int)+1))) (⟨⟨by dsimp only;omega,by dsimp only;omega⟩,by dsimp only;rw[B1];exact hTl,λy hy=>by
   rcases List.mem_or_eq_of_mem_set hy with h | h
   ·exact hT y h
   ·rw[h];omega,w2.congr λj _=>(b7h T u (by omega) _ j).symm⟩) (by dsimp only;omega) [0,1,2,3,4,5,6,7,8,9] rfl rfl
 obtain⟨N8,hN8⟩:∃N8,N8=80000:=⟨_,rfl⟩;have hY:=hY.less (k:=N8+200) (by omega);have hk2:Y.Ok (Fv.cW*200+0) 0:=hY.ok.less (by rw[a2H];have:=a2j;omega);obtain⟨v1,v2,v3⟩:=hY.flush;refine J.qp (a1x f p n t l d Y 0 0 hk2 (by decide)) [3,4,5,6,7,8] λ_=>?_;rw[v1];generalize Y.flush.1=Y1 at v2 v3 ⊢;refine J.qp (a2d f n t l p d Y1) [3,8] λ_=>?_;rw[show Y1.L.length=0 from by rw[v3];rfl];refine J.qF λ_=>?_;refine J.q λ_=>?_;refine J.l (α:=Nat) (λj=>j<=g) (λj=>[si 104 j,si 103 g,sp 7 f,sp 6 n,⟨8, .slice (some ⟨gl,0,none⟩) g g,10, .tt⟩]) [] (λj=>[]) (λj=>g-j) (0) (n7 _) λj hI=>?_;refine J.qd (λ_ h2=>?_) λ_ h2=>?_
 ·simp only[g7,j9]at h2;have hr:=v2.read (i:=j) (by omega);obtain⟨x,hx⟩:∃x,T[j]? =some x:=⟨_,d6 (by omega)⟩;have hxg:T.getD j 0=x:=by rw[d7,hx];rfl
  rw[hxg]at hr;refine J.qp (a0h f p n t l d Y1 _ 0 v2.ok j) [3,4,5,6,7,8] λ_=>?_;rw[hr];dsimp only;refine J.q λb9=>?_;refine J.plan (.of [0,4,8,13,16,20,24,29,32,36,40,44]) [] [9,10] (by rw[hX.hP];kernel_rfl) (by kernel_rfl) ?_;refine J.q λ_=>?_;have hu8:((u8 x).toNat:Int)<=255:=by have:=(u8 x).toNat_lt;omega
  refine J.vT (iI x) rfl rfl (λhg aa w he hC=>D8 tk rfl rfl he rfl rfl rfl (hC rfl _ (C4 (i:=9) rfl)) (by rw[show 0+(j:Int).toNat*1=j from by omega];exact a2h hx)) ?_;refine J.vT (bv (u8 x)) rfl rfl (λhg a w he hC=>by rw[<- a1b x];exact O6 tk rfl rfl he rfl rfl rfl) ?_;refine J.qn 1 λ_=>?_;refine J.vT (.bool false) rfl rfl (λhg aa w he hC=>(a1Q (xs:=I1 (a6W x)) (ys:=I1 (a6W x)) rfl rfl rfl he rfl rfl a0v (X2 _) (X2 _) mkD gdD).trans (by rw[eqD _ _ rfl rfl,l8 rfl];rfl)) ?_;refine J.qF λ_=>?_;refine J.q λ_=>?_;refine J.n (j+1) (h2) (by omega) [0,1,2,3,4,5,6,7,8,9]
 refine J.qp (a2O n Y1.S.N) [5] λ_=>?_;rw[v2.br];exact J.qx [1]
end Go.Proofs.YtpakpgkdpofbhaaGreat
