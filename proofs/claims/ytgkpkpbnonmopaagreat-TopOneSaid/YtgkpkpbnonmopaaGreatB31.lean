/- Helpers, proved here. No condition. -/
import Derived.Test.YtgkpkpbnonmopaaGreatB06
import Derived.Test.YtgkpkpbnonmopaaGreatB25
import Derived.Test.YtgkpkpbnonmopaaGreatB30
import Derived.Test.YtgkpkpbnonmopaaGreatRows
import Derived.JoinedOf
set_option maxRecDepth 20000
set_option linter.all false
namespace Go.Proofs.YtgkpkpbnonmopaaGreat
open Go Go.RowKit
theorem K1 (q n:Nat) (A:Pad) (P:Pv) (Z:Fv) (hZ:P.Z=some Z):Z9 q n A P=[PlQ q n (some Z) A.f (pp A.fp) (slv A.a2 P.log.length A.c2), .pt A.fp 232 [.slice (A5 A.a) P.L.length A.c],rdA (A5 A.a) 7 P.L.length (i7 P.L),c9 58 17 A.a2 P.log.length A.c2 (A9 P.log)]++FvP A.f A.p n A.t A.l A.d Z:=by unfold Z9 a0J;rw[hZ];rfl
theorem a3o {Z:List MSl} {M:List MPv} (h:Z.map (·.v)=M) (hM:∀v∈M,v.now.length=16/\(∀x∈v.may,x.length=16)/\(∀x∈v.ever,x.length=16)/\v.may.length<=1000/\v.ever.length<=1000):∀z∈Z,z.Fine:=λz hz=>hM z.v (by rw[<- h];exact List.mem_map.2 ⟨z,hz,rfl⟩)
theorem b1r:FP 63 [] [] (λv As=>v= .bool true/\As=[]):=by
 refine FE [] Tryz.func63 λX F hX=>?_;refine J.qp (b1q) [] λ_=>?_;exact J.qx []
open B21
theorem a0E:FP 16 [] [] (λv As=>v= .bool true/\As=[]):=by
 have G0:N0.Gd (Dv.costK+0) 0:=a0I 3 8 2 rfl _ (by decide);refine FE [] Tryz.func16 λX F hX=>?_;refine J.qc (a1v 3 8 2 rfl) [] λ_=>?_;rintro v As ⟨n,rfl,rfl⟩;refine⟨_,rfl,trivial,?_⟩;rw[show Nand.new 3 8 2=N0 from rfl];refine J.qc (M9 n N0 0 0 G0 (by decide) rfl) [1] λ_=>?_;rintro v As (⟨_,f,p,t,l,d,rfl,rfl⟩ | ⟨he,rfl,rfl⟩)
 rotate_left
 ·exact absurd m0 he
 refine⟨_,rfl,trivial,?_⟩;rw[show Fv.of (A6 N0).1=F0 from rfl];refine J.qF λ_=>?_;refine J.qp (M8 f p n t l d F0 (K 1) 0 (ok0.less (by decide)) (by decide) 1 (d1 7) rfl) [1,2,3,4,5,6] λ_=>?_;rw[show F0.write 1 (d1 7)=F1 from rfl,v1];refine J.qp (a3n f p n t l d F1.1 (K 2) 0 (ok1.less (by decide)) (by decide) 2) [1,2,3,4,5,6] λ_=>?_;rw[show F1.1.trim 2=F2 from rfl,v2];refine J.qp (M8 f p n t l d F2.1 (K 3) 0 (ok2.less (by decide)) (by decide) 3 zd rfl) [1,2,3,4,5,6] λ_=>?_;rw[show F2.1.write 3 zd=F3 from rfl,v3];refine J.qp (E7 f p n t l d F3.1 (K 3) 0 ok3 1) [1,2,3,4,5,6] λ_=>?_;rw[show F3.1.read 1=F4 from rfl,v4,w4];refine J.q λc7=>?_;refine J.cb (W1 f p n t l d F4.1 (K 5) 0 (ok4.less (by decide)) (by decide)) [1,2,3,4,5,6] ?_;refine cpq ⟨_,rfl,trivial,?_⟩;rw[show F4.1.flush=F5 from rfl,v5];refine J.qp (a7R n F5.1.S.N (-1) 0) [3] λ_=>?_;refine J.qp (E7 f p n t l d F6 (K 5) 0 ok6 1) [1,2,3,4,5,6] λ_=>?_;rw[show F6.read 1=F7 from rfl,v7];refine J.q λc10=>?_;refine J.cb (b3E n F7.1.S.N) [3] ?_;refine cpq ⟨_,rfl,trivial,?_⟩;rw[show F7.1.S.N.onN=N8 from rfl];refine J.qc (M9 n N8 (K 6) 0 g8 (by decide) rfl) [3] λ_=>?_;rintro v As (⟨_,f',p',t',l',d',rfl,rfl⟩ | ⟨he,rfl,rfl⟩)
 rotate_left
 ·exact absurd m8 he
 refine⟨_,rfl,trivial,?_⟩;rw[show Fv.of (A6 N8).1=F8 from rfl];refine J.qp (E7 f' p' n t' l' d' F8 (K 6) 0 ok8 1) [3,9,10,11,12,13] λ_=>?_;rw[show F8.read 1=F9 from rfl,v9,w9];refine J.q λc14=>?_;refine J.cb (b7A 2) [] ?_;rintro v As ⟨mq,mg,MZ,rfl,rfl,hM0⟩;refine⟨_,rfl,trivial,?_⟩;have ml0:MZ.length=2:=by have:=congrArg List.length hM0;rw[List.length_map]at this;exact this
 refine J.qc (b3J mq mg MZ (by omega) (a3o hM0 (by decide)) 0 (d1 1) rfl) [15,16,17,18] λ_=>?_;rintro v As ⟨MZ1,rfl,rfl,hM1⟩;refine⟨_,rfl,trivial,?_⟩;rw[hM0]at hM1;have ml1:MZ1.length=2:=by have:=congrArg List.length hM1;rw[List.length_map]at this;exact this
 refine J.qc (b7B mq mg MZ1 (by omega)) [15,16,17,18] λ_=>?_;rintro v As ⟨MZ2,rfl,rfl,hM2⟩;refine⟨_,rfl,trivial,?_⟩;rw[hM1]at hM2;have hM2:MZ2.map (·.v)=M1:=hM2;have ml2:MZ2.length=2:=by have:=congrArg List.length hM2;rw[List.length_map]at this;exact this
 refine J.q λ_=>?_;refine J.turn1 [] rfl (As:=[rdA none 7 0 (i7 [])]) (λh s=>Sep.one ⟨rfl,λh=>absurd h (by decide)⟩) rfl ?_;refine J.q λ_=>?_;refine J.ca hX (by kernel_rfl) (b3e 3 8 2 rfl (rdA none 7 0 (i7 [])) none 0 0 [] (a6u _ _ _ _) rfl (by decide)) [19] 0 rfl rfl rfl rfl rfl rfl (λ_=>rfl) ?_;rintro v As ⟨q,nn,A0,rfl,hA0,rfl⟩;rw[show Pv.new 3 8 2 []=P0 from rfl]at hA0 ⊢;rw[K1 q nn A0 P0 F0 z0];refine⟨_,rfl,trivial,?_⟩;refine J.q λ_=>?_;have hst1:=a3h q nn A0 P0 hA0 F0 z0 (K 1) 0 (ok0.less (by decide)) (by decide) (by decide) (by decide) s1 rfl;rw[K1 q nn A0 P0 F0 z0]at hst1;refine J.qc (hst1) [20,21,22,23,24,25,26,27,28,29] λ_=>?_;rintro v As ⟨A1,rfl,hA1,rfl⟩;obtain⟨x1,hx1⟩:∃x,(P0.step s1).2=⟨0,x⟩:=⟨(P0.step s1).2.data,by rw[<- e1]⟩;rw[show(P0.step s1).1=P1 from rfl]at hA1 ⊢;rw[K1 q nn A1 P1 B21.Z1 z1,hx1];refine⟨_,rfl,trivial,?_⟩;refine J.q λc18=>?_;have hst2:=a3h q nn A1 P1 hA1 B21.Z1 z1 (K 2) 0 (okz1.less (by decide)) (by rw[pL1];decide) (by rw[pL1];decide) (by rw[pl1];decide) s2 rfl;rw[K1 q nn A1 P1 B21.Z1 z1]at hst2;refine J.qc (hst2) [20,21,22,23,24,25,26,27,28,29] λ_=>?_;rintro v As ⟨A2,rfl,hA2,rfl⟩;obtain⟨x2,hx2⟩:∃x,(P1.step s2).2=⟨x,d1 9⟩:=⟨(P1.step s2).2.err,by rw[<- e2]⟩;rw[show(P1.step s2).1=P2 from rfl]at hA2 ⊢;rw[K1 q nn A2 P2 B21.Z2 z2,hx2];refine⟨_,rfl,trivial,?_⟩;refine J.q λc19=>?_;refine J.cb (b4O f' p' n t' l' d' F9.1 (K 6) 0 ok9) [3,9,10,11,12,13] ?_;rintro v As ⟨aa,ac,rfl,rfl⟩;refine⟨_,rfl,trivial,?_⟩;rw[show F9.1.all=Fa from rfl,va,wa];refine J.q λ_=>?_;have hz2:P2.Z=some B21.Z2:=z2;have hlog:=b7q q nn A2 P2 (by rw[lg2];decide);rw[hz2]at hlog;refine J.qc (hlog) [20,23] λ_=>?_;rintro v As ⟨la,lc,rfl,rfl⟩;refine⟨_,rfl,trivial,?_⟩;refine J.qp (b1r) [] λ_=>?_;refine J.qn 19 λ_=>?_;refine J.v (.bool true) rfl rfl (λhg aa w he hw=>(D2 (xs:=n7 (d1 7)) (ys:=n7 (d1 7)) rfl rfl rfl he hg rfl J9 (D4 _) (D4 _) mkD gdD).trans (by rw[eqD _ _ rfl rfl];simp)) ?_;refine J.qn 20 λ_=>?_;refine J.v (.bool true) rfl rfl (λhg aa w he hw=>(D2 (xs:=n7 (d1 7)) (ys:=n7 (d1 7)) rfl rfl rfl he hg rfl J9 (D4 _) (D4 _) mkD gdD).trans (by rw[eqD _ _ rfl rfl];simp)) ?_;refine J.qp (y0 f n t l p d (F7.1.setN Fa.1.S.N) oka.dv.gd.ok) [1,10] λ_=>?_;rw[show(F7.1.setN Fa.1.S.N).lg=3 from lgA];refine J.qp (a9g mq mg MZ2 (by omega) (a3o hM2 (by decide)) 0 (zd) rfl) [15,16,17,18] λ_=>?_;rw[hM2,q1];refine J.qp (a9g mq mg MZ2 (by omega) (a3o hM2 (by decide)) 0 (d1 1) rfl) [15,16,17,18] λ_=>?_;rw[hM2,q2];refine J.qp (a9g mq mg MZ2 (by omega) (a3o hM2 (by decide)) 0 (d1 2) rfl) [15,16,17,18] λ_=>?_;rw[hM2,q3];refine J.qn 11 λ_=>?_;refine J.v (.bool true) rfl rfl (λhg aa w he hw=>(D2 (xs:=n7 (d1 9)) (ys:=n7 (d1 9)) rfl rfl rfl he hg rfl J9 (D4 _) (D4 _) mkD gdD).trans (by rw[eqD _ _ rfl rfl];simp)) ?_;refine J.q λ_=>?_;have hrest:=b6F q nn A2 P2 hA2 B21.Z2 z2 50 0 0 (okz2.less (by decide)) okz2o (by rw[pL2];decide) (by rw[pL2];decide) (by rw[lg2];decide) B21.Z3 z3;rw[K1 q nn A2 P2 B21.Z2 z2]at hrest;refine J.qc (hrest) [20,21,22,23,24,25,26,27,28,29] λ_=>?_;rintro v As ⟨A3,rfl,_,rfl⟩;refine⟨_,rfl,trivial,?_⟩;rw[t3];refine J.qp (b7W 3 8 2) [] λ_=>?_;rw[show b0z 3 8 2=616 from rfl];refine J.qr [] λ_=>?_;refine⟨?_,rfl⟩;rw[lg2];rfl
end Go.Proofs.YtgkpkpbnonmopaaGreat
namespace Go.Proofs.YtgkpkpbnonmopaaGreat
open Go Go.RowKit
theorem a3l {d b p:Nat} (hd:3<=d/\d<=6) (hb:8<=b/\b<=16) (hp:2<=p/\p<=8):1<=lgN d b p/\lgN d b p<=200/\2*lgN d b p<=(b-5)*(p*(d-2))+1:=by
 have h1:(b-5)*p*(d-2)=(b-5)*(p*(d-2)):=Nat.mul_assoc _ _ _;have h2:3*2<=(b-5)*p:=Nat.mul_le_mul (by omega) hp.1;have h3:6*1<=(b-5)*p*(d-2):=Nat.mul_le_mul h2 (by omega);have h4:(b-5)*p<=11*8:=Nat.mul_le_mul (by omega) hp.2;have h5:(b-5)*p*(d-2)<=88*4:=Nat.mul_le_mul h4 (by omega);unfold lgN;omega
theorem b1o:FP 103 [] [] (λv As=>v= .bool true/\As=[]):=by
 refine FE [] Tryz.func103 λX F hX=>?_;refine J.qp (a0E) [] λ_=>?_;exact J.qx []
theorem a7s:FP 55 [] [] (λv As=>v= .bool true/\As=[]):=by
 refine FE [] Tryz.func55 λX F hX=>?_;refine J.qp (b1o) [] λ_=>?_;exact J.qx []
def a0f (x k:Int):Int:=if x.tmod k<0 then-(x.tmod k)else x.tmod k
theorem a1W (x:Int) {k:Int} (hk:1<=k):0<=a0f x k/\a0f x k<k:=by
 obtain⟨h2,h1⟩:=a1h x k (by omega);unfold a0f;split<;>omega
theorem a3u (x k:Int) (hk:1<=k/\k<=1000000):FP 57 [iI x,iI k] [] (λv As=>v=iI (a0f x k)/\As=[]):=by
 obtain⟨h2,h1⟩:=a1h x k (by omega);refine FE [0,0] Tryz.func57 λX F hX=>?_;refine J.qd (λ_ h=>?_) λ_ h=>?_
 ·simp only[decide_eq_true_eq]at h;refine J.qr [] λ_=>?_;unfold a0f;rw[if_pos h,Int.zero_sub];exact⟨rfl,rfl⟩
 ·simp only[decide_eq_false_iff_not]at h;refine J.qr [] λ_=>?_;unfold a0f;rw[if_neg h];exact⟨rfl,rfl⟩
def J4 (n:Int):List UInt8:=[u8 n,u8 (n/256),1,u8 (n*7),0,0,0,0,0,0,0,0,0,0,0,0]
theorem a7u (n:Int):(J4 n).length=16:=rfl
theorem a1g (n:Int) (h0:0<=n/\n<=1000000):FP 60 [iI n] [] (λv As=>v=a2n (J4 n)/\As=[]):=by
 refine FE [0] Tryz.func60 λX F hX=>?_;refine J.qn 7 λ_=>?_;refine J.v (bv (u8 n)) rfl rfl (λhg a w he hs=>by rw[<- T8 n];exact A7 tk rfl rfl he rfl rfl rfl) ?_;refine J.qn 2 λ_=>?_;rw[show n.fdiv (2^min (Int.toNat 8) IntKind.i64.bits)=n/256 from Int.fdiv_eq_ediv_of_nonneg n (by decide:(0:Int)<=256)];refine J.v (bv (u8 (n/256))) rfl rfl (λhg a w he hs=>by rw[<- T8 (n/256)];exact A7 tk rfl rfl he rfl rfl rfl) ?_;refine J.qn 2 λ_=>?_;refine J.v (bv (u8 (n*7))) rfl rfl (λhg a w he hs=>by rw[<- T8 (n*7)];exact A7 tk rfl rfl he rfl rfl rfl) ?_;exact J.qx []
theorem a5d (g0 g1 g2:Int):FP 56 [.agg #[iI g0,iI g1,iI g2]] []
  (λv As=>∃(D B P:Nat) (n f p t l d:Nat) (Z:Fv),v= .tuple #[pp n,pp f]/\(3<=D/\D<=6)/\(8<=B/\B<=16)/\(2<=P/\P<=8)/\Dev D B P Z 200000 (λ_=>zeros16)/\Z.L=[]/\As=FvP f p n t l d Z):=by
 refine FE [0] Tryz.func56 λX F hX=>?_;refine J.qc (a6I g0 g1 g2) [] λ_=>?_;rintro v As ⟨D,B,P,rfl,hD,hB,hP,rfl⟩;refine⟨_,rfl,trivial,?_⟩;have hg:n9 D B P=true:=by simp[n9];omega
 have hgb:=a3l hD hB hP;refine J.qc (a1v D B P hg) [] λ_=>?_;rintro v As ⟨n,rfl,rfl⟩;refine⟨_,rfl,trivial,?_⟩;have hm:=a0B (Dv.Ok.new D B P (lgN D B P) hg 0 (by decide));have hdv:=Dev.new hD hB hP hgb.2.1 hgb.2.2 hg;refine J.q λ_=>?_;refine J.ca hX (by kernel_rfl) (M9 n (Nand.new D B P) 0 0 (a0I D B P hg _ (by decide)) (by decide) rfl) [2] 0 rfl rfl rfl rfl rfl rfl (λ_=>rfl) ?_;rintro v As (⟨_,f,p,t,l,d,rfl,rfl⟩ | ⟨he,rfl,rfl⟩)
 rotate_left
 ·exact absurd (congrArg (·.2) hm) he
 refine⟨_,rfl,trivial,?_⟩;rw[hm];refine J.qF λ_=>?_;refine J.qr [2,3,4,5,6,7] λ_=>?_;exact⟨D,B,P,n,f,p,t,l,d,_,rfl,hD,hB,hP,hdv,rfl,rfl⟩
theorem b1U (g0 g1 g2:Int):FP 47 [.agg #[iI g0,iI g1,iI g2]] []
  (λv As=>∃(D B P:Nat) (n f p t l d:Nat) (Z:Fv),v= .tuple #[pp n,pp f]/\(3<=D/\D<=6)/\(8<=B/\B<=16)/\(2<=P/\P<=8)/\Dev D B P Z 200000 (λ_=>zeros16)/\Z.L=[]/\As=FvP f p n t l d Z):=by
 refine FE [0] Tryz.func47 λX F hX=>?_;refine J.qc (a6I g0 g1 g2) [] λ_=>?_;rintro v As ⟨D,B,P,rfl,hD,hB,hP,rfl⟩;refine⟨_,rfl,trivial,?_⟩;have hg:n9 D B P=true:=by simp[n9];omega
 have hgb:=a3l hD hB hP;refine J.qc (a1v D B P hg) [] λ_=>?_;rintro v As ⟨n,rfl,rfl⟩;refine⟨_,rfl,trivial,?_⟩;have hm:=a0B (Dv.Ok.new D B P (lgN D B P) hg 0 (by decide));have hdv:=Dev.new hD hB hP hgb.2.1 hgb.2.2 hg;refine J.q λ_=>?_;refine J.ca hX (by kernel_rfl) (M9 n (Nand.new D B P) 0 0 (a0I D B P hg _ (by decide)) (by decide) rfl) [2] 0 rfl rfl rfl rfl rfl rfl (λ_=>rfl) ?_;rintro v As (⟨_,f,p,t,l,d,rfl,rfl⟩ | ⟨he,rfl,rfl⟩)
 rotate_left
 ·exact absurd (congrArg (·.2) hm) he
 refine⟨_,rfl,trivial,?_⟩;rw[hm];refine J.qF λ_=>?_;refine J.qr [2,3,4,5,6,7] λ_=>?_;exact⟨D,B,P,n,f,p,t,l,d,_,rfl,hD,hB,hP,hdv,rfl,rfl⟩
theorem I3 {a b:Bool} (ha:a=true) (hb:b=true):(a&&b)=true:=by rw[ha,hb];rfl
theorem V8 {P:Program} {f:FuncId} {fn:Func} {s:ChangeSpec} {c:OpenClaim} (k0:(c.wf (OpenSpec.ofChange s))=true) (k1:(laidOutB P)=true) (k2:(mapsRowed P)=true) (k3:(fn.params.all (P.readableRec ·))=true) (k4:(namedTie P c.named s.vars)=true) (k5:(c.stops==[])=true) (k6:(P.stops==[])=true) (k7:(c.knobs==[])=true) (k8:(P.stopKnobs==[])=true) (k9:(c.inPlace==P.inPlace f)=true) (k10:(c.unfollowed==P.unfollowed f)=true) (k11:(c.recurses==P.recurses f)=true) (k12:(c.named==P.varsNamed f)=true) (k13:(c.maps==(fn.params.toList++s.plain.varTypes P).any (P.mapsRec ·))=true) (k14:(c.ifaces==(fn.params.toList++s.plain.varTypes P).any (P.ifacesRec ·))=true) (k15:(c.mapsOut==P.mapsAmong fn.resultTypes.toList)=true) (k16:(c.loops==(fn.params.toList++s.plain.varTypes P).any (P.loopsFrom ·))=true) (k17:(c.wideKeys==(fn.params.toList++s.plain.varTypes P++fn.resultTypes.toList).any (P.wideKeysFrom ·))=true) (k18:(s.vars.all (P.varReadable ·))=true) (k19:(fn.resultTypes.all (λt=>P.readableRec t&&decide (t<P.types.size)))=true) (k20:(c.ifacesOut==fn.resultTypes.toList.any (P.ifacesRec ·))=true) (k21:(c.loopsOut==fn.resultTypes.toList.any (P.loopsFrom ·))=true) (k22:(c.plainKeys==P.plainKeys)=true) (k23:(c.shortTexts.isNone)=true) (k24:(P.stopsHeard)=true) (k25:(P.mayEnter)=true) (k26:(c.lifted==P.liftsFinal)=true) (k27:(P.make==some c.make)=true) (k28a:c.domain.isEmpty=true) (k28:(c.kinds==[])=true) (k29:(c.pinned==c.pinnedBy)=true) (k30:(c.veiled==(fn.params.toList++s.plain.varTypes P++fn.resultTypes.toList).any (P.veiledRec ·))=true) (k31:(c.veiledFits P fn.params.toList (fn.params.toList++s.plain.varTypes P++fn.resultTypes.toList))=true):joinedFacts P f fn s c=true:=by
 unfold joinedFacts;rw[if_pos k28a];exact(I3 (I3 (I3 (I3 (I3 (I3 (I3 (I3 (I3 (I3 (I3 (I3 (I3 (I3 (I3 (I3 (I3 (I3 (I3 (I3 (I3 (I3 (I3 (I3 (I3 (I3 (I3 (I3 (I3 (I3 (I3 k0 k1) k2) k3) k4) k5) k6) k7) k8) k9) k10) k11) k12) k13) k14) k15) k16) k17) k18) k19) k20) k21) k22) k23) k24) k25) k26) k27) k28) k29) k30) k31)
theorem O4:laidOutB Tryz.prog=true:=by kernel_rfl
theorem a1z:mapsRowed Tryz.prog=true:=by kernel_rfl
theorem a1y:(Tryz.prog.stops==[])=true:=by kernel_rfl
theorem a1A:(Tryz.prog.stopKnobs==[])=true:=by kernel_rfl
theorem a1B:Tryz.prog.stopsHeard=true:=by kernel_rfl
theorem a1C:Tryz.prog.mayEnter=true:=by kernel_rfl
end Go.Proofs.YtgkpkpbnonmopaaGreat
