/- Helpers. No condition. -/
import Derived.Test.YtpohajhbfllbbaaGreatE06
import Derived.Test.YtpohajhbfllbbaaGreatE19
import Derived.Test.YtpohajhbfllbbaaGreatE20
import Derived.Test.YtpohajhbfllbbaaGreatE22
import Derived.Test.YtpohajhbfllbbaaGreatE24
set_option maxRecDepth 20000
set_option linter.all false
namespace Go.Proofs.YtpohajhbfllbbaaGreat
open Go Go.RowKit
open B18
theorem b0L:FP 142 [] [] (Ps (.bool true) []):=by
 refine FE [] Tryz.func142 λX F hX=>?_;refine J.qp (b0K) [] λ_=>?_;exact J.qx []
theorem b0I:FP 89 [] [] (Ps (.bool true) []):=by
 refine FE [] Tryz.func89 λX F hX=>?_;refine J.qc (b0H 3 8 2 rfl 20) [] λ_=>?_;rintro v As ⟨n,t,l,q,rfl,rfl⟩;refine⟨_,rfl,trivial,?_⟩;rw[show Dv.new 3 8 2 20=S0 from rfl];refine J.qF λ_=>?_;refine J.qp (U4 1 1) [] λ_=>?_;refine J.qp (U4 2 2) [] λ_=>?_;refine J.qp (U4 3 3) [] λ_=>?_;refine J.q λbx=>?_;refine J.ca hX (by kernel_rfl) (Z6 q n t l S0 (9*U) 0 (G0.less (by decide)) (.pt (bx 0) 135 (d6 [e18 1 1,e18 2 2,e18 3 3])) (some ⟨bx 0,0,none⟩) 3 3 [e18 1 1,e18 2 2,e18 3 3] (X7 _ _ _ _ _ rfl) rfl (by decide) B18.d3) [1,2,3,4,5] 0 rfl rfl rfl rfl rfl rfl (λ_=>rfl) ?_;refine cpq ⟨_,rfl,trivial,?_⟩;rw[show(S0.pen [e18 1 1,e18 2 2,e18 3 3]).1=S1 from rfl,h1];refine J.qp (U4 3 3) [] λ_=>?_;refine J.q λby_=>?_;refine J.ca hX (by kernel_rfl) (Z6 q n t l S1 (8*U) 0 (G1.less (by decide)) (.pt (by_ 0) 135 (d6 [e18 3 3])) (some ⟨by_ 0,0,none⟩) 1 1 [e18 3 3] (X7 _ _ _ _ _ rfl) rfl (by decide) B18.d1) [1,2,3,4,6] 0 rfl rfl rfl rfl rfl rfl (λ_=>rfl) ?_;refine cpq ⟨_,rfl,trivial,?_⟩;rw[show(S1.pen [e18 3 3]).1=S2 from rfl,h2];refine J.qp (a3a n t l q S2 (7*U) 0 (G2.less (by decide)) 0 2) [1,2,3,4] λ_=>?_;rw[show(S2.carry 0 2).1=S3 from rfl,h3];refine J.qp (a1w l S3.T 1) [4] λ_=>?_;rw[h4,Option.getD_some,Option.isSome_some];refine J.qp (V3 q n t l S3) [1] λ_=>?_;rw[h5];refine J.qp (a0o n S3.N G3.gd.ok 0 4 2 0 0 0 0) [2] λ_=>?_;rw[show(S3.N.fault 4 2 0 0 0 0).2=S4.N from rfl,show R0 q n t l S3=R0 q n t l S4 from rfl,show S3.t=S4.t from rfl,show S3.T=S4.T from rfl];refine J.qp (a9y n t l q S4 (6*U) 0 (G4.less (by decide)) (by decide) 2) [1,2,3,4] λ_=>?_;rw[show(S4.step 2).1=S5 from rfl,h6];refine J.qp (b0L) [] λ_=>?_;refine J.qp (a9z t l S5 (6*U) 0 G5) [3,4] λ_=>?_;rw[h7];refine J.qp (a7n n S5.N) [2] λ_=>?_;rw[h8];refine J.qp (a0T n t l q S5 (5*U) 0 (G5.less (by decide)) (by decide)) [1,2,3,4] λ_=>?_;rw[show S5.room.1=S6 from rfl,h9];refine J.qp (U4 9 9) [] λ_=>?_;refine J.q λ_=>?_;refine J.effG hX tk rfl rfl rfl (λ_=>rfl) (by(repeat' (first | exact Conj.nil | refine Conj.cons ?_ ?_ | omega | exact hq0 | (simpa using hq0) | (exactλh=>h) | exact rfl | (intro hq;have hq0:=hq;try simp only[Bool.and_eq_true,Bool.or_eq_true,decide_eq_true_eq,Bool.not_eq_true',decide_eq_false_iff_not]at hq) | (simp;done) | (simp;omega) | decide))) (λ_=>rfl) λbt=>⟨trivial,?_⟩;refine J.q λ_=>?_;refine J.ca hX (by kernel_rfl) (a6e n t l q S6 (4*U) 0 (.pt bt 135 (d6 [e18 9 9])) (some (bt,0)) 1 1 [e18 9 9] (X7 _ _ _ _ _ rfl) rfl (by decide) (by decide) (λh=>by cases h) B18.d9 (G6.less (by decide)) (by decide)) [1,2,3,4,8] 0 rfl rfl rfl rfl rfl rfl (λ_=>rfl) ?_;refine cpq ⟨_,rfl,trivial,?_⟩;rw[show(S6.torn [e18 9 9]).1=S7 from rfl,h10];refine J.qp (V3 q n t l S7) [1] λ_=>?_;refine J.q λ_=>?_;refine J.ca hX (by kernel_rfl) (a0U n t l S7.N S7.t S7.T (3*U) 0 (G7.gd.less (by decide) (Nat.le_refl _)) (by decide) G7.t S7.op) [2,3,4] 0 rfl rfl rfl rfl rfl rfl (λ_=>rfl) ?_;refine cpq ⟨_,rfl,trivial,?_⟩;rw[show(Dv.clearX S7.N S7.t S7.T S7.op).2.2=0 from h11];exact J.qx []
end Go.Proofs.YtpohajhbfllbbaaGreat
namespace Go.Proofs.YtpohajhbfllbbaaGreat
open Go Go.RowKit
theorem C3 (q n:Nat) (A:Pad) (P:Pv) (Z:Fv) (hZ:P.Z=some Z):V0 q n A P=[PlQ q n (some Z) A.f (pp A.fp) (slv A.a2 P.log.length A.c2), .pt A.fp 155 [.slice (y7 A.a) P.L.length A.c],rdA (y7 A.a) 7 P.L.length (f6 P.L),c9 40 17 A.a2 P.log.length A.c2 (y9 P.log)]++FvP A.f A.p n A.t A.l A.d Z:=by unfold V0 a0v;rw[hZ];rfl
theorem a1h {Z:List MSl} {M:List MPv} (h:Z.map (·.v)=M) (hM:∀v∈M,v.now.length=16/\(∀x∈v.may,x.length=16)/\(∀x∈v.ever,x.length=16)/\v.may.length<=1000/\v.ever.length<=1000):∀z∈Z,z.Fine:=λz hz=>hM z.v (by rw[<- h];exact List.mem_map.2 ⟨z,hz,rfl⟩)
theorem b0J:FP 44 [] [] (Ps (.bool true) []):=by
 refine FE [] Tryz.func44 λX F hX=>?_;refine J.qp (b0I) [] λ_=>?_;exact J.qx []
open B21
theorem b0G:FP 8 [] [] (Ps (.bool true) []):=by
 have G0:N0.Gd (Dv.costK+0) 0:=a6H 3 8 2 rfl _ (by decide);refine FE [] Tryz.func8 λX F hX=>?_;refine J.qc (a4Z 3 8 2 rfl) [] λ_=>?_;rintro v As ⟨n,rfl,rfl⟩;refine⟨_,rfl,trivial,?_⟩;rw[show Nand.new 3 8 2=N0 from rfl];refine J.qc (a0c n N0 0 0 G0 (by decide) rfl) [1] λ_=>?_;rintro v As (⟨_,f,p,t,l,d,rfl,rfl⟩ | ⟨he,rfl,rfl⟩)
 rotate_left
 ·exact absurd m0 he
 refine⟨_,rfl,trivial,?_⟩;rw[show Fv.of (s9 N0).1=F0 from rfl];refine J.qF λ_=>?_;refine J.qp (a3R f p n t l d F0 (K 1) 0 (ok0.less (by decide)) (by decide) 1 (d1 7) rfl) [1,2,3,4,5,6] λ_=>?_;rw[show F0.write 1 (d1 7)=F1 from rfl,v1];refine J.qp (a9J f p n t l d F1.1 (K 2) 0 (ok1.less (by decide)) (by decide) 2) [1,2,3,4,5,6] λ_=>?_;rw[show F1.1.trim 2=F2 from rfl,v2];refine J.qp (a3R f p n t l d F2.1 (K 3) 0 (ok2.less (by decide)) (by decide) 3 zd rfl) [1,2,3,4,5,6] λ_=>?_;rw[show F2.1.write 3 zd=F3 from rfl,v3];refine J.qp (a0r f p n t l d F3.1 (K 3) 0 ok3 1) [1,2,3,4,5,6] λ_=>?_;rw[show F3.1.read 1=F4 from rfl,v4,w4];refine J.q λc7=>?_;refine J.cb (a7I f p n t l d F4.1 (K 5) 0 (ok4.less (by decide)) (by decide)) [1,2,3,4,5,6] ?_;refine cpq ⟨_,rfl,trivial,?_⟩;rw[show F4.1.flush=F5 from rfl,v5];refine J.qp (a9w n F5.1.S.N (-1) 0) [3] λ_=>?_;refine J.qp (a0r f p n t l d F6 (K 5) 0 ok6 1) [1,2,3,4,5,6] λ_=>?_;rw[show F6.read 1=F7 from rfl,v7];refine J.q λc10=>?_;refine J.cb (b5a n F7.1.S.N) [3] ?_;refine cpq ⟨_,rfl,trivial,?_⟩;rw[show F7.1.S.N.onN=N8 from rfl];refine J.qc (a0c n N8 (K 6) 0 g8 (by decide) rfl) [3] λ_=>?_;rintro v As (⟨_,f',p',t',l',d',rfl,rfl⟩ | ⟨he,rfl,rfl⟩)
 rotate_left
 ·exact absurd m8 he
 refine⟨_,rfl,trivial,?_⟩;rw[show Fv.of (s9 N8).1=F8 from rfl];refine J.qp (a0r f' p' n t' l' d' F8 (K 6) 0 ok8 1) [3,9,10,11,12,13] λ_=>?_;rw[show F8.read 1=F9 from rfl,v9,w9];refine J.q λc14=>?_;refine J.cb (b6I 2) [] ?_;rintro v As ⟨mq,mg,MZ,rfl,rfl,hM0⟩;refine⟨_,rfl,trivial,?_⟩;have ml0:MZ.length=2:=by have:=congrArg List.length hM0;rw[List.length_map]at this;exact this
 refine J.qc (b2M mq mg MZ (by omega) (a1h hM0 (by decide)) 0 (d1 1) rfl) [15,16,17,18] λ_=>?_;rintro v As ⟨MZ1,rfl,rfl,hM1⟩;refine⟨_,rfl,trivial,?_⟩;rw[hM0]at hM1;have ml1:MZ1.length=2:=by have:=congrArg List.length hM1;rw[List.length_map]at this;exact this
 refine J.qc (b6J mq mg MZ1 (by omega)) [15,16,17,18] λ_=>?_;rintro v As ⟨MZ2,rfl,rfl,hM2⟩;refine⟨_,rfl,trivial,?_⟩;rw[hM1]at hM2;have hM2:MZ2.map (·.v)=M1:=hM2;have ml2:MZ2.length=2:=by have:=congrArg List.length hM2;rw[List.length_map]at this;exact this
 refine J.q λ_=>?_;refine J.turn1 [] rfl (As:=[rdA none 7 0 (f6 [])]) (λh s=>Sep.one ⟨rfl,λh=>absurd h (by decide)⟩) rfl ?_;refine J.q λ_=>?_;refine J.ca hX (by kernel_rfl) (b2n 3 8 2 rfl (rdA none 7 0 (f6 [])) none 0 0 [] (a5W _ _ _ _) rfl (by decide)) [19] 0 rfl rfl rfl rfl rfl rfl (λ_=>rfl) ?_;rintro v As ⟨q,nn,A0,rfl,hA0,rfl⟩;rw[show Pv.new 3 8 2 []=P0 from rfl]at hA0 ⊢;rw[C3 q nn A0 P0 F0 z0];refine⟨_,rfl,trivial,?_⟩;refine J.q λ_=>?_;have hst1:=a2H q nn A0 P0 hA0 F0 z0 (K 1) 0 (ok0.less (by decide)) (by decide) (by decide) (by decide) s1 rfl;rw[C3 q nn A0 P0 F0 z0]at hst1;refine J.qc (hst1) [20,21,22,23,24,25,26,27,28,29] λ_=>?_;rintro v As ⟨A1,rfl,hA1,rfl⟩;obtain⟨x1,hx1⟩:∃x,(P0.step s1).2=⟨0,x⟩:=⟨(P0.step s1).2.data,by rw[<- e1]⟩;rw[show(P0.step s1).1=P1 from rfl]at hA1 ⊢;rw[C3 q nn A1 P1 B21.Z1 z1,hx1];refine⟨_,rfl,trivial,?_⟩;refine J.q λc18=>?_;have hst2:=a2H q nn A1 P1 hA1 B21.Z1 z1 (K 2) 0 (okz1.less (by decide)) (by rw[pL1];decide) (by rw[pL1];decide) (by rw[pl1];decide) s2 rfl;rw[C3 q nn A1 P1 B21.Z1 z1]at hst2;refine J.qc (hst2) [20,21,22,23,24,25,26,27,28,29] λ_=>?_;rintro v As ⟨A2,rfl,hA2,rfl⟩;obtain⟨x2,hx2⟩:∃x,(P1.step s2).2=⟨x,d1 9⟩:=⟨(P1.step s2).2.err,by rw[<- e2]⟩;rw[show(P1.step s2).1=P2 from rfl]at hA2 ⊢;rw[C3 q nn A2 P2 B21.Z2 z2,hx2];refine⟨_,rfl,trivial,?_⟩;refine J.q λc19=>?_;refine J.cb (a8S f' p' n t' l' d' F9.1 (K 6) 0 ok9) [3,9,10,11,12,13] ?_;rintro v As ⟨aa,ac,rfl,rfl⟩;refine⟨_,rfl,trivial,?_⟩;rw[show F9.1.all=Fa from rfl,va,wa];refine J.q λ_=>?_;have hz2:P2.Z=some B21.Z2:=z2;have hlog:=b6x q nn A2 P2 (by rw[lg2];decide);rw[hz2]at hlog;refine J.qc (hlog) [20,23] λ_=>?_;rintro v As ⟨la,lc,rfl,rfl⟩;refine⟨_,rfl,trivial,?_⟩;refine J.qp (b0J) [] λ_=>?_;refine J.qn 19 λ_=>?_;refine J.v (.bool true) rfl rfl (λhg aa w he hw=>(B3 (xs:=j3 (d1 7)) (ys:=j3 (d1 7)) rfl rfl rfl he hg rfl O4 (I7 _) (I7 _) mkD gdD).trans (by rw[eqD _ _ rfl rfl];simp)) ?_;refine J.qn 20 λ_=>?_;refine J.v (.bool true) rfl rfl (λhg aa w he hw=>(B3 (xs:=j3 (d1 7)) (ys:=j3 (d1 7)) rfl rfl rfl he hg rfl O4 (I7 _) (I7 _) mkD gdD).trans (by rw[eqD _ _ rfl rfl];simp)) ?_;refine J.qp (W6 f n t l p d (F7.1.setN Fa.1.S.N) oka.dv.gd.ok) [1,10] λ_=>?_;rw[show(F7.1.setN Fa.1.S.N).lg=3 from lgA];refine J.qp (a8x mq mg MZ2 (by omega) (a1h hM2 (by decide)) 0 (zd) rfl) [15,16,17,18] λ_=>?_;rw[hM2,q1];refine J.qp (a8x mq mg MZ2 (by omega) (a1h hM2 (by decide)) 0 (d1 1) rfl) [15,16,17,18] λ_=>?_;rw[hM2,q2];refine J.qp (a8x mq mg MZ2 (by omega) (a1h hM2 (by decide)) 0 (d1 2) rfl) [15,16,17,18] λ_=>?_;rw[hM2,q3];refine J.qn 11 λ_=>?_;refine J.v (.bool true) rfl rfl (λhg aa w he hw=>(B3 (xs:=j3 (d1 9)) (ys:=j3 (d1 9)) rfl rfl rfl he hg rfl O4 (I7 _) (I7 _) mkD gdD).trans (by rw[eqD _ _ rfl rfl];simp)) ?_;refine J.q λ_=>?_;have hrest:=b5O q nn A2 P2 hA2 B21.Z2 z2 50 0 0 (okz2.less (by decide)) okz2o (by rw[pL2];decide) (by rw[pL2];decide) (by rw[lg2];decide) B21.Z3 z3;rw[C3 q nn A2 P2 B21.Z2 z2]at hrest;refine J.qc (hrest) [20,21,22,23,24,25,26,27,28,29] λ_=>?_;rintro v As ⟨A3,rfl,_,rfl⟩;refine⟨_,rfl,trivial,?_⟩;rw[t3];refine J.qp (b7e 3 8 2) [] λ_=>?_;rw[show a9Q 3 8 2=616 from rfl];refine J.qr [] λ_=>?_;refine⟨?_,rfl⟩;rw[lg2];rfl
end Go.Proofs.YtpohajhbfllbbaaGreat
namespace Go.Proofs.YtpohajhbfllbbaaGreat
open Go Go.RowKit
structure WAd where
 w:Nat
 q:Nat
 nn:Nat
 A:Pad
 R:RAd
 fa:Option Nat
 fc:Nat
def b4b (U:WAd) (W:Wa):Atom:= .pt U.w 54 [pp U.q,pp U.R.q,iI W.die, .bool W.wrong, .bool W.full, .bool W.stuck,slv U.fa W.fs.length U.fc,iI W.since,iI W.late]
def b4a (U:WAd) (W:Wa):Atom:=c9 35 7 U.fa W.fs.length U.fc (f6 W.fs)
def a0z (f:MSl->MSl) (i:Nat) (Z:List MSl):List MSl:=(Z.take i).map f++Z.drop i
theorem T5 {β:Type} (f:MSl->MSl) (g:MSl->β) (h:∀z,g (f z)=g z) (i:Nat) (Z:List MSl):(a0z f i Z).map g=Z.map g:=by
 unfold a0z;rw[List.map_append,List.map_map,show g ∘ f=g from funext h,<- List.map_append,List.take_append_drop]
theorem b0e (f:MSl->MSl) (g:MSl->List Value) (h:∀z,g (f z)=g z) (i:Nat) (Z:List MSl):(a0z f i Z).flatMap g=Z.flatMap g:=by
 rw[List.flatMap_def,List.flatMap_def,T5 f g h]
theorem a6R (f:MSl->MSl) (i:Nat) (Z:List MSl):(a0z f i Z).length=Z.length:=by
 have:=congrArg List.length (T5 f (λ_=>()) (λ_=>rfl) i Z);simpa using this
theorem b4o (f:MSl->MSl) {i:Nat} {Z:List MSl} {z:MSl} (h:Z[i]? =some z):(a0z f i Z)[i]? =some z:=by
 have hi:=(List.getElem?_eq_some_iff.1 h).1;unfold a0z;rw[List.getElem?_append_right (by simp;omega),List.getElem?_drop,List.length_map,List.length_take,Nat.min_eq_left (by omega),Nat.sub_self,Nat.add_zero,h]
def a0w (z:MSl):MSl:={z with v:=Mv.cut1 z.v}
theorem b5D (R:RAd) (Z:List MSl) (hn:Z.length<=65536):FP 58 [pp R.q] (X4 R Z) (λv As=>∃Z',v= .tuple #[]/\As=X4 R Z'/\Z'.map (·.v)=Mv.cut (Z.map (·.v))):=by
 refine FE [2] Tryz.func58 λX F hX=>?_;refine J.q λ_=>?_;refine J.l (α:=Nat) (λk=>k<=Z.length) (λk=>[si 2 k,⟨0,pp R.q,2, .tt⟩]) [3] (λk=>[.pt R.o 4 (opC (a0z a0w k Z))]) (λk=>Z.length-k) (0) (Nat.zero_le _) λk hI=>?_;refine J.qd (λ_ h1=>?_) λ_ h1=>?_
 ·simp only[decide_eq_true_eq,Int.ofNat_lt]at h1;obtain⟨z,hz⟩:∃z,Z[k]? =some z:=⟨_,List.getElem?_eq_getElem (by omega)⟩;have hput:(opC (a0z a0w k Z)).set (0+(k:Int).toNat*1) (.bool true)=opC (a0z a0w (k+1) Z):=by
   rw[show 0+(k:Int).toNat*1=k from by omega];have h2:=a2S (f:=a0w) (V:=Z) (Y:=a0z a0w k Z) rfl h1 (b4o a0w hz);have h3:a0z a0w (k+1) Z=(a0z a0w k Z).set k (a0w z):=h2.symm;rw[h3];unfold opC;rw[List.map_set];rfl
  refine J.qn 10 λ_=>?_;refine J.s1 3 (opC (a0z a0w (k+1) Z)) ?_ hput ?_
  ·unfold opC;rw[List.length_map,a6R];omega
  refine J.q λ_=>?_;refine J.n (k+1) (by omega) (by omega) [0,1,2,3,4,5,6,7]
 simp only[decide_eq_false_iff_not,Int.ofNat_lt]at h1;obtain rfl:k=Z.length:=by omega
 refine J.q λ_=>?_;refine J.f [1,2,3,4,5,6,7] ?_;refine⟨a0z a0w Z.length Z,rfl,?_,?_⟩
 ·unfold X4 J5 E6 C4;rw[a6R,b0e a0w _ (λ_=>rfl),T5 a0w (λz=>slv z.a1 z.v.may.length z.c1) (λ_=>rfl),T5 a0w (λz=>slv z.a2 z.v.ever.length z.c2) (λ_=>rfl),T5 a0w MSl.m1 (λ_=>rfl),T5 a0w MSl.m2 (λ_=>rfl)];rfl
 ·unfold a0z Mv.cut;rw[List.take_of_length_le (by simp),List.drop_eq_nil_of_le (by simp),List.append_nil,List.map_map,List.map_map];rfl
theorem a2J (Z:List MSl) (k:Nat) (y:MSl):(opC Z).set k (.bool y.v.op)=opC (Z.set k y):=by unfold opC;rw[List.map_set]
theorem H5 (Z:List MSl) (k:Nat) (y:MSl):(E6 Z).set k (slv y.a1 y.v.may.length y.c1)=E6 (Z.set k y):=by unfold E6;rw[List.map_set]
theorem O8 (Z:List MSl) (k:Nat) (y:MSl):(C4 Z).set k (slv y.a2 y.v.ever.length y.c2)=C4 (Z.set k y):=by unfold C4;rw[List.map_set]
theorem a2K (Z:List MSl):(opC Z).length=Z.length:=List.length_map _
theorem H6 (Z:List MSl):(E6 Z).length=Z.length:=List.length_map _
theorem O9 (Z:List MSl):(C4 Z).length=Z.length:=List.length_map _
theorem a7m {Z:List MSl} {k:Nat} {z:MSl} (hz:Z[k]? =some z) (y:MSl):(J5 Z).take (k*16)++j3 y.v.now++(J5 Z).drop (k*16+(j3 y.v.now).length)=J5 (Z.set k y):=a1L (λz:MSl=>j3 z.v.now) 16 (λ_=>rfl) (j3 y.v.now) hz (Nat.le_refl _) (y:=y) rfl
theorem a5w (R:RAd) (Z:List MSl) (hn:Z.length<=65536) (hf:∀z∈Z,z.Fine) (i:Int) (d:List UInt8) (hd:d.length=16):FP 57 [pp R.q,iI i,a0g d] (X4 R Z) (λv As=>∃Z',v= .bool (Mv.inR (Z.map (·.v)) i)/\As=X4 R Z'/\Z'.map (·.v)=Mv.write (Z.map (·.v)) i d):=by
 refine FE [2,0,0] Tryz.func57 λX F hX=>?_;refine J.q λ_=>?_
 by_cases hi:0<=i/\i<(Z.length:Int)
 ·obtain⟨k,rfl⟩:=Int.eq_ofNat_of_zero_le hi.1;obtain⟨z,hz⟩:∃z,Z[k]? =some z:=⟨_,List.getElem?_eq_getElem (by omega)⟩;obtain⟨f1,f2,f3,f4,f5⟩:=hf z (List.mem_of_getElem? hz);have hin:Mv.inR (Z.map (·.v)) (k:Int)=true:=by unfold Mv.inR;rw[List.length_map,decide_eq_true hi.1,decide_eq_true hi.2];rfl
  have hpg:Mv.pg (Z.map (·.v)) (k:Int)=z.v:=by unfold Mv.pg;rw[Int.toNat_natCast,List.getD_eq_getElem?_getD,List.getElem?_map,hz];rfl
  rw[decide_eq_false (show¬(k:Int)<0 by omega),decide_eq_false (show¬(k:Int)>=Z.length by omega)];refine J.qF λ_=>?_;refine J.openAt 6 k rfl rfl (by rw[List.getElem?_map,hz];rfl) rfl ?_;refine J.openAt 7 k rfl rfl (by rw[List.getElem?_map,hz];rfl) rfl ?_;refine J.pn 12 (.of [0,4,8,13,16,20,24,28,33,36,41,44,50,52,59]) [13,14] [1,8] λ_ _=>?_;have hst:=a7m hz ⟨⟨d,z.v.op,z.v.may,z.v.ever⟩,z.a1,z.c1,z.a2,z.c2⟩;refine J.sN (j3 d) 2 (J5 (Z.set k ⟨⟨d,z.v.op,z.v.may,z.v.ever⟩,z.a1,z.c1,z.a2,z.c2⟩)) ?_ ?_ ?_
  ·rw[a3z];show 0+(k:Int).toNat*16+16<=_;omega
  ·rw[show 0+(k:Int).toNat*16=k*16 from by omega];exact hst
  refine J.qn 1 λ_=>?_;refine J.s1 3 (opC (Z.set k ⟨⟨d,false,z.v.may,z.v.ever⟩,z.a1,z.c1,z.a2,z.c2⟩)) ?_ ?_ ?_
  ·rw[a2K];omega
  ·rw[show 0+(k:Int).toNat*1=k from by omega,<- a2J]
  refine J.q λ_=>?_;refine J.plan2 (.take true 0 (.take true 1 (.take true 2 (.take false 3 (.take true 4 (.take true 5 (.take true 6 (.take true 7 (.take false 8 (.take true 9 (.take true 10 (.take true 11 (.take true 12 (.take false 13 (.take true 14 (.take true 15 (.take false 16 (.take false 17 (.take true 20 (.take true 21 (.take true 22 (.take false 23 (.take true 24 (.take true 25 (.take false 26 (.take false 27 (.alt false 18 ((.alt false 19 ((.of [114,118,120,127,128,135])) (.alt false 28 ((.of [78,118,120,127,128,135])) .non))) (.alt false 28 ((.of [74,78,118,120,127,128,135])) .non)))))))))))))))))))))))))))) [9,30,31,32,33] [9] [1,2,3,4,5,6,7,8] (by rw[hX.hP];kernel_rfl) (by kernel_rfl) ?_;refine J.qn 16 λ_=>?_;refine J.vT (slv z.a1 z.v.may.length z.c1) rfl rfl (λhg aa w he hC=>i4 tk rfl rfl he rfl rfl rfl (hC rfl _ (g7 (i:=4) rfl)) (by rw[show 0+(k:Int).toNat*1=k from by omega];exact a9B hz)) ?_;refine J.qn 7 λ_=>?_;refine J.vT (slv z.a2 z.v.ever.length z.c2) rfl rfl (λhg aa w he hC=>i4 tk rfl rfl he rfl rfl rfl (hC rfl _ (g7 (i:=5) rfl)) (by rw[show 0+(k:Int).toNat*1=k from by omega];exact b3J hz)) ?_;refine J.qn 1 λ_=>?_;refine J.join (α:=(Option Nat×Nat)×(Option Nat×Nat)) (λ_=>[sv 6 (.bool false)]) (λx=>[.hp F, .pt R.q 98 [.slice (some ⟨R.n,0,none⟩) Z.length Z.length, .slice (some ⟨R.o,0,none⟩) Z.length Z.length, .slice (some ⟨R.m,0,none⟩) Z.length Z.length, .slice (some ⟨R.e,0,none⟩) Z.length Z.length], .pt R.n 31 (J5 (Z.set k ⟨⟨d,z.v.op,z.v.may,z.v.ever⟩,z.a1,z.c1,z.a2,z.c2⟩)), .pt R.o 4 (opC (Z.set k ⟨⟨d,false,z.v.may,z.v.ever⟩,z.a1,z.c1,z.a2,z.c2⟩)), .pt R.m 56 (E6 (Z.set k ⟨⟨d,false,z.v.may++[d],z.v.ever⟩,x.1.1,x.1.2,z.a2,z.c2⟩)), .pt R.e 56 (C4 (Z.set k ⟨⟨d,false,z.v.may++[d],z.v.ever++[d]⟩,x.1.1,x.1.2,x.2.1,x.2.2⟩)), .hp (HP.of ((Z.map MSl.m1).set k .emp)), .hp (HP.of ((Z.map MSl.m2).set k .emp)),c9 31 16 x.1.1 (z.v.may.length+1) x.1.2 (j5 (z.v.may++[d])),c9 31 16 x.2.1 (z.v.ever.length+1) x.2.2 (j5 (z.v.ever++[d]))]) (λhj=>?_) (λx=>?_)
  ·refine J.alts ?_ ?_
   ·skip
    refine J.qn 1 λbb=>?_;refine J.alts ?_ ?_
    ·skip
     refine J.ap 9 11 0 (x9 z.v.may d) λa3 c3=>?_;refine J.qn 1 λbc=>?_;refine J.ap 10 12 0 (x9 z.v.ever d) λa4 c4=>?_;refine J.qn 1 λ_=>?_;refine J.s1 4 (E6 (Z.set k ⟨⟨d,false,z.v.may++[d],z.v.ever⟩,a3,c3,z.a2,z.c2⟩)) ?_ ?_ ?_
     ·rw[H6];omega
     ·rw[show 0+(k:Int).toNat*1=k from by omega,<- H5];dsimp only;rw[List.length_append];rfl
     refine J.qn 1 λ_=>?_;refine J.s1 5 (C4 (Z.set k ⟨⟨d,false,z.v.may++[d],z.v.ever++[d]⟩,a3,c3,a4,c4⟩)) ?_ ?_ ?_
     ·rw[O9];omega
     ·rw[show 0+(k:Int).toNat*1=k from by omega,<- O8];dsimp only;rw[List.length_append];rfl
     exact J.goto [0,1,2,3,4,5,6,7,9,10] (hj ((a3,c3),(a4,c4))) ⟨rfl,trivial⟩ rfl rfl
    ·skip
     refine J.qn 1 λbc=>?_;refine J.ap 9 11 0 (x9 z.v.may d) λa3 c3=>?_;refine J.ap 10 12 0 (x9 z.v.ever d) λa4 c4=>?_;refine J.qn 1 λ_=>?_;refine J.s1 4 (E6 (Z.set k ⟨⟨d,false,z.v.may++[d],z.v.ever⟩,a3,c3,z.a2,z.c2⟩)) ?_ ?_ ?_
     ·rw[H6];omega
     ·rw[show 0+(k:Int).toNat*1=k from by omega,<- H5];dsimp only;rw[List.length_append];rfl
     refine J.qn 1 λ_=>?_;refine J.s1 5 (C4 (Z.set k ⟨⟨d,false,z.v.may++[d],z.v.ever++[d]⟩,a3,c3,a4,c4⟩)) ?_ ?_ ?_
     ·rw[O9];omega
     ·rw[show 0+(k:Int).toNat*1=k from by omega,<- O8];dsimp only;rw[List.length_append];rfl
     exact J.goto [0,1,2,3,4,5,6,7,9,10] (hj ((a3,c3),(a4,c4))) ⟨rfl,trivial⟩ rfl rfl
   ·skip
    refine J.qn 2 λbb=>?_;refine J.ap 9 12 0 (x9 z.v.may d) λa3 c3=>?_;refine J.ap 10 11 0 (x9 z.v.ever d) λa4 c4=>?_;refine J.qn 1 λ_=>?_;refine J.s1 4 (E6 (Z.set k ⟨⟨d,false,z.v.may++[d],z.v.ever⟩,a3,c3,z.a2,z.c2⟩)) ?_ ?_ ?_
    ·rw[H6];omega
    ·rw[show 0+(k:Int).toNat*1=k from by omega,<- H5];dsimp only;rw[List.length_append];rfl
    refine J.qn 1 λ_=>?_;refine J.s1 5 (C4 (Z.set k ⟨⟨d,false,z.v.may++[d],z.v.ever++[d]⟩,a3,c3,a4,c4⟩)) ?_ ?_ ?_
    ·rw[O9];omega
    ·rw[show 0+(k:Int).toNat*1=k from by omega,<- O8];dsimp only;rw[List.length_append];rfl
    exact J.goto [0,1,2,3,4,5,6,7,9,10] (hj ((a3,c3),(a4,c4))) ⟨rfl,trivial⟩ rfl rfl
  obtain⟨⟨a3,c3⟩,a4,c4⟩:=x;dsimp only;obtain⟨y,hy⟩:∃y:MSl,y=⟨⟨d,false,z.v.may++[d],z.v.ever++[d]⟩,a3,c3,a4,c4⟩:=⟨_,rfl⟩;rw[show J5 (Z.set k ⟨⟨d,z.v.op,z.v.may,z.v.ever⟩,z.a1,z.c1,z.a2,z.c2⟩)=J5 (Z.set k y)from by rw[hy];unfold J5;rw[List.flatMap_def,List.flatMap_def,List.map_set,List.map_set],show opC (Z.set k ⟨⟨d,false,z.v.may,z.v.ever⟩,z.a1,z.c1,z.a2,z.c2⟩)=opC (Z.set k y)from by rw[hy];unfold opC;rw[List.map_set,List.map_set],show E6 (Z.set k ⟨⟨d,false,z.v.may++[d],z.v.ever⟩,a3,c3,z.a2,z.c2⟩)=E6 (Z.set k y)from by rw[hy];unfold E6;rw[List.map_set,List.map_set],<- hy,show c9 31 16 a3 (z.v.may.length+1) c3 (j5 (z.v.may++[d]))=y.m1 from by rw[hy];unfold MSl.m1;rw[List.length_append];rfl,show c9 31 16 a4 (z.v.ever.length+1) c4 (j5 (z.v.ever++[d]))=y.m2 from by rw[hy];unfold MSl.m2;rw[List.length_append];rfl];refine J.closeAt (A:=y.m1) 6 8 k rfl rfl rfl ?_;refine J.closeAt (A:=y.m2) 7 9 k rfl rfl rfl ?_;rw[<- List.map_set,<- List.map_set];refine J.qr [1,2,3,4,5,6,7] λ_=>?_;refine⟨Z.set k y,?_,?_,?_⟩
  ·rw[hin]
  ·unfold X4;rw[List.length_set];rfl
  ·unfold Mv.write;rw[hin,if_pos rfl,hpg,List.map_set,Int.toNat_natCast,hy];rfl
 ·have hin:Mv.inR (Z.map (·.v)) i=false:=by
   unfold Mv.inR;rw[List.length_map];simp;omega
  refine J.qd (λ_ h1=>?_) λ_ h1=>?_
  ·refine J.qr [1,2,3,4,5,6,7] λ_=>?_;exact⟨Z,by rw[hin],rfl,by unfold Mv.write;rw[hin];rfl⟩
  ·exfalso
   simp at h1;omega
theorem a7b {α:Type} (m:Nat) (x:α):(List.replicate m [x]).flatten=List.replicate m x:=by
 induction m with
 | zero=>rfl
 | succ m ih=>rw[List.replicate_succ,List.flatten_cons,ih];rfl
theorem a6s (g:Int) (m:Nat) (hm:min (max g 0) 65536=(m:Int)):FP 53 [iI g] [] (λv As=>∃R Z,v=pp R.q/\As=X4 R Z/\Z.map (·.v)=Mv.new g):=by
 have hm1:m<=65536:=by omega
 refine FE [0] Tryz.func53 λX F hX=>?_;refine J.q λ_=>?_;have hmm:(if(if(65536:Int)<g then 65536 else g)>0 then(if(65536:Int)<g then 65536 else g)else 0)=(m:Int):=by split<;>(split<;>omega)
 rw[hmm];refine J.join (α:=Nat×Nat×Nat×Nat×Nat) (λx=>[⟨4,pp x.2.2.2.2,6, .tt⟩,si 3 m]) (λx=>[.hp F, .pt x.1 31 (List.replicate m [Value.int .u8 0,Value.int .u8 0,Value.int .u8 0,Value.int .u8 0,Value.int .u8 0,Value.int .u8 0,Value.int .u8 0,Value.int .u8 0,Value.int .u8 0,Value.int .u8 0,Value.int .u8 0,Value.int .u8 0,Value.int .u8 0,Value.int .u8 0,Value.int .u8 0,Value.int .u8 0]).flatten, .pt x.2.1 4 (List.replicate m [Value.bool false]).flatten, .pt x.2.2.1 56 (List.replicate m [Value.slice none 0 0]).flatten, .pt x.2.2.2.1 56 (List.replicate m [Value.slice none 0 0]).flatten, .pt x.2.2.2.2 98 [.slice (some ⟨x.1,0,none⟩) m m, .slice (some ⟨x.2.1,0,none⟩) m m, .slice (some ⟨x.2.2.1,0,none⟩) m m, .slice (some ⟨x.2.2.2.1,0,none⟩) m m]]) (λhj=>?_) (λx=>?_)
 ·refine J.plan (.take true 0 (.take true 2 (.take true 4 (.take true 6 (.alt false 1 ((.alt false 3 ((.alt false 5 ((.of [30,32,39,40])) (.alt false 7 ((.of [22,32,39,40])) .non))) (.alt false 5 ((.alt false 3 ((.of [30,32,39,40])) (.alt false 7 ((.of [14,32,39,40])) .non))) (.alt false 7 ((.alt false 3 ((.of [22,32,39,40])) (.alt false 5 ((.of [14,32,39,40])) .non))) .non)))) (.alt false 3 ((.alt false 1 ((.alt false 5 ((.of [30,32,39,40])) (.alt false 7 ((.of [22,32,39,40])) .non))) (.alt false 5 ((.alt false 1 ((.of [30,32,39,40])) (.alt false 7 ((.of [6,32,39,40])) .non))) (.alt false 7 ((.alt false 1 ((.of [22,32,39,40])) (.alt false 5 ((.of [6,32,39,40])) .non))) .non)))) (.alt false 5 ((.alt false 1 ((.alt false 3 ((.of [30,32,39,40])) (.alt false 7 ((.of [14,32,39,40])) .non))) (.alt false 3 ((.alt false 1 ((.of [30,32,39,40])) (.alt false 7 ((.of [6,32,39,40])) .non))) (.alt false 7 ((.alt false 1 ((.of [14,32,39,40])) (.alt false 3 ((.of [6,32,39,40])) .non))) .non)))) (.alt false 7 ((.alt false 1 ((.alt false 3 ((.of [22,32,39,40])) (.alt false 5 ((.of [14,32,39,40])) .non))) (.alt false 3 ((.alt false 1 ((.of [22,32,39,40])) (.alt false 5 ((.of [6,32,39,40])) .non))) (.alt false 5 ((.alt false 1 ((.of [14,32,39,40])) (.alt false 3 ((.of [6,32,39,40])) .non))) .non)))) .non)))))))) [8,9,10] [] (by rw[hX.hP];kernel_rfl) (by kernel_rfl) ?_;refine J.q λ_=>?_;refine J.alts ?_ ?_
  ·skip
   refine J.mk 2 λgn=>?_;refine J.qn 1 λ_=>?_;refine J.alts ?_ ?_
   ·skip
    refine J.mk 3 λgo=>?_;refine J.qn 1 λ_=>?_;refine J.alts ?_ ?_
    ·skip
     refine J.mk 4 λgm=>?_;refine J.qn 1 λ_=>?_;refine J.mk 5 λge=>?_;refine J.qn 4 λbq=>?_;exact J.goto [0,1,2,3,4,5] (hj (gn,go,gm,ge,bq 0)) ⟨rfl,rfl,trivial⟩ rfl rfl
    ·skip
     refine J.mk 4 λge=>?_;refine J.qn 1 λ_=>?_;refine J.mk 5 λgm=>?_;refine J.qn 4 λbq=>?_;exact J.goto [0,1,2,4,3,5] (hj (gn,go,gm,ge,bq 0)) ⟨rfl,rfl,trivial⟩ rfl rfl
   ·skip
    refine J.alts ?_ ?_
    ·skip
     refine J.mk 3 λgm=>?_;refine J.qn 1 λ_=>?_;refine J.alts ?_ ?_
     ·skip
      refine J.mk 4 λgo=>?_;refine J.qn 1 λ_=>?_;refine J.mk 5 λge=>?_;refine J.qn 4 λbq=>?_;exact J.goto [0,1,3,2,4,5] (hj (gn,go,gm,ge,bq 0)) ⟨rfl,rfl,trivial⟩ rfl rfl
     ·skip
      refine J.mk 4 λge=>?_;refine J.qn 1 λ_=>?_;refine J.mk 5 λgo=>?_;refine J.qn 4 λbq=>?_;exact J.goto [0,1,4,2,3,5] (hj (gn,go,gm,ge,bq 0)) ⟨rfl,rfl,trivial⟩ rfl rfl
    ·skip
     refine J.mk 3 λge=>?_;refine J.qn 1 λ_=>?_;refine J.alts ?_ ?_
     ·skip
      refine J.mk 4 λgo=>?_;refine J.qn 1 λ_=>?_;refine J.mk 5 λgm=>?_;refine J.qn 4 λbq=>?_;exact J.goto [0,1,3,4,2,5] (hj (gn,go,gm,ge,bq 0)) ⟨rfl,rfl,trivial⟩ rfl rfl
     ·skip
      refine J.mk 4 λgm=>?_;refine J.qn 1 λ_=>?_;refine J.mk 5 λgo=>?_;refine J.qn 4 λbq=>?_;exact J.goto [0,1,4,3,2,5] (hj (gn,go,gm,ge,bq 0)) ⟨rfl,rfl,trivial⟩ rfl rfl
  ·skip
   refine J.alts ?_ ?_
   ·skip
    refine J.mk 2 λgo=>?_;refine J.qn 1 λ_=>?_;refine J.alts ?_ ?_
    ·skip
     refine J.mk 3 λgn=>?_;refine J.qn 1 λ_=>?_;refine J.alts ?_ ?_
     ·skip
      refine J.mk 4 λgm=>?_;refine J.qn 1 λ_=>?_;refine J.mk 5 λge=>?_;refine J.qn 4 λbq=>?_;exact J.goto [0,2,1,3,4,5] (hj (gn,go,gm,ge,bq 0)) ⟨rfl,rfl,trivial⟩ rfl rfl
     ·skip
      refine J.mk 4 λge=>?_;refine J.qn 1 λ_=>?_;refine J.mk 5 λgm=>?_;refine J.qn 4 λbq=>?_;exact J.goto [0,2,1,4,3,5] (hj (gn,go,gm,ge,bq 0)) ⟨rfl,rfl,trivial⟩ rfl rfl
    ·skip
     refine J.alts ?_ ?_
     ·skip
      refine J.mk 3 λgm=>?_;refine J.qn 1 λ_=>?_;refine J.alts ?_ ?_
      ·skip
       refine J.mk 4 λgn=>?_;refine J.qn 1 λ_=>?_;refine J.mk 5 λge=>?_;refine J.qn 4 λbq=>?_;exact J.goto [0,3,1,2,4,5] (hj (gn,go,gm,ge,bq 0)) ⟨rfl,rfl,trivial⟩ rfl rfl
      ·skip
       refine J.mk 4 λge=>?_;refine J.qn 1 λ_=>?_;refine J.mk 5 λgn=>?_;refine J.qn 4 λbq=>?_;exact J.goto [0,4,1,2,3,5] (hj (gn,go,gm,ge,bq 0)) ⟨rfl,rfl,trivial⟩ rfl rfl
     ·skip
      refine J.mk 3 λge=>?_;refine J.qn 1 λ_=>?_;refine J.alts ?_ ?_
      ·skip
       refine J.mk 4 λgn=>?_;refine J.qn 1 λ_=>?_;refine J.mk 5 λgm=>?_;refine J.qn 4 λbq=>?_;exact J.goto [0,3,1,4,2,5] (hj (gn,go,gm,ge,bq 0)) ⟨rfl,rfl,trivial⟩ rfl rfl
      ·skip
       refine J.mk 4 λgm=>?_;refine J.qn 1 λ_=>?_;refine J.mk 5 λgn=>?_;refine J.qn 4 λbq=>?_;exact J.goto [0,4,1,3,2,5] (hj (gn,go,gm,ge,bq 0)) ⟨rfl,rfl,trivial⟩ rfl rfl
   ·skip
    refine J.alts ?_ ?_
    ·skip
     refine J.mk 2 λgm=>?_;refine J.qn 1 λ_=>?_;refine J.alts ?_ ?_
     ·skip
      refine J.mk 3 λgn=>?_;refine J.qn 1 λ_=>?_;refine J.alts ?_ ?_
      ·skip
       refine J.mk 4 λgo=>?_;refine J.qn 1 λ_=>?_;refine J.mk 5 λge=>?_;refine J.qn 4 λbq=>?_;exact J.goto [0,2,3,1,4,5] (hj (gn,go,gm,ge,bq 0)) ⟨rfl,rfl,trivial⟩ rfl rfl
      ·skip
       refine J.mk 4 λge=>?_;refine J.qn 1 λ_=>?_;refine J.mk 5 λgo=>?_;refine J.qn 4 λbq=>?_;exact J.goto [0,2,4,1,3,5] (hj (gn,go,gm,ge,bq 0)) ⟨rfl,rfl,trivial⟩ rfl rfl
     ·skip
      refine J.alts ?_ ?_
      ·skip
       refine J.mk 3 λgo=>?_;refine J.qn 1 λ_=>?_;refine J.alts ?_ ?_
       ·skip
        refine J.mk 4 λgn=>?_;refine J.qn 1 λ_=>?_;refine J.mk 5 λge=>?_;refine J.qn 4 λbq=>?_;exact J.goto [0,3,2,1,4,5] (hj (gn,go,gm,ge,bq 0)) ⟨rfl,rfl,trivial⟩ rfl rfl
       ·skip
        refine J.mk 4 λge=>?_;refine J.qn 1 λ_=>?_;refine J.mk 5 λgn=>?_;refine J.qn 4 λbq=>?_;exact J.goto [0,4,2,1,3,5] (hj (gn,go,gm,ge,bq 0)) ⟨rfl,rfl,trivial⟩ rfl rfl
      ·skip
       refine J.mk 3 λge=>?_;refine J.qn 1 λ_=>?_;refine J.alts ?_ ?_
       ·skip
        refine J.mk 4 λgn=>?_;refine J.qn 1 λ_=>?_;refine J.mk 5 λgo=>?_;refine J.qn 4 λbq=>?_;exact J.goto [0,3,4,1,2,5] (hj (gn,go,gm,ge,bq 0)) ⟨rfl,rfl,trivial⟩ rfl rfl
       ·skip
        refine J.mk 4 λgo=>?_;refine J.qn 1 λ_=>?_;refine J.mk 5 λgn=>?_;refine J.qn 4 λbq=>?_;exact J.goto [0,4,3,1,2,5] (hj (gn,go,gm,ge,bq 0)) ⟨rfl,rfl,trivial⟩ rfl rfl
    ·skip
     refine J.mk 2 λge=>?_;refine J.qn 1 λ_=>?_;refine J.alts ?_ ?_
     ·skip
      refine J.mk 3 λgn=>?_;refine J.qn 1 λ_=>?_;refine J.alts ?_ ?_
      ·skip
       refine J.mk 4 λgo=>?_;refine J.qn 1 λ_=>?_;refine J.mk 5 λgm=>?_;refine J.qn 4 λbq=>?_;exact J.goto [0,2,3,4,1,5] (hj (gn,go,gm,ge,bq 0)) ⟨rfl,rfl,trivial⟩ rfl rfl
      ·skip
       refine J.mk 4 λgm=>?_;refine J.qn 1 λ_=>?_;refine J.mk 5 λgo=>?_;refine J.qn 4 λbq=>?_;exact J.goto [0,2,4,3,1,5] (hj (gn,go,gm,ge,bq 0)) ⟨rfl,rfl,trivial⟩ rfl rfl
     ·skip
      refine J.alts ?_ ?_
      ·skip
       refine J.mk 3 λgo=>?_;refine J.qn 1 λ_=>?_;refine J.alts ?_ ?_
       ·skip
        refine J.mk 4 λgn=>?_;refine J.qn 1 λ_=>?_;refine J.mk 5 λgm=>?_;refine J.qn 4 λbq=>?_;exact J.goto [0,3,2,4,1,5] (hj (gn,go,gm,ge,bq 0)) ⟨rfl,rfl,trivial⟩ rfl rfl
       ·skip
        refine J.mk 4 λgm=>?_;refine J.qn 1 λ_=>?_;refine J.mk 5 λgn=>?_;refine J.qn 4 λbq=>?_;exact J.goto [0,4,2,3,1,5] (hj (gn,go,gm,ge,bq 0)) ⟨rfl,rfl,trivial⟩ rfl rfl
      ·skip
       refine J.mk 3 λgm=>?_;refine J.qn 1 λ_=>?_;refine J.alts ?_ ?_
       ·skip
        refine J.mk 4 λgn=>?_;refine J.qn 1 λ_=>?_;refine J.mk 5 λgo=>?_;refine J.qn 4 λbq=>?_;exact J.goto [0,3,4,2,1,5] (hj (gn,go,gm,ge,bq 0)) ⟨rfl,rfl,trivial⟩ rfl rfl
       ·skip
        refine J.mk 4 λgo=>?_;refine J.qn 1 λ_=>?_;refine J.mk 5 λgn=>?_;refine J.qn 4 λbq=>?_;exact J.goto [0,4,3,2,1,5] (hj (gn,go,gm,ge,bq 0)) ⟨rfl,rfl,trivial⟩ rfl rfl
 obtain⟨gn,go,gm,ge,bq⟩:=x;dsimp only;rw[show(List.replicate m [Value.int .u8 0,Value.int .u8 0,Value.int .u8 0,Value.int .u8 0,Value.int .u8 0,Value.int .u8 0,Value.int .u8 0,Value.int .u8 0,Value.int .u8 0,Value.int .u8 0,Value.int .u8 0,Value.int .u8 0,Value.int .u8 0,Value.int .u8 0,Value.int .u8 0,Value.int .u8 0]).flatten=J5 (List.replicate m MSl.none0)from by unfold J5;rw[List.flatMap_def,List.map_replicate];rfl,show(List.replicate m [Value.bool false]).flatten=opC (List.replicate m MSl.none0)from by unfold opC;rw[List.map_replicate,a7b];rfl];rw[show(List.replicate m [Value.slice none 0 0]).flatten=E6 (List.replicate m MSl.none0)from by unfold E6;rw[List.map_replicate,a7b];rfl];refine J.turn1 [] rfl (As:=[.hp (HP.of ((List.replicate m MSl.none0).map MSl.m1)), .hp (HP.of ((List.replicate m MSl.none0).map MSl.m2))]) (λh s=>MSl.hps m h) rfl ?_;refine J.q λ_=>?_;refine J.lo (α:=(Nat×List MSl)) (λz=>z.1<=m/\z.2.length=m/\z.2.map (·.v)=List.replicate z.1 Mv.page0++List.replicate (m-z.1) MSl.none0.v) (λz=>[si 5 z.1,⟨4,pp bq,6, .tt⟩,si 3 m]) [1,2,3,4,6,7] (λz=>[.pt gn 31 (J5 z.2), .pt go 4 (opC z.2), .pt gm 56 (E6 z.2), .pt ge 56 (C4 z.2), .hp (HP.of (z.2.map MSl.m1)), .hp (HP.of (z.2.map MSl.m2))]) (λz=>m-z.1) ((0,List.replicate m MSl.none0)) (⟨Nat.zero_le _,List.length_replicate,by simp⟩) rfl ?_ (λ_=>rfl) λz hI=>?_
 ·dsimp only;rw[show C4 (List.replicate m MSl.none0)=E6 (List.replicate m MSl.none0)from by unfold C4 E6;rw[List.map_replicate,List.map_replicate];rfl];rfl
 obtain⟨k,Z⟩:=z;dsimp only at hI ⊢;obtain⟨hk,hZl,hZ⟩:=hI;refine J.qd (λ_ h1=>?_) λ_ h1=>?_
 ·simp only[decide_eq_true_eq,Int.ofNat_lt]at h1;obtain⟨z,hz⟩:∃z,Z[k]? =some z:=⟨_,List.getElem?_eq_getElem (by omega)⟩;refine J.openAt 6 k rfl rfl (by rw[List.getElem?_map,hz];rfl) rfl ?_;refine J.openAt 7 k rfl rfl (by rw[List.getElem?_map,hz];rfl) rfl ?_;refine J.pn 12 (.take true 0 (.take true 1 (.take true 2 (.take false 3 (.take true 4 (.take true 5 (.take true 6 (.take true 7 (.take false 8 (.take true 9 (.take true 10 (.take true 12 (.alt false 11 ((.take true 14 (.alt false 13 ((.of [62,64,71])) (.alt false 15 ((.of [54,64,71])) .non)))) (.alt false 13 ((.of [46,56,62,64,71])) .non)))))))))))))) [16,17] [5] λ_ _=>?_;refine J.join (α:=Nat×Nat) (λ_=>[si 5 k,⟨4,pp bq,6, .tt⟩,si 3 m]) (λx=>[.hp F, .pt gn 31 (J5 Z), .pt go 4 (opC Z), .pt gm 56 (E6 (Z.set k ⟨⟨z.v.now,z.v.op,[Mv.z16],z.v.ever⟩,some x.1,1,z.a2,z.c2⟩)), .pt ge 56 (C4 (Z.set k ⟨⟨z.v.now,z.v.op,[Mv.z16],[Mv.z16]⟩,some x.1,1,some x.2,1⟩)), .pt bq 98 [.slice (some ⟨gn,0,none⟩) m m, .slice (some ⟨go,0,none⟩) m m, .slice (some ⟨gm,0,none⟩) m m, .slice (some ⟨ge,0,none⟩) m m], .hp (HP.of ((Z.map MSl.m1).set k .emp)), .hp (HP.of ((Z.map MSl.m2).set k .emp)),c9 31 16 (some x.1) 1 1 (j5 [Mv.z16]),c9 31 16 (some x.2) 1 1 (j5 [Mv.z16])]) (λhj=>?_) (λx=>?_)
  ·refine J.alts ?_ ?_
   ·skip
    refine J.qn 1 λba=>?_;refine J.cO 31 16 1 1 (j5 [Mv.z16]) 10 ?_;refine J.qn 1 λ_=>?_;refine J.alts ?_ ?_
    ·skip
     refine J.qn 1 λbb=>?_;refine J.cO 31 16 1 1 (j5 [Mv.z16]) 11 ?_;refine J.s1 3 (E6 (Z.set k ⟨⟨z.v.now,z.v.op,[Mv.z16],z.v.ever⟩,some (ba 0),1,z.a2,z.c2⟩)) ?_ ?_ ?_
     ·rw[H6];omega
     ·rw[show 0+(k:Int).toNat*1=k from by omega,<- H5];rfl
     refine J.qn 1 λ_=>?_;refine J.s1 4 (C4 (Z.set k ⟨⟨z.v.now,z.v.op,[Mv.z16],[Mv.z16]⟩,some (ba 0),1,some (bb 0),1⟩)) ?_ ?_ ?_
     ·rw[O9];omega
     ·rw[show 0+(k:Int).toNat*1=k from by omega,<- O8];rfl
     exact J.goto [0,1,2,3,4,5,6,7,10,11] (hj ((ba 0),(bb 0))) ⟨rfl,rfl,rfl,trivial⟩ rfl rfl
    ·skip
     refine J.s1 3 (E6 (Z.set k ⟨⟨z.v.now,z.v.op,[Mv.z16],z.v.ever⟩,some (ba 0),1,z.a2,z.c2⟩)) ?_ ?_ ?_
     ·rw[H6];omega
     ·rw[show 0+(k:Int).toNat*1=k from by omega,<- H5];rfl
     refine J.qn 1 λbb=>?_;refine J.cO 31 16 1 1 (j5 [Mv.z16]) 11 ?_;refine J.qn 1 λ_=>?_;refine J.s1 4 (C4 (Z.set k ⟨⟨z.v.now,z.v.op,[Mv.z16],[Mv.z16]⟩,some (ba 0),1,some (bb 0),1⟩)) ?_ ?_ ?_
     ·rw[O9];omega
     ·rw[show 0+(k:Int).toNat*1=k from by omega,<- O8];rfl
     exact J.goto [0,1,2,3,4,5,6,7,10,11] (hj ((ba 0),(bb 0))) ⟨rfl,rfl,rfl,trivial⟩ rfl rfl
   ·skip
    refine J.qn 1 λbb=>?_;refine J.cO 31 16 1 1 (j5 [Mv.z16]) 10 ?_;refine J.qn 1 λba=>?_;refine J.cO 31 16 1 1 (j5 [Mv.z16]) 11 ?_;refine J.qn 1 λ_=>?_;refine J.s1 3 (E6 (Z.set k ⟨⟨z.v.now,z.v.op,[Mv.z16],z.v.ever⟩,some (ba 0),1,z.a2,z.c2⟩)) ?_ ?_ ?_
    ·rw[H6];omega
    ·rw[show 0+(k:Int).toNat*1=k from by omega,<- H5];rfl
    refine J.qn 1 λ_=>?_;refine J.s1 4 (C4 (Z.set k ⟨⟨z.v.now,z.v.op,[Mv.z16],[Mv.z16]⟩,some (ba 0),1,some (bb 0),1⟩)) ?_ ?_ ?_
    ·rw[O9];omega
    ·rw[show 0+(k:Int).toNat*1=k from by omega,<- O8];rfl
    exact J.goto [0,1,2,3,4,5,6,7,11,10] (hj ((ba 0),(bb 0))) ⟨rfl,rfl,rfl,trivial⟩ rfl rfl
  obtain⟨ga,gb⟩:=x;dsimp only;obtain⟨y,hy⟩:∃y:MSl,y=⟨⟨z.v.now,z.v.op,[Mv.z16],[Mv.z16]⟩,some ga,1,some gb,1⟩:=⟨_,rfl⟩;rw[<- hy,show E6 (Z.set k ⟨⟨z.v.now,z.v.op,[Mv.z16],z.v.ever⟩,some ga,1,z.a2,z.c2⟩)=E6 (Z.set k y)from by rw[hy];unfold E6;rw[List.map_set,List.map_set],show J5 Z=J5 (Z.set k y)from(a5u (λz=>j3 z.v.now) hz (by rw[hy])).symm,show opC Z=opC (Z.set k y)from(Z8 (λz=>Value.bool z.v.op) hz (by rw[hy])).symm,show c9 31 16 (some ga) 1 1 (j5 [Mv.z16])=y.m1 from by rw[hy];rfl,show c9 31 16 (some gb) 1 1 (j5 [Mv.z16])=y.m2 from by rw[hy];rfl];refine J.closeAt (A:=y.m1) 6 8 k rfl rfl rfl ?_;refine J.closeAt (A:=y.m2) 7 9 k rfl rfl rfl ?_;rw[<- List.map_set,<- List.map_set];have hzv:z.v=MSl.none0.v:=by
   have h2:(Z.map (·.v))[k]? =some z.v:=by rw[List.getElem?_map,hz];rfl
   rw[hZ,List.getElem?_append_right (by simp),List.length_replicate,List.getElem?_replicate,if_pos (by omega)]at h2;injection h2 with h2;exact h2.symm
  have hyv:y.v=Mv.page0:=by rw[hy];show(⟨z.v.now,z.v.op,[Mv.z16],[Mv.z16]⟩:MPv)=_;rw[hzv];rfl
  have hZ2:(Z.set k y).map (·.v)=List.replicate (k+1) Mv.page0++List.replicate (m-(k+1)) MSl.none0.v:=by
   rw[List.map_set,hZ,hyv,show m-k=(m-(k+1))+1 from by omega,List.replicate_succ (n:=m-(k+1)),List.set_append_right _ _ (by simp),List.length_replicate,Nat.sub_self,List.set_cons_zero,List.replicate_succ' (n:=k),List.append_assoc];rfl
  refine J.q λ_=>?_;refine J.n ((k+1,Z.set k y)) (⟨by dsimp only;omega,by dsimp only;rw[List.length_set];exact hZl,hZ2⟩) (by dsimp only;omega) [0,1,2,3,4,5,6,7]
 simp only[decide_eq_false_iff_not,Int.ofNat_lt]at h1;obtain rfl:k=m:=by omega
 refine J.qr [5,1,2,3,4,6,7] λ_=>?_;refine⟨⟨bq,gn,go,gm,ge⟩,Z,rfl,?_,?_⟩
 ·rw[<- hZl];rfl
 ·rw[hZ,Nat.sub_self];unfold Mv.new;rw[hm];simp
theorem b1h (R:RAd) (Z:List MSl) (hn:Z.length<=65536):FP 22 [pp R.q] (X4 R Z) (λv As=>∃Z',v= .tuple #[]/\As=X4 R Z'/\Z'.map (·.v)=Mv.flush (Z.map (·.v))):=by
 refine FE [2] Tryz.func22 λX F hX=>?_;refine J.q λ_=>?_;refine J.l (α:=(Nat×List MSl)) (λz=>z.1<=Z.length/\z.2.length=Z.length/\z.2.map (·.v)=((Z.map (·.v)).take z.1).map Mv.fl1++(Z.map (·.v)).drop z.1) (λz=>[si 2 z.1,⟨0,pp R.q,2, .tt⟩]) [2,3,4,5,6,7] (λz=>[.pt R.n 31 (J5 z.2), .pt R.o 4 (opC z.2), .pt R.m 56 (E6 z.2), .pt R.e 56 (C4 z.2), .hp (HP.of (z.2.map MSl.m1)), .hp (HP.of (z.2.map MSl.m2))]) (λz=>Z.length-z.1) ((0,Z)) (⟨Nat.zero_le _,rfl,rfl⟩) λz hI=>?_;obtain⟨k,Y⟩:=z;dsimp only at hI ⊢;obtain⟨hk,hYl,hY⟩:=hI;refine J.qd (λ_ h1=>?_) λ_ h1=>?_
 ·simp only[decide_eq_true_eq,Int.ofNat_lt]at h1;obtain⟨z,hz⟩:∃z,Y[k]? =some z:=⟨_,List.getElem?_eq_getElem (by omega)⟩;have hupd:∀y:MSl,y.v=Mv.fl1 z.v->(Y.set k y).map (·.v)=((Z.map (·.v)).take (k+1)).map Mv.fl1++(Z.map (·.v)).drop (k+1):=λy hy=>by
   rw[List.map_set,hy];exact a2S hY (by simpa using h1) (by rw[List.getElem?_map,hz];rfl)
  refine J.qn 11 λ_=>?_;refine J.v (.bool z.v.op) rfl rfl (λhg aa w he hw=>i4 tk rfl rfl he rfl rfl rfl (hw.get (i:=3) rfl) (by rw[show 0+(k:Int).toNat*1=k from by omega];exact a8t hz)) ?_;refine J.qd (λ_ h2=>?_) λ_ h2=>?_
  ·have ho:z.v.op=false:=by simpa using h2
   refine J.openAt 6 k rfl rfl (by rw[List.getElem?_map,hz];rfl) rfl ?_;refine J.pn 11 (.of [0,4,8,13,16,20,24,28,33,36,40,45,50,52,59]) [13,14] [1,2] λ_ _=>?_;refine J.vT (a0g z.v.now) rfl rfl (λhg aa w he hC=>j7 tk rfl rfl he rfl rfl rfl (hC rfl _ (g7 (i:=2) rfl)) (by rw[show 0+(k:Int).toNat*16=k*16 from by omega];exact a9t hz) rfl) ?_;refine J.qn 1 λbb=>?_;refine J.cO 31 16 1 1 (j5 [z.v.now]) 9 ?_;refine J.qn 1 λ_=>?_;refine J.s1 4 (E6 (Y.set k ⟨⟨z.v.now,z.v.op,[z.v.now],z.v.ever⟩,some (bb 0),1,z.a2,z.c2⟩)) ?_ ?_ ?_
   ·rw[H6];omega
   ·rw[show 0+(k:Int).toNat*1=k from by omega,<- H5];rfl
   obtain⟨y,hy⟩:∃y:MSl,y=⟨⟨z.v.now,z.v.op,[z.v.now],z.v.ever⟩,some (bb 0),1,z.a2,z.c2⟩:=⟨_,rfl⟩;rw[<- hy,show c9 31 16 (some (bb 0)) 1 1 (j5 [z.v.now])=y.m1 from by rw[hy];rfl];refine J.closeAt (A:=y.m1) 6 9 k rfl rfl rfl ?_;rw[<- List.map_set,<- MSl.map_m2 (y:=y) hz (MSl.m2_of (by rw[hy]) (by rw[hy]) (by rw[hy])),show J5 Y=J5 (Y.set k y)from(a5u (λz=>j3 z.v.now) hz (by rw[hy])).symm,show opC Y=opC (Y.set k y)from(Z8 (λz=>Value.bool z.v.op) hz (by rw[hy])).symm,show C4 Y=C4 (Y.set k y)from(Z8 (λz=>slv z.a2 z.v.ever.length z.c2) hz (by rw[hy])).symm];refine J.q λ_=>?_;refine J.n ((k+1,Y.set k y)) (⟨by dsimp only;omega,by dsimp only;rw[List.length_set];exact hYl,hupd y (by rw[hy];unfold Mv.fl1;rw[ho];rfl)⟩) (by dsimp only;omega) [0,1,2,3,4,5,6,7]
  ·have ho:z.v.op=true:=by simpa using h2
   refine J.q λ_=>?_;refine J.n ((k+1,Y)) (⟨by dsimp only;omega,hYl,by have:=hupd z (by unfold Mv.fl1;rw[ho];rfl);rwa [P6 hz]at this⟩) (by dsimp only;omega) [0,1,2,3,4,5,6,7]
 simp only[decide_eq_false_iff_not,Int.ofNat_lt]at h1;obtain rfl:k=Z.length:=by omega
 refine J.q λ_=>?_;refine J.f [1,2,3,4,5,6,7] ?_;refine⟨Y,rfl,?_,?_⟩
 ·unfold X4;rw[hYl];rfl
 ·rw[hY,List.take_of_length_le (by simp),List.drop_eq_nil_of_le (by simp),List.append_nil];rfl
theorem b5C (R:RAd) (Z:List MSl) (hn:Z.length<=65536) (hf:∀z∈Z,z.Fine) (i:Int) (d:List UInt8) (hd:d.length=16):FP 56 [pp R.q,iI i,a0g d] (X4 R Z) (λv As=>∃Z',v= .bool (Mv.may (Z.map (·.v)) i d)/\As=X4 R Z'/\Z'.map (·.v)=Mv.saw (Z.map (·.v)) i d):=by
 refine FE [2,0,0] Tryz.func56 λX F hX=>?_;refine J.qp (a7M R Z hn hf i d hd) [1,2,3,4,5,6,7] λ_=>?_;refine J.qd (λ_ h1=>?_) λ_ h1=>?_
 ·have hm:Mv.may (Z.map (·.v)) i d=false:=by simpa using h1
  refine J.qr [1,2,3,4,5,6,7] λ_=>?_;exact⟨Z,by rw[hm],rfl,by unfold Mv.saw;rw[hm];rfl⟩
 have hm:Mv.may (Z.map (·.v)) i d=true:=by simpa using h1
 have hin:Mv.inR (Z.map (·.v)) i=true:=by
  unfold Mv.may at hm;exact(Bool.and_eq_true_iff.1 hm).1
 have hi:0<=i/\i<(Z.length:Int):=by
  unfold Mv.inR at hin;rw[List.length_map]at hin;simpa using hin
 obtain⟨k,rfl⟩:=Int.eq_ofNat_of_zero_le hi.1;obtain⟨z,hz⟩:∃z,Z[k]? =some z:=⟨_,List.getElem?_eq_getElem (by omega)⟩;have hpg:Mv.pg (Z.map (·.v)) (k:Int)=z.v:=by unfold Mv.pg;rw[Int.toNat_natCast,List.getD_eq_getElem?_getD,List.getElem?_map,hz];rfl
 have hsv:∀y:MSl,y.v=Mv.seen z.v d->(Z.set k y).map (·.v)=Mv.saw (Z.map (·.v)) (k:Int) d:=λy hy=>by
  unfold Mv.saw;rw[hm,if_pos rfl,hpg,List.map_set,Int.toNat_natCast,hy]
 refine J.qn 10 λ_=>?_;refine J.v (.bool z.v.op) rfl rfl (λhg aa w he hw=>i4 tk rfl rfl he rfl rfl rfl (hw.get (i:=3) rfl) (by rw[show 0+(k:Int).toNat*1=k from by omega];exact a8t hz)) ?_;refine J.qd (λ_ h2=>?_) λ_ h2=>?_
 ·refine J.openAt 6 k rfl rfl (by rw[List.getElem?_map,hz];rfl) rfl ?_;refine J.p (.take true 0 (.take true 1 (.take true 2 (.take false 3 (.take true 4 (.take true 5 (.take true 6 (.take true 7 (.take false 8 (.take true 9 (.take true 10 (.take true 11 (.take true 12 (.take false 13 (.take true 14 (.take false 15 (.take false 16 (.take true 18 (.alt false 17 ((.of [78,80,86,88,95])) (.alt false 19 ((.take true 20 (.alt false 17 ((.of [86,88,95])) (.alt false 21 ((.of [70,88,95])) .non)))) .non)))))))))))))))))))) [22,23] [1,8] λ_=>?_;have hst:=a7m hz ⟨⟨d,z.v.op,z.v.may,z.v.ever⟩,z.a1,z.c1,z.a2,z.c2⟩;refine J.qn 18 λ_=>?_;refine J.join (α:=Nat) (λ_=>[sv 6 (.bool false)]) (λx=>[.hp F, .pt R.q 98 [.slice (some ⟨R.n,0,none⟩) Z.length Z.length, .slice (some ⟨R.o,0,none⟩) Z.length Z.length, .slice (some ⟨R.m,0,none⟩) Z.length Z.length, .slice (some ⟨R.e,0,none⟩) Z.length Z.length], .pt R.n 31 (J5 (Z.set k ⟨⟨d,z.v.op,z.v.may,z.v.ever⟩,z.a1,z.c1,z.a2,z.c2⟩)), .pt R.o 4 (opC (Z.set k ⟨⟨d,false,z.v.may,z.v.ever⟩,z.a1,z.c1,z.a2,z.c2⟩)), .pt R.m 56 (E6 (Z.set k ⟨⟨d,false,[d],z.v.ever⟩,some x,1,z.a2,z.c2⟩)), .pt R.e 56 (C4 Z), .hp (HP.of ((Z.map MSl.m1).set k .emp)), .hp (HP.of (Z.map MSl.m2)),c9 31 16 (some x) 1 1 (j5 [d])]) (λhj=>?_) (λx=>?_)
  ·refine J.alts ?_ ?_
   ·skip
    refine J.qn 1 λbb=>?_;refine J.cO 31 16 1 1 (j5 [d]) 10 ?_;refine J.sN (j3 d) 2 (J5 (Z.set k ⟨⟨d,z.v.op,z.v.may,z.v.ever⟩,z.a1,z.c1,z.a2,z.c2⟩)) ?_ ?_ ?_
    ·rw[a3z];show 0+(k:Int).toNat*16+16<=_;omega
    ·rw[show 0+(k:Int).toNat*16=k*16 from by omega];exact hst
    refine J.qn 1 λ_=>?_;refine J.s1 3 (opC (Z.set k ⟨⟨d,false,z.v.may,z.v.ever⟩,z.a1,z.c1,z.a2,z.c2⟩)) ?_ ?_ ?_
    ·rw[a2K];omega
    ·rw[show 0+(k:Int).toNat*1=k from by omega,<- a2J]
    refine J.qn 1 λ_=>?_;refine J.s1 4 (E6 (Z.set k ⟨⟨d,false,[d],z.v.ever⟩,some (bb 0),1,z.a2,z.c2⟩)) ?_ ?_ ?_
    ·rw[H6];omega
    ·rw[show 0+(k:Int).toNat*1=k from by omega,<- H5];rfl
    exact J.goto [0,1,2,3,4,5,6,7,10] (hj (bb 0)) ⟨rfl,trivial⟩ rfl rfl
   ·skip
    refine J.sN (j3 d) 2 (J5 (Z.set k ⟨⟨d,z.v.op,z.v.may,z.v.ever⟩,z.a1,z.c1,z.a2,z.c2⟩)) ?_ ?_ ?_
    ·rw[a3z];show 0+(k:Int).toNat*16+16<=_;omega
    ·rw[show 0+(k:Int).toNat*16=k*16 from by omega];exact hst
    refine J.qn 1 λ_=>?_;refine J.alts ?_ ?_
    ·skip
     refine J.qn 1 λbb=>?_;refine J.cO 31 16 1 1 (j5 [d]) 10 ?_;refine J.s1 3 (opC (Z.set k ⟨⟨d,false,z.v.may,z.v.ever⟩,z.a1,z.c1,z.a2,z.c2⟩)) ?_ ?_ ?_
     ·rw[a2K];omega
     ·rw[show 0+(k:Int).toNat*1=k from by omega,<- a2J]
     refine J.qn 1 λ_=>?_;refine J.s1 4 (E6 (Z.set k ⟨⟨d,false,[d],z.v.ever⟩,some (bb 0),1,z.a2,z.c2⟩)) ?_ ?_ ?_
     ·rw[H6];omega
     ·rw[show 0+(k:Int).toNat*1=k from by omega,<- H5];rfl
     exact J.goto [0,1,2,3,4,5,6,7,10] (hj (bb 0)) ⟨rfl,trivial⟩ rfl rfl
    ·skip
     refine J.s1 3 (opC (Z.set k ⟨⟨d,false,z.v.may,z.v.ever⟩,z.a1,z.c1,z.a2,z.c2⟩)) ?_ ?_ ?_
     ·rw[a2K];omega
     ·rw[show 0+(k:Int).toNat*1=k from by omega,<- a2J]
     refine J.qn 1 λbb=>?_;refine J.cO 31 16 1 1 (j5 [d]) 10 ?_;refine J.qn 1 λ_=>?_;refine J.s1 4 (E6 (Z.set k ⟨⟨d,false,[d],z.v.ever⟩,some (bb 0),1,z.a2,z.c2⟩)) ?_ ?_ ?_
     ·rw[H6];omega
     ·rw[show 0+(k:Int).toNat*1=k from by omega,<- H5];rfl
     exact J.goto [0,1,2,3,4,5,6,7,10] (hj (bb 0)) ⟨rfl,trivial⟩ rfl rfl
  obtain⟨y,hy⟩:∃y:MSl,y=⟨⟨d,false,[d],z.v.ever⟩,some x,1,z.a2,z.c2⟩:=⟨_,rfl⟩;rw[show J5 (Z.set k ⟨⟨d,z.v.op,z.v.may,z.v.ever⟩,z.a1,z.c1,z.a2,z.c2⟩)=J5 (Z.set k y)from by rw[hy];unfold J5;rw[List.flatMap_def,List.flatMap_def,List.map_set,List.map_set],show opC (Z.set k ⟨⟨d,false,z.v.may,z.v.ever⟩,z.a1,z.c1,z.a2,z.c2⟩)=opC (Z.set k y)from by rw[hy];unfold opC;rw[List.map_set,List.map_set],<- hy,show C4 Z=C4 (Z.set k y)from(Z8 (λz=>slv z.a2 z.v.ever.length z.c2) hz (by rw[hy])).symm,show c9 31 16 (some x) 1 1 (j5 [d])=y.m1 from by rw[hy];rfl];refine J.closeAt (A:=y.m1) 6 8 k rfl rfl rfl ?_;rw[<- List.map_set,<- MSl.map_m2 (y:=y) hz (MSl.m2_of (by rw[hy]) (by rw[hy]) (by rw[hy]))];refine J.qr [1,2,3,4,5,6,7] λ_=>?_;exact⟨Z.set k y,by rw[hm],by unfold X4;rw[List.length_set];rfl,hsv y (by rw[hy];unfold Mv.seen;rw[h2];rfl)⟩
 ·refine J.qr [1,2,3,4,5,6,7] λ_=>?_;exact⟨Z,by rw[hm],rfl,by have:=hsv z (by unfold Mv.seen;rw[h2];rfl);rwa [P6 hz]at this⟩
end Go.Proofs.YtpohajhbfllbbaaGreat
