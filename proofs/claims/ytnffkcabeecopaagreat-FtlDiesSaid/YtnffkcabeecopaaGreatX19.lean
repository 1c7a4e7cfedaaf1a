/- Helpers. No condition. -/
import Derived.Test.YtnffkcabeecopaaGreatX00
import Derived.Test.YtnffkcabeecopaaGreatX04
import Derived.Test.YtnffkcabeecopaaGreatX10
import Derived.Test.YtnffkcabeecopaaGreatX11
import Derived.Test.YtnffkcabeecopaaGreatX12
import Derived.Test.YtnffkcabeecopaaGreatX14
import Derived.Test.YtnffkcabeecopaaGreatX17
import Derived.Test.YtnffkcabeecopaaGreatX18
set_option maxRecDepth 20000
set_option linter.all false
namespace Go.Proofs.YtnffkcabeecopaaGreat
open Go Go.RowKit
theorem a8E {R:RAd} {Z:List MSl} {n:Nat} (h:Z.length=n):a2U R Z=[.pt R.q 94 [.slice (some ⟨R.n,0,none⟩) n n, .slice (some ⟨R.o,0,none⟩) n n, .slice (some ⟨R.m,0,none⟩) n n, .slice (some ⟨R.e,0,none⟩) n n], .pt R.n 30 (a0T Z), .pt R.o 4 (opC Z), .pt R.m 86 (a0i Z), .pt R.e 86 (X2 Z), .hp (HP.of (Z.map MSl.m1)), .hp (HP.of (Z.map MSl.m2))]:=by subst h;rfl
set_option maxHeartbeats 1000000 in
theorem b0a (U:WAd) (W:Wa) (Zl:List MSl) (hA:U.A.Ok W.P) (Z Z2:Fv) (hZ:W.P.Z=some Z) (k m:Nat) (hO:Z.Ok (Fv.cW*200+(Dv.costS+(Dv.costK+(1+k)))) m) (hm:m+(Q8 Z.S.N.ops W.P.L).length<=1000) (hL:W.P.L.length<=1000) (hlg:W.P.log.length<=1000) (s0:Stp) (hs:s0.data.length=16) (hst:W.stuck=false) (hla:0<=W.late/\W.late<=1000000) (hoff:Z.S.N.off=false) (hZ2:(W.P.step (W.ask s0)).1.Z=some Z2) (hoff2:Z2.S.N.off=false) (hmt:s0.fn=7->(W.P.step (W.ask s0)).2.err=0) (htd:(W.P.step (W.ask s0)).2.data.length=16) (hM:Zl.map (·.v)=W.M) (hf:∀z∈Zl,z.Fine) (hn:Zl.length<=65536):
  FP 13 [pp U.w,stV s0] (b2t U W Zl) (λv As=>∃(A':Pad) (Zl':List MSl),v= .tuple #[]/\A'.Ok (W.step s0).P/\Zl'.map (·.v)=(W.step s0).M/\As=b2t {U with A:=A'} (W.step s0) Zl'):=by
 obtain⟨s,hs1⟩:∃s,W.ask s0=s:=⟨_,rfl⟩;rw[hs1]at hZ2 hmt htd;have hsd:s.data.length=16:=by rw[<- hs1];unfold Wa.ask;split<;>exact hs
 have hf1:s.fn=s0.fn:=by rw[<- hs1];exact Wa.ask_fn W s0
 have hmt:s.fn=7->(W.P.step s).2.err=0:=λe=>hmt (by rw[<- hf1];exact e);have hstep:W.step s0=(W.noted s0).step1 s:=by rw[<- hs1];exact Wa.step_eq hst
 obtain⟨late,hl1⟩:∃x,(W.noted s0).late=x:=⟨_,rfl⟩;have hnoted:W.noted s0={W with late:=late}:=by rw[<- hl1];unfold Wa.noted;split<;>rfl
 rw[hstep,hnoted];have hA8:s0.fn=8->s={s0 with f:={s0.f with x:=W.die}}/\late=W.late+1:=λh8=>⟨by rw[<- hs1];unfold Wa.ask;rw[f0 h8],by rw[<- hl1];unfold Wa.noted;rw[f0 h8]⟩;have hB8:s0.fn≠8->s=s0/\late=W.late:=λh8=>⟨by rw[<- hs1];unfold Wa.ask;rw[d8 h8],by rw[<- hl1];unfold Wa.noted;rw[d8 h8]⟩;clear hs1 hl1 hstep hnoted;have hon:W.on=true:=by unfold Wa.on Pv.nd;rw[hZ];simp[hoff]
 have hnd:(W.P.step s).1.nd=Z2.S.N:=by unfold Pv.nd;rw[hZ2]
 have hoff3:(W.P.step s).1.nd.off=false:=by rw[hnd];exact hoff2
 have hps:=a6U U.q U.nn U.A W.P hA Z hZ k m hO hm hL hlg s hsd;rw[W9 U.q U.nn U.A W.P Z hZ]at hps;have hW0:b2t U W Zl=[b5J U W,b5I U W]++a2U U.R Zl++([PlQ U.q U.nn (some Z) U.A.f (pp U.A.fp) (slv U.A.a2 W.P.log.length U.A.c2), .pt U.A.fp 176 [.slice (Q5 U.A.a) W.P.L.length U.A.c],rdA (Q5 U.A.a) 7 W.P.L.length (x9 W.P.L),n7 50 17 U.A.a2 W.P.log.length U.A.c2 (T3 W.P.log)]++FvP U.A.f U.A.p U.nn U.A.t U.A.l U.A.d Z):=by
  unfold b2t;rw[W9 U.q U.nn U.A W.P Z hZ];rfl
 obtain⟨w,q,nn,A,R,fa,fc⟩:=U;obtain⟨P,M,die,wrong,full,stuck,fs,since,late0⟩:=W;dsimp only at*;subst hst;rw[hW0];unfold b5J b5I;dsimp only;refine FE [2,0] Tryz.func13 λX F hX=>?_;refine J.q λbz=>?_;refine J.cF ?_;refine J.q λ_=>?_;refine J.join (α:=Unit) (λ_=>[⟨3,pp (bz 0),21, .tt⟩,⟨0,pp w,2, .tt⟩]) (λ_=> .hp F::(a3Y ⟨w,q,nn,A,R,fa,fc⟩ ⟨P,M,die,wrong,full,false,fs,since,late⟩ Zl Z++[.pt (bz 0) 36 (stC s)])) (λhj=>?_) (λ_=>?_)
 ·refine J.qd (λ_ h8=>?_) λ_ h8=>?_
  ·obtain⟨rfl,rfl⟩:=hA8 (beq_iff_eq.1 h8);refine J.qn 21 λ_=>?_;exact J.goto [0,1,2,3,4,5,6,7,8,9,10,11,12,13,14,15,16,17,18,19,20] (hj ()) ⟨rfl,rfl,trivial⟩ rfl rfl
  ·obtain⟨rfl,rfl⟩:=hB8 (beq_eq_false_iff_ne.1 h8);refine J.qn 1 λ_=>?_;exact J.goto [0,1,2,3,4,5,6,7,8,9,10,11,12,13,14,15,16,17,18,19,20] (hj ()) ⟨rfl,rfl,trivial⟩ rfl rfl
 unfold a3Y;dsimp only;clear hA8 hB8 hf1 hs;have hs:=hsd;refine J.qd (λ_ hk=>?_) λ_ hk=>?_
 ·have hsk:Wa.skip s=true:=hk;refine J.qr [1,2,3,4,5,6,7,8,9,10,11,12,13,14,15,16,17,18,19] λ_=>?_;rw[Wa.step_skip hsk];exact⟨A,Zl,rfl,hA,hM,by rw[a0l (Z:=Z) hZ];rfl⟩
 have hsk:Wa.skip s=false:=hk;have hse:=λh7=>Wa.step_else (W:=⟨P,M,die,wrong,full,false,fs,since,late⟩) (s:=s) rfl h7 hsk hon hoff3;have hsm:=λh7=>Wa.step_mount (W:=⟨P,M,die,wrong,full,false,fs,since,late⟩) (s:=s) rfl h7 hsk (hmt h7);obtain⟨P2,td,hPt⟩:∃P2 td,P.step s=(P2,td):=⟨_,_,rfl⟩;dsimp only at hse hsm;rw[hPt]at hps hZ2 hmt htd hoff3 hnd hse hsm;dsimp only at hps hZ2 hmt htd hoff3 hnd hse hsm;refine J.qc (a4f q nn (flP (some Z) A.f) (pp A.fp) (slv A.a2 P.log.length A.c2)) [10] λ_=>?_;rintro _ As ⟨rfl,rfl⟩;refine⟨_,rfl,trivial,?_⟩;refine J.qc (a2m nn Z.S.N) [16] λ_=>?_;rintro _ As ⟨rfl,rfl⟩;refine⟨_,rfl,trivial,?_⟩;rw[hoff];refine J.qc (a3b q nn (some Z) A.f (pp A.fp) (slv A.a2 P.log.length A.c2)) [10] λ_=>?_;rintro _ As ⟨rfl,rfl⟩;refine⟨_,rfl,trivial,?_⟩;refine J.pn 5 (.take true 0 (.take true 1 (.take true 2 (.take false 3 (.take false 4 (.alt false 5 ((.of [26,31])) (.alt false 6 ((.of [22,31])) .non))))))) [7] [1,20] λ_ _=>?_;refine J.join (α:={A':Pad//A'.Ok P2}×Nat) (λx=>[⟨5,pp x.2,22, .tt⟩,sv 4 (.bool true),⟨3,pp (bz 0),21, .tt⟩,⟨0,pp w,2, .tt⟩]) (λx=> .hp F::(a3Y ⟨w,q,nn,x.1.1,R,fa,fc⟩ ⟨P2,M,die,wrong,full,false,fs,since,late⟩ Zl Z2++[.pt (bz 0) 36 (stC s), .pt x.2 50 (tdC td)])) (λhj=>?_) (λx=>?_)
 ·refine J.alts ?_ ?_
  ·skip
   refine J.qc (hps) [10,11,12,13,14,15,16,17,18,19] λ_=>?_;rintro _ As ⟨A',rfl,hA',rfl⟩;rw[W9 q nn A' P2 Z2 hZ2];refine⟨_,rfl,stq,?_⟩;refine J.qn 2 λbt=>?_;exact J.goto [0,1,2,3,4,5,6,7,8,9,10,11,12,13,14,15,16,17,18,19,20,21] (hj (⟨A',hA'⟩,bt 0)) ⟨rfl,rfl,rfl,rfl,trivial⟩ rfl rfl
  ·skip
   refine J.qn 1 λbt=>?_;refine J.qc (hps) [10,11,12,13,14,15,16,17,18,19] λ_=>?_;rintro _ As ⟨A',rfl,hA',rfl⟩;rw[W9 q nn A' P2 Z2 hZ2];refine⟨_,rfl,stq,?_⟩;refine J.qn 1 λ_=>?_;exact J.goto [0,1,2,3,4,5,6,7,8,9,10,11,12,13,14,15,16,17,18,19,20,21] (hj (⟨A',hA'⟩,bt 0)) ⟨rfl,rfl,rfl,rfl,trivial⟩ rfl rfl
 obtain⟨⟨A',hA'⟩,bt⟩:=x;unfold a3Y;dsimp only;refine J.qc (a4f q nn (flP (some Z2) A'.f) (pp A'.fp) (slv A'.a2 P2.log.length A'.c2)) [10] λ_=>?_;rintro _ As ⟨rfl,rfl⟩;refine⟨_,rfl,trivial,?_⟩;refine J.qc (a2m nn Z2.S.N) [16] λ_=>?_;rintro _ As ⟨rfl,rfl⟩;refine⟨_,rfl,trivial,?_⟩;rw[hoff2];obtain⟨e,dt⟩:=td;dsimp only at htd hmt hse hsm;refine J.qn 9 λ_=>?_;refine J.join (α:={x:List MSl×Bool//x.1.map (·.v)=(Wa.hold ⟨P,M,die,wrong,full,false,fs,since,late⟩ s ⟨e,dt⟩).1/\x.2=(Wa.hold ⟨P,M,die,wrong,full,false,fs,since,late⟩ s ⟨e,dt⟩).2}) (λx=>[sv 6 (.bool false),⟨5,pp bt,22, .tt⟩,sv 4 (.bool true),⟨3,pp (bz 0),21, .tt⟩,⟨0,pp w,2, .tt⟩]) (λx=> .hp F::(a3Y ⟨w,q,nn,A',R,fa,fc⟩ ⟨P2,M,die,x.1.2||wrong,full,false,fs,since,late⟩ x.1.1 Z2++[.pt (bz 0) 36 (stC s), .pt bt 50 (tdC ⟨e,dt⟩)])) (λhj=>?_) (λx=>?_)
 ·refine J.qd (λ_ f1=>?_) λ_ f1=>?_
  ·have f1:s.fn=1:=beq_iff_eq.1 f1
   by_cases e0:e=0
   ·subst e0;have hh:=Wa.hold1_0 (W:=⟨P,M,die,wrong,full,false,fs,since,late⟩) (t:=⟨0,dt⟩) f1 rfl;refine J.p (.of [0,5,8,12,16,20,24,29,32,37,40,45,50,52,56,60,64,69,72,76,80,84,89,92,96,100,104,109,112,116,120,125,128,132,136,140,145,148,152,156,161,164,168,173,176,180,184,188]) [] [1,3,20,21] λ_=>?_;refine J.qc (b3Y R Zl hn hf s.lpn dt htd) [3,4,5,6,7,8,9] λ_=>?_;rintro _ As ⟨Zl',rfl,rfl,hZl'⟩;have hzl:Zl'.length=Zl.length:=by have:=congrArg List.length hZl';rw[Mv.saw_len]at this;simpa using this
    rw[a8E hzl];refine⟨_,rfl,stq,?_⟩;rw[hM]at hZl' ⊢;refine J.q λ_=>?_;refine J.vT (.slice (some ⟨R.n,0,none⟩) Zl.length Zl.length) rfl rfl (λhg aa w he hC=>A9 tk rfl rfl he hg rfl rfl (hC rfl _ (B3 (i:=3) rfl)) rfl) ?_;refine J.q λ_=>?_;dsimp only;refine J.qd (λ_ hw=>?_) λ_ hw=>?_
    ·have hw:(!Mv.may M s.lpn dt)=true:=by simpa using hw
     refine J.qn 5 λ_=>?_;exact J.goto [0,1,2,3,4,5,6,7,8,9,10,11,12,13,14,15,16,17,18,19,20,21] (hj ⟨(Zl',true),by rw[hh];exact hZl',by rw[hh];exact hw.symm⟩) ⟨rfl,rfl,rfl,rfl,rfl,trivial⟩ rfl (by unfold a3Y;dsimp only;rw[a8E hzl];rfl)
    ·have hw:(!Mv.may M s.lpn dt)=false:=by simpa using hw
     refine J.qn 2 λ_=>?_;exact J.goto [0,1,2,3,4,5,6,7,8,9,10,11,12,13,14,15,16,17,18,19,20,21] (hj ⟨(Zl',false),by rw[hh];exact hZl',by rw[hh];exact hw.symm⟩) ⟨rfl,rfl,rfl,rfl,rfl,trivial⟩ rfl (by unfold a3Y;dsimp only;rw[a8E hzl];rfl)
   ·have hh:=Wa.hold1_e (W:=⟨P,M,die,wrong,full,false,fs,since,late⟩) (t:=⟨e,dt⟩) f1 e0;refine J.pn 3 (.of [0,5,8,12,16,20,24,29,32,37,40,45,50,52,56,60,64,69,72,76,80,84,89,92,96,100,104,109,112,116,120,125,128,132,136,140,145,148,152,156,161,164,168,173,176,180,184,188]) [] [1,3,20,21] λ_ _=>?_;dsimp only;rw[beq_eq_false_iff_ne.2 e0];refine J.q λ_=>?_;refine J.gcase hX rfl rfl rfl stq (λhb=>by simp at hb) (λhb=>?_);refine J.q λ_=>?_;refine J.vT (.bool true) rfl rfl (λhg aa w he hC=>by simp[G.on]at hg) ?_;refine J.r hX tk 400 (λ_=>rfl) (λ_=>?_) (λ_=>by(repeat' (first | exact Conj.nil | refine Conj.cons ?_ ?_ | exact rfl | assumption | (rw[g7];assumption) | exact Bool.and_eq_true_iff.2 ⟨by first | assumption | (rw[g7];assumption),by assumption⟩ | intro hq | (simp;done) | (simp;omega) | decide)));refine J.vT (.slice (some ⟨R.n,0,none⟩) Zl.length Zl.length) rfl rfl (λhg aa w he hC=>A9 tk rfl rfl he hg rfl rfl (hC rfl _ (B3 (i:=3) rfl)) rfl) ?_;refine J.r hX tk 400 (λ_=>rfl) (λ_=>?_) (λ_=>by(repeat' (first | exact Conj.nil | refine Conj.cons ?_ ?_ | exact rfl | assumption | (rw[g7];assumption) | exact Bool.and_eq_true_iff.2 ⟨by first | assumption | (rw[g7];assumption),by assumption⟩ | intro hq | (simp;done) | (simp;omega) | decide)));dsimp only;refine J.qd (λ_ hw=>?_) λ_ hw=>?_
    ·have hw:((decide (e=10)||decide (e=11))||(decide (e=3)&&decide (s.lpn>=0)&&decide (s.lpn<(M.length:Int))))=true:=by
      rw[<- hM,j7];simpa using hw
     refine J.qn 5 λ_=>?_;exact J.goto [0,1,2,3,4,5,6,7,8,9,10,11,12,13,14,15,16,17,18,19,20,21] (hj ⟨(Zl,true),by rw[hh];exact hM,by rw[hh];exact hw.symm⟩) ⟨rfl,rfl,rfl,rfl,rfl,trivial⟩ rfl rfl
    ·have hw:((decide (e=10)||decide (e=11))||(decide (e=3)&&decide (s.lpn>=0)&&decide (s.lpn<(M.length:Int))))=false:=by
      rw[<- hM,j7];simpa using hw
     refine J.qn 2 λ_=>?_;exact J.goto [0,1,2,3,4,5,6,7,8,9,10,11,12,13,14,15,16,17,18,19,20,21] (hj ⟨(Zl,false),by rw[hh];exact hM,by rw[hh];exact hw.symm⟩) ⟨rfl,rfl,rfl,rfl,rfl,trivial⟩ rfl rfl
  ·have f1:s.fn≠1:=beq_eq_false_iff_ne.1 f1;refine J.q λ_=>?_
   by_cases f2:s.fn=2
   ·rw[beq_iff_eq.2 f2];refine J.qT λ_=>?_;refine J.qT λ_=>?_;refine J.q λb7=>?_;rw[show(s.fn==3)=false from beq_eq_false_iff_ne.2 (by omega)];refine J.qF λ_=>?_;refine J.q λ_=>?_
    by_cases e0:e=0
    ·subst e0;have hh:=Wa.hold2_0 (W:=⟨P,M,die,wrong,full,false,fs,since,late⟩) (t:=⟨0,dt⟩) f2 rfl;refine J.plan (.of [0,5,8,12,16,20,24,29,32,37,41,46,48,52]) [] [1,20,21,22] (by rw[hX.hP];kernel_rfl) (by kernel_rfl) ?_;refine J.qc (a9M R Zl hn hf s.lpn s.data hs) [3,4,5,6,7,8,9] λ_=>?_;rintro _ As ⟨Zl',rfl,rfl,hZl'⟩;refine⟨_,rfl,stq,?_⟩;rw[hM]at hZl' ⊢;refine J.q λ_=>?_;dsimp only;refine J.qd (λ_ hw=>?_) λ_ hw=>?_
     ·have hw:(!Mv.inR M s.lpn)=true:=by simpa using hw
      refine J.qn 5 λ_=>?_;exact J.goto [0,1,2,3,4,5,6,7,8,9,10,11,12,13,14,15,16,17,18,19,20,21] (hj ⟨(Zl',true),by rw[hh];exact hZl',by rw[hh];exact hw.symm⟩) ⟨rfl,rfl,rfl,rfl,rfl,trivial⟩ rfl rfl
     ·have hw:(!Mv.inR M s.lpn)=false:=by simpa using hw
      refine J.qn 2 λ_=>?_;exact J.goto [0,1,2,3,4,5,6,7,8,9,10,11,12,13,14,15,16,17,18,19,20,21] (hj ⟨(Zl',false),by rw[hh];exact hZl',by rw[hh];exact hw.symm⟩) ⟨rfl,rfl,rfl,rfl,rfl,trivial⟩ rfl rfl
    ·have hh:=Wa.hold2_e (W:=⟨P,M,die,wrong,full,false,fs,since,late⟩) (t:=⟨e,dt⟩) (.inl f2) e0;refine J.plan (.of [0,5,8,12,16,20,24,29,32,37,41,46,48,52]) [] [1,20,21,22] (by rw[hX.hP];kernel_rfl) (by kernel_rfl) ?_;refine J.qn 3 λ_=>?_;dsimp only;rw[beq_eq_false_iff_ne.2 e0];refine J.q λ_=>?_;refine J.gcase hX rfl rfl rfl stq (λhb=>by simp at hb) (λhb=>?_);refine J.q λ_=>?_;refine J.vT (.bool true) rfl rfl (λhg aa w he hC=>by simp[G.on]at hg) ?_;refine J.qF λ_=>?_;refine J.qn 2 λ_=>?_;exact J.goto [0,1,2,3,4,5,6,7,8,9,10,11,12,13,14,15,16,17,18,19,20,21] (hj ⟨(Zl,false),by rw[hh];exact hM,by rw[hh]⟩) ⟨rfl,rfl,rfl,rfl,rfl,trivial⟩ rfl rfl
   rw[beq_eq_false_iff_ne.2 f2];refine J.qF λ_=>?_;refine J.q λ_=>?_
   by_cases f3:s.fn=3
   ·rw[beq_iff_eq.2 f3];refine J.qT λ_=>?_;refine J.q λb7=>?_;rw[show(s.fn==3)=true from beq_iff_eq.2 f3];refine J.qT λ_=>?_;refine J.q λ_=>?_
    by_cases e0:e=0
    ·subst e0;have hh:=Wa.hold3_0 (W:=⟨P,M,die,wrong,full,false,fs,since,late⟩) (t:=⟨0,dt⟩) f3 rfl;refine J.plan (.of [0,5,8,12,16,20,24,29,32,37,41,46,48,52]) [] [1,20,21,22] (by rw[hX.hP];kernel_rfl) (by kernel_rfl) ?_;refine J.qc (a9M R Zl hn hf s.lpn zd rfl) [3,4,5,6,7,8,9] λ_=>?_;rintro _ As ⟨Zl',rfl,rfl,hZl'⟩;refine⟨_,rfl,stq,?_⟩;rw[hM]at hZl' ⊢;refine J.q λ_=>?_;dsimp only;refine J.qd (λ_ hw=>?_) λ_ hw=>?_
     ·have hw:(!Mv.inR M s.lpn)=true:=by simpa using hw
      refine J.qn 5 λ_=>?_;exact J.goto [0,1,2,3,4,5,6,7,8,9,10,11,12,13,14,15,16,17,18,19,20,21] (hj ⟨(Zl',true),by rw[hh];exact hZl',by rw[hh];exact hw.symm⟩) ⟨rfl,rfl,rfl,rfl,rfl,trivial⟩ rfl rfl
     ·have hw:(!Mv.inR M s.lpn)=false:=by simpa using hw
      refine J.qn 2 λ_=>?_;exact J.goto [0,1,2,3,4,5,6,7,8,9,10,11,12,13,14,15,16,17,18,19,20,21] (hj ⟨(Zl',false),by rw[hh];exact hZl',by rw[hh];exact hw.symm⟩) ⟨rfl,rfl,rfl,rfl,rfl,trivial⟩ rfl rfl
    ·have hh:=Wa.hold2_e (W:=⟨P,M,die,wrong,full,false,fs,since,late⟩) (t:=⟨e,dt⟩) (.inr f3) e0;refine J.plan (.of [0,5,8,12,16,20,24,29,32,37,41,46,48,52]) [] [1,20,21,22] (by rw[hX.hP];kernel_rfl) (by kernel_rfl) ?_;refine J.qn 3 λ_=>?_;dsimp only;rw[beq_eq_false_iff_ne.2 e0];refine J.q λ_=>?_;refine J.gcase hX rfl rfl rfl stq (λhb=>by simp at hb) (λhb=>?_);refine J.q λ_=>?_;refine J.vT (.bool true) rfl rfl (λhg aa w he hC=>by simp[G.on]at hg) ?_;refine J.qF λ_=>?_;refine J.qn 2 λ_=>?_;exact J.goto [0,1,2,3,4,5,6,7,8,9,10,11,12,13,14,15,16,17,18,19,20,21] (hj ⟨(Zl,false),by rw[hh];exact hM,by rw[hh]⟩) ⟨rfl,rfl,rfl,rfl,rfl,trivial⟩ rfl rfl
   rw[beq_eq_false_iff_ne.2 f3];refine J.qF λ_=>?_;refine J.q λ_=>?_
   by_cases f4:s.fn=4
   ·rw[beq_iff_eq.2 f4];refine J.qT λ_=>?_;refine J.q λ_=>?_
    by_cases e0:e=0
    ·subst e0;have hh:=Wa.hold4_0 (W:=⟨P,M,die,wrong,full,false,fs,since,late⟩) (t:=⟨0,dt⟩) f4 rfl;refine J.qT λ_=>?_;refine J.qc (a9N R Zl hn) [3,4,5,6,7,8,9] λ_=>?_;rintro _ As ⟨Zl',rfl,rfl,hZl'⟩;refine⟨_,rfl,stq,?_⟩;rw[hM]at hZl';refine J.qn 2 λ_=>?_;exact J.goto [0,1,2,3,4,5,6,7,8,9,10,11,12,13,14,15,16,17,18,19,20,21] (hj ⟨(Zl',false),by rw[hh];exact hZl',by rw[hh]⟩) ⟨rfl,rfl,rfl,rfl,rfl,trivial⟩ rfl rfl
    ·have hh:=Wa.hold4_e (W:=⟨P,M,die,wrong,full,false,fs,since,late⟩) (t:=⟨e,dt⟩) f4 e0;dsimp only;rw[beq_eq_false_iff_ne.2 e0];refine J.qF λ_=>?_;refine J.qn 2 λ_=>?_;exact J.goto [0,1,2,3,4,5,6,7,8,9,10,11,12,13,14,15,16,17,18,19,20,21] (hj ⟨(Zl,false),by rw[hh];exact hM,by rw[hh]⟩) ⟨rfl,rfl,rfl,rfl,rfl,trivial⟩ rfl rfl
   have hh:=Wa.hold_x (W:=⟨P,M,die,wrong,full,false,fs,since,late⟩) (t:=⟨e,dt⟩) f1 f2 f3 f4;rw[beq_eq_false_iff_ne.2 f4];refine J.qF λ_=>?_;refine J.qn 2 λ_=>?_;exact J.goto [0,1,2,3,4,5,6,7,8,9,10,11,12,13,14,15,16,17,18,19,20,21] (hj ⟨(Zl,false),by rw[hh];exact hM,by rw[hh]⟩) ⟨rfl,rfl,rfl,rfl,rfl,trivial⟩ rfl rfl
 obtain⟨⟨Zl',wr⟩,hx1,hx2⟩:=x;dsimp only at hx1 hx2 ⊢;unfold a3Y;dsimp only
 by_cases f7:s.fn=7
 ·obtain rfl:e=0:=hmt f7;rw[Wa.hold_x (by omega) (by omega) (by omega) (by omega)]at hx1 hx2;dsimp only at hx1 hx2;subst hx2;have hzl:Zl'.length<=65536:=by rw[<- hM]at hx1;have:=congrArg List.length hx1;rw[j7,j7]at this;omega
  refine J.qF λ_=>?_;refine J.q λ_=>?_;rw[beq_iff_eq.2 f7];refine J.qT λ_=>?_;refine J.qc (b9Q R Zl' hzl) [3,4,5,6,7,8,9] λ_=>?_;rintro _ As ⟨Zl3,rfl,rfl,hZ3⟩;refine⟨_,rfl,trivial,?_⟩;rw[hx1]at hZ3;refine J.q λ_=>?_;refine J.gcase hX rfl rfl rfl trivial (λhb=>by simp at hb) (λhb=>?_);refine J.q λ_=>?_;refine J.v (.bool true) rfl rfl (λhg aa w he hw=>by simp[G.on]at hg) ?_;refine J.qF λ_=>?_;refine J.qT λ_=>?_;refine J.qc (a4f q nn (flP (some Z2) A'.f) (pp A'.fp) (slv A'.a2 P2.log.length A'.c2)) [10] λ_=>?_;rintro _ As ⟨rfl,rfl⟩;refine⟨_,rfl,trivial,?_⟩;refine J.qc (b3H nn Z2.S.N) [16] λ_=>?_;rintro _ As ⟨rfl,rfl⟩;refine⟨_,rfl,trivial,?_⟩;refine J.q λ_=>?_;refine J.f [1,2,3,4,5,6,7,8,9,10,11,12,13,14,15,16,17,18,19] ?_;rw[hsm f7];refine⟨A',Zl3,rfl,hA',hZ3,?_⟩;rw[a0l (Z:=Z2) hZ2,hnd];rfl
 ·refine J.q λ_=>?_;rw[show(s.fn !=7)=true from bne_iff_ne.2 f7]
  by_cases e11:e=11
  ·rw[beq_iff_eq.2 e11];refine J.qT λ_=>?_;refine J.q λ_=>?_;rw[beq_eq_false_iff_ne.2 f7];refine J.qF λ_=>?_;refine J.qd (λ_ hq=>?_) λ_ hq=>?_
   ·have hq:(decide (e=9)||decide (e=12))=true:=by simpa using hq
    refine J.q λ_=>?_;refine J.f [1,2,3,4,5,6,7,8,9,10,11,12,13,14,15,16,17,18,19] ?_;rw[hse f7];refine⟨A',Zl',rfl,hA',hx1,?_⟩;rw[<- hx2,a0l (Z:=Z2) hZ2,show((wrong||wr)||(decide (e=9)||decide (e=12)))=true from by rw[hq];simp,show(full||decide (e=11))=true from by simp[e11]];rfl
   ·have hq:(decide (e=9)||decide (e=12))=false:=by simpa using hq
    refine J.q λ_=>?_;refine J.f [1,2,3,4,5,6,7,8,9,10,11,12,13,14,15,16,17,18,19] ?_;rw[hse f7];refine⟨A',Zl',rfl,hA',hx1,?_⟩;rw[<- hx2,a0l (Z:=Z2) hZ2,show((wrong||wr)||(decide (e=9)||decide (e=12)))=(wr||wrong)from by rw[hq,a7d,Bool.or_comm],show(full||decide (e=11))=true from by simp[e11]];rfl
  ·rw[beq_eq_false_iff_ne.2 e11];refine J.qF λ_=>?_;refine J.q λ_=>?_;rw[beq_eq_false_iff_ne.2 f7];refine J.qF λ_=>?_;refine J.qd (λ_ hq=>?_) λ_ hq=>?_
   ·have hq:(decide (e=9)||decide (e=12))=true:=by simpa using hq
    refine J.q λ_=>?_;refine J.f [1,2,3,4,5,6,7,8,9,10,11,12,13,14,15,16,17,18,19] ?_;rw[hse f7];refine⟨A',Zl',rfl,hA',hx1,?_⟩;rw[<- hx2,a0l (Z:=Z2) hZ2,show((wrong||wr)||(decide (e=9)||decide (e=12)))=true from by rw[hq];simp,show(full||decide (e=11))=full from by simp[e11]];rfl
   ·have hq:(decide (e=9)||decide (e=12))=false:=by simpa using hq
    refine J.q λ_=>?_;refine J.f [1,2,3,4,5,6,7,8,9,10,11,12,13,14,15,16,17,18,19] ?_;rw[hse f7];refine⟨A',Zl',rfl,hA',hx1,?_⟩;rw[<- hx2,a0l (Z:=Z2) hZ2,show((wrong||wr)||(decide (e=9)||decide (e=12)))=(wr||wrong)from by rw[hq,a7d,Bool.or_comm],show(full||decide (e=11))=full from by simp[e11]];rfl
theorem b5U (U:WAd) (W:Wa) (Zl:List MSl) (Z:Fv) (k m:Nat) (hO:Z.Ok k m) (lg:Nat) (c:Nat->List UInt8) (hst:W.stuck=false) (hoff:Z.S.N.off=false) (hlen:W.M.length=lg) (hlg:lg<=65536) (hr:∀i:Nat,i<lg->Z.read i=(Z,c i,0)) (hc:∀i:Nat,i<lg->(c i).length=16) (hcl:Mv.Calm W.M) (hnow:∀i:Nat,i<lg->(Mv.pg W.M (i:Int)).now=c i) (hM:Zl.map (·.v)=W.M) (hf:∀Zl:List MSl,Zl.map (·.v)=W.M->∀z∈Zl,z.Fine):
  FP 14 [pp U.w] (a3Y U W Zl Z) (λv As=>∃Zl',v= .bool true/\Zl'.map (·.v)=W.M/\As=a3Y U W Zl' Z):=by
 obtain⟨w,q,nn,A,R,fa,fc⟩:=U;obtain⟨P,M,die,wrong,full,stuck,fs,since,late⟩:=W;dsimp only at*;subst hst;unfold a3Y b5J b5I;dsimp only;refine FE [2] Tryz.func14 λX F hX=>?_;have hMl:Zl.length=lg:=by rw[<- hlen,<- hM,j7]
 refine J.qc (a3b q nn (some Z) A.f (pp A.fp) (slv A.a2 P.log.length A.c2)) [10] λ_=>?_;rintro _ As ⟨rfl,rfl⟩;refine⟨_,rfl,trivial,?_⟩;refine J.qc (a4f q nn (flP (some Z) A.f) (pp A.fp) (slv A.a2 P.log.length A.c2)) [10] λ_=>?_;rintro _ As ⟨rfl,rfl⟩;refine⟨_,rfl,trivial,?_⟩;refine J.qc (a2m nn Z.S.N) [16] λ_=>?_;rintro _ As ⟨rfl,rfl⟩;refine⟨_,rfl,trivial,?_⟩;rw[hoff];refine J.qF λ_=>?_;refine J.q λ_=>?_;refine J.l (α:=(Nat×List MSl)) (λz=>z.1<=lg/\z.2.map (·.v)=M) (λz=>[si 3 z.1,⟨0,pp w,2, .tt⟩]) [3,4,5,6,7,8,9] (λz=>(a2U R z.2)) (λz=>lg-z.1) ((0,Zl)) (⟨j8 _,hM⟩) λz hI=>?_;obtain⟨i,Zc⟩:=z;dsimp only at hI ⊢;obtain⟨hi,hMc⟩:=hI;have hzl:Zc.length=lg:=by rw[<- hlen,<- hMc,j7]
 refine J.q λ_=>?_;refine J.v (.slice (some ⟨R.n,0,none⟩) Zc.length Zc.length) rfl rfl (λhg aa w he hw=>A9 tk rfl rfl he rfl rfl rfl (hw.get (i:=3) rfl) rfl) ?_;refine J.qd (λ_ h1=>?_) λ_ h1=>?_
 ·simp only[d7,i6]at h1;rw[hzl]at h1;refine J.qc (a3b q nn (some Z) A.f (pp A.fp) (slv A.a2 P.log.length A.c2)) [10] λ_=>?_;rintro _ As ⟨rfl,rfl⟩;refine⟨_,rfl,trivial,?_⟩;refine J.qc (a3j A.f A.p nn A.t A.l A.d Z k m hO i) [14,15,16,17,18,19] λ_=>?_;rintro _ As ⟨rfl,rfl⟩;rw[hr i h1];refine⟨_,rfl,trivial,?_⟩;refine J.p (.of [0,4,8,12,16,20,25,28,33,38,40,44]) [] [1,20] λ_=>?_;refine J.qc (b3Y R Zc (by omega) (hf Zc hMc) i (c i) (hc i h1)) [3,4,5,6,7,8,9] λ_=>?_;rintro _ As ⟨Zl',rfl,rfl,hZl'⟩;refine⟨_,rfl,stq,?_⟩;rw[hMc,hcl.saw]at hZl';rw[hMc,hcl.may (by omega) (hnow i h1)];refine J.qF λ_=>?_;refine J.q λ_=>?_;refine J.n ((i+1,Zl')) (⟨by dsimp only;omega,hZl'⟩) (by dsimp only;omega) [0,1,2,3,4,5,6,7,8,9,10,11,12,13,14,15,16,17,18,19]
 refine J.qr [1,2,3,4,5,6,7,8,9,10,11,12,13,14,15,16,17,18,19] λ_=>?_;exact⟨Zc,rfl,hMc,rfl⟩
theorem b0Z:Fv.cW*200+(Dv.costS+(Dv.costK+(1+0)))<=UN*605:=by
 have h1:=a3Z;have h2:=b8o;have h3:Dv.costS<=UN*2:=by
  have:Dv.costC<=Dv.costM:=by unfold Dv.costM Dv.costR;omega
  have:=a8D;unfold Dv.costS;omega
 have h4:=b8n;omega
theorem a8o {α:Type} {p q r:α->Bool}:∀{K:List α},(∀x∈K,p x=true->q x=true\/r x=true)->K.countP p<=K.countP q+K.countP r
 | [],_=>j8 _
 | y::K,h=>by
  rw[E7,E7,E7];have ih:=a8o (K:=K) λz hz=>h z (by simp[hz]);have hy:=h y (by simp);cases h1:p y with
  | false=>simp only[D7,U8];omega
  | true=>
   rcases hy h1 with e | e
   ·rw[e];simp only[V5];omega
   ·rw[e];simp only[V5];omega
theorem countP_one {p:Nat->Bool} {o:Int} (h:∀i:Nat,p i=true->(i:Int)=o):∀n,(List.range n).countP p<=1/\(n<=o->(List.range n).countP p=0)
 | 0=>⟨j8 _,λ_=>rfl⟩
 | n+1=>by
  obtain⟨i1,i2⟩:=countP_one h n;rw[A8,a0O];cases hp:p n with
  | false=>
   have:[n].countP p=0:=by simp[hp]
   rw[this];exact⟨by omega,λhn=>by rw[i2 (by omega)]⟩
  | true=>
   have:[n].countP p=1:=by simp[hp]
   have e:=h n hp;rw[this,i2 (by omega)];exact⟨by omega,λhn=>by omega⟩
theorem Hot2.tight {fd:Int} {S:Dv} {k m β:Nat} {W:List (Int×En)} (h:Hot2 fd S β) (hR:Rmy fd W S) (hO:S.Ok k m) (hfr:(S.free:Int)>4):∃β',β'<=β/\Hot2 fd S β'/\5*S.N.pages+β'<=S.rows+5:=by
 have hmany:=hR.many hO hfr;have hg:=hO.gd.ok.bd16;cases h with
 | calm h=>exact⟨0,j4 _, .calm h,by omega⟩
 | cold h1 h2=>exact⟨0,j4 _, .cold h1 h2,by omega⟩
 | once h=>exact⟨1,j4 _, .once h,by omega⟩
 | dead h1 h2=>exact⟨1,j4 _, .dead h1 h2,by omega⟩
 | brn h=>
  refine⟨b0E fd S,h.cnt, .brn ⟨h.pos,h.dead,h.met,h.fl,h.rng,j4 _,h.at_,h.opn⟩,?_⟩;have hfl:=hR.inv.free_len hO;have hlen:=hO.t.len;have hbl:S.t.blanks=(List.range S.t.b).countP λi:Nat=>!(S.t.at_ (i:Nat)).used:=by
   unfold Tl.blanks Tl.at_;rw[Inv.countP_range_get _ Sb.zero,hlen];simp
  have h2:=a8o (K:=List.range S.t.b) (p:=a5U fd S) (q:=λi:Nat=>!(S.t.at_ (i:Nat)).used) (r:=λi:Nat=>a5U fd S i&&decide ((i:Int)=S.op)) λb hb hh=>by
   have hh':=hh;unfold a5U at hh';rw[f8]at hh';rcases h.at_ (b:Int) (Tl.has_iff.2 (by have:=List.mem_range.1 hb;omega)) hh'.2 hh'.1 with e | e
   ·right;rw[hh,j3 e];rfl
   ·left;rw[e];rfl
  rw[<- hbl]at h2;obtain⟨c1,c2⟩:=countP_one (p:=λi:Nat=>a5U fd S i&&decide ((i:Int)=S.op)) (o:=S.op) (λi hi=>by
   rw[f8,d7]at hi;exact hi.2) S.t.b
  have hrw:S.N.pages*S.t.blanks+(List.range S.t.b).countP (λi:Nat=>a5U fd S i&&decide ((i:Int)=S.op))<=S.rows:=by
   unfold Dv.rows;rcases K1 ((List.range S.t.b).countP (λi:Nat=>a5U fd S i&&decide ((i:Int)=S.op)))with e | e
   ·rw[e];omega
   ·obtain⟨i,hi,hp⟩:=List.countP_pos_iff.1 e;rw[f8,d7]at hp;obtain⟨p1,p2⟩:=hp;unfold a5U at p1;rw[f8,p2]at p1;obtain⟨a,a1,a2,a3⟩:=planB_iff.1 p1.1;have hop:=h.opn (by omega);have h3:=hop.2 (by rw[hop.1];exact p1.2) a a1 a2 a3;have h4:=(h.rng a a1).2;rw[f0 (by omega)];omega
  have h5:b0E fd S<=S.t.blanks+(List.range S.t.b).countP (λi:Nat=>a5U fd S i&&decide ((i:Int)=S.op)):=h2;obtain⟨x,hx⟩:∃x,S.t.blanks=5+x:=⟨S.t.blanks-5,by omega⟩;rw[hx,a0d]at hrw;have h6:2*x<=S.N.pages*x:=H9 _ hg.2.2.1;omega
structure FR (fd:Int) (W:List (Int×En)) (lg:Nat) (F:Fv) (β e:Nat):Prop where
 fi:FI fd W lg F
 rmy:Rmy fd W F.S
 hot:Hot2 fd F.S β
 rows:5*F.S.N.pages+β+e<=F.S.rows+7
 e1:e<=1
 cap:2*lg<=(F.S.N.blocks-5)*(F.S.N.pages*(F.S.N.dies-2))+1
namespace FR
variable {fd : Int} {W : List (Int × En)} {lg k m β e : Nat} {F : Fv}
theorem writes (h:FR fd W lg F β e) (hO:F.S.Ok (Dv.costM+(8*Dv.fuel+k)) m) (hnx:F.S.next<=1099511627775-30000000) (hl0:F.L.length≠0):
  ∃(F':Fv) (W':List (Int×En)) (β':Nat),F.writes=(F',0)/\FR fd W' lg F' β' e/\(∀i,cur W' F'.L i=cur W F.L i)/\F'.S.Ok k m/\F'.S.next<=F.S.next+7000/\F'.nx=F.nx/\F'.S.N.broken=F.S.N.broken/\F.S.N.Like F'.S.N/\F'.L.length<F.L.length/\F'.S.N.dead=F.S.N.dead:=by
 have hg:=hO.gd.ok.bd16;have htb:=hO.t.b;obtain⟨V,β1,v1,v2,v3,v4,v5,v6,v7,v8,v9,v10,v11,v12,v13,_⟩:=h.rmy.room3 (k:=8*Dv.fuel+k) (hO.less (by
  have:Dv.costR*F.S.t.b<=Dv.costR*16:=p6 _ (by omega);unfold Dv.costM;omega)) h.hot (by have:=h.rows;omega) (by omega)
 obtain⟨β',t1,t2,t3⟩:=v6.tight v2 v3 v4;have hgV:=v3.gd.ok.bd16;have hp:=v11.pages;have hlog:=h.fi.log;have hcap:2*V.T.logical.toNat<=(V.N.blocks-5)*(V.N.pages*(V.N.dies-2))+1:=by
  have:=h.cap;rw[v12,hlog,v11.blocks,v11.pages,v11.dies];omega
 obtain⟨U,n,β2,u1,u2,u3,u4,u5,u6,u7,u8,u9,u10,u11,u12,u13,u14⟩:=v2.pens (E:=F.L) v3 t2 (by omega) (λe he=>(h.fi.des e he).1) hl0 h.fi.nd (λe he=>by rw[v12,hlog];exact(h.fi.des e he).2.2) hcap (by omega);obtain⟨w1,w2⟩:=b0b h.fi.wok h.fi.wr (λe he=>⟨(h.fi.des e he).1,(h.fi.des e he).2.1⟩) n u3;have hlk:F.S.N.Like U.N:=v11.trans u13;have hwr:F.writes=({F with S:=U,L:=F.L.drop n}.told 0,0):=by
  unfold Fv.writes;rw[v1];dsimp only;rw[d8 (by decide),u1];dsimp only;rw[i9,a9R h.fi.nd]
 refine⟨_,a2I W F.L n,β2,hwr,⟨⟨u4.inv,u4.hd,w1,w2,u14.trans (v12.trans hlog),?_,h.fi.lg2,λx hx=>h.fi.des x (O7 hx),?_,?_⟩,u4,u6,?_,h.e1,?_⟩,b2k h.fi.nd n u3,u5,?_,rfl,u12.trans v10,hlk,?_,u11.trans v9⟩
 ·have:=h.fi.lgn;unfold Fv.lg at this ⊢;show((lgN U.N.dies U.N.blocks U.N.pages:Nat):Int)=_;rw[hlk.dies,hlk.blocks,hlk.pages];exact this
 ·show((F.L.drop n).map (·.lpn)).Nodup;rw[List.map_drop];exact h.fi.nd.sublist (a6N _ _)
 ·show(F.off||(0:Int)==9)=false;rw[h.fi.off];rfl
 ·show 5*U.N.pages+β2+e<=U.rows+7;have:=h.e1;rw[u13.pages];omega
 ·show 2*lg<=(U.N.blocks-5)*(U.N.pages*(U.N.dies-2))+1;rw[hlk.blocks,hlk.pages,hlk.dies];exact h.cap
 ·show U.next<=_;omega
 ·show(F.L.drop n).length<_;rw[B4];omega
theorem put (h:FR fd W lg F β e) {x:En} (he:FitR x/\x.role≠4/\x.lpn<(lg:Int)):FR fd W lg (F.put x) β e/\∀i,cur W (F.put x).L i=if i=x.lpn then x.data else cur W F.L i:=by
 obtain⟨h1,h2⟩:=h.fi.put he;exact⟨⟨h1,h.rmy,h.hot,h.rows,h.e1,h.cap⟩,h2⟩
theorem slots (h:FR fd W lg F β e) (hO:F.S.Ok k m):1<=F.S.slots:=by
 have hg:=hO.gd.ok.bd16;exact(h.fi.inv.slots_pos hO (by have:=h.rows;omega)).2
theorem waits (h:FR fd W lg F β e) (hO:F.S.Ok (Dv.costM+(8*Dv.fuel+k)) m) (hnx:F.S.next<=1099511627775-30000000) {x:En} (he:FitR x/\x.role≠4/\x.lpn<(lg:Int)):
  ∃(F':Fv) (W':List (Int×En)) (β':Nat),F.waits x=(F',0)/\FR fd W' lg F' β' e/\(∀i,cur W' F'.L i=if i=x.lpn then x.data else cur W F.L i)/\F'.S.Ok k m/\F'.S.next<=F.S.next+7000/\F'.S.N.broken=F.S.N.broken/\F.S.N.Like F'.S.N:=by
 have hlp:=he.1.lpn;unfold Fv.waits;rw[h.fi.ask,h.fi.off,d8 j6,h.fi.lgn,d8 (by omega)]
 by_cases hs:(F.L.length:Int)>=F.S.slots
 ·rw[f0 hs];have h1:=h.slots (hO.less (j4 _));obtain⟨G,W',β',w1,w2,w3,w4,w5,_,w6,w7,_⟩:=h.writes hO hnx (by omega);rw[w1];dsimp only;rw[d8 (by decide)];obtain⟨p1,p2⟩:=w2.put he;exact⟨_,W',β',rfl,p1,λi=>by rw[p2,w3],w4,w5,w6,w7⟩
 ·rw[d8 hs];obtain⟨p1,p2⟩:=h.put he;exact⟨_,W,β,rfl,p1,p2,hO.less (by omega),by show F.S.next<=_;omega,rfl,Nand.Like.refl _⟩
theorem flush_go:∀(f:Nat) (F:Fv) (W:List (Int×En)) (β k:Nat),FR fd W lg F β e->F.S.Ok (FI.costW*f+k) m->F.L.length<=f->F.S.next+7000*(f:Int)<=1099511627775-30000000->
  ∃(F':Fv) (W':List (Int×En)) (β':Nat),Fv.flushGo f F=(F',0)/\FR fd W' lg F' β' e/\F'.S.Ok k m/\F'.S.next<=F.S.next+7000*(f:Int)/\F'.S.N.broken=F.S.N.broken/\F.S.N.Like F'.S.N/\F'.L=[]/\(∀i,cur W' F'.L i=cur W F.L i)/\F'.S.N.dead=F.S.N.dead
 | 0,F,W,β,k,h,hO,hL,_=>⟨F,W,β,rfl,h,hO.less (by omega),by omega,rfl,Nand.Like.refl _,m6 (by omega),λ_=>rfl,rfl⟩
 | f+1,F,W,β,k,h,hO,hL,hnx=>by
  rw[Fv.flushGo]
  by_cases hl0:F.L.length=0
  ·rw[f0 hl0];exact⟨F,W,β,rfl,h,hO.less (by omega),by omega,rfl,Nand.Like.refl _,m6 hl0,λ_=>rfl,rfl⟩
  ·rw[d8 hl0];rw[D5]at hO;obtain⟨G,W',β',w1,w2,w3,w4,w5,_,w6,w7,w8,w9⟩:=h.writes (k:=FI.costW*f+k) (hO.less (by unfold FI.costW;omega)) (by omega) hl0;rw[w1];dsimp only;rw[d8 (by decide)];obtain⟨F',W2,β2,r1,r2,r3,r4,r5,r6,r7,r8,r9⟩:=flush_go f G W' β' k w2 w4 (by omega) (by omega);exact⟨F',W2,β2,r1,r2,r3,by omega,r5.trans w6,w7.trans r6,r7,λi=>(r8 i).trans (w3 i),r9.trans w9⟩
theorem flush (h:FR fd W lg F β e) (hO:F.S.Ok (FI.costW*200+k) m) (hnx:F.S.next<=1099511627775-50000000):
  ∃(F':Fv) (W':List (Int×En)) (β':Nat),F.flush=(F',0)/\FR fd W' lg F' β' e/\F'.S.Ok k m/\F'.S.next<=F.S.next+1400000/\F'.S.N.broken=F.S.N.broken/\F.S.N.Like F'.S.N/\F'.L=[]/\(∀i,cur W' F'.L i=cur W F.L i)/\F'.S.N.dead=F.S.N.dead:=by
 unfold Fv.flush;rw[h.fi.ask,h.fi.off,d8 j6];have hl:=h.fi.len;have h2:=h.fi.lg2;have hm:FI.costW*F.L.length<=FI.costW*200:=p6 _ (by omega);obtain⟨F',W',β',r1,r2,r3,r4,r5⟩:=flush_go F.L.length F W β k h (hO.less (by omega)) (j4 _) (by omega);exact⟨F',W',β',r1,r2,r3,by omega,r5⟩
end FR
theorem a6b {α:Type} {p q:α->Bool}:∀{K:List α},(∀x∈K,p x=true->q x=true)->∀{x:α},x∈K->p x=false->q x=true->K.countP p<K.countP q
 | [],_,x,hx,_,_=>by cases hx
 | y::K,h,x,hx,h1,h2=>by
  rw[E7,E7];have hy:=h y (by simp);rcases List.mem_cons.1 hx with rfl | hx
  ·have:=a0Y (l:=K) λz hz=>h z (by simp[hz]);rw[h1,h2];simp only[D7,U8,V5];omega
  ·have:=a6b (λz hz=>h z (by simp[hz])) hx h1 h2;cases hp:p y with
   | false=>simp only[D7,U8];omega
   | true=>rw[hy hp];simp only[V5];omega
structure Gh (die:Nat) (O:Int->Bool) (S:Dv):Prop where
 used:∀b,O b=true->S.t.has b=true/\(S.t.at_ b).used=true
 ent:∀i a,Tb.look S.T.at_ i=some a->L.has a.mask (die:Nat)=true->O a.block=true
def b4P (O:Int->Bool) (T:Tb) (i:Int):Bool:=match Tb.look T.at_ i with | some a=>O a.block | none=>false
def b4O (O:Int->Bool) (T:Tb) (K:List Int):Nat:=K.countP (b4P O T)
def pot (O:Int->Bool) (S:Dv) (K:List Int) (P:Nat):Nat:=if O S.op=true then K.length+((P:Int)-S.row).toNat else b4O O S.T K
theorem b0t (O:Int->Bool) (T:Tb) (K:List Int):b4O O T K<=K.length:=a0Z
theorem a2L {O:Int->Bool} {T:Tb} {i:Int} {a:AtV} (h:Tb.look T.at_ i=some a):b4P O T i=O a.block:=by unfold b4P;rw[h]
def NoD (die:Nat) (S:Dv):Prop:=∀i a,Tb.look S.T.at_ i=some a->L.has a.mask (die:Nat)=false
namespace Gh
variable {die : Nat} {O : Int → Bool} {fd : Int} {U V : Dv} {K I : List Int} {P : Nat}
theorem same (h:Gh die O U) (hT:V.T=U.T) (hop:V.op=U.op) (hrow:V.row=U.row) (hhas:∀b,V.t.has b=U.t.has b) (hi:Inv fd V):∃O',Gh die O' V/\pot O' V K P<=pot O U K P:=by
 refine⟨λb=>O b&&(V.t.at_ b).used,⟨λb hb=>?_,λi a ha hd=>?_⟩,?_⟩
 ·have hb:=f8 _ _▸hb;exact⟨by rw[hhas];exact(h.used b hb.1).1,hb.2⟩
 ·have h1:=(hi.st i a ha).used;rw[hT]at ha;show(O a.block&&(V.t.at_ a.block).used)=true;rw[h.ent i a ha hd,h1];rfl
 ·unfold pot;rw[hop,hrow,hT];have hmono:b4O (λb=>O b&&(V.t.at_ b).used) U.T K<=b4O O U.T K:=by
   refine a0Y λi _ hx=>?_;unfold b4P at hx ⊢;split at hx
   ·exact(f8 _ _▸hx).1
   ·cases hx
  cases hO:O U.op with
  | false=>
   rw[d8 (show¬(O U.op&&(V.t.at_ U.op).used)=true by rw[hO];simp),d8 j6];exact hmono
  | true=>
   have hu:(V.t.at_ U.op).used=true:=by
    rcases hi.op with e | e
    ·rw[hop]at e;have:=(h.used _ hO).1;have:=(Tl.has_iff.1 this).1;omega
    ·rw[<- hop];exact e.used
   rw[f0 (show(O U.op&&(V.t.at_ U.op).used)=true by rw[hO,hu];rfl),f0 rfl];exact j4 _
theorem where_ (h:Gh die O U) {b r:Int} (hf:FreshP U b r) (hO:O b=true):b=U.op/\U.row<=r:=by
 rcases hf with h1 | ⟨_,h2⟩
 ·exact h1
 ·rw[(h.used b hO).2]at h2;cases h2
theorem crd (h:Gh die O U) (hc:Crd fd U I V) (hd:U.N.dead.getD die false=true):Gh die O V/\pot O V K P<=pot O U K P:=by
 refine⟨⟨λb hb=>⟨by rw[hc.has];exact(h.used b hb).1,(hc.sb b (h.used b hb).1).2 (h.used b hb).2⟩,λi a ha hm=>?_⟩,?_⟩
 ·by_cases hi:i∈I
  ·obtain⟨a',a1,_,a3⟩:=hc.pos i hi;rw[ha]at a1;injection a1 with a1;rw[<- a1]at a3;rw[a3 die hd]at hm;cases hm
  ·rw[hc.rest i hi]at ha;exact h.ent i a ha hm
 ·unfold pot;cases hO:O V.op with
  | true=>
   obtain⟨e1,e2⟩:=h.where_ (hc.back V.op V.row (.inl ⟨rfl,H4 _⟩)) hO;rw[e1]at hO;rw[hO,f0 rfl,f0 rfl];omega
  | false=>
   rw[d8 j6];have hle:=b0t O V.T K;cases hU:O U.op with
   | true=>rw[f0 rfl];omega
   | false=>
    rw[d8 j6];refine a0Y λi _ hx=>?_
    by_cases hi:i∈I
    ·obtain⟨a',a1,a2,_⟩:=hc.pos i hi;rw[a2L a1]at hx;rw[(h.where_ a2 hx).1,hU]at hx;cases hx
    ·unfold b4P at hx ⊢;rw[hc.rest i hi]at hx;exact hx
theorem crd_lt (h:Gh die O U) (hc:Crd fd U I V) (hP:V.N.pages=P) {i:Int} {a:AtV} (hi:i∈I) (hK:i∈K) (ha:Tb.look U.T.at_ i=some a) (hOa:O a.block=true):pot O V K P+1<=pot O U K P:=by
 have hin:I≠[]:=λe=>by rw[e]at hi;cases hi
 obtain⟨a',a1,a2,_⟩:=hc.pos i hi;unfold pot;cases hO:O V.op with
 | true=>
  obtain⟨e1,e2⟩:=h.where_ (hc.fresh hin) hO;have hrow:V.row<=P:=by
   rcases hc.inv.op with e | e
   ·rw[e]at hO;have:=(Tl.has_iff.1 (h.used _ hO).1).1;omega
   ·have:=e.row.2;rw[hP]at this;exact this
  rw[e1]at hO;rw[hO,f0 rfl,f0 rfl];omega
 | false=>
  rw[d8 j6];have hrw:a'.row<P:=by
   obtain⟨l,g1,_⟩:=(hc.inv.st i a' a1).row;have:=g1.is.row.2;rw[hP]at this;exact this
  cases hU:O U.op with
  | true=>
   rw[f0 rfl]
   by_cases hr:U.row<P
   ·have:=b0t O V.T K;omega
   ·have h1:b4O O V.T K<K.countP λ_=>true:=a6b (λ_ _ _=>rfl) hK (by
     rw[a2L a1];cases hx:O a'.block with
     | false=>rfl
     | true=>have:=(h.where_ a2 hx).2;omega) rfl
    rw[List.countP_true]at h1;omega
  | false=>
   rw[d8 j6];refine a6b (λj _ hx=>?_) hK ?_ ((a2L ha).trans hOa)
   ·by_cases hj:j∈I
    ·obtain⟨b',b1,b2,_⟩:=hc.pos j hj;rw[a2L b1]at hx;rw[(h.where_ b2 hx).1,hU]at hx;cases hx
    ·unfold b4P at hx ⊢;rw[hc.rest j hj]at hx;exact hx
   ·rw[a2L a1];cases hx:O a'.block with
    | false=>rfl
    | true=>rw[(h.where_ a2 hx).1,hU]at hx;cases hx
end Gh
namespace Mvd
variable {die : Nat} {fd : Int} {S V : Dv} {K : List Int} {P : Nat}
theorem dead (h:Mvd fd S V):V.N.dead=S.N.dead:=by
 induction h with
 | nil=>rfl
 | same _ _ _ _ _ h5 _ ih=>exact h5.trans ih
 | crd _ hc ih=>exact hc.dead.trans ih
theorem gh (h:Mvd fd S V) (hd:S.N.dead.getD die false=true) {O:Int->Bool} (hG:Gh die O S):∃O',Gh die O' V/\pot O' V K P<=pot O S K P:=by
 induction h with
 | nil=>exact⟨O,hG,j4 _⟩
 | same _ h1 h2 h3 h4 _ h6 ih=>
  obtain⟨O',g1,g2⟩:=ih;obtain⟨O2,q1,q2⟩:=g1.same (K:=K) (P:=P) h1 h2 h3 h4 h6;exact⟨O2,q1,C6 q2 g2⟩
 | crd hm hc ih=>
  obtain⟨O',g1,g2⟩:=ih;obtain⟨q1,q2⟩:=g1.crd (K:=K) (P:=P) hc (by rw[hm.dead];exact hd);exact⟨O',q1,C6 q2 g2⟩
theorem crd_noD {U:Dv} {I:List Int} (hn:NoD die U) (hc:Crd fd U I V) (hd:U.N.dead.getD die false=true):NoD die V:=λi a ha=>by
 by_cases hi:i∈I
 ·obtain⟨a',a1,_,a3⟩:=hc.pos i hi;rw[ha]at a1;injection a1 with a1;rw[a1];exact a3 die hd
 ·rw[hc.rest i hi]at ha;exact hn i a ha
theorem noD (h:Mvd fd S V) (hd:S.N.dead.getD die false=true) (hn:NoD die S):NoD die V:=by
 induction h with
 | nil=>exact hn
 | same _ h1 _ _ _ _ _ ih=>exactλi a ha=>ih i a (by rw[<- h1];exact ha)
 | crd hm hc ih=>exact crd_noD ih hc (by rw[hm.dead];exact hd)
end Mvd
namespace Cnt
theorem prog (N:Nand) (x y z:Int) (pg:List UInt8):(N.progN x y z pg).ops<=N.ops+1:=by
 unfold Nand.progN;split
 ·omega
 split
 ·show N.ops<=_;omega
 split
 ·exact H4 (N.ops+1)
 ·exact H4 (N.ops+1)
theorem erase (N:Nand) (x y:Int):(N.eraseN x y).ops<=N.ops+1:=by
 unfold Nand.eraseN;dsimp only;split
 ·omega
 split
 ·exact H4 (N.ops+1)
 split
 ·exact H4 (N.ops+1)
 ·exact H4 (N.ops+1)
theorem go (b r:Int):∀(q:List (Int×Sh)) (N:Nand) (f:Int),(R.go b r q N f).1.ops<=N.ops+q.length
 | [],N,f=>by rw[R.go];simp
 | (d,s)::q,N,f=>by
  have h1:=prog N d b r (W5 s);have ih:=λf=>go b r q (N.progN d b r (W5 s)) f;rw[R.go,m7];split
  ·have:=ih f;push_cast;omega
  ·split
   ·push_cast;omega
   ·have:=ih (L.with_ f d);push_cast;omega
theorem row (N:Nand) (b r m:Int) (l:List En):(R.write N b r m l).1.ops<=N.ops+8:=by
 unfold R.write;split
 ·rename_i hB;have h1:=a1p hB;have h2:=go b r (R.job b r m l) N 0;rw[a6Z]at h2;omega
 ·show N.ops<=_;omega
theorem wr (S:Dv) (l:List En):(S.wr l).1.ops<=S.N.ops+8:=row _ _ _ _ _
end Cnt
namespace Dv
variable {S : Dv} {k m : Nat}
theorem rows_at1 (h:S.Ok k m) (h0:¬(S.left=false/\S.pick<0)):S.at1.rows<=S.rows:=by
 unfold at1;cases hl:S.left with
 | true=>rw[f0 rfl];exact j4 _
 | false=>
  rw[d8 j6];have hp:¬S.pick<0:=λe=>h0 ⟨hl,e⟩;have h1:=Tl.blanks_open h.t.len (pick_blank hp);have e1:S.opened.rows=S.N.pages*(S.t.clean S.pick false).blanks+(if S.pick>=0 then((S.N.pages:Int)-0).toNat else 0):=rfl;have e2:S.N.pages*((S.t.clean S.pick false).blanks+1)=S.N.pages*(S.t.clean S.pick false).blanks+S.N.pages:=D5 _ _;rw[h1]at e2;rw[e1,f0 (by omega)];unfold rows;omega
theorem rows_wrote (hl:S.left=true) (l:List En):(S.wrote l).rows+1=S.rows:=by
 have hs:=left_spec hl;have e1:(S.wrote l).rows=(S.wr l).1.pages*S.t.blanks+(if S.op>=0 then(((S.wr l).1.pages:Int)-(S.row+1)).toNat else 0):=rfl;rw[e1,(S.wr_like l).pages,f0 (by omega)];unfold rows;rw[f0 (by omega)];omega
theorem rows_loses (h:S.t.Fit S.N) (f:Int):(S.loses f).rows=S.rows:=by
 obtain⟨e1,_,e3,e4,_,_,e7⟩:=loses_same S f h;unfold rows;rw[e1,e3,e4,e7]
theorem write_ops:∀(f:Nat) (S:Dv) (l:List En) (k:Nat),S.Ok (8*f+k) m->(∀s∈l,s.data.length=16)->(write f S l).2.2=0->(write f S l).1.N.ops+8*((write f S l).1.rows:Int)<=S.N.ops+8*(S.rows:Int)
 | 0,S,l,k,h,hd,_=>H4 _
 | f+1,S,l,k,h,hd,he=>by
  have ha:=at1_like S;have h1:S.at1.Ok (8+(8*f+k)) m:=h.at1.less (by omega);rw[write_succ]at he ⊢;split
  ·exact H4 _
  split
  ·exact H4 _
  rename_i hl0 h0;rw[d8 hl0,d8 h0]at he;split
  ·rename_i hn;rw[f0 hn]at he;cases he
  rename_i hn;rw[d8 hn]at he;have hlf:=at1_left' h h0;have hs:=left_spec hlf;have hw:=h1.wrote hd hs.2.1 hn;have hr0:=rows_at1 h h0;have hr1:=rows_wrote hlf l;have ho:=Cnt.wr S.at1 l;rw[ha.1]at ho;split
  ·rename_i h2;rw[f0 h2]at he;cases he
  rename_i h2;rw[d8 h2]at he;split
  ·have e1:({S.at1.wrote l with T:=puts S.at1.T S.at1.op S.at1.row S.at1.mask (S.at1.es l) (S.at1.fit l)}:Dv).rows=(S.at1.wrote l).rows:=rfl;rw[e1];show(S.at1.wr l).1.ops+_<=_;omega
  rename_i h3;rw[d8 h3]at he;split
  ·rename_i h4;rw[f0 h4]at he;cases he
  ·rename_i h4;rw[d8 h4]at he;have hL:=hw.loses (S.at1.wr l).2.1;have ih:=write_ops f ((S.at1.wrote l).loses (S.at1.wr l).2.1) l k hL hd he;rw[rows_loses hw.t]at ih;have e:((S.at1.wrote l).loses (S.at1.wr l).2.1).N=(S.at1.wr l).1:=(loses_same (S.at1.wrote l) _ hw.t).1;rw[e]at ih;omega
theorem carryGo_ops:∀(f:Nat) (S:Dv) (l:List Int) (d:Int) (k:Nat),S.Ok (cost*f+k) m->(carryGo f S l d).2.2=0->(carryGo f S l d).1.N.ops+8*((carryGo f S l d).1.rows:Int)<=S.N.ops+8*(S.rows:Int)
 | 0,S,l,d,k,h,_=>H4 _
 | f+1,S,l,d,k,h,he=>by
  have hs:S.Ok (8*fuel+(cost*f+k)) m:=h.less (by unfold cost;rw[D5];omega);rw[carryGo]at he ⊢;dsimp only at he ⊢;split
  ·exact H4 _
  rename_i h0;rw[d8 h0]at he;split
  ·exact H4 _
  rename_i h1;rw[d8 h1]at he;have hp:=pen_keep hs (rds_len h (l.take (max S.slots 1).toNat)).1;have hq:=write_ops fuel S (S.rds (l.take (max S.slots 1).toNat)).1 _ hs (rds_len h (l.take (max S.slots 1).toNat)).1;split
  ·rename_i h2;rw[f0 h2]at he;exact absurd he h2
  ·rename_i h2;rw[d8 h2]at he;have ih:=carryGo_ops f _ (l.drop (S.pen (S.rds (l.take (max S.slots 1).toNat)).1).2.1.toNat) (d+(S.pen (S.rds (l.take (max S.slots 1).toNat)).1).2.1) k hp.1 he;exact Int.le_trans ih (hq (Decidable.not_not.1 h2))
theorem carry_ops (h:S.Ok (costC+k) m) (b most:Int) (he:(S.carry b most).2.2=0):(S.carry b most).1.N.ops+8*((S.carry b most).1.rows:Int)<=S.N.ops+8*(S.rows:Int):=by
 unfold carry at he ⊢;dsimp only at he ⊢;have h1:=ins_le h b;have h2:=take_le (S.T.ins b) (max most 0).toNat
 have h3:cost*((S.T.ins b).take (max most 0).toNat).length<=costC:=p6 _ (by omega);exact carryGo_ops _ S _ 0 k (h.less (by omega)) he
theorem eraseD_ops (b mk:Int) (x:Nand×Tl×Int) (d:Nat):(eraseD b mk x d).1.ops<=x.1.ops+1/\(eraseD b mk x d).1.dies=x.1.dies:=by
 unfold eraseD;split
 ·exact⟨by omega,rfl⟩
 split
 ·exact⟨by omega,rfl⟩
 ·exact⟨Cnt.erase _ _ _,(Nand.like_erase x.1 _ _).dies⟩
theorem eraseF_ops (b mk:Int):∀(q:List Nat) (x:Nand×Tl×Int),(q.foldl (eraseD b mk) x).1.ops<=x.1.ops+q.length/\(q.foldl (eraseD b mk) x).1.dies=x.1.dies
 | [],x=>⟨by simp,rfl⟩
 | d::q,x=>by
  have h1:=eraseD_ops b mk x d;have ih:=eraseF_ops b mk q (eraseD b mk x d);rw[B1,m7];exact⟨by push_cast;omega,ih.2.trans h1.2⟩
theorem erase_ops (N:Nand) (t:Tl) (b:Int):(erase N t b).1.ops<=N.ops+N.dies/\(erase N t b).1.dies=N.dies:=by
 have h:=eraseF_ops b (t.mask b) (List.range N.dies) (N,t,0);rw[J8]at h;unfold erase eraseB;dsimp only;split
 ·exact h
 ·exact h
theorem clearGo_ops:∀(l:List Int) (N:Nand) (t:Tl),(clearGo l N t).1.ops<=N.ops+(N.dies*l.length:Nat)
 | [],N,t=>by rw[clearGo];simp
 | b::l,N,t=>by
  have h1:=erase_ops N t b;have ih:=clearGo_ops l (erase N t b).1 (erase N t b).2.1;rw[h1.2]at ih;have e:N.dies*(l.length+1)=N.dies*l.length+N.dies:=D5 _ _;rw[clearGo,m7,e];split
  ·push_cast at*;omega
  ·push_cast at*;omega
theorem clear_ops (S:Dv):S.clear.1.N.ops<=S.N.ops+(S.N.dies*S.t.b:Nat):=by
 have h1:=clearGo_ops (A6 (E8 S.t S.T) S.op S.t.b) S.N S.t;have h2:S.N.dies*(A6 (E8 S.t S.T) S.op S.t.b).length<=S.N.dies*S.t.b:=p6 _ (Z8 _ _ _);have h3:S.clear.1.N.ops=(clearGo (A6 (E8 S.t S.T) S.op S.t.b) S.N S.t).1.ops:=rfl;rw[h3];omega
end Dv
namespace Rmy
variable {fd : Int} {S : Dv} {k m β : Nat} {W : List (Int × En)}
def cR (D B P:Nat):Nat:=8*((P+1)/2+1)+D*B
theorem go_ops:∀(f:Nat) (S:Dv) (β k:Nat),Rmy fd W S->S.Ok (Dv.costR*f+k) m->A6 (E8 S.t S.T) S.op S.t.b=[]->Hot2 fd S β->β<=1->(S.N.pages+1)/2+β<=S.rows->5*S.N.pages+β+1<=S.rows+f*(S.N.pages/2)->S.next+400*(f:Int)<=1099511627775-3000000->
  (Dv.roomGo f S).1.N.ops<=S.N.ops+(f*cR S.N.dies S.N.blocks S.N.pages:Nat)
 | f,S,β,k,h,hO,hsp,hot,hβ,hr3,hr5,hnx=>by
  by_cases hfr:(S.free:Int)>4
  ·have:Dv.roomGo f S=(S,0):=by
    cases f with
    | zero=>rfl
    | succ f=>rw[Dv.roomGo,f0 hfr]
   rw[this];show S.N.ops<=_;omega
  ·have h5:=rows_five hO h.inv hfr;have hg:=hO.gd.ok.bd16;cases f with
   | zero=>omega
   | succ f=>
    have hmul:(f+1)*(S.N.pages/2)=f*(S.N.pages/2)+S.N.pages/2:=K9 _ _;have hO2:S.Ok (Dv.costR+(Dv.costR*f+k)) m:=by rw[D5]at hO;exact hO.less (by omega)
    obtain⟨V,β1,w1,w2,w3,w4,w5,w6,w7,w8,w9,w10,w11,w12,w13,w14,C,n,x1,x2,x3⟩:=h.emptied hO2 hsp hfr hot (by omega) (by omega) f;have hpg:=w11.pages;have ih:=go_ops f V β1 k w2 w3 w4 w5 (by omega) (by rw[hpg];omega) (by rw[hpg];omega) (by omega);have hca:=Dv.carry_ops (k:=96+(Dv.costR*f+k)) (S:=S) (hO2.less (by unfold Dv.costR;omega)) S.victim (S.T.count S.victim) (by rw[x1]);have hck:=(Dv.carry_keep (k:=96+(Dv.costR*f+k)) (S:=S) (hO2.less (by unfold Dv.costR;omega)) S.victim (S.T.count S.victim));rw[x1]at hca hck;dsimp only at hca hck;have hcl:=Dv.clear_ops C;rw[x2,hck.2.1.dies,show C.t.b=S.N.blocks from by have:=hck.1.t.b;have:=hck.2.1.blocks;omega]at hcl;dsimp only at hcl;rw[w11.dies,w11.blocks,w11.pages]at ih;have e2:(f+1)*cR S.N.dies S.N.blocks S.N.pages=f*cR S.N.dies S.N.blocks S.N.pages+cR S.N.dies S.N.blocks S.N.pages:=K9 _ _;rw[w1,e2];unfold cR at ih ⊢
    push_cast at*
    omega
theorem room_ops (h:Rmy fd W S) (hO:S.Ok (96+(Dv.costR*S.t.b+k)) m) (hot:Hot2 fd S β) (hr:5*S.N.pages+β<=S.rows+7) (hβ:β<=1) (hnx:S.next<=1099511627775-4000000):S.room.1.N.ops<=S.N.ops+(S.N.dies*S.N.blocks+S.N.blocks*cR S.N.dies S.N.blocks S.N.pages:Nat):=by
 have hg:=hO.gd.ok.bd16;have hb:=hO.t.b;obtain⟨U,u1,u2,u3,u4,u5,u6,u7,u8,u9,u10,u11,u12,u13,u14,u15⟩:=h.clear (β:=β) hO;have hpg:=u13.pages;have h8:8*(S.N.pages/2)<=S.t.b*(S.N.pages/2):=H9 _ (by omega);have ih:=go_ops S.t.b U β k u2 u3 u4 (u15 hot) hβ (by rw[hpg,u10];omega) (by rw[hpg,u10];omega) (by rw[u9];omega);have hcl:=Dv.clear_ops S;rw[u1,show S.t.b=S.N.blocks from by omega]at hcl;dsimp only at hcl;rw[u13.dies,u13.blocks,u13.pages]at ih;have e:S.room=Dv.roomGo S.t.b U:=by
  unfold Dv.room;rw[u1];dsimp only;rw[d8 (by decide)]
 rw[e];rw[show S.t.b=S.N.blocks from by omega]at ih ⊢
 push_cast at*
 omega
end Rmy
theorem b7c:∀D,D<7->3<=D->∀d,d<D->∀m,m<64->(IntKind.i64.wrap ((BitVec.ofInt IntKind.i64.bits ((m:Nat):Int)&&& BitVec.ofInt IntKind.i64.bits (Tl.andN (L.all (D:Nat)) (L.without (L.all (D:Nat)) (d:Nat)))).toNat:Int) !=0)=L.has ((m:Nat):Int) (d:Nat):=by decide+kernel
namespace Inv
variable {die : Nat} {S : Dv} {k m : Nat}
theorem mask_wo (h:Inv die S) (hO:S.Ok k m) (hd:die<S.N.dies) (htd:L.has S.t.dead (die:Nat)=true) {b:Int} (hb:S.t.has b=true):S.t.mask b=L.without (L.all (S.N.dies:Nat)) (die:Nat):=by
 have hg:=hO.gd.ok.bd16;have hd':=hO.t.d;rcases(h.msk hO hb).eq hg.1 with⟨_,e⟩ | ⟨_,_,_,e⟩
 ·have h1:=e (by omega);have h2:=(R7 (t:=S.t) (b:=b) (by omega) hb h.tdead.1 (h.tbad b hb).1).2 (die:Nat);rw[h1,htd]at h2;simp at h2
 ·exact e
theorem lost_iff (h:Inv die S) (hO:S.Ok k m) (hd:die<S.N.dies) (htd:L.has S.t.dead (die:Nat)=true) {i:Int} {a:AtV} (ha:Tb.look S.T.at_ i=some a) {b:Int} (hb:S.t.has b=true):a4C S.t S.T b i=L.has a.mask (die:Nat):=by
 have hg:=hO.gd.ok.bd16;have hd':=hO.t.d;obtain⟨l,g1,_⟩:=(h.st i a ha).row;have hm:=g1.is.mask;have h64:=g1.is.m64;unfold a4C;rw[ha,j5,h.mask_wo hO hd htd hb,hd'];obtain⟨κ,hκ⟩:=i5 hm.1;rw[hκ];exact b7c S.N.dies (by omega) hg.1.1 die hd κ (by omega)
theorem hurt_some (h:Inv die S) (hO:S.Ok k m) (hd:die<S.N.dies) (htd:L.has S.t.dead (die:Nat)=true) {b:Int} {l:List Int} (hh:S.hurts=b::l):S.t.has b=true/\∃i a,i∈S.T.ins b/\Tb.look S.T.at_ i=some a/\a.block=b/\L.has a.mask (die:Nat)=true:=by
 have hb:b∈S.hurts:=by rw[hh];simp
 obtain⟨h1,h2,_,h4⟩:=mem_pkSome.1 hb;have hhas:S.t.has b=true:=Tl.has_iff.2 ⟨h1,h2⟩;refine⟨hhas,?_⟩;unfold a0y at h4;obtain⟨i,hi,hl⟩:=List.any_eq_true.1 h4;obtain⟨a,ha,hab⟩:=a8a hi;exact⟨i,a,hi,ha,hab,by rw[<- h.lost_iff hO hd htd ha hhas];exact hl⟩
theorem hurt_none (h:Inv die S) (hO:S.Ok k m) (hd:die<S.N.dies) (htd:L.has S.t.dead (die:Nat)=true) (hh:S.hurts=[]):NoD die S:=λi a ha=>by
 cases hm:L.has a.mask (die:Nat)with
 | false=>rfl
 | true=>
  exfalso
  obtain⟨l,g1,_⟩:=(h.st i a ha).row;have hblk:=g1.is.blk;have hb:=hO.t.b;have hhas:S.t.has a.block=true:=Tl.has_iff.2 (by omega);have hin:a.block∈S.hurts:=mem_pkSome.2 ⟨by omega,by omega,by omega,by
   unfold a0y;exact List.any_eq_true.2 ⟨i,b3N hO.T ha rfl,by rw[h.lost_iff hO hd htd ha hhas];exact hm⟩⟩
  rw[hh]at hin;cases hin
theorem noD_hurt (h:Inv die S) (hO:S.Ok k m) (hd:die<S.N.dies) (htd:L.has S.t.dead (die:Nat)=true) (hn:NoD die S):S.hurts=[]:=by
 cases hh:S.hurts with
 | nil=>rfl
 | cons b l=>
  obtain⟨_,i,a,_,ha,_,hm⟩:=h.hurt_some hO hd htd hh;rw[hn i a ha]at hm;cases hm
theorem left_noD (h:Inv die S) (hO:S.Ok k m) (hd:die<S.N.dies) (htd:L.has S.t.dead (die:Nat)=true):S.leftN=0↔NoD die S:=by
 constructor
 ·intro hl;cases hh:S.hurts with
  | nil=>exact h.hurt_none hO hd htd hh
  | cons b l=>
   exfalso
   obtain⟨_,i,a,hi,ha,hab,_⟩:=h.hurt_some hO hd htd hh;have hpos:0<S.T.count b:=by
    rw[hO.T.cnt];have:0<Tb.cntB S.T.at_ b:=List.countP_pos_iff.2 ⟨_,Tb.look_mem ha,by simp[hab]⟩;omega
   have hnn:∀l:List Int,0<=(l.map S.T.count).sum:=by
    intro l
    induction l with
    | nil=>simp
    | cons x l ih=>have:=hO.T.bd x;rw[p5,a0m];omega
   have:=hnn l;unfold Dv.leftN at hl;rw[hh,p5,a0m]at hl;omega
 ·intro hn;unfold Dv.leftN;rw[h.noD_hurt hO hd htd hn];rfl
end Inv
structure StpM (die:Nat) (W:List (Int×En)) (S:Dv) (V:Dv):Prop where
 rmy:Rmy die W V
 td:L.has V.t.dead (die:Nat)=true
 next:V.next<=S.next+7000
 dead:V.N.dead=S.N.dead
 broken:V.N.broken=S.N.broken
 like:S.N.Like V.N
 logical:V.T.logical=S.T.logical
 noD:NoD die S->NoD die V
 pot:∀O,Gh die O S->NoD die V\/∃O',Gh die O' V/\pot O' V (W.map (·.1)) S.N.pages+1<=pot O S (W.map (·.1)) S.N.pages
theorem Hot2.seen {die:Nat} {S:Dv} {k m β:Nat} (h:Hot2 die S β) (hi:Inv die S) (hO:S.Ok k m) (hd:die<S.N.dies) (hdd:S.N.dead.getD die false=true):Hot2 die S.seen β:=by
 obtain⟨_,_,h3,_⟩:=hi.saw hO hd hdd;cases h with
 | calm hn=>rw[hn.dead]at hdd;cases hdd
 | cold _ h2=>exact .cold h3 h2
 | once _=>exact .once h3
 | brn hb=>rw[hb.dead]at hdd;cases hdd
 | dead _ _=>exact .once h3
theorem Rmy.step {die:Nat} {S:Dv} {k m β:Nat} {W:List (Int×En)} {most:Int} (h:Rmy die W S) (hO:S.Ok (Dv.costS+k) m) (hd:die<S.N.dies) (hdd:S.N.dead.getD die false=true) (hot:Hot2 die S.seen β) (hβ:β<=1) (hr:5*S.N.pages+β<=S.rows+7) (hmost:1<=most/\most<=6) (hnx:S.next<=1099511627775-5000000):
  ∃(V:Dv) (n:Int) (β':Nat),S.step most=(V,n,0)/\n<=most/\StpM die W S V/\V.Ok k m/\Hot2 die V.seen β'/\β'<=1/\5*V.N.pages+β'<=V.rows+7/\V.N.ops<=S.N.ops+(S.N.dies*S.N.blocks+S.N.blocks*Rmy.cR S.N.dies S.N.blocks S.N.pages+56:Nat):=by
 have hg:=hO.gd.ok.bd16;have htb:=hO.t.b;obtain⟨s1,s2,s3,s4,s5,s6⟩:=h.inv.saw hO hd hdd;have hOs:=hO.seen;have hRs:Rmy die W S.seen:=⟨s2,⟨h.hd.keys,h.hd.each⟩,h.wok,λb hb=>by rw[(s4 b).2];exact h.held b (by rw[<- (s4 b).1];exact hb),h.ff,h.cap⟩;have hrs:S.seen.rows=S.rows:=by
  unfold Dv.rows;rw[s5];rfl
 have m1:Mvd die S S.seen:= .same .nil rfl rfl rfl (λb=>(s4 b).1) rfl s2;have hOr:=(hOs.less (k':=96+(Dv.costR*S.seen.t.b+(Dv.costC+k))) (by
  have:Dv.costR*S.seen.t.b<=Dv.costR*16:=p6 _ (by have:=hOs.t.b;have:S.seen.N.blocks=S.N.blocks:=rfl;omega);unfold Dv.costS Dv.costM;omega))
 obtain⟨U,β1,u1,u2,u3,u4,u5,u6,u7,u8,u9,u10,u11,u12,u13,u14⟩:=hRs.room2 (k:=Dv.costC+k) (β:=β) hOr hot (by rw[hrs];exact hr) hβ (by show S.next<=_;omega);have hro:S.seen.room.1.N.ops<=S.N.ops+(S.N.dies*S.N.blocks+S.N.blocks*Rmy.cR S.N.dies S.N.blocks S.N.pages:Nat):=hRs.room_ops (k:=Dv.costC+k) (β:=β) hOr hot (by rw[hrs];exact hr) hβ (by show S.next<=_;omega);obtain⟨cc,hcc⟩:∃cc,S.N.dies*S.N.blocks+S.N.blocks*Rmy.cR S.N.dies S.N.blocks S.N.pages=cc:=⟨_,rfl⟩;rw[hcc]at hro ⊢;rw[u1]at hro;dsimp only at hro;have hmany:=u2.many u3 u4;have hdU:die<U.N.dies:=by rw[u11.dies];exact hd
 have hddU:U.N.dead.getD die false=true:=by rw[u9];exact hdd
 have htdU:=u13 _ s3;have mU:=m1.trans u14;have hlU:S.N.Like U.N:=u11;have hst:S.step most=(let r:=S.seen.room;if r.2≠0 then(r.1,0,r.2)else match r.1.hurts with | []=>(r.1,0,0) | b::_=>r.1.carry b most):=rfl;rw[u1]at hst;dsimp only at hst;rw[d8 (by decide)]at hst;cases hh:U.hurts with
 | nil=>
  rw[hh]at hst;have hno:=u2.inv.hurt_none u3 hdU htdU hh;refine⟨U,0,β1,hst,by omega,⟨u2,htdU,by have:S.seen.next=S.next:=rfl;omega,u9,u10,hlU,u12,λ_=>hno,λ_ _=> .inl hno⟩,u3.less (by omega),u6.seen u2.inv u3 hdU hddU,by omega,by omega,by omega⟩
 | cons b l=>
  rw[hh]at hst;dsimp only at hst;obtain⟨hb,i,a,hi,ha,hab,hm⟩:=u2.inv.hurt_some u3 hdU htdU hh;obtain⟨L,hL⟩:∃L,(U.T.ins b).take (max most 0).toNat=L:=⟨_,rfl⟩;have hLlen:L.length<=6/\(L.length:Int)<=most:=by rw[<- hL,l9];omega
  have hsub:∀j∈L,j∈U.T.ins b:=λj hj=>by rw[<- hL]at hj;exact I0 hj
  have hne:L≠[]:=λe=>by
   have:L.length=0:=by rw[e];rfl
   have:=List.length_pos_of_mem hi;rw[<- hL,l9]at*;omega
  have hnd:L.Nodup:=by
   rw[<- hL];refine a2x (a6M _ _) ?_;unfold Tb.ins;split
   ·exact a1y
   ·unfold Tb.inK;exact List.pairwise_map.2 ((List.nodup_range.filter _).imp λhne e=>hne (by omega))
  have hmul:1*6<=(U.N.dies-2)*6:=H9 _ (by have:=u11.dies;have:S.seen.N.dies=S.N.dies:=rfl;omega);have hpU:U.N.pages=S.N.pages:=u11.pages;obtain⟨V,β2,r1,r2,r3,r4,r5,r6,r7⟩:=u2.inv.carry_go L.length U L 0 W β1 6 k (u3.less (by
   have:Dv.cost*L.length<=Dv.cost*65536:=p6 _ (by omega);unfold Dv.costC;omega)) (j4 _) u2.hd u2.wok (λj hj=>by
    obtain⟨c,hc,_⟩:=a8a (hsub j hj);cases hw:Tb.look W j with
    | none=>rw[u2.hd.none hw]at hc;cases hc
    | some e=>rfl) hnd u6 (by omega) (by rw[hpU]at hmany;omega) (by have:S.seen.next=S.next:=rfl;omega)
  have hcar:U.carry b most=(V,(L.length:Int),(0:Int)):=by
   unfold Dv.carry;rw[hL];show Dv.carryGo L.length U L 0=_;rw[r1];simp
  have hpV:V.N.pages=S.N.pages:=r2.like.pages.trans hpU;have hdV:die<V.N.dies:=by rw[r2.like.dies];exact hdU
  have hddV:V.N.dead.getD die false=true:=by rw[r2.dead];exact hddU
  have hRV:Rmy die W V:=⟨r2.inv,r3,h.wok,λx hx=>by rw[r2.has]at hx;rw[(r2.sb x hx).1];exact u2.held x hx,λhdd i j=>by rw[(r2.flags i j).2];exact u2.ff (λi=>by rw[<- r2.dead];exact hdd i) i j,by rw[r2.like.blocks,r2.like.pages,r2.like.dies];exact u2.cap⟩;have hnx2:=r2.next;obtain⟨j,hj⟩:=List.exists_mem_of_ne_nil _ hne;obtain⟨c,hc,hcb⟩:=a8a (hsub j hj);refine⟨V,L.length,β2,by rw[hst,hcar],hLlen.2,⟨hRV,r2.td _ htdU,by have:S.seen.next=S.next:=rfl;omega,r2.dead.trans u9,r2.broken.trans u10,hlU.trans r2.like,r2.logical.trans u12,λhn=>Mvd.crd_noD (mU.noD hdd hn) r2 hddU,λO hG=>?_⟩,r7,r4.seen r2.inv r7 hdV hddV,by omega,by rw[hpV];rw[hpU]at hmany;omega,by have:=Dv.carry_ops u3 b most (by rw[hcar]);rw[hcar]at this;dsimp only at this;omega⟩;obtain⟨O',g1,g2⟩:=mU.gh (K:=W.map (·.1)) (P:=S.N.pages) hdd hG;have hOb:O' b=true:=by rw[<- hab];exact g1.ent i a ha hm
  have hKj:j∈W.map (·.1):=by
   rw[<- u2.hd.keys];exact List.mem_map.2 ⟨(j,c),Tb.look_mem hc,rfl⟩
  have q1:=(g1.crd (K:=W.map (·.1)) (P:=S.N.pages) r2 hddU).1;have q2:=g1.crd_lt (K:=W.map (·.1)) r2 hpV hj hKj hc (by rw[hcb];exact hOb);exact .inr ⟨O',q1,by omega⟩
structure Mnd (die D B P g:Nat) (W:List (Int×En)) (i:Nat) (S:Dv):Prop where
 rmy:Rmy die W S
 dd:S.N.dead.getD die false=true
 hot:∃β,Hot2 die S.seen β/\β<=1/\5*P+β<=S.rows+7
 td:0<i->L.has S.t.dead (die:Nat)=true
 pot:NoD die S\/∃O,Gh die O S/\pot O S (W.map (·.1)) P+i<=g+P
 next:S.next<=1098000000000+7000*(i:Int)
 dies:S.N.dies=D
 blocks:S.N.blocks=B
 pages:S.N.pages=P
 logical:S.T.logical=(g:Int)
 broken:S.N.broken=0
namespace Mnd
variable {die D B P g : Nat} {W : List (Int × En)} {i k m : Nat} {S : Dv}
theorem step (h:Mnd die D B P g W i S) (hO:S.Ok (Dv.costS+k) m) (hd:die<D) {most:Int} (hmost:1<=most/\most<=6) (hi:i<=500):∃(V:Dv) (n:Int),S.step most=(V,n,0)/\n<=most/\Mnd die D B P g W (i+1) V/\V.Ok k m/\(0<i->S.leftN=0->V.leftN=0)/\V.N.ops<=S.N.ops+(D*B+B*Rmy.cR D B P+56:Nat):=by
 obtain⟨β,q1,q2,q3⟩:=h.hot;have hnx:=h.next;obtain⟨V,n,β',v1,v2,v3,v4,v5,v6,v7,v8⟩:=h.rmy.step hO (by rw[h.dies];exact hd) h.dd q1 q2 (by rw[h.pages];exact q3) hmost (by omega);have hdV:die<V.N.dies:=by rw[v3.like.dies,h.dies];exact hd
 refine⟨V,n,v1,v2,⟨v3.rmy,by rw[v3.dead];exact h.dd,⟨β',v5,v6,by rw[v3.like.pages,h.pages]at v7;exact v7⟩,λ_=>v3.td,?_,by have:=v3.next;omega,v3.like.dies.trans h.dies,v3.like.blocks.trans h.blocks,v3.like.pages.trans h.pages,v3.logical.trans h.logical,v3.broken.trans h.broken⟩,v4,λhi0 hl=>?_,by rw[h.dies,h.blocks,h.pages]at v8;exact v8⟩
 ·rcases h.pot with h1 | ⟨O,g1,g2⟩
  ·exact .inl (v3.noD h1)
  ·rcases v3.pot O g1 with h1 | ⟨O',q4,q5⟩
   ·exact .inl h1
   ·rw[h.pages]at q5;exact .inr ⟨O',q4,by omega⟩
 ·have h1:=(h.rmy.inv.left_noD hO (by rw[h.dies];exact hd) (h.td hi0)).1 hl;exact(v3.rmy.inv.left_noD v4 hdV v3.td).2 (v3.noD h1)
end Mnd
def Nand.kill (N:Nand) (d:Nat):Nand:={N with dead:=N.dead.set d true}
def Fv.kill (F:Fv) (d:Nat):Fv:={F with S:={F.S with N:=F.S.N.kill d}}
theorem c1A:Dv.costS<=UN*2:=by
 have hUe:=a8D;have:Dv.costC<=Dv.costM:=by unfold Dv.costM Dv.costR;omega
 unfold Dv.costS;omega
theorem a7Y {N:Nand} {d:Nat} (hN:N.Ok) (hd:d<N.dies):N.fault 4 (d:Int) 0 0 0 0=(true,N.kill d):=by
 have hg:=hN.bd;unfold Nand.fault;rw[d8 (by simp only[V8];simp;omega),d8 (by decide),d8 (by decide),d8 (by decide),f0 rfl,i9];rfl
theorem Fv.Ok.kill {F:Fv} {k m d:Nat} (h:F.Ok k m) (hd:d<F.S.N.dies):(F.kill d).Ok k (m+1):=by
 have hf:=a7Y h.dv.gd.ok hd;have hl:F.S.N.Like (F.S.N.kill d):=⟨rfl,rfl,rfl⟩;have hG:(F.S.N.kill d).Gd k (m+1):=by
  have:=a3l h.dv.gd [⟨0,4,d,0,0,0,0⟩];have e:a0A F.S.N [⟨0,4,d,0,0,0,0⟩]=F.S.N.kill d:=congrArg Prod.snd hf;rw[e]at this;exact this
 exact⟨⟨hG,h.dv.t.like hl,h.dv.T,h.dv.sl,h.dv.row,h.dv.next⟩,h.dat,h.rng,h.nd,h.nx⟩
theorem Mnd.saw {die D B P g i k m:Nat} {W:List (Int×En)} {S:Dv} (h:Mnd die D B P g W i S) (hO:S.Ok k m) (hd:die<D):Mnd die D B P g W i S.seen/\L.has S.seen.t.dead (die:Nat)=true:=by
 have hd2:die<S.N.dies:=by rw[h.dies];exact hd
 obtain⟨e,i1,i2,i3,i4,_⟩:=h.rmy.inv.saw hO hd2 h.dd;obtain⟨β,q1,q2,q3⟩:=h.hot;refine⟨⟨⟨i1,⟨h.rmy.hd.keys,h.rmy.hd.each⟩,h.rmy.wok,λb hb=>?_,h.rmy.ff,h.rmy.cap⟩,h.dd,⟨β,q1.seen i1 hO.seen hd2 h.dd,q2,?_⟩,λ_=>i2,?_,h.next,h.dies,h.blocks,h.pages,h.logical,h.broken⟩,i2⟩
 ·rw[(i3 b).2];exact h.rmy.held b (by rw[<- (i3 b).1];exact hb)
 ·have:S.seen.rows=S.rows:=by unfold Dv.rows;rw[i4];rfl
  omega
 ·rcases h.pot with h1 | ⟨O,g1,g2⟩
  ·exact .inl h1
  ·exact .inr ⟨O,⟨λb hb=>by rw[(i3 b).1,(i3 b).2];exact g1.used b hb,g1.ent⟩,g2⟩
structure Tdd (die D B P i:Nat) (W:List (Int×En)) (F:Fv) (n:Nat) (c:Nat->List UInt8):Prop where
 mn:Mnd die D B P (lgN D B P) W i F.S
 cu:∀j:Nat,j<lgN D B P->cur W [] j=c j
 wr:∀i e,Tb.look W i=some e->e.role≠4
 lg2:lgN D B P<=200
 L:F.L=[]
 off:F.off=false
 ok:F.Ok (UN*n) 1
 dl:die<D
namespace Tdd
variable {die D B P i n : Nat} {W : List (Int × En)} {F : Fv} {c : Nat → List UInt8}
theorem lg (h:Tdd die D B P i W F n c):F.lg=(lgN D B P:Int):=by
 unfold Fv.lg;rw[h.mn.dies,h.mn.blocks,h.mn.pages]
theorem fi (h:Tdd die D B P i W F n c):FI (die:Int) W (lgN D B P) F:=
 ⟨h.mn.rmy.inv,h.mn.rmy.hd,h.mn.rmy.wok,h.wr,h.mn.logical,h.lg,h.lg2,(by rw[h.L];intro e he;cases he),(by rw[h.L];exact a1y),h.off⟩
theorem less (h:Tdd die D B P i W F n c) {k:Nat} (hk:k<=n):Tdd die D B P i W F k c:=
 ⟨h.mn,h.cu,h.wr,h.lg2,h.L,h.off,h.ok.less (p6 _ hk),h.dl⟩
theorem whole (h:Tdd die D B P i W F n c):Tdd die D B P i W F.whole.1 n c/\(F.whole.2=true↔NoD die F.S)/\F.whole.1.S.T=F.S.T:=by
 have hk:=(Fv.whole_keep h.ok).1;obtain⟨m1,m2⟩:=h.mn.saw h.ok.dv h.dl;have hl:=m1.rmy.inv.left_noD h.ok.dv.seen (by rw[m1.dies];exact h.dl) m2;have he:F.whole=({F with S:=F.S.seen},F.S.seen.leftN==0):=by
  unfold Fv.whole;rw[h.fi.ask,d8 (by rw[h.off];decide)]
 rw[he]at hk ⊢;refine⟨⟨m1,h.cu,h.wr,h.lg2,h.L,h.off,hk,h.dl⟩,?_,rfl⟩;dsimp only;rw[A5];exact hl
theorem tick (h:Tdd die D B P i W F (n+2) c) (hi:i<=500):F.tick.2=0/\Tdd die D B P (i+1) W F.tick.1 n c/\F.tick.1.S.N.ops<=F.S.N.ops+(D*B+B*Rmy.cR D B P+56:Nat):=by
 have hU:UN*(n+2)=UN*n+UN*2:=a0d _ _ _;have hS:=c1A;have hk:=(Fv.tick_keep (k:=UN*n) (m:=1) (h.ok.less (by omega))).1;obtain⟨V,x,v1,_,v3,_,_,v8⟩:=h.mn.step (k:=UN*n) (h.ok.dv.less (by omega)) h.dl (most:=4) (by decide) hi;have he:F.tick=({F with S:=V},0):=by
  unfold Fv.tick;rw[h.fi.ask,h.off,d8 j6,v1];show(({F with S:=V}:Fv).told 0,(0:Int))=_;unfold Fv.told;simp[h.off]
 rw[he]at hk ⊢;exact⟨rfl,⟨v3,h.cu,h.wr,h.lg2,h.L,h.off,hk,h.dl⟩,v8⟩
theorem few (h:Tdd die D B P i W F n c) (hw:F.whole.2=false):i<=lgN D B P+P:=by
 rcases h.mn.pot with h1 | ⟨O,_,g2⟩
 ·rw[h.whole.2.1.2 h1]at hw;cases hw
 ·omega
end Tdd
theorem Full.changed {fd:Nat} {N N':Nand} (c:FdCh fd N N') {b r m:Int} {l:List En} (hF:Full fd N b r m l):Full fd N' b r m l:=by
 have hpage:∀(d b r:Int),d.toNat≠fd->N'.pageAt d b r=N.pageAt d b r:=λd b r hd=>by
  unfold Nand.pageAt;rw[c.blk _ _ hd]
 refine⟨hF.is.like c.like,λx hx hne=>?_,λx hx y hy=>?_⟩
 ·obtain⟨t,ht⟩:=hF.good x hx hne;have:=(hF.is.inn x hx).1;exact⟨t,by rw[hpage _ _ _ (by omega)];exact ht⟩
 ·by_cases e:x.1.toNat=fd
  ·unfold Nand.pageAt at hy;rw[e]at hy;obtain⟨c0,h1,h2⟩:=c.cell _ _ y hy;refine h2 _ (hF.inn x hx c0 ?_);unfold Nand.pageAt;rw[e];exact h1
  ·rw[hpage _ _ _ e]at hy;exact hF.inn x hx y hy
structure RdI (od:Nat) (W:List (Int×En)) (lg:Nat) (F:Fv):Prop where
 off2:F.S.N.off=false
 off:F.off=false
 lgn:F.lg=(lg:Int)
 L:F.L=[]
 wok:WOk W
 wr:∀i e,Tb.look W i=some e->e.role≠4
 none:∀i,Tb.look W i=none->Tb.look F.S.T.at_ i=none
 each:∀i e,Tb.look W i=some e->∃a l,Tb.look F.S.T.at_ i=some a/\Full od F.S.N a.block a.row a.mask l/\0<=a.slot/\a.slot.toNat<l.length/\l.getD a.slot.toNat En.zero={e with seq:=a.seq}/\a.role=e.role/\∀x∈R.job a.block a.row a.mask l,x.1≠(od:Int)->F.S.N.dead.getD x.1.toNat false=false
namespace RdI
variable {od lg : Nat} {W : List (Int × En)} {F : Fv}
theorem ask (h:RdI od W lg F):F.ask=F:=by
 unfold Fv.ask;rw[h.off2,h.off];cases F;have:=h.off;simp only at this;simp[this]
theorem get (h:RdI od W lg F) (j:Int):F.get j=(cur W [] j,0):=by
 unfold Fv.get cur a2s;rw[h.L];simp only[List.find?_nil,D7,U8];cases hw:Tb.look W j with
 | none=>rw[h.none _ hw]
 | some e=>
  obtain⟨a,l,h1,h2,h3,h4,h5,h6,h7⟩:=h.each j e hw;have hr:=h2.read2 h.off2 h7 h4;rw[show((a.slot.toNat:Nat):Int)=a.slot from by omega,h5]at hr;rw[h1];dsimp only;have hwe:=h.wok j e hw;have hw4:=h.wr j e hw;rcases hwe.2.role with r | ⟨r | r,hz⟩
  ·rw[d8 (by omega),d8 (by omega),hr];dsimp only;rw[d8];rintro(x | x | x)
   ·exact x rfl
   ·exact x hwe.1
   ·exact x rfl
  ·rw[f0 (by omega),hz]
  ·exact absurd r hw4
theorem read (h:RdI od W lg F) (i:Int):F.read i=if i<0\/i>=(lg:Int)then(F,zeros16,3)else(F,cur W [] i,0):=by
 unfold Fv.read;rw[h.ask,h.off,d8 j6,h.lgn]
 by_cases hi:i<0\/i>=(lg:Int)
 ·rw[f0 hi,f0 hi]
 ·rw[d8 hi,d8 hi,h.get]
theorem faulted (h:RdI od W lg F) (kind y z a b:Int):RdI od W lg {F with S:={F.S with N:=(F.S.N.fault kind (od:Int) y z a b).2}}:=by
 have c:=FdCh.fault (fd:=od) F.S.N kind y z a b;refine⟨c.off.trans h.off2,h.off,?_,h.L,h.wok,h.wr,h.none,λi e he=>?_⟩
 ·have:=h.lgn;unfold Fv.lg at this ⊢;show((lgN (F.S.N.fault kind (od:Int) y z a b).2.dies (F.S.N.fault kind (od:Int) y z a b).2.blocks (F.S.N.fault kind (od:Int) y z a b).2.pages:Nat):Int)=_;rw[c.like.dies,c.like.blocks,c.like.pages];exact this
 ·obtain⟨a,l,h1,h2,h3,h4,h5,h6,h7⟩:=h.each i e he;refine⟨a,l,h1,h2.changed c,h3,h4,h5,h6,λx hx hne=>?_⟩;have:=(h2.is.inn x hx).1;show(F.S.N.fault kind (od:Int) y z _ b).2.dead.getD x.1.toNat false=false;rw[c.dead _ (by omega)];exact h7 x hx hne
end RdI
theorem Tdd.rd {die D B P i n:Nat} {W:List (Int×En)} {F:Fv} {c:Nat->List UInt8} (h:Tdd die D B P i W F n c) (hn:NoD die F.S) {od:Nat} (hne:od≠die):RdI od W (lgN D B P) F:=by
 have hi:=h.mn.rmy.inv;refine⟨hi.lit.off,h.off,h.lg,h.L,h.mn.rmy.wok,h.wr,λj hj=>h.mn.rmy.hd.none hj,λj e he=>?_⟩;obtain⟨h1,a,h2,h3⟩:=h.mn.rmy.hd.each j e he;obtain⟨l,g1,g2,g3,_,_,g6⟩:=(hi.st j a h2).row;have hno:=hn j a h2;have hx0:∀x∈R.job a.block a.row a.mask l,x.1≠(die:Int):=λx hx e=>by
  have:=(g1.is.inn x hx).2.2;rw[e,hno]at this;cases this
 have r2:=g1.read hi.lit.off hi.dead g3;rw[show((a.slot.toNat:Nat):Int)=a.slot from by omega,h3]at r2;have e5:l.getD a.slot.toNat En.zero={e with seq:=a.seq}:=(congrArg Prod.fst r2).symm;refine⟨a,l,h2,⟨g1.is,λx hx _=>g1.good x hx (hx0 x hx),g1.inn⟩,g2,g3,e5,?_,λx hx _=>hi.dead _ (by have:=hx0 x hx;have:=(g1.is.inn x hx).1;omega)⟩;rw[<- g6,e5]
structure WtR (D B P:Nat) (W:Wa) (Z:Fv) (n m b:Nat):Prop where
 z:W.P.Z=some Z
 dev:∃(od:Nat) (V:List (Int×En)),W.die=(od:Int)/\RdI od V (lgN D B P) Z/\∀i:Nat,i<lgN D B P->(Mv.pg W.M (i:Int)).now=cur V [] i
 ok:Z.Ok n m
 calm:Mv.Calm W.M
 pl:W.P.L=[]
 few:m<=b+15
 stuck:W.stuck=false
 wrong:W.wrong=false
 len:W.M.length=lgN D B P
 fine:Mv.Fine W.M b
 log:W.P.log.length<=b
 late:0<=W.late/\W.late<=b
 b1:1<=b
namespace WtR
variable {D B P n m b : Nat} {W : Wa} {Z : Fv}
theorem more (h:WtR D B P W Z n m b) {c:Nat} (hb:b<=c):WtR D B P W Z n m c:=
 ⟨h.z,h.dev,h.ok,h.calm,h.pl,by have:=h.few;omega,h.stuck,h.wrong,h.len,h.fine.more hb,C6 h.log hb,by have:=h.late;omega,C6 h.b1 hb⟩
theorem c_len {V:List (Int×En)} (h:WOk V) (i:Int):(cur V [] i).length=16:=b0R h (λe he=>by cases he) i
theorem does (h:WtR D B P W Z n m b) {s:Stp} (hf:s.fn<2\/s.fn>7) (h8:s.fn=8->s.f.x=W.die):
  ∃Z' t m',W.P.run.does s=({W.P with Z:=some Z'},t)/\(∃(od:Nat) (V:List (Int×En)),W.die=(od:Int)/\RdI od V (lgN D B P) Z'/\∀i:Nat,i<lgN D B P->(Mv.pg W.M (i:Int)).now=cur V [] i)/\Z'.Ok n m'/\m'<=m+1/\t.data.length=16/\t.err≠9/\t.err≠12/\W.hold s t=(W.M,false):=by
 obtain⟨od,V,hod,hR,hM⟩:=h.dev;rw[Pv.run_none h.z h.pl];have hnd:W.P.nd=Z.S.N:=by unfold Pv.nd;rw[h.z]
 have hMl:=h.len;unfold Pv.does
 by_cases h1:s.fn=1
 ·rw[f0 h1,h.z];dsimp only;have hr:=hR.read s.lpn
  by_cases hi:s.lpn<0\/s.lpn>=(lgN D B P:Int)
  ·rw[f0 hi]at hr;rw[hr];refine⟨Z,_,m,rfl,⟨od,V,hod,hR,hM⟩,h.ok,by omega,rfl,(show(3:Int)≠9 by decide),(show(3:Int)≠12 by decide),?_⟩;rw[Wa.hold1_e h1 (show(3:Int)≠0 by decide)];have:¬(s.lpn>=0/\s.lpn<(W.M.length:Int)):=by omega
   refine congrArg (λx=>(W.M,x)) ?_;dsimp only;simp only[H0,a1a,c9];omega
  ·rw[d8 hi]at hr;rw[hr];obtain⟨k,hk⟩:∃k:Nat,s.lpn=(k:Int):=⟨s.lpn.toNat,by omega⟩;have hkl:k<lgN D B P:=by omega
   have hh:=Wa.hold1_0 (W:=W) (t:=⟨0,cur V [] s.lpn⟩) h1 rfl;rw[h.calm.saw,hk,h.calm.may (by omega) (hM k hkl)]at hh;rw[hk];exact⟨Z,_,m,rfl,⟨od,V,hod,hR,hM⟩,h.ok,by omega,c_len hR.wok _,(show(0:Int)≠9 by decide),(show(0:Int)≠12 by decide),hh⟩
 rw[d8 h1,d8 (show¬s.fn=2 by omega),d8 (show¬s.fn=3 by omega),d8 (show¬s.fn=4 by omega),d8 (show¬s.fn=5 by omega),d8 (show¬s.fn=6 by omega),d8 (show¬s.fn=7 by omega)];have hx:=λt=>Wa.hold_x (W:=W) (s:=s) (t:=t) h1 (by omega) (by omega) (by omega)
 by_cases h8':s.fn=8
 ·have hx8:s.f.x=(od:Int):=(h8 h8').trans hod;rw[f0 h8',hnd,hx8];have hR2:=hR.faulted s.f.kind s.f.y s.f.z s.f.n s.f.xx;have hok:(Z.setN (Z.S.N.fault s.f.kind (od:Int) s.f.y s.f.z s.f.n s.f.xx).2).Ok n (m+1):=h.ok.setN (Nand.like_fault Z.S.N s.f.kind (od:Int) s.f.y s.f.z s.f.n s.f.xx) (a3l h.ok.dv.gd [⟨0,s.f.kind,od,s.f.y,s.f.z,s.f.n,s.f.xx⟩]);have U0:W.P.setN (Z.S.N.fault s.f.kind (od:Int) s.f.y s.f.z s.f.n s.f.xx).2={W.P with Z:=some (Z.setN (Z.S.N.fault s.f.kind (od:Int) s.f.y s.f.z s.f.n s.f.xx).2)}:=by unfold Pv.setN;rw[h.z]
  rw[U0];exact⟨_,_,m+1,rfl,⟨od,V,hod,hR2,hM⟩,hok,j4 _,by split<;>rfl,by split<;>decide,by split<;>decide,hx _⟩
 rw[d8 h8'];refine⟨Z,⟨1,zd⟩,m,?_,⟨od,V,hod,hR,hM⟩,h.ok,by omega,rfl,(show(1:Int)≠9 by decide),(show(1:Int)≠12 by decide),hx _⟩;rw[<- h.z]
theorem pre (h:WtR D B P W Z n m b) {s:Stp} (hf:s.fn<2\/s.fn>7):∃Z2,(W.P.step (W.ask s)).1.Z=some Z2/\Z2.S.N.off=false/\(W.P.step (W.ask s)).2.data.length=16:=by
 obtain⟨Z',t,m',e1,⟨od,V,_,e2,_⟩,_,_,e3,_⟩:=h.does (s:=W.ask s) (by rw[Wa.ask_fn];exact hf) (λh8=>WtF.ask_f h.stuck (by rw[Wa.ask_fn]at h8;exact h8));have hst:W.P.step (W.ask s)=({W.P with Z:=some Z',log:=W.P.log++[t]},t):=by
  unfold Pv.step;rw[e1]
 rw[hst];exact⟨Z',rfl,e2.off2,e3⟩
theorem step (h:WtR D B P W Z n m b) {s:Stp} (hf:s.fn<2\/s.fn>7) (hd:s.data.length=16):∃Z' m',WtR D B P (W.step s) Z' n m' (b+1):=by
 have hf1:(W.ask s).fn=s.fn:=Wa.ask_fn W s;obtain⟨Z',t,m',e1,e2,e0,e2',e3,e4,e5,e6⟩:=h.does (s:=W.ask s) (by rw[hf1];exact hf) (λh8=>WtF.ask_f h.stuck (by rw[hf1]at h8;exact h8));have hst:W.P.step (W.ask s)=({W.P with Z:=some Z',log:=W.P.log++[t]},t):=by
  unfold Pv.step;rw[e1]
 have hb1:=h.b1;have hfew:=h.few;have hlate:=h.late;have hlog:(W.P.log++[t]).length<=b+1:=by rw[f9,K7];have:=h.log;omega
 have hnl:0<=(W.noted s).late/\(W.noted s).late<=(b+1:Nat):=by unfold Wa.noted;split<;>(try dsimp only)<;>omega
 have hnP:(W.noted s).P=W.P:=by unfold Wa.noted;split<;>rfl
 have hnM:(W.noted s).M=W.M:=by unfold Wa.noted;split<;>rfl
 have hnd:(W.noted s).die=W.die:=by unfold Wa.noted;split<;>rfl
 have hnw:(W.noted s).wrong=false:=by unfold Wa.noted;split<;>exact h.wrong
 have hns:(W.noted s).stuck=false:=by unfold Wa.noted;split<;>exact h.stuck
 have hnh:∀t,(W.noted s).hold (W.ask s) t=W.hold (W.ask s) t:=λt=>by unfold Wa.noted;split<;>rfl
 rw[Wa.step_eq h.stuck];generalize W.noted s=V at*;unfold Wa.step1
 by_cases hsk:Wa.skip (W.ask s)=true
 ·rw[f0 hsk];exact⟨Z,m,⟨by rw[hnP];exact h.z,by rw[hnd,hnM];exact h.dev,h.ok,by rw[hnM];exact h.calm,by rw[hnP];exact h.pl,by omega,hns,hnw,by rw[hnM];exact h.len,by rw[hnM];exact h.fine.more (by omega),by rw[hnP];have:=h.log;omega,hnl,by omega⟩⟩
 rw[d8 hsk,hnP,hst];dsimp only;rw[hf1,d8 (show¬s.fn=7 by omega),hnh,e6,hnw];refine⟨Z',m',⟨rfl,by dsimp only;rw[hnd];exact e2,e0,h.calm,h.pl,by omega,hns,?_,h.len,h.fine.more (by omega),hlog,hnl,by omega⟩⟩;dsimp only;rw[y6 e4,y6 e5];simp
end WtR
theorem Inv.calm_hurts {S:Dv} {k m:Nat} (h:Inv (-1) S) (hO:S.Ok k m):S.hurts=[]:=by
 have hg:=hO.gd.ok.bd16;have hd:=hO.t.d;refine a3e _ λx hx=>?_;have hhas:S.t.has (x:Int)=true:=Tl.has_iff.2 (by omega);have hb:=h.tbad _ hhas;obtain⟨m1,m2⟩:=R7 (t:=S.t) (b:=(x:Int)) (by omega) hhas h.tdead.1 hb.1;have ha:=L.set_all S.t.d (by omega);have hm:S.t.mask (x:Int)=L.all (S.t.d:Nat):=L.ext m1 ha λe he=>by
  rw[m2,L.all_has S.t.d (by omega)];have e1:L.has S.t.dead (e:Nat)=false:=by
   cases hh:L.has S.t.dead (e:Nat)with
   | false=>rfl
   | true=>have:=h.tdead.2 _ hh;omega
  have e2:L.has (S.t.at_ (x:Int)).bad (e:Nat)=false:=by
   cases hh:L.has (S.t.at_ (x:Int)).bad (e:Nat)with
   | false=>rfl
   | true=>have:=hb.2 _ hh;omega
  rw[e1,e2];simp
 have hz:Tl.andN (L.all (S.t.d:Nat)) (L.all (S.t.d:Nat))=0:=by
  obtain⟨n1,n2⟩:=a8z ha ha;exact L.ext n1 (by decide) λe _=>by rw[n2,L.has_zero];simp
 have hl:∀i,a4C S.t S.T (x:Int) i=false:=λi=>by
  unfold a4C;rw[hm,hz];have hz0:BitVec.ofInt IntKind.i64.bits 0=0#IntKind.i64.bits:=rfl;rw[hz0,BitVec.and_zero];decide
 have:a0y S.t S.T (x:Int)=false:=by
  unfold a0y;rw[a1j];intro i _;rw[hl];simp
 rw[this];simp
namespace FR
variable {W : List (Int × En)} {lg k m β : Nat} {F : Fv}
theorem calm (h:FR (-1) W lg F β 1):FR (-1) W lg F 0 1:=⟨h.fi,h.rmy, .calm h.hot.nof,by have:=h.rows;omega,h.e1,h.cap⟩
theorem calm_tick (h:FR (-1) W lg F β 1) (hO:F.S.Ok (Dv.costS+k) m) (hnx:F.S.next<=1099511627775-30000000):
  ∃V:Dv,F.tick=({F with S:=V},0)/\FR (-1) W lg {F with S:=V} 0 1/\V.next<=F.S.next+7000/\V.N.broken=F.S.N.broken/\F.S.N.Like V.N:=by
 have hg:=hO.gd.ok.bd16;have htb:=hO.t.b;obtain⟨V,β1,v1,v2,v3,v4,v5,v6,v7,v8,v9,v10,v11,v12,v13,_⟩:=h.rmy.room3 (k:=8*Dv.fuel+k) (hO.less (by
  have:Dv.costR*F.S.t.b<=Dv.costR*16:=p6 _ (by omega);have:8*Dv.fuel<=Dv.costC:=by unfold Dv.costC Dv.cost;omega
  unfold Dv.costS Dv.costM;omega)) h.hot (by have:=h.rows;omega) (by omega)
 have hmany:=v2.many v3 v4;have hh:V.hurts=[]:=v2.inv.calm_hurts v3;have hs:F.S.seen=F.S:=by
  unfold Dv.seen;rw[a4B h.hot.nof.dead]
 have he:F.tick=({F with S:=V},0):=by
  unfold Fv.tick Dv.step;rw[h.fi.ask,h.fi.off,d8 j6,hs,v1];dsimp only;rw[d8 (by decide),hh];show(({F with S:=V}:Fv).told 0,(0:Int))=_;unfold Fv.told;rw[h.fi.off];simp[h.fi.off]
 refine⟨V,he,⟨⟨v2.inv,v2.hd,v2.wok,h.fi.wr,v12.trans h.fi.log,?_,h.fi.lg2,h.fi.des,h.fi.nd,h.fi.off⟩,v2, .calm v6.nof,by show 5*V.N.pages+0+1<=V.rows+7;omega,h.e1,?_⟩,by omega,v10,v11⟩
 ·have:=h.fi.lgn;unfold Fv.lg at this ⊢;show((lgN V.N.dies V.N.blocks V.N.pages:Nat):Int)=_;rw[v11.dies,v11.blocks,v11.pages];exact this
 ·show 2*lg<=(V.N.blocks-5)*(V.N.pages*(V.N.dies-2))+1;rw[v11.blocks,v11.pages,v11.dies];exact h.cap
end FR
structure DevC (D B P:Nat) (F:Fv) (n:Nat) (c:Nat->List UInt8):Prop where
 fr:∃W,FR (-1) W (lgN D B P) F 0 1/\∀i:Nat,i<lgN D B P->cur W F.L i=c i
 ok:F.Ok (UN*n) 0
 nx:F.S.next+8000*(n:Int)<=1099000000000
 br:F.S.N.broken=0
 geo:F.S.N.dies=D/\F.S.N.blocks=B/\F.S.N.pages=P
 le:n<=200000
namespace DevC
variable {D B P n : Nat} {F : Fv} {c : Nat → List UInt8}
theorem less (h:DevC D B P F n c) {k:Nat} (hk:k<=n):DevC D B P F k c:=
 ⟨h.fr,h.ok.less (p6 _ hk),by have:=h.nx;omega,h.br,h.geo,by have:=h.le;omega⟩
theorem off (h:DevC D B P F n c):F.S.N.off=false:=by
 obtain⟨W,hW,_⟩:=h.fr;exact hW.fi.inv.lit.off
theorem read (h:DevC D B P F n c) (i:Int):F.read i=if i<0\/i>=(lgN D B P:Int)then(F,zeros16,3)else(F,c i.toNat,0):=by
 obtain⟨W,hW,hc⟩:=h.fr;rw[hW.fi.read]
 by_cases hi:i<0\/i>=(lgN D B P:Int)
 ·rw[f0 hi,f0 hi]
 ·rw[d8 hi,d8 hi,<- hc i.toNat (by omega),Int.toNat_of_nonneg (by omega)]
theorem c_len (h:DevC D B P F n c) {i:Nat} (hi:i<lgN D B P):(c i).length=16:=by
 obtain⟨W,hW,hc⟩:=h.fr;rw[<- hc i hi];exact b0R hW.fi.wok h.ok.dat i
theorem like (h:DevC D B P F n c) {G:Fv} (hl:F.S.N.Like G.S.N):G.S.N.dies=D/\G.S.N.blocks=B/\G.S.N.pages=P:=
 ⟨hl.dies.trans h.geo.1,hl.blocks.trans h.geo.2.1,hl.pages.trans h.geo.2.2⟩
theorem put (h:DevC D B P F (n+1) c) {e:En} (he:0<=e.lpn->e.lpn<(lgN D B P:Int)->FitR e/\e.role≠4) (hk:(F.waits e).1.Ok (UN*n) 0):∃c',DevC D B P (F.waits e).1 n c':=by
 obtain⟨W,hW,hc⟩:=h.fr;have hU:UN*(n+1)=UN*n+UN:=D5 _ _;have hU2:=a8D;have hnx:=h.nx;have hle:=h.le
 by_cases hi:e.lpn<0\/e.lpn>=(lgN D B P:Int)
 ·have:F.waits e=(F,3):=by
   unfold Fv.waits;rw[hW.fi.ask,hW.fi.off,d8 j6,hW.fi.lgn,f0 hi]
  rw[this];exact⟨c,h.less (by omega)⟩
 ·have he2:=he (by omega) (by omega);obtain⟨F',W',β',r1,r2,r3,r4,r5,r6,r7⟩:=hW.waits (k:=UN*n) (h.ok.dv.less (by omega)) (by omega) (x:=e) ⟨he2.1,he2.2,by omega⟩;rw[r1]at hk ⊢;exact⟨λi=>cur W' F'.L i,⟨W',r2.calm,λi _=>rfl⟩,hk,by dsimp only;omega,r6.trans h.br,h.like r7,by omega⟩
theorem write (h:DevC D B P F (n+1) c) (i:Int) {d:List UInt8} (hd:d.length=16):∃c',DevC D B P (F.write i d).1 n c':=by
 obtain⟨W,hW,_⟩:=h.fr;have h200:=(Fv.lg_bd (F:=F) h.ok.dv.gd.ok).2;rw[hW.fi.lgn]at h200;have hU:UN*(n+1)=UN*n+UN:=D5 _ _;exact h.put (e:=⟨i,0,1,d⟩) (λa b=>⟨⟨⟨a,by show i<=65535;have b:i<(lgN D B P:Int):=b;omega⟩, .inl rfl,hd⟩,by show(1:Int)≠4;decide⟩) (Fv.write_keep (k:=UN*n) (h.ok.less (by unfold UN at hU ⊢;omega)) i hd).1
theorem trim (h:DevC D B P F (n+1) c) (i:Int):∃c',DevC D B P (F.trim i).1 n c':=by
 obtain⟨W,hW,_⟩:=h.fr;have h200:=(Fv.lg_bd (F:=F) h.ok.dv.gd.ok).2;rw[hW.fi.lgn]at h200;have hU:UN*(n+1)=UN*n+UN:=D5 _ _;exact h.put (e:=⟨i,0,2,zeros16⟩) (λa b=>⟨⟨⟨a,by show i<=65535;have b:i<(lgN D B P:Int):=b;omega⟩, .inr ⟨.inl rfl,rfl⟩,rfl⟩,by show(2:Int)≠4;decide⟩) (Fv.trim_keep (k:=UN*n) (h.ok.less (by unfold UN at hU ⊢;omega)) i).1
theorem flush (h:DevC D B P F (n+200) c):∃c',DevC D B P F.flush.1 n c':=by
 obtain⟨W,hW,hc⟩:=h.fr;have hU:UN*(n+200)=UN*n+UN*200:=a0d _ _ _;have hf:=a3Z;have hf2:=a6e;have hnx:=h.nx;have hk:=(Fv.flush_keep (k:=UN*n) (m:=0) (h.ok.less (by omega))).1;obtain⟨F',W',β',r1,r2,_,r4,r5,r6,r7,r8,_⟩:=hW.flush (k:=UN*n) (h.ok.dv.less (by omega)) (by omega);rw[r1]at hk ⊢;exact⟨λi=>cur W' F'.L i,⟨W',r2.calm,λi _=>rfl⟩,hk,by dsimp only;omega,r5.trans h.br,h.like r6,by have:=h.le;omega⟩
theorem tick (h:DevC D B P F (n+2) c):∃c',DevC D B P F.tick.1 n c':=by
 obtain⟨W,hW,hc⟩:=h.fr;have hU:UN*(n+2)=UN*n+UN*2:=a0d _ _ _;have hS:=c1A;have hnx:=h.nx;have hk:=(Fv.tick_keep (k:=UN*n) (m:=0) (h.ok.less (by omega))).1;obtain⟨V,r1,r2,r3,r4,r5⟩:=hW.calm_tick (k:=UN*n) (h.ok.dv.less (by omega)) (by omega);rw[r1]at hk ⊢;exact⟨c,⟨W,r2,hc⟩,hk,by show V.next+_<=_;omega,r4.trans h.br,h.like (G:={F with S:=V}) r5,by have:=h.le;omega⟩
theorem new (hD:3<=D/\D<=6) (hB:8<=B/\B<=16) (hP:2<=P/\P<=8) (hlg:lgN D B P<=200) (hcap:2*lgN D B P<=(B-5)*(P*(D-2))+1) (hgm:J2 D B P=true):DevC D B P (Fv.of (Dv.new D B P (lgN D B P))) 200000 (λ_=>zeros16):=by
 refine⟨⟨[],⟨FI.new (-1) hD hB hP hlg,⟨Inv.new _ _ _ _ _,⟨rfl,λi e he=>(by cases he)⟩,λi e he=>(by cases he),λb _=>?_,λ_ _ _=>rfl,by simp⟩, .calm (NoF.new _ _ _ _),?_,j4 _,hcap⟩,λ_ _=>rfl⟩,Fv.of_ok (Dv.Ok.new D B P _ hgm _ (b4i (by decide))) (b4i (by decide)),by show(1:Int)+8000*((200000:Nat):Int)<=_;decide,rfl,⟨rfl,rfl,rfl⟩,j4 _⟩
 ·show((Tl.new D B P).at_ b).held=false;rw[b3k];rfl
 ·show 5*P+0+1<=(Dv.new D B P (lgN D B P)).rows+7;rw[b4D];have:P*8<=P*B:=p6 _ hB.1;omega
theorem killR {die:Nat} (h:DevC D B P F n c) (hd:die<D):∃W,FR (die:Int) W (lgN D B P) (F.kill die) 1 0/\(F.kill die).S.N.dead.getD die false=true/\∀i:Nat,i<lgN D B P->cur W (F.kill die).L i=c i:=by
 obtain⟨W,hW,hc⟩:=h.fr;have hno:=hW.hot.nof;have hi1:Inv die F.S:=hW.rmy.inv.any hno.plan;obtain⟨k1,k2⟩:=hi1.killed;have hlen:die<F.S.N.dead.length:=by rw[h.ok.dv.gd.ok.dead];have:=h.geo.1;omega
 have hdd:(F.kill die).S.N.dead.getD die false=true:=by
  show(F.S.N.dead.set die true).getD die false=true;rw[d6,s7,f0 rfl,f0 hlen];rfl
 have hH:Hd (F.kill die).S W:=⟨hW.rmy.hd.keys,λj e he=>by
  obtain⟨h1,a,h2,h3⟩:=hW.rmy.hd.each j e he;refine⟨h1,a,h2,?_⟩;show R.read {F.S.N with dead:=F.S.N.dead.set die true} _ _ _ _=_;rw[(k2 j a (hi1.st j a h2)).2];exact h3⟩
 refine⟨W,⟨⟨k1,hH,hW.fi.wok,hW.fi.wr,hW.fi.log,hW.fi.lgn,hW.fi.lg2,hW.fi.des,hW.fi.nd,hW.fi.off⟩,⟨k1,hH,hW.rmy.wok,hW.rmy.held,λh=>?_,hW.rmy.cap⟩, .dead (Int.natCast_nonneg _) (by rw[i9];exact hdd),?_,j8 _,hW.cap⟩,hdd,hc⟩
 ·have h1:=h die;rw[hdd]at h1;cases h1
 ·have:=hW.rows;show 5*F.S.N.pages+1+0<=F.S.rows+7;omega
end DevC
structure WtC (D B P:Nat) (W:Wa) (Z:Fv) (n:Nat):Prop where
 z:W.P.Z=some Z
 dev:∃c,DevC D B P Z n c
 none:W.P.L=[]
 stuck:W.stuck=false
namespace WtC
variable {D B P n : Nat} {W : Wa} {Z : Fv}
theorem less (h:WtC D B P W Z n) {k:Nat} (hk:k<=n):WtC D B P W Z k:=by
 obtain⟨d,hD⟩:=h.dev;exact⟨h.z,⟨d,hD.less hk⟩,h.none,h.stuck⟩
theorem step (h:WtC D B P W Z (n+605)) {s:Stp} (h6:s.fn≠6) (h7:s.fn≠7) (h8:s.fn≠8) (hd:s.data.length=16):∃Z',WtC D B P (W.step s) Z' n:=by
 obtain⟨c,hD⟩:=h.dev;have hdo:∃Z' t c,W.P.does s=({W.P with Z:=some Z'},t)/\DevC D B P Z' n c:=by
  unfold Pv.does
  by_cases h1:s.fn=1
  ·rw[f0 h1,h.z];dsimp only;have hr:=hD.read s.lpn;exact⟨Z,⟨(Z.read s.lpn).2.2,(Z.read s.lpn).2.1⟩,c,by rw[hr];split<;>rfl,hD.less (by omega)⟩
  rw[d8 h1]
  by_cases h2:s.fn=2
  ·rw[f0 h2,h.z];obtain⟨c',w⟩:=(hD.less (k:=n+1) (by omega)).write s.lpn hd;exact⟨_,_,c',rfl,w⟩
  rw[d8 h2]
  by_cases h3:s.fn=3
  ·rw[f0 h3,h.z];obtain⟨c',w⟩:=(hD.less (k:=n+1) (by omega)).trim s.lpn;exact⟨_,_,c',rfl,w⟩
  rw[d8 h3]
  by_cases h4:s.fn=4
  ·rw[f0 h4,h.z];obtain⟨c',w⟩:=(hD.less (k:=n+200) (by omega)).flush;exact⟨_,_,c',rfl,w⟩
  rw[d8 h4]
  by_cases h5:s.fn=5
  ·rw[f0 h5,h.z];obtain⟨c',w⟩:=(hD.less (k:=n+2) (by omega)).tick;exact⟨_,_,c',rfl,w⟩
  rw[d8 h5,d8 h6,d8 h7,d8 h8];exact⟨Z,⟨1,zd⟩,c,by rw[<- h.z],hD.less (by omega)⟩
 obtain⟨Z',t,c',e1,e2⟩:=hdo;have hst:W.P.step s=({W.P with Z:=some Z',log:=W.P.log++[t]},t):=by
  unfold Pv.step;rw[Pv.run_none h.z h.none,e1]
 have hask:W.ask s=s:=by unfold Wa.ask;rw[d8 h8]
 unfold Wa.step;rw[h.stuck,d8 j6,d8 h8];dsimp only
 by_cases hsk:Wa.skip s=true
 ·rw[f0 hsk];exact⟨Z,⟨h.z,⟨c,hD.less (by omega)⟩,h.none,h.stuck⟩⟩
 rw[d8 hsk,hask,hst,d8 h7];exact⟨Z',⟨rfl,⟨c',e2⟩,h.none,h.stuck⟩⟩
end WtC
end Go.Proofs.YtnffkcabeecopaaGreat
