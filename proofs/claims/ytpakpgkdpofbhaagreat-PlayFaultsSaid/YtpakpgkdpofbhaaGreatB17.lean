/- Helpers. No condition. -/
import Derived.Test.YtpakpgkdpofbhaaGreatB00
import Derived.Test.YtpakpgkdpofbhaaGreatB04
import Derived.Test.YtpakpgkdpofbhaaGreatB13
import Derived.Test.YtpakpgkdpofbhaaGreatB14
import Derived.Test.YtpakpgkdpofbhaaGreatB16
set_option maxRecDepth 20000
set_option linter.all false
namespace Go.Proofs.YtpakpgkdpofbhaaGreat
open Go Go.RowKit
theorem b3M (q:Nat) (t:Tl) (hb:t.b<=1000) (hl:t.l.length=t.b) (k:Int) (on:Bool):FP 90 [pp q,iI k, .bool on] [TlA q t] (Ps (.tuple #[]) [TlA q (t.hold k on)]):=by
 refine FE [2,0,0] Tryz.func90 λX F hX=>?_;refine J.o (α:=Nat) 1 λg=>?_;refine J.qp (a6r q t hb g k) [1,2] λ_=>?_;cases hh:t.has k with
 | false=>
  rw[Tl.adr,hh,i7 (by simp)];refine J.qF λ_=>?_;refine J.q λ_=>?_;refine J.cl (λg:Nat=>TlP q t g) g [1,2] ?_;refine J.q λ_=>?_;refine J.f [1] ?_;exact⟨rfl,by rw[Tl.hold,Tl.set,hh];rfl⟩
 | true=>
  rw[Tl.adr,hh,i9 rfl];refine J.qT λ_=>?_;refine J.q λ_=>?_;refine J.s1 2 ((t.hold k on).l.flatMap sbL) ?_ ?_ ?_
  ·rw[t.len_l,hl];simp only[Tl.has,j5,g7]at hh;omega
  ·exact t.set_at hl hh 3 (by omega) _ _ rfl
  refine J.close (f:=λg:Nat=>TlP q (t.hold k on) g) g [1,2] rfl (by simp only[TlP,Tl.hold,Tl.set_d,Tl.set_b,Tl.set_p,Tl.set_dead];rfl) rfl ?_;refine J.q λ_=>?_;refine J.f [1] ?_;exact⟨rfl,rfl⟩
theorem a9K (t:Tl) (l:List Int) (on:Bool) {i:Nat} {x:Int} (h:l[i]? =some x):(l.take (i+1)).foldl (λt b=>t.hold b on) t=((l.take i).foldl (λt b=>t.hold b on) t).hold x on:=by
 rw[D6,h,K6,C3];rfl
theorem b3Y (a:Option Nat):oad a=R3 (a.map λg=>(g,0)):=by cases a<;>rfl
theorem a1w (n:Nat) (N:Nand) (k m:Nat) (hG:N.Gd (Dv.costK+k) m) (hm:m<=1000) (hoff:N.off=false):FP 39 [pp n] [C1 n N]
  (λv As=>(T4 N).2=0/\(∃f p t l d,v= .tuple #[pp f,iI 0]/\As=FvP f p n t l d (Fv.of (T4 N).1))\/(T4 N).2≠0/\v= .tuple #[.pointer none,iI (T4 N).2]/\As=[C1 n (T4 N).1.N]):=by
 have hN:=hG.ok;have hbd:=hN.bd16;have hlg:=b3o N.dies N.blocks N.pages (by omega) (by omega);refine FE [2] Tryz.func39 λX F hX=>?_;refine J.qp (a1s n N) [1] λ_=>?_;refine J.qp (a6f N.dies N.blocks N.pages hN.geo) [] λ_=>?_;rw[hlg];refine J.qc (b6h n N hN hG.room hoff (lgN N.dies N.blocks N.pages)) [1] λ_=>?_;rintro v As ⟨q,a1,c1,a2,c2,rfl,rfl⟩;refine⟨_,rfl,trivial,?_⟩;obtain⟨en1,en2,en3,en4⟩:=b0r hN (lgN N.dies N.blocks N.pages);have h200:=a7m hN;obtain⟨tn1,tn2,tn3,tn4⟩:=a9k (N:=N) (m:=lgN N.dies N.blocks N.pages) (by omega);have hheld:=b4K hN (lgN N.dies N.blocks N.pages);have h0:=Dv.Ok.mt0 hG;have hmt:=b1W N;have e0:Dv.mt0 N=⟨N,Tl.of N,(V.scan N (lgN N.dies N.blocks N.pages)).tb,-1,0,0,max (V.scan N (lgN N.dies N.blocks N.pages)).next 1⟩:=rfl;obtain⟨sc,hsc⟩:∃sc,V.scan N (lgN N.dies N.blocks N.pages)=sc:=⟨_,rfl⟩;rw[hsc]at en1 en2 en3 en4 tn1 tn2 tn3 tn4 hheld hmt e0 ⊢;refine J.q λbs=>?_;refine J.cF ?_;refine J.know (λh' s=>a0R (show a1d _ _ a1 sc.torn.length c1 _ _ from s.get (i:=3) rfl)) λhcap1=>?_;refine J.know (λh' s=>a7V (show a1d _ _ a1 sc.torn.length c1 _ _ from s.get (i:=3) rfl)) λhnil1=>?_;refine J.know (λh' s=>a0R (show a1d _ _ a2 sc.held.length c2 _ _ from s.get (i:=4) rfl)) λhcap2=>?_;refine J.p (.of [0,4,12,17,10,22,24,31,32]) [6,7,8] [1,2,3,4,5] λ_=>?_;refine J.qc (c1Q n N hN) [1] λ_=>?_;rintro v As ⟨t,rfl,rfl⟩;refine⟨_,rfl,stq,?_⟩;refine J.qc (c0A) [] λ_=>?_;rintro v As ⟨d,rfl,rfl⟩;refine⟨_,rfl,stq,?_⟩;refine J.q λbf=>?_;rw[a7f,b3Y];refine J.p (.of [0,4,8,12,16,21,24,28,32,37,40,45,50,52,56,63]) [13,14,15] [1,2,3,4,5,6,7,8] λ_=>?_;refine J.qc (b6S n t q sc.next (by omega) N (Tl.of N) sc.tb) [] λ_=>?_;rintro v As ⟨p,rfl,rfl⟩;refine⟨_,rfl,stq,?_⟩;rw[<- e0];rw[show TlA t (Tl.of N)=TlA t (Dv.mt0 N).t from rfl,show C1 n N=C1 n (Dv.mt0 N).N from rfl,show TbA q sc.tb=TbA q (Dv.mt0 N).T from by rw[e0]];generalize Dv.mt0 N=S0 at h0 hmt ⊢;refine J.q λ_=>?_;refine J.l (α:=(Nat×Tl)) (λz=>z.1<=sc.held.length/\(sc.held.take z.1).foldl (λt b=>t.hold b true) S0.t=z.2/\z.2.Fit S0.N) (λz=>[si 52 z.1,si 51 sc.held.length,sv 50 (slv a2 sc.held.length c2),⟨0,pp n,2, .tt⟩,⟨4,pp (bs 0),6, .tt⟩,⟨6,pp (bf 0),9, .tt⟩]) [6] (λz=>[TlA t z.2]) (λz=>sc.held.length-z.1) ((0,S0.t)) (⟨n7 _,rfl,h0.t⟩) λz hI=>?_;obtain⟨i,U⟩:=z;dsimp only at hI ⊢;obtain⟨hi,hfo,hU⟩:=hI;have hUb:=hU.b;have hS0:=h0.gd.ok.bd16;refine J.qd (λ_ h1=>?_) λ_ h1=>?_
 ·simp only[g7,j9]at h1;obtain⟨x,hx⟩:∃x,sc.held[i]? =some x:=⟨_,d6 h1⟩;have hsu:=a9K S0.t sc.held true hx;rw[hfo]at hsu;refine J.know (λh' s=>D7 (c:=(a2,c2)) (by omega) (s.get (i:=4) rfl)) λhg=>?_;obtain⟨g,rfl⟩:=hg;refine J.q λ_=>?_;refine J.v (iI x) rfl rfl (λhg aa w he hw=>I7 tk rfl rfl he rfl rfl rfl (hw.get (i:=4) rfl) (by rw[show 0+(i:Int).toNat*1=i from by omega,A4,m6,hx];rfl)) ?_;refine J.qp (b3M t U (by omega) hU.len x true) [6] λ_=>?_;refine J.q λ_=>?_;refine J.n ((i+1,U.hold x true)) (⟨by dsimp only;omega,hsu,hU.hold x true⟩) (by dsimp only;omega) [0,1,2,3,4,5,6,7,8,9]
 simp only[c9,j9]at h1;obtain rfl:i=sc.held.length:=by omega
 rw[B5 (m9 _)]at hfo;have hA:S0.holds sc.held true={S0 with t:=U}:=by unfold Dv.holds;rw[hfo]
 have hAO:=h0.holds sc.held true;dsimp only at hmt;obtain⟨Q,hQ⟩:∃Q,Q=S0.holds sc.held true:=⟨_,rfl⟩;rw[<- hQ]at hAO hmt;rw[show C1 n S0.N=C1 n Q.N from by rw[hQ];rfl,show TbA q S0.T=TbA q Q.T from by rw[hQ];rfl,show TlA t U=TlA t Q.t from by rw[hQ,hA],show a2k p n t q S0=a2k p n t q Q from by rw[hQ];rfl];have hf200:sc.first<=200:=by rw[n9]at tn2;omega
 have hRdA:Rd (t7 113 19 a1 sc.torn.length c1 (x5 sc.torn)) (R3 (a1.map λg=>(g,0))) 19 sc.torn.length (x5 sc.torn):=by
  have:=Z5 113 19 a1 sc.torn.length c1 (x5 sc.torn)
  rwa [b3Y]at this
 have hRd1:Rd (t7 113 19 a1 sc.torn.length c1 (x5 sc.torn)) (R3 (a1.map λg=>(g,0))) 19 sc.first (x5 (sc.torn.take sc.first)):=by
  have:=hRdA.take sc.first tn1
  rwa [a3s]at this
 have hnil2:(a1.map λg=>(g,0))=none->c1=0:=λe=>hnil1 (by cases a1 with | none=>rfl | some g=>cases e);have hd1:∀s∈sc.torn.take sc.first,s.data.length=16:=λs hs=>en3 s (C7 hs);have hd2:∀s∈sc.torn.drop sc.first,s.data.length=16:=λs hs=>en3 s (M6 hs);have hct1:Dv.costT*sc.first<=Dv.costT*200:=s7 _ hf200;have hlt1:(sc.torn.take sc.first).length=sc.first:=by rw[n9];omega
 have hAO1:Q.Ok (Dv.costT*sc.first+(96+(Dv.costT*200+(Dv.costM+k)))) m:=hAO.less (by unfold Dv.costK;omega);have hka:=Dv.torn_keep (k:=96+(Dv.costT*200+(Dv.costM+k))) (c:=sc.first) hAO1 (by omega) hd1;refine J.pn 17 (.of [0,4,8,12,17,20,24,28,33,36,40,44,49,52,57,60,65,68,75,76]) [18,19] [5,8] λ_ _=>?_;refine J.vT (.slice (R3 (a1.map λg=>(g,0))) sc.first c1) rfl rfl (λhg aa w he hC=>a3W tk rfl rfl rfl he rfl rfl rfl rfl (by omega)) ?_;refine J.q λ_=>?_;refine J.ca hX (by kernel_rfl) (b0F n t q p Q _ m (t7 113 19 a1 sc.torn.length c1 (x5 sc.torn)) (a1.map λg=>(g,0)) sc.first c1 (sc.torn.take sc.first) hRd1 hlt1 (by omega) (by omega) hnil2 hd1 hAO1 hm) [9,1,6,2,3] 0 rfl rfl rfl rfl rfl rfl (λ_=>rfl) ?_;refine cpq ⟨_,rfl,stq,?_⟩;clear hAO hAO1;generalize Q.torn (sc.torn.take sc.first)=W at hmt hka ⊢;obtain⟨P,er⟩:=W;dsimp only at hmt hka ⊢;refine J.qd (λ_ h2=>?_) λ_ h2=>?_
 ·simp only[H0,I2]at h2;rw[i9 h2]at hmt;refine J.qr [1] λ_=>?_;rw[hmt];exact .inr ⟨h2,rfl,rfl⟩
 simp only[A7]at h2;rw[i7 (by rw[h2];decide)]at hmt;have hPO:=hka.1;clear hka hU hUb hfo hA hQ h0 e0;refine J.q λ_=>?_;refine J.l (α:=(Nat×Tl)) (λz=>z.1<=sc.held.length/\(sc.held.take z.1).foldl (λt b=>t.hold b false) P.t=z.2/\z.2.Fit P.N) (λz=>[si 88 z.1,si 87 sc.held.length,sv 86 (slv a2 sc.held.length c2),⟨0,pp n,2, .tt⟩,⟨4,pp (bs 0),6, .tt⟩,⟨6,pp (bf 0),9, .tt⟩]) [6] (λz=>[TlA t z.2]) (λz=>sc.held.length-z.1) ((0,P.t)) (⟨n7 _,rfl,hPO.t⟩) λz hI=>?_;obtain⟨i,U2⟩:=z;dsimp only at hI ⊢;obtain⟨hi2,hfo,hU⟩:=hI;have hUb:=hU.b;have hP0:=hPO.gd.ok.bd16;refine J.qd (λ_ h3=>?_) λ_ h3=>?_
 ·simp only[g7,j9]at h3;obtain⟨x,hx⟩:∃x,sc.held[i]? =some x:=⟨_,d6 h3⟩;have hsu:=a9K P.t sc.held false hx;rw[hfo]at hsu;refine J.know (λh' s=>D7 (c:=(a2,c2)) (by omega) (s.get (i:=4) rfl)) λhg=>?_;obtain⟨g,rfl⟩:=hg;refine J.q λ_=>?_;refine J.v (iI x) rfl rfl (λhg aa w he hw=>I7 tk rfl rfl he rfl rfl rfl (hw.get (i:=4) rfl) (by rw[show 0+(i:Int).toNat*1=i from by omega,A4,m6,hx];rfl)) ?_;refine J.qp (b3M t U2 (by omega) hU.len x false) [6] λ_=>?_;refine J.q λ_=>?_;refine J.n ((i+1,U2.hold x false)) (⟨by dsimp only;omega,hsu,hU.hold x false⟩) (by dsimp only;omega) [0,1,2,3,4,5,6,7,8,9]
 simp only[c9,j9]at h3;obtain rfl:i=sc.held.length:=by omega
 rw[B5 (m9 _)]at hfo;have hA:P.holds sc.held false={P with t:=U2}:=by unfold Dv.holds;rw[hfo]
 have hBO:=hPO.holds sc.held false;obtain⟨B,hB⟩:∃B,B=P.holds sc.held false:=⟨_,rfl⟩;rw[<- hB]at hBO hmt;rw[show C1 n P.N=C1 n B.N from by rw[hB];rfl,show TbA q P.T=TbA q B.T from by rw[hB];rfl,show TlA t U2=TlA t B.t from by rw[hB,hA],show a2k p n t q P=a2k p n t q B from by rw[hB];rfl];clear hPO hU hUb hfo hA hB;have hkb:=Dv.clear_keep hBO;have hcl:B.clear=({B with N:=(Dv.clearX B.N B.t B.T B.op).1,t:=(Dv.clearX B.N B.t B.T B.op).2.1},(Dv.clearX B.N B.t B.T B.op).2.2):=rfl;rw[hcl]at hmt hkb;dsimp only at hmt hkb;refine J.p (.of [0,4,8,12,17,20,24,28,33,36,40,44,49,54,58,60]) [15] [5,8] λ_=>?_;refine J.qp (a3h p n t q B) [9] λ_=>?_;refine J.qp (a4Y n t q B.N B.t B.T _ m hBO.gd hm hBO.t B.op) [1,6,2] λ_=>?_;generalize Dv.clearX B.N B.t B.T B.op=W at hmt hkb ⊢;obtain⟨N1,t1,er1⟩:=W;dsimp only at hmt hkb ⊢;obtain⟨D,hD⟩:∃D:Dv,D={B with N:=N1,t:=t1}:=⟨_,rfl⟩;rw[<- hD]at hmt hkb;have hDO:=hkb.1;rw[show C1 n N1=C1 n D.N from by rw[hD],show TbA q B.T=TbA q D.T from by rw[hD],show TlA t t1=TlA t D.t from by rw[hD],show a2k p n t q B=a2k p n t q D from by rw[hD];rfl];clear hBO hkb hD hcl;refine J.qd (λ_ h4=>?_) λ_ h4=>?_
 ·simp only[H0,I2]at h4;rw[i9 h4]at hmt;refine J.qr [1] λ_=>?_;rw[hmt];exact .inr ⟨h4,rfl,rfl⟩
 simp only[A7]at h4;rw[i7 (by rw[h4];decide)]at hmt;have hlt2:(sc.torn.drop sc.first).length=sc.torn.length-sc.first:=B6;have hl200:(sc.torn.drop sc.first).length<=200:=by omega
 have hct2:Dv.costT*(sc.torn.drop sc.first).length<=Dv.costT*200:=s7 _ hl200;have hDO1:D.Ok (Dv.costT*(sc.torn.drop sc.first).length+(Dv.costM+k)) m:=hDO.less (by omega);have hkc:=Dv.torn_keep (k:=Dv.costM+k) (c:=(sc.torn.drop sc.first).length) hDO1 (m9 _) hd2;have hRd2:Rd (t7 113 19 a1 sc.torn.length c1 (x5 sc.torn)) (R3 (a2X (a1.map λg=>(g,0)) 19 sc.first c1)) 19 (sc.torn.drop sc.first).length (x5 (sc.torn.drop sc.first)):=λh s=>b3S (hRdA h s) rfl tn1 hcap1;refine J.pn 17 (.of [0,4,8,12,17,20,24,28,33,36,40,44,49,52,57,60,65,68,75,76]) [18,19] [5,8] λ_ _=>?_;refine J.vT (.slice (R3 (a2X (a1.map λg=>(g,0)) 19 sc.first c1)) (sc.torn.length-sc.first) (c1-sc.first)) rfl rfl (λhg aa w he hC=>a3q tk rfl rfl rfl he rfl rfl rfl rfl rfl tn1) ?_;rw[<- hlt2];refine J.q λ_=>?_;refine J.ca hX (by kernel_rfl) (b0F n t q p D _ m (t7 113 19 a1 sc.torn.length c1 (x5 sc.torn)) (a2X (a1.map λg=>(g,0)) 19 sc.first c1) (sc.torn.drop sc.first).length (c1-sc.first) (sc.torn.drop sc.first) hRd2 rfl (by omega) (by omega) (a4k hnil2) hd2 hDO1 hm) [9,1,6,2,3] 0 rfl rfl rfl rfl rfl rfl (λ_=>rfl) ?_;refine cpq ⟨_,rfl,stq,?_⟩;clear hDO hDO1;generalize D.torn (sc.torn.drop sc.first)=W at hmt hkc ⊢;obtain⟨P2,er2⟩:=W;dsimp only at hmt hkc ⊢;refine J.qd (λ_ h5=>?_) λ_ h5=>?_
 ·simp only[H0,I2]at h5;rw[i9 h5]at hmt;refine J.qr [1] λ_=>?_;rw[hmt];exact .inr ⟨h5,rfl,rfl⟩
 simp only[A7]at h5;rw[i7 (by rw[h5];decide)]at hmt;refine J.p (.of [0,4,8,12,17,20,24,28,33,36,40,44,49,55,56]) [13,14] [5,8] λ_=>?_;refine J.qp (a4X n t q p P2 _ m hkc.1 hm) [9,1,6,2] λ_=>?_;generalize P2.room=W at hmt ⊢;obtain⟨P3,er3⟩:=W;dsimp only at hmt ⊢;refine J.qd (λ_ h6=>?_) λ_ h6=>?_
 ·simp only[H0,I2]at h6;refine J.qr [1] λ_=>?_;rw[hmt];exact .inr ⟨h6,rfl,rfl⟩
 simp only[A7]at h6;refine J.qr [8,9,1,6,2,7] λ_=>?_;rw[hmt];exact .inl ⟨h6,bf 0,p,t,q,d,rfl,rfl⟩
def Fl.turn (f:Fl):Bool:=if f.kind≠5 then decide (f.n=0)&&decide (f.xx=0)else decide (f.n>=0)&&decide (f.n<32)&&decide (f.xx>=1)&&decide (f.xx<=255)
def Fl.may (D B P:Nat) (f:Fl):Bool:=decide (f.at_>=0)&&decide (f.kind>=1)&&decide (f.kind<=5)&&V4 D B P f.x f.y f.z&&f.turn
theorem c0K (x y:Fl):FP 175 [flV x,flV y] [] (Ps (iI (R4 x.at_ y.at_)) []):=by
 refine FE [0,0] Tryz.func175 λX F hX=>?_;refine J.qp (a1j x.at_ y.at_) [] λ_=>?_;exact J.qx []
theorem c1O (D B P:Nat) (hD:D<=1000) (hB:B<=1000) (hP:P<=1000) (f:Fl):FP 173 [.agg #[iI D,iI B,iI P],flV f] [] (Ps (.bool (f.may D B P)) []):=by
 refine FE [0,0] Tryz.func173 λX F hX=>?_;have fin:∀(T:Bool),T=f.turn->Fl.may D B P f=(decide (f.at_>=0)&&decide (f.kind>=1)&&decide (f.kind<=5)&&V4 D B P f.x f.y f.z&&T):=λT h=>by rw[h];rfl
 refine J.run hX tk 400 (λb4=>rfl) (λb4=>?_) (λb4=>?_)
 ·(repeat' (first | exact Conj.nil | refine Conj.cons ?_ ?_ | exact rfl | exact hq | (exact Bool.noConfusion hq) | (rw[hq];rfl) | (rw[(j7 _).mp hq]) | intro hq | omega | (simp;done)))
 refine J.qd (λ_ h1=>?_) λ_ h1=>?_
 ·have hk:f.kind≠5:=by simpa using h1
  have hT:(decide (f.n=0)&&decide (f.xx=0))=f.turn:=by unfold Fl.turn;rw[i9 hk]
  have fin:=fin _ hT;refine J.run hX tk 400 (λb6=>rfl) (λb6=>?_) (λb6=>?_)
  ·(repeat' (first | exact Conj.nil | refine Conj.cons ?_ ?_ | exact rfl | exact hq | (exact Bool.noConfusion hq) | (rw[hq];rfl) | (rw[(j7 _).mp hq]) | intro hq | omega | (simp;done)))
  cases hb:(decide (f.at_>=0)&&decide (f.kind>=1)&&decide (f.kind<=5))with
  | true=>
   rw[hb,x7]at fin;refine J.qp (b2r D B P f.x f.y f.z (by omega) (by omega) (by omega)) [] λ_=>?_;refine J.run hX tk 400 (λb8=>rfl) (λb8=>?_) (λb8=>?_)
   ·(repeat' (first | exact Conj.nil | refine Conj.cons ?_ ?_ | exact rfl | exact hq | (exact Bool.noConfusion hq) | (rw[hq];rfl) | (rw[(j7 _).mp hq]) | intro hq | omega | (simp;done)))
   refine J.qr [] λ_=>?_;exact⟨by rw[fin];rfl,rfl⟩
  | false=>
   rw[hb,a0y,a0y]at fin;refine J.v (.bool false) rfl rfl (λhg a w he hw=>by simp[G.on]at hg) ?_;refine J.run hX tk 400 (λb10=>rfl) (λb10=>?_) (λb10=>?_)
   ·(repeat' (first | exact Conj.nil | refine Conj.cons ?_ ?_ | exact rfl | exact hq | (exact Bool.noConfusion hq) | (rw[hq];rfl) | (rw[(j7 _).mp hq]) | intro hq | omega | (simp;done)))
   refine J.qr [] λ_=>?_;exact⟨by rw[fin];rfl,rfl⟩
 ·have hk:¬f.kind≠5:=by simpa using h1
  have hT:(decide (f.n>=0)&&decide (f.n<32)&&decide (f.xx>=1)&&decide (f.xx<=255))=f.turn:=by unfold Fl.turn;rw[i7 hk]
  have fin:=fin _ hT;refine J.run hX tk 400 (λb12=>rfl) (λb12=>?_) (λb12=>?_)
  ·(repeat' (first | exact Conj.nil | refine Conj.cons ?_ ?_ | exact rfl | exact hq | (exact Bool.noConfusion hq) | (rw[hq];rfl) | (rw[(j7 _).mp hq]) | intro hq | omega | (simp;done)))
  cases hb:(decide (f.at_>=0)&&decide (f.kind>=1)&&decide (f.kind<=5))with
  | true=>
   rw[hb,x7]at fin;refine J.qp (b2r D B P f.x f.y f.z (by omega) (by omega) (by omega)) [] λ_=>?_;refine J.run hX tk 400 (λb14=>rfl) (λb14=>?_) (λb14=>?_)
   ·(repeat' (first | exact Conj.nil | refine Conj.cons ?_ ?_ | exact rfl | exact hq | (exact Bool.noConfusion hq) | (rw[hq];rfl) | (rw[(j7 _).mp hq]) | intro hq | omega | (simp;done)))
   refine J.qr [] λ_=>?_;exact⟨by rw[fin];rfl,rfl⟩
  | false=>
   rw[hb,a0y,a0y]at fin;refine J.v (.bool false) rfl rfl (λhg a w he hw=>by simp[G.on]at hg) ?_;refine J.run hX tk 400 (λb16=>rfl) (λb16=>?_) (λb16=>?_)
   ·(repeat' (first | exact Conj.nil | refine Conj.cons ?_ ?_ | exact rfl | exact hq | (exact Bool.noConfusion hq) | (rw[hq];rfl) | (rw[(j7 _).mp hq]) | intro hq | omega | (simp;done)))
   refine J.qr [] λ_=>?_;exact⟨by rw[fin];rfl,rfl⟩
theorem b7V (c:Nat) (a:Option Nat) (cap:Nat):FP 290 [slv a 0 cap,iI 0,iI 0,fnV c] [] (Ps (.tuple #[]) []):=by
 refine FE [0,0,0,0] Tryz.func290 λX F hX=>?_;refine J.q λ_=>?_;refine J.l (α:=Unit) (λ_u=>True) (λ_u=>[si 8 1,si 2 0]) [] (λ_u=>[]) (λ_u=>0) (()) (trivial) λ_u hI=>?_;refine J.qF λ_=>?_;refine J.q λ_=>?_;refine J.f [] ?_;exact⟨rfl,rfl⟩
def a2Y (x y:Fl):Int:=R4 x.at_ y.at_
theorem b6j (g n cap:Nat) (l:List Fl) (hl:l.length=n) (hn:n<=15) (r:List Value):FP 244 [.slice (some ⟨g,0,none⟩) n cap,iI n,fnV 175] [.pt g 57 (B3 l++r)] (Ps (.tuple #[]) [.pt g 57 (B3 (W0 a2Y l)++r)]):=by
 refine FE [2,0,0] Tryz.func244 λX F hX=>?_;refine J.q λ_=>?_;refine J.l (α:=Unit) (λ_u=>True) (λ_u=>[si 8 20,si 7 0,si 6 20,⟨0, .slice (some ⟨g,0,none⟩) n cap,2, .tt⟩,si 1 n,⟨2,fnV 175,0, .tt⟩]) [] (λ_u=>[]) (λ_u=>0) (()) (trivial) λ_u hI=>?_;refine J.qd (λ_ h1=>?_) λ_ h1=>?_
 ·simp only[g7]at h1;omega
 refine J.qp (b9T 175 a2Y (by kernel_rfl) c0K g n cap l hl (by omega) r) [1] λ_=>?_;refine J.q λ_=>?_;refine J.l (α:=Unit) (λ_u=>True) (λ_u=>[si 6 20,⟨0, .slice (some ⟨g,0,none⟩) n cap,2, .tt⟩,si 1 n,⟨2,fnV 175,0, .tt⟩]) [] (λ_u=>[]) (λ_u=>0) (()) (trivial) λ_u hI=>?_;refine J.qd (λ_ h2=>?_) λ_ h2=>?_
 ·simp only[g7]at h2;omega
 refine J.q λ_=>?_;refine J.f [1] ?_;exact⟨rfl,rfl⟩
theorem b4D (a:Option Nat) (cap:Nat):FP 244 [slv a 0 cap,iI 0,fnV 175] [] (Ps (.tuple #[]) []):=by
 refine FE [0,0,0] Tryz.func244 λX F hX=>?_;refine J.q λ_=>?_;refine J.l (α:=Unit) (λ_u=>True) (λ_u=>[si 8 20,si 7 0,si 6 20,sv 0 (slv a 0 cap),si 1 0,⟨2,fnV 175,0, .tt⟩]) [] (λ_u=>[]) (λ_u=>0) (()) (trivial) λ_u hI=>?_;refine J.qF λ_=>?_;refine J.qp (b7V 175 a cap) [] λ_=>?_;refine J.q λ_=>?_;refine J.l (α:=Unit) (λ_u=>True) (λ_u=>[si 6 20,si 1 0]) [] (λ_u=>[]) (λ_u=>0) (()) (trivial) λ_u hI=>?_;refine J.qF λ_=>?_;refine J.q λ_=>?_;refine J.f [] ?_;exact⟨rfl,rfl⟩
theorem c0J (a:Option Nat) (n cap:Nat) (l:List Fl) (hl:l.length=n) (hn:n<=15):FP 174 [slv a n cap,fnV 175] [t7 57 7 a n cap (B3 l)] (Ps (.tuple #[]) [t7 57 7 a n cap (B3 (W0 a2Y l))]):=by
 refine FE [0,0] Tryz.func174 λX F hX=>?_;refine J.q λ_=>?_;rcases M9 n with h0 | h0
 ·subst h0;obtain rfl:l=[]:=List.length_eq_zero_iff.1 hl;refine J.qp (b4D a cap) [] λ_=>?_;refine J.q λ_=>?_;refine J.f [1] ?_;exact⟨rfl,rfl⟩
 refine J.know (λh' s=>D7 (c:=(a,cap)) (by omega) (s.get (i:=1) rfl)) λhg=>?_;obtain⟨g,rfl⟩:=hg;refine J.openOwn 1 rfl rfl (λ_=>rfl) λr q1 q2 q3 q4=>?_;refine J.qp (b6j g n cap l hl hn r) [1] λ_=>?_;have hlen:(W0 a2Y l).length=n:=by rw[(a6C a2Y l).length_eq,hl]
 refine J.closeOwn (e:=57) (size:=7) (n:=n) (cap:=cap) (xs:=B3 (W0 a2Y l)) 1 rfl rfl (by rw[X3,hlen]) q2 q3 (by rw[j6,X3,hlen];rw[X3,hl]at q4;exact q4) (E7 (by rw[X3,hlen])) rfl ?_;refine J.q λ_=>?_;refine J.f [1] ?_;exact⟨rfl,rfl⟩
def plF (D B P:Nat) (l:List Fl):List Fl:=l.filter (Fl.may D B P)
theorem b6T (D B P:Nat) (l:List Fl) (k:Nat) (x:Fl) (h:l[k]? =some x):plF D B P (l.take (k+1))=if x.may D B P then plF D B P (l.take k)++[x]else plF D B P (l.take k):=by
 unfold plF;rw[D6,h,K6,S8]
 by_cases hx:x.may D B P
 ·rw[i9 hx,a2I hx];rfl
 ·rw[i7 hx,T7 hx,List.filter_nil,B4]
theorem b6U (D B P:Nat) (l:List Fl):(plF D B P l).length<=l.length:=I5 _ _
theorem b1b (l:List Fl) (x:Fl):B3 l++flC x=B3 (l++[x]):=by unfold B3;rw[J8];simp
theorem c0q (D B P:Nat) (hD:D<=1000) (hB:B<=1000) (hP:P<=1000) (A:Atom) (ad:Option Addr) (n c:Nat) (l:List Fl) (hA:Rd A ad 7 n (B3 l)) (hl:l.length=n) (hn:n<=15):FP 106 [.agg #[iI D,iI B,iI P], .slice ad n c] [A]
  (λv As=>∃p a c,v=pp p/\As=[A, .pt p 247 [slv a (plF D B P l).length c],t7 57 7 a (plF D B P l).length c (B3 (W0 a2Y (plF D B P l)))]):=by
 refine FE [0,0] Tryz.func106 λX F hX=>?_;refine J.q λbp=>?_;refine J.turn1 [] rfl (As:=[t7 57 7 none 0 0 (B3 [])]) (λh s=>Sep.one ⟨rfl,rfl,rfl⟩) rfl ?_;refine J.q λ_=>?_;refine J.l (α:=(Nat×Option Nat×Nat)) (λz=>z.1<=n) (λz=>[si 12 z.1,si 11 n,sv 10 (.slice ad n c),⟨5,pp (bp (0+1)),4, .tt⟩,⟨2,pp (bp 0),3, .tt⟩]) [3,4] (λz=>[.pt (bp (0+1)) 247 [slv z.2.1 (plF D B P (l.take z.1)).length z.2.2],t7 57 7 z.2.1 (plF D B P (l.take z.1)).length z.2.2 (B3 (plF D B P (l.take z.1)))]) (λz=>n-z.1) ((0,none,0)) (n7 _) λz hI=>?_;obtain⟨k,ga,ca⟩:=z;dsimp only at hI ⊢;refine J.qd (λ_ h1=>?_) λ_ h1=>?_
 ·simp only[g7,j9]at h1;obtain⟨x,hx⟩:∃x,l[k]? =some x:=⟨_,d6 (by omega)⟩;have hsn:=b6T D B P l k x hx;have hle:=b6U D B P (l.take k);rw[n9]at hle;refine J.know (p:=∃g o,ad=some ⟨g,o,none⟩) (λh' s=>Rd.addr (hA _ (s.get (i:=1) rfl)) (by omega)) λhk2=>?_;obtain⟨g,o,rfl⟩:=hk2;refine J.q λ_=>?_;refine J.v (flV x) rfl rfl (λhg a w he hw=>?_) ?_
  ·exact a4c tk rfl rfl he rfl rfl rfl (hA _ (hw.get (i:=1) rfl)) (by omega) (j:=k*7) (by omega) (by have:=Z9 l [] k _ hx;rwa [B4]at this) rfl
  refine J.qp (c1O D B P hD hB hP x) [] λ_=>?_;refine J.qd (λ_ h2=>?_) λ_ h2=>?_
  ·rw[i9 h2]at hsn;refine J.pq (.of [0,4,8,12,17,21,26,30,32,36,43]) [8,9,10] [3,5] λ_ _=>?_;refine J.ap 4 6 0 (b1b (plF D B P (l.take k)) x) λa3 c3=>?_;refine J.q λ_=>?_;rw[show(plF D B P (l.take k)).length+1=(plF D B P (l.take (k+1))).length from by rw[hsn,j6];rfl,<- hsn];refine J.q λ_=>?_;refine J.n ((k+1,a3,c3)) (by dsimp only;omega) (by dsimp only;omega) [0,1,2,3,4]
  ·rw[i7 (by rw[h2];decide)]at hsn;refine J.q λ_=>?_;rw[<- hsn];refine J.q λ_=>?_;refine J.n ((k+1,ga,ca)) (by dsimp only;omega) (by dsimp only;omega) [0,1,2,3,4]
 simp only[c9,j9]at h1;obtain rfl:k=n:=by omega
 rw[B5 (by omega)];have hle:=b6U D B P l;refine J.q λ_=>?_;refine J.ca hX (by kernel_rfl) (c0J ga _ ca (plF D B P l) rfl (by omega)) [4] 0 rfl rfl rfl rfl rfl rfl (λ_=>rfl) ?_;refine cpq ⟨_,rfl,trivial,?_⟩;refine J.qr [1,3,4] λ_=>?_;exact⟨bp (0+1),ga,ca,rfl,rfl⟩
theorem a5D (L:List Fl):∀k,(B3 L).drop (k*7)=B3 (L.drop k):=by
 induction L with
 | nil=>intro k;simp[B3]
 | cons x l ih=>
  intro k;cases k with
  | zero=>simp
  | succ k=>
   have e1:B3 (x::l)=flC x++B3 l:=by simp[B3]
   rw[e1,a1R,<- ih k,show(k+1)*7=(flC x).length+k*7 from by show _=7+k*7;omega,<- C0,U7 rfl]
theorem b1a (L:List Fl):∀k,(B3 L).take (k*7)=B3 (L.take k):=by
 induction L with
 | nil=>intro k;simp[B3]
 | cons x l ih=>
  intro k;cases k with
  | zero=>simp[B3]
  | succ k=>
   have e1:∀m,B3 (x::m)=flC x++B3 m:=λm=>by simp[B3]
   rw[e1,a4L,e1,<- ih k,show(k+1)*7=(flC x).length+k*7 from by show _=7+k*7;omega,T8]
theorem b2D (L:List Fl):∀u∈B3 L,u.oneCell'=true:=by
 intro u hu;unfold B3 at hu;obtain⟨x,_,hx⟩:=List.mem_flatMap.1 hu;simp only[flC,J0,V6,a5G]at hx;rcases hx with rfl | rfl | rfl | rfl | rfl | rfl | rfl<;>rfl
theorem b3J {α:Type} (p:α->Bool):∀(L:List α) (k:Nat) (x:α),k<=(L.takeWhile p).length->L[k]? =some x->(p x=true->k+1<=(L.takeWhile p).length)/\(p x=false->k=(L.takeWhile p).length)
 | [],k,x,_,h=>by simp at h
 | y::L,0,x,_,h=>by
  simp only[T6,p9]at h;subst h;rw[a4M];constructor
  ·intro e;rw[i9 e,o0];omega
  ·intro e;rw[i7 (by rw[e];decide)];rfl
 | y::L,k+1,x,hk,h=>by
  rw[a4M]at hk ⊢
  by_cases e:p y=true
  ·rw[i9 e]at hk ⊢;rw[o0]at hk ⊢;have:=b3J p L k x (by omega) (by simpa using h);constructor
   ·intro h1;have:=this.1 h1;omega
   ·intro h1;have:=this.2 h1;omega
  ·rw[i7 e]at hk;simp at hk
theorem b6k {α:Type} (p:α->Bool) (L:List α):(L.takeWhile p).length<=L.length:=by
 have:=congrArg List.length (List.takeWhile_append_dropWhile (p:=p) (l:=L));rw[j6]at this;omega
theorem b8Y {α:Type} (p:α->Bool) (L:List α):L.take (L.takeWhile p).length=L.takeWhile p/\L.drop (L.takeWhile p).length=L.dropWhile p:=by
 have h:=List.takeWhile_append_dropWhile (p:=p) (l:=L);constructor
 ·conv=>lhs;arg 2;rw[<- h]
  exact E7 rfl
 ·conv=>lhs;arg 2;rw[<- h]
  exact U7 rfl
def b0g (p:Nat) (a:Option (Nat×Nat)) (c:Nat) (L:List Fl):List Atom:=[.pt p 247 [.slice (R3 a) L.length c],rdA (R3 a) 7 L.length (B3 L)]
theorem a9e (a:Option (Nat×Nat)) (n c k:Nat) (L:List Fl) (hl:L.length=n) (hz:a=none->c=0) (hk:k<=n) (hc:n<=c) (hn:n<=1000000):FP 246 [.slice (R3 a) k c] [rdA (R3 a) 7 n (B3 L)]
  (λv As=>∃a' c',v=slv a' k c'/\As=[rdA (R3 a) 7 n (B3 L),t7 57 7 a' k c' (B3 (L.take k))]):=by
 refine FE [0] Tryz.func246 λX F hX=>?_;cases a with
 | none=>
  have:=hz rfl;obtain rfl:k=0:=by omega
  refine J.qT λ_=>?_;refine J.turn1 [] rfl (As:=[t7 57 7 none 0 0 (B3 [])]) (λh s=>Sep.one ⟨rfl,rfl,rfl⟩) rfl ?_;refine J.qr [1,2] λ_=>?_;exact⟨none,0,rfl,rfl⟩
 | some g=>
  refine J.qF λ_=>?_;refine J.qn 5 λbb=>?_;refine J.closeOwn (e:=57) (size:=7) (n:=0) (cap:=0) (xs:=[]) 2 rfl rfl rfl (m9 _) (n7 _) rfl rfl rfl ?_;refine J.q λ_=>?_;have hRd:Rd (rdA (R3 (some g)) 7 n (B3 L)) (R3 (some g)) 7 k (B3 (L.take k)):=by
   have:=(b0y (R3 (some g)) 7 n (B3 L)).take k hk
   rwa [b1a]at this
  refine J.appendRO hX tk (a:=some (bb 0)) (n:=0) (cap:=0) (xs:=[]) (Ay:=rdA (R3 (some g)) 7 n (B3 L)) 2 1 (λe=>by cases e) rfl rfl rfl rfl rfl rfl rfl rfl rfl hRd rfl rfl rfl rfl (b2D _) ?_ ?_ (λ_=>rfl) λa' c'=>⟨_,rfl,trivial,?_⟩
  ·simp only[maxLen];omega
  ·omega
  rw[I3 k,R6];refine J.qr [1,2] λ_=>?_;exact⟨a',c',rfl,rfl⟩
def b0Y (ops:Int) (f:Fl):Bool:=decide (f.at_<=ops)
def R0 (ops:Int) (L:List Fl):List Fl:=L.takeWhile (b0Y ops)
def a1u (ops:Int) (L:List Fl):List Fl:=L.dropWhile (b0Y ops)
theorem c1P (p:Nat) (a:Option (Nat×Nat)) (c:Nat) (L:List Fl) (hz:a=none->c=0) (hc:L.length<=c) (hn:L.length<=1000) (ops:Int):FP 177 [pp p,iI ops] (b0g p a c L)
  (λv As=>∃a' c' a2 c2,(a'=none->c'=0)/\(a1u ops L).length<=c'/\v=slv a2 (R0 ops L).length c2/\As=b0g p a' c' (a1u ops L)++[t7 57 7 a2 (R0 ops L).length c2 (B3 (R0 ops L))]):=by
 refine FE [2,0] Tryz.func177 λX F hX=>?_;refine J.qF λ_=>?_;refine J.q λ_=>?_;refine J.l (α:=Nat) (λk=>k<=(R0 ops L).length) (λk=>[si 5 k,⟨0,pp p,2, .tt⟩,si 1 ops]) [] (λk=>[]) (λk=>L.length-k) (0) (n7 _) λk hI=>?_;have hle:(R0 ops L).length<=L.length:=b6k _ _;obtain⟨htk,hdr⟩:=b8Y (b0Y ops) L;have htk:L.take (R0 ops L).length=R0 ops L:=htk;have hdr:L.drop (R0 ops L).length=a1u ops L:=hdr;refine J.qn 10 λ_=>?_;rcases R5 k L.length with h1 | h1
 ·obtain⟨x,hx⟩:∃x,L[k]? =some x:=⟨_,d6 h1⟩;have htw:=b3J (b0Y ops) L k x hI hx;refine J.know (λh' s=>b4Z (show rdP (R3 a) 7 L.length (B3 L) h' from s.get (i:=2) rfl) (by omega)) λhg=>?_;obtain⟨⟨g,o⟩,rfl⟩:=hg;rw[show decide ((k:Int)<(L.length:Int))=true from l8 (by omega)];refine J.q λ_=>?_;refine J.v (iI x.at_) rfl rfl (λhg aa w he hw=>a4Z tk rfl rfl he rfl rfl rfl (b0y _ _ _ _ _ (hw.get (i:=2) rfl)) (by omega) (j:=k*7+0) (by omega) (a2W flC 7 (λ_=>rfl) hx 0 (by omega))) ?_;refine J.qd (λ_ h2=>?_) λ_ h2=>?_
  ·simp only[x7]at h2;have hk:=htw.1 h2;refine J.q λ_=>?_;refine J.n (k+1) (hk) (by omega) [0,1,2]
  ·simp only[x7]at h2;have hk:k=(R0 ops L).length:=htw.2 h2;subst hk;refine J.qn 8 λ_=>?_;refine J.v (.slice (R3 (some (g,o))) (R0 ops L).length c) rfl rfl (λhg aa w he hw=>a3W tk rfl rfl rfl he rfl rfl rfl rfl (by omega)) ?_;refine J.qc (a9e (some (g,o)) L.length c (R0 ops L).length L rfl hz hle hc (by omega)) [2] λ_=>?_;rintro v As ⟨a2,c2,rfl,rfl⟩;refine⟨_,rfl,trivial,?_⟩;refine J.qn 10 λ_=>?_;refine J.v (.slice (R3 (a2X (some (g,o)) 7 (R0 ops L).length c)) (L.length-(R0 ops L).length) (c-(R0 ops L).length)) rfl rfl (λhg aa w he hw=>a3q tk rfl rfl rfl he rfl rfl rfl rfl rfl hle) ?_;refine J.q λ_=>?_;refine J.turn1 [2] rfl (As:=[rdA (R3 (a2X (some (g,o)) 7 (R0 ops L).length c)) 7 (L.length-(R0 ops L).length) ((B3 L).drop ((R0 ops L).length*7))]) (λh s=>Sep.one (b0x (show rdP (R3 (some (g,o))) 7 L.length (B3 L) h from s.get (i:=0) rfl) hle hc)) rfl ?_;refine J.qr [1,2,3] λ_=>?_;refine⟨a2X (some (g,o)) 7 (R0 ops L).length c,c-(R0 ops L).length,a2,c2,a4k hz,by rw[<- hdr,B6];omega,rfl,?_⟩;unfold b0g;rw[<- hdr,B6,a5D,htk];rfl
 ·have hk:k=(R0 ops L).length:=by omega
  rw[show decide ((k:Int)<(L.length:Int))=false from y8 (by omega)];refine J.qn 6 λ_=>?_;refine J.v (pp 0) rfl rfl (λhg a w he hw=>by simp[G.on]at hg) ?_;refine J.qn 1 λ_=>?_;refine J.v (iI 0) rfl rfl (λhg a w he hw=>by simp[G.on]at hg) ?_;refine J.qF λ_=>?_;subst hk;refine J.qn 8 λ_=>?_;refine J.v (.slice (R3 (a)) (R0 ops L).length c) rfl rfl (λhg aa w he hw=>a3W tk rfl rfl rfl he rfl rfl rfl rfl (by omega)) ?_;refine J.qc (a9e (a) L.length c (R0 ops L).length L rfl hz hle hc (by omega)) [2] λ_=>?_;rintro v As ⟨a2,c2,rfl,rfl⟩;refine⟨_,rfl,trivial,?_⟩;refine J.qn 10 λ_=>?_;refine J.v (.slice (R3 (a2X (a) 7 (R0 ops L).length c)) (L.length-(R0 ops L).length) (c-(R0 ops L).length)) rfl rfl (λhg aa w he hw=>a3q tk rfl rfl rfl he rfl rfl rfl rfl rfl hle) ?_;refine J.q λ_=>?_;refine J.turn1 [2] rfl (As:=[rdA (R3 (a2X (a) 7 (R0 ops L).length c)) 7 (L.length-(R0 ops L).length) ((B3 L).drop ((R0 ops L).length*7))]) (λh s=>Sep.one (b0x (show rdP (R3 (a)) 7 L.length (B3 L) h from s.get (i:=0) rfl) hle hc)) rfl ?_;refine J.qr [1,2,3] λ_=>?_;refine⟨a2X (a) 7 (R0 ops L).length c,c-(R0 ops L).length,a2,c2,a4k hz,by rw[<- hdr,B6];omega,rfl,?_⟩;unfold b0g;rw[<- hdr,B6,a5D,htk];rfl
def flN (N:Nand) (f:Fl):Nand:=(N.fault f.kind f.x f.y f.z f.n f.xx).2
def a0q (N:Nand) (l:List Fl):Nand:=l.foldl flN N
theorem b5A (N:Nand) (l:List Fl) {k:Nat} {x:Fl} (h:l[k]? =some x):a0q N (l.take (k+1))=flN (a0q N (l.take k)) x:=by
 unfold a0q;rw[D6,h,K6,C3];rfl
theorem a3n {N:Nand} {k m:Nat} (h:N.Gd k m):∀(l:List Fl),(a0q N l).Gd k (m+l.length)
 | []=>h
 | f::l=>by
  have:=a3n (h.fault f.kind f.x f.y f.z f.n f.xx) l;rw[o0,show m+(l.length+1)=m+1+l.length from by omega];exact this
theorem c1N (p n:Nat) (a:Option (Nat×Nat)) (c:Nat) (L:List Fl) (hz:a=none->c=0) (hc:L.length<=c) (hn:L.length<=1000) (N:Nand) (k m:Nat) (hG:N.Gd k m):FP 107 [pp p,pp n] (b0g p a c L++[C1 n N])
  (λv As=>∃a' c',(a'=none->c'=0)/\(a1u N.ops L).length<=c'/\v=iI (R0 N.ops L).length/\As=b0g p a' c' (a1u N.ops L)++[C1 n (a0q N (R0 N.ops L))]):=by
 refine FE [2,4] Tryz.func107 λX F hX=>?_;refine J.qp (b4a n N) [3] λ_=>?_;refine J.qc (c1P p a c L hz hc hn N.ops) [1,2] λ_=>?_;rintro v As ⟨a',c',a2,c2,hz',hc',rfl,rfl⟩;refine⟨_,rfl,trivial,?_⟩;have hle:(R0 N.ops L).length<=L.length:=b6k _ _;obtain⟨R,hR⟩:∃R,a1u N.ops L=R:=⟨_,rfl⟩;obtain⟨D,hD⟩:∃D,R0 N.ops L=D:=⟨_,rfl⟩;rw[hR]at hc' ⊢;rw[hD]at hle ⊢;refine J.q λ_=>?_;refine J.l (α:=Nat) (λj=>j<=D.length) (λj=>[si 14 j,si 13 D.length,sv 12 (slv a2 D.length c2),sv 5 (slv a2 D.length c2),⟨1,pp n,4, .tt⟩]) [3] (λj=>[C1 n (a0q N (D.take j))]) (λj=>D.length-j) (0) (n7 _) λj hI=>?_;refine J.qd (λ_ h1=>?_) λ_ h1=>?_
 ·simp only[g7,j9]at h1;obtain⟨x,hx⟩:∃x,D[j]? =some x:=⟨_,d6 (by omega)⟩;have hsn:=b5A N D hx;have hOk:=(a3n hG (D.take j)).ok;refine J.know (λh' s=>D7 (c:=(a2,c2)) (by omega) (s.get (i:=4) rfl)) λhg=>?_;obtain⟨g,rfl⟩:=hg;refine J.q λ_=>?_;refine J.v (flV x) rfl rfl (λhg aa w he hw=>L8 tk rfl rfl he rfl rfl rfl (hw.get (i:=4) rfl) (by rw[show 0+(j:Int).toNat*7=j*7 from by omega];exact a3T flC 7 (λ_=>rfl) D j x hx) rfl) ?_;refine J.qp (a2s n (a0q N (D.take j)) hOk x.at_ x.kind x.x x.y x.z x.n x.xx) [3] λ_=>?_;rw[show((a0q N (D.take j)).fault x.kind x.x x.y x.z x.n x.xx).2=a0q N (D.take (j+1))from hsn.symm];refine J.q λ_=>?_;refine J.n (j+1) (by omega) (by omega) [0,1,2,3,4]
 simp only[c9,j9]at h1;obtain rfl:j=D.length:=by omega
 rw[B5 (m9 _)];refine J.qr [1,2,3] λ_=>?_;rw[hR,hD];exact⟨a',c',hz',hc',rfl,rfl⟩
structure MPv where
 now:List UInt8
 op:Bool
 may:List (List UInt8)
 ever:List (List UInt8)
namespace Mv
def z16:List UInt8:=[0,0,0,0,0,0,0,0,0,0,0,0,0,0,0,0]
def page0:MPv:=⟨z16,false,[z16],[z16]⟩
def new (n:Int):List MPv:=List.replicate (min (max n 0) 65536).toNat page0
def inR (M:List MPv) (i:Int):Bool:=decide (0<=i)&&decide (i<M.length)
def pg (M:List MPv) (i:Int):MPv:=M.getD i.toNat page0
def wr (v:MPv) (d:List UInt8):MPv:=⟨d,false,v.may++[d],v.ever++[d]⟩
def write (M:List MPv) (i:Int) (d:List UInt8):List MPv:=if inR M i then M.set i.toNat (wr (pg M i) d)else M
def cut (M:List MPv):List MPv:=M.map λv=>{v with op:=true}
def may (M:List MPv) (i:Int) (d:List UInt8):Bool:=inR M i&&(if(pg M i).op then(pg M i).may.contains d else(pg M i).now==d)
end Mv
end Go.Proofs.YtpakpgkdpofbhaaGreat
namespace Go.Proofs.YtpakpgkdpofbhaaGreat
structure Td where
 err:Int
 data:List UInt8
structure Stp where
 fn:Int
 lpn:Int
 data:List UInt8
 n:Int
 keep:Int
 f:Fl
def zd:List UInt8:=Mv.z16
structure Pv where
 L:List Fl
 log:List Td
 Z:Option Fv
 M:Nand
def Fv.setN (Z:Fv) (N:Nand):Fv:={Z with S:={Z.S with N:=N}}
namespace Pv
def nd (P:Pv):Nand:=match P.Z with | some Z=>Z.S.N | none=>P.M
def setN (P:Pv) (N:Nand):Pv:=match P.Z with | some Z=>{P with Z:=some (Z.setN N)} | none=>{P with M:=N}
def run (P:Pv):Pv:={P.setN (a0q P.nd (R0 P.nd.ops P.L))with L:=a1u P.nd.ops P.L}
def mounts (P:Pv):Pv×Int:=
 let N1:=if P.nd.off then P.nd else P.nd.setCut (-1) 0
 let r:=T4 N1.onN
 if r.2=0 then({P with Z:=some (Fv.of r.1)},0)else({P with Z:=none,M:=r.1.N},r.2)
def does (P:Pv) (s:Stp):Pv×Td:=
 if s.fn=1 then(match P.Z with | some Z=>({P with Z:=some (Z.read s.lpn).1},⟨(Z.read s.lpn).2.2,(Z.read s.lpn).2.1⟩) | none=>(P,⟨12,zd⟩))
 else if s.fn=2 then(match P.Z with | some Z=>({P with Z:=some (Z.write s.lpn s.data).1},⟨(Z.write s.lpn s.data).2,zd⟩) | none=>(P,⟨12,zd⟩))
 else if s.fn=3 then(match P.Z with | some Z=>({P with Z:=some (Z.trim s.lpn).1},⟨(Z.trim s.lpn).2,zd⟩) | none=>(P,⟨12,zd⟩))
 else if s.fn=4 then(match P.Z with | some Z=>({P with Z:=some Z.flush.1},⟨Z.flush.2,zd⟩) | none=>(P,⟨12,zd⟩))
 else if s.fn=5 then(match P.Z with | some Z=>({P with Z:=some Z.tick.1},⟨Z.tick.2,zd⟩) | none=>(P,⟨12,zd⟩))
 else if s.fn=6 then(P.setN (P.nd.setCut s.n s.keep),⟨0,zd⟩)
 else if s.fn=7 then(P.mounts.1,⟨P.mounts.2,zd⟩)
 else if s.fn=8 then(P.setN (P.nd.fault s.f.kind s.f.x s.f.y s.f.z s.f.n s.f.xx).2,if(P.nd.fault s.f.kind s.f.x s.f.y s.f.z s.f.n s.f.xx).1 then⟨0,zd⟩else⟨1,zd⟩)
 else(P,⟨1,zd⟩)
def step (P:Pv) (s:Stp):Pv×Td:=({(P.run.does s).1 with log:=(P.run.does s).1.log++[(P.run.does s).2]},(P.run.does s).2)
def new (D B Pg:Nat) (l:List Fl):Pv:=⟨W0 a2Y (plF D B Pg l),[],if(T4 (Nand.new D B Pg)).2=0 then some (Fv.of (T4 (Nand.new D B Pg)).1)else none,(T4 (Nand.new D B Pg)).1.N⟩
end Pv
end Go.Proofs.YtpakpgkdpofbhaaGreat
namespace Go.Proofs.YtpakpgkdpofbhaaGreat
open Go Go.RowKit
structure MSl where
 v:MPv
 a1:Option Nat
 c1:Nat
 a2:Option Nat
 c2:Nat
def Q1 (l:List (List UInt8)):List Value:=l.flatMap I1
def MSl.cells (z:MSl):List Value:=[byC z.v.now 0,byC z.v.now 1,byC z.v.now 2,byC z.v.now 3,byC z.v.now 4,byC z.v.now 5,byC z.v.now 6,byC z.v.now 7,byC z.v.now 8,byC z.v.now 9,byC z.v.now 10,byC z.v.now 11,byC z.v.now 12,byC z.v.now 13,byC z.v.now 14,byC z.v.now 15, .bool z.v.op,slv z.a1 z.v.may.length z.c1,slv z.a2 z.v.ever.length z.c2]
theorem MSl.cells_len (z:MSl):z.cells.length=19:=rfl
def MSl.m1 (z:MSl):Atom:=t7 30 16 z.a1 z.v.may.length z.c1 (Q1 z.v.may)
def MSl.m2 (z:MSl):Atom:=t7 30 16 z.a2 z.v.ever.length z.c2 (Q1 z.v.ever)
def b1k (q g:Nat) (Z:List MSl):List Atom:=[.pt q 118 [.slice (some ⟨g,0,none⟩) Z.length Z.length], .pt g 120 (Z.flatMap MSl.cells), .hp (HP.of (Z.map MSl.m1)), .hp (HP.of (Z.map MSl.m2))]
def Mv.adr (n g:Nat) (i:Int):Option Addr:=if 0<=i/\i<n then some ⟨g,i.toNat*19,none⟩else none
theorem c0y (q g n:Nat) (hn:n<=65536) (i:Int):FP 83 [pp q,iI i] [.pt q 118 [.slice (some ⟨g,0,none⟩) n n]] (Ps (.pointer (Mv.adr n g i)) [.pt q 118 [.slice (some ⟨g,0,none⟩) n n]]):=by
 refine FE [2,0] Tryz.func83 λX F hX=>?_;refine J.qd (λ_ h1=>?_) λ_ h1=>?_
 ·simp only[D4,n5,g7,a0W]at h1;have ha:Mv.adr n g i=none:=by unfold Mv.adr;rw[i7 (by omega)]
  refine J.qr [1] λ_=>?_;rw[ha];exact⟨rfl,rfl⟩
 ·simp only[D4,J1,c9,a0W]at h1;have ha:Mv.adr n g i=some ⟨g,i.toNat*19,none⟩:=by unfold Mv.adr;rw[i9 (by omega)]
  refine J.qr [1] λ_=>?_;rw[ha];exact⟨by simp,rfl⟩
def MSl.none0:MSl:=⟨⟨Mv.z16,false,[],[]⟩,none,0,none,0⟩
theorem MSl.cells_zero (m:Nat):(List.replicate m [Value.int .u8 0, .int .u8 0, .int .u8 0, .int .u8 0, .int .u8 0, .int .u8 0, .int .u8 0, .int .u8 0, .int .u8 0, .int .u8 0, .int .u8 0, .int .u8 0, .int .u8 0, .int .u8 0, .int .u8 0, .int .u8 0, .bool false, .slice none 0 0, .slice none 0 0]).flatten=(List.replicate m MSl.none0).flatMap MSl.cells:=by
 induction m with
 | zero=>rfl
 | succ m ih=>rw[a0r,a0r,List.flatten_cons,y9,ih];rfl
theorem MSl.flat_len (Z:List MSl):(Z.flatMap MSl.cells).length=19*Z.length:=by
 induction Z with
 | nil=>rfl
 | cons z Z ih=>rw[y9,j6,ih,MSl.cells_len,o0];omega
theorem MSl.hps (m:Nat) (h:Hl):Sep [.hp (HP.of ((List.replicate m MSl.none0).map MSl.m1)), .hp (HP.of ((List.replicate m MSl.none0).map MSl.m2))] h:=by
 refine Sep.ofAll λA hA h=>?_;have hx:∀f:MSl->Atom,(∀h,(f MSl.none0).sat h)->(Atom.hp (HP.of ((List.replicate m MSl.none0).map f))).sat h:=λf hf=>by
  exact(Sep.hpOf.2 (Sep.ofAll λA hA h=>by
   rw[a0L,List.mem_replicate]at hA;rw[hA.2];exact hf h)).get (i:=0) rfl
 simp only[J0,V6,a5G]at hA;rcases hA with rfl | rfl
 ·exact hx MSl.m1 λh=>⟨rfl,rfl,rfl⟩
 ·exact hx MSl.m2 λh=>⟨rfl,rfl,rfl⟩
theorem c1d (n:Int):FP 31 [iI n] [] (λv As=>∃q g Z,v=pp q/\As=b1k q g Z/\Z.map (·.v)=Mv.new n):=by
 refine FE [0] Tryz.func31 λX F hX=>?_;refine J.qn 9 λ_=>?_;rw[b6t];obtain⟨m,hm⟩:∃m:Nat,min (max n 0) 65536=(m:Int):=⟨(min (max n 0) 65536).toNat,by omega⟩;have hm1:m<=65536:=by omega
 rw[hm];refine J.mk 2 λg=>?_;have hz:(List.replicate m _).flatten=(List.replicate m MSl.none0).flatMap MSl.cells:=MSl.cells_zero m;rw[hz];refine J.q λbq=>?_;refine J.turn1 [] rfl (As:=[.hp (HP.of ((List.replicate m MSl.none0).map MSl.m1)), .hp (HP.of ((List.replicate m MSl.none0).map MSl.m2))]) (λh s=>MSl.hps m h) rfl ?_;refine J.q λ_=>?_;refine J.l (α:=(Nat×List MSl)) (λz=>z.1<=m/\z.2.length=m/\z.2.map (·.v)=List.replicate z.1 Mv.page0++List.replicate (m-z.1) MSl.none0.v) (λz=>[si 16 z.1,si 15 m,⟨3,pp (bq 0),3, .tt⟩]) [1,3,4] (λz=>[.pt g 120 (z.2.flatMap MSl.cells), .hp (HP.of (z.2.map MSl.m1)), .hp (HP.of (z.2.map MSl.m2))]) (λz=>m-z.1) ((0,List.replicate m MSl.none0)) (⟨n7 _,V1,by simp⟩) λz hI=>?_;obtain⟨k,Z⟩:=z;dsimp only at hI ⊢;obtain⟨hk,hZl,hZ⟩:=hI;refine J.qd (λ_ h1=>?_) λ_ h1=>?_
 ·simp only[g7,j9]at h1;obtain⟨z,hz⟩:∃z,Z[k]? =some z:=⟨_,d6 (by omega)⟩;refine J.openAt 3 k rfl rfl (by rw[m6,hz];rfl) rfl ?_;refine J.openAt 4 k rfl rfl (by rw[m6,hz];rfl) rfl ?_;refine J.p (.take true 0 (.take true 1 (.take true 2 (.take false 3 (.take true 4 (.take true 5 (.take true 6 (.take true 7 (.take false 8 (.take true 9 (.alt false 10 ((.take true 12 (.take true 13 (.alt false 11 ((.of [58,60,64,71])) (.alt false 14 ((.of [46,60,64,71])) .non))))) (.alt false 11 ((.of [42,48,52,58,60,64,71])) .non)))))))))))) [15,16,17] [2] λ_=>?_;have hoff:∀j,0+(k:Int).toNat*19+j=k*19+j:=λj=>by omega
  have hlt:∀j,j<19->0+(k:Int).toNat*19+j<(Z.flatMap MSl.cells).length:=λj hj=>by
   rw[MSl.flat_len,hoff];have:k*19+19<=19*Z.length:=by omega
   omega
  have U5:∀y:MSl,(Z.set k y)[k]? =some y:=λy=>by rw[u0,i9 rfl,i9 (by omega)]
  refine J.join (α:=Nat×Nat) (λ_=>[si 16 k,si 15 m,⟨3,pp (bq 0),3, .tt⟩]) (λx=>[.hp F, .pt g 120 ((Z.set k ⟨⟨z.v.now,z.v.op,[Mv.z16],[Mv.z16]⟩,some x.1,1,some x.2,1⟩).flatMap MSl.cells), .pt (bq 0) 118 [.slice (some ⟨g,0,none⟩) m m], .hp (HP.of ((Z.map MSl.m1).set k .emp)), .hp (HP.of ((Z.map MSl.m2).set k .emp)),t7 30 16 (some x.1) 1 1 (Q1 [Mv.z16]),t7 30 16 (some x.2) 1 1 (Q1 [Mv.z16])]) (λhj=>?_) (λx=>?_)
  ·refine J.q λ_=>?_;refine J.alts ?_ ?_
   ·skip
    refine J.mk 8 λga=>?_;refine J.cO 30 16 1 1 (Q1 [Mv.z16]) 7 ?_;refine J.q λ_=>?_;refine J.alts ?_ ?_
    ·skip
     refine J.mk 9 λgb=>?_;refine J.cO 30 16 1 1 (Q1 [Mv.z16]) 8 ?_;refine J.s1 1 ((Z.set k ⟨⟨z.v.now,z.v.op,[Mv.z16],z.v.ever⟩,some ga,1,z.a2,z.c2⟩).flatMap MSl.cells) ?_ ?_ ?_
     ·exact hlt 17 (by omega)
     ·rw[hoff 17];exact Q3 MSl.cells 19 MSl.cells_len 17 _ hz (by omega) rfl
     refine J.qn 2 λ_=>?_;refine J.s1 1 ((Z.set k ⟨⟨z.v.now,z.v.op,[Mv.z16],[Mv.z16]⟩,some ga,1,some gb,1⟩).flatMap MSl.cells) ?_ ?_ ?_
     ·rw[MSl.flat_len,B1,<- MSl.flat_len];exact hlt 18 (by omega)
     ·rw[hoff 18];exact(Q3 MSl.cells 19 MSl.cells_len 18 (y:=⟨⟨z.v.now,z.v.op,[Mv.z16],[Mv.z16]⟩,some ga,1,some gb,1⟩) _ (U5 ⟨⟨z.v.now,z.v.op,[Mv.z16],z.v.ever⟩,some ga,1,z.a2,z.c2⟩) (by omega) rfl).trans (by rw[a0d])
     exact J.goto [0,1,2,3,4,7,8] (hj (ga,gb)) ⟨rfl,rfl,rfl,trivial⟩ rfl rfl
    ·skip
     refine J.s1 1 ((Z.set k ⟨⟨z.v.now,z.v.op,[Mv.z16],z.v.ever⟩,some ga,1,z.a2,z.c2⟩).flatMap MSl.cells) ?_ ?_ ?_
     ·exact hlt 17 (by omega)
     ·rw[hoff 17];exact Q3 MSl.cells 19 MSl.cells_len 17 _ hz (by omega) rfl
     refine J.mk 9 λgb=>?_;refine J.cO 30 16 1 1 (Q1 [Mv.z16]) 8 ?_;refine J.qn 2 λ_=>?_;refine J.s1 1 ((Z.set k ⟨⟨z.v.now,z.v.op,[Mv.z16],[Mv.z16]⟩,some ga,1,some gb,1⟩).flatMap MSl.cells) ?_ ?_ ?_
     ·rw[MSl.flat_len,B1,<- MSl.flat_len];exact hlt 18 (by omega)
     ·rw[hoff 18];exact(Q3 MSl.cells 19 MSl.cells_len 18 (y:=⟨⟨z.v.now,z.v.op,[Mv.z16],[Mv.z16]⟩,some ga,1,some gb,1⟩) _ (U5 ⟨⟨z.v.now,z.v.op,[Mv.z16],z.v.ever⟩,some ga,1,z.a2,z.c2⟩) (by omega) rfl).trans (by rw[a0d])
     exact J.goto [0,1,2,3,4,7,8] (hj (ga,gb)) ⟨rfl,rfl,rfl,trivial⟩ rfl rfl
   ·skip
    refine J.mk 8 λgb=>?_;refine J.cO 30 16 1 1 (Q1 [Mv.z16]) 7 ?_;refine J.mk 9 λga=>?_;refine J.cO 30 16 1 1 (Q1 [Mv.z16]) 8 ?_;refine J.qn 2 λ_=>?_;refine J.s1 1 ((Z.set k ⟨⟨z.v.now,z.v.op,[Mv.z16],z.v.ever⟩,some ga,1,z.a2,z.c2⟩).flatMap MSl.cells) ?_ ?_ ?_
    ·exact hlt 17 (by omega)
    ·rw[hoff 17];exact Q3 MSl.cells 19 MSl.cells_len 17 _ hz (by omega) rfl
    refine J.qn 2 λ_=>?_;refine J.s1 1 ((Z.set k ⟨⟨z.v.now,z.v.op,[Mv.z16],[Mv.z16]⟩,some ga,1,some gb,1⟩).flatMap MSl.cells) ?_ ?_ ?_
    ·rw[MSl.flat_len,B1,<- MSl.flat_len];exact hlt 18 (by omega)
    ·rw[hoff 18];exact(Q3 MSl.cells 19 MSl.cells_len 18 (y:=⟨⟨z.v.now,z.v.op,[Mv.z16],[Mv.z16]⟩,some ga,1,some gb,1⟩) _ (U5 ⟨⟨z.v.now,z.v.op,[Mv.z16],z.v.ever⟩,some ga,1,z.a2,z.c2⟩) (by omega) rfl).trans (by rw[a0d])
    exact J.goto [0,1,2,3,4,8,7] (hj (ga,gb)) ⟨rfl,rfl,rfl,trivial⟩ rfl rfl
  obtain⟨ga,gb⟩:=x;dsimp only;obtain⟨y,hy⟩:∃y:MSl,y=⟨⟨z.v.now,z.v.op,[Mv.z16],[Mv.z16]⟩,some ga,1,some gb,1⟩:=⟨_,rfl⟩;rw[<- hy,show t7 30 16 (some ga) 1 1 (Q1 [Mv.z16])=y.m1 from by rw[hy];rfl,show t7 30 16 (some gb) 1 1 (Q1 [Mv.z16])=y.m2 from by rw[hy];rfl];refine J.closeAt (A:=y.m1) 3 5 k rfl rfl rfl ?_;refine J.closeAt (A:=y.m2) 4 6 k rfl rfl rfl ?_;rw[<- K1,<- K1];have hzv:z.v=MSl.none0.v:=by
   have h2:(Z.map (·.v))[k]? =some z.v:=by rw[m6,hz];rfl
   rw[hZ,D3 (by simp),V1,G9,i9 (by omega)]at h2;injection h2 with h2;exact h2.symm
  have hyv:y.v=Mv.page0:=by rw[hy];show(⟨z.v.now,z.v.op,[Mv.z16],[Mv.z16]⟩:MPv)=_;rw[hzv];rfl
  have hZ2:(Z.set k y).map (·.v)=List.replicate (k+1) Mv.page0++List.replicate (m-(k+1)) MSl.none0.v:=by
   rw[K1,hZ,hyv,show m-k=(m-(k+1))+1 from by omega,a0r (n:=m-(k+1)),R1 _ _ (by simp),V1,a0b,a0K,List.replicate_succ' (n:=k),s8];rfl
  refine J.q λ_=>?_;refine J.n ((k+1,Z.set k y)) (⟨by dsimp only;omega,by dsimp only;rw[B1];exact hZl,hZ2⟩) (by dsimp only;omega) [0,1,2,3,4]
 simp only[c9,j9]at h1;obtain rfl:k=m:=by omega
 refine J.qr [2,1,3,4] λ_=>?_;refine⟨bq 0,g,Z,rfl,?_,?_⟩
 ·rw[<- hZl];rfl
 ·rw[hZ,a0b];unfold Mv.new;rw[hm];simp
structure Pad where
 f:Nat
 p:Nat
 t:Nat
 l:Nat
 d:Nat
 fp:Nat
 a:Option (Nat×Nat)
 c:Nat
 a2:Option Nat
 c2:Nat
def tdC (t:Td):List Value:=[iI t.err,byC t.data 0,byC t.data 1,byC t.data 2,byC t.data 3,byC t.data 4,byC t.data 5,byC t.data 6,byC t.data 7,byC t.data 8,byC t.data 9,byC t.data 10,byC t.data 11,byC t.data 12,byC t.data 13,byC t.data 14,byC t.data 15]
def tdV (t:Td):Value:= .agg (tdC t).toArray
def U1 (l:List Td):List Value:=l.flatMap tdC
def flP (o:Option Fv) (f:Nat):Value:=match o with | some _=>pp f | none=> .pointer none
def a4o (n:Nat) (A:Pad) (P:Pv):List Atom:=match P.Z with | some Z=>FvP A.f A.p n A.t A.l A.d Z | none=>[C1 n P.M]
def a3D (q n:Nat) (A:Pad) (P:Pv):List Atom:=[.pt q 165 [pp n,flP P.Z A.f,pp A.fp,slv A.a2 P.log.length A.c2], .pt A.fp 247 [.slice (R3 A.a) P.L.length A.c],rdA (R3 A.a) 7 P.L.length (B3 P.L),t7 61 17 A.a2 P.log.length A.c2 (U1 P.log)]++a4o n A P
structure Pad.Ok (A:Pad) (P:Pv):Prop where
 z:A.a=none->A.c=0
 c:P.L.length<=A.c
theorem a7j (q n:Nat) (r:Value) (r2 r3:Value):FP 50 [pp q] [.pt q 165 [pp n,r,r2,r3]] (λv As=>v=pp n/\As=[.pt q 165 [pp n,r,r2,r3]]):=by
 refine FE [2] Tryz.func50 λX F hX=>?_;refine J.qF λ_=>?_;exact J.qx [1]
theorem b6Q (q n:Nat) (o:Option Fv) (f:Nat) (r2 r3:Value):FP 60 [pp q] [.pt q 165 [pp n,flP o f,r2,r3]] (λv As=>v=flP o f/\As=[.pt q 165 [pp n,flP o f,r2,r3]]):=by
 refine FE [2] Tryz.func60 λX F hX=>?_;refine J.qF λ_=>?_;cases o with
 | none=>
  exact J.qx [1]
 | some Z=>
  exact J.qx [1]
theorem b3Z (a:Option Nat):oad a=R3 (a.map λg=>(g,0)):=by cases a<;>rfl
theorem a4m (d b p:Nat) (h:J3 d b p=true) (k:Nat) (hk:k<4611686018427387904):(Nand.new d b p).Gd k 0:=by
 have g:=Nand.Gd.new d b p h 0 (by omega);exact⟨g.ok,by show(0:Int)+k<_;omega,by show(0:Int)+k<_;omega,g.nodup,g.few⟩
theorem b6P (D B Pg:Nat) (hg:J3 D B Pg=true) (A:Atom) (ad:Option Addr) (n c:Nat) (l:List Fl) (hA:Rd A ad 7 n (B3 l)) (hl:l.length=n) (hn:n<=15):FP 49 [.agg #[iI D,iI B,iI Pg], .slice ad n c] [A] (λv As=>∃q nn A',v=pp q/\A'.Ok (Pv.new D B Pg l)/\As=A::a3D q nn A' (Pv.new D B Pg l)):=by
 have hbd:(3<=D/\D<=6)/\(8<=B/\B<=16)/\(2<=Pg/\Pg<=8):=by simp[J3]at hg;omega
 refine FE [0,0] Tryz.func49 λX F hX=>?_;refine J.qc (a5h D B Pg hg) [] λ_=>?_;rintro v As ⟨nn,rfl,rfl⟩;refine⟨_,rfl,trivial,?_⟩;refine J.qF λ_=>?_;have hG:(Nand.new D B Pg).Gd (Dv.costK+0) 0:=a4m D B Pg hg _ (by decide);refine J.qc (a1w nn (Nand.new D B Pg) 0 0 hG (by decide) rfl) [3] λ_=>?_;have hlen:(W0 a2Y (plF D B Pg l)).length=(plF D B Pg l).length:=(a6C _ _).length_eq;rintro v As (⟨he,f,p,t,ll,d,rfl,rfl⟩ | ⟨he,rfl,rfl⟩)
 ·refine⟨_,rfl,trivial,?_⟩;refine J.qc (c0q D B Pg (by omega) (by omega) (by omega) A ad n c l hA hl hn) [1] λ_=>?_;rintro v As ⟨fp,a,c',rfl,rfl⟩;refine⟨_,rfl,trivial,?_⟩;refine J.know (λh' s=>a0R (show a1d _ _ a (plF D B Pg l).length c' _ _ from s.get (i:=10) rfl)) λhcap=>?_;refine J.know (λh' s=>a7V (show a1d _ _ a (plF D B Pg l).length c' _ _ from s.get (i:=10) rfl)) λhnil=>?_;have hsl:∀n c,slv a n c= .slice (R3 (a.map λg=>(g,0))) n c:=λn c=>by cases a<;>rfl
  rw[hsl];refine J.turn1 [10] rfl (As:=[rdA (R3 (a.map λg=>(g,0))) 7 (plF D B Pg l).length (B3 (W0 a2Y (plF D B Pg l)))]) (λh s=>Sep.one (by have:=Z5 57 7 a (plF D B Pg l).length c' (B3 (W0 a2Y (plF D B Pg l))) _ (s.get (i:=0) rfl);rw[b3Z]at this;exact this)) rfl ?_;refine J.turn1 [] rfl (As:=[t7 61 17 none 0 0 (U1 [])]) (λh s=>Sep.one ⟨rfl,rfl,rfl⟩) rfl ?_;refine J.q λbq=>?_;refine J.ru hX [1,12,9,10,11,3,4,5,6,7,8] ?_;refine⟨bq 0,nn,⟨f,p,t,ll,d,fp,a.map λg=>(g,0),c',none,0⟩,rfl,⟨λe=>hnil (by cases a with | none=>rfl | some g=>cases e),by show(W0 a2Y (plF D B Pg l)).length<=_;rw[hlen];exact hcap⟩,?_⟩;unfold a3D a4o;show _=A::([.pt (bq 0) 165 [pp nn,flP (if(T4 (Nand.new D B Pg)).2=0 then some (Fv.of (T4 (Nand.new D B Pg)).1)else none) _,_,_], .pt fp _ [.slice _ (W0 a2Y (plF D B Pg l)).length _],rdA _ 7 (W0 a2Y (plF D B Pg l)).length _,_]++(match(if(T4 (Nand.new D B Pg)).2=0 then some (Fv.of (T4 (Nand.new D B Pg)).1)else none)with | some Z=>_ | none=>_));rw[i9 he,hlen];rfl
 ·refine⟨_,rfl,trivial,?_⟩;refine J.qc (c0q D B Pg (by omega) (by omega) (by omega) A ad n c l hA hl hn) [1] λ_=>?_;rintro v As ⟨fp,a,c',rfl,rfl⟩;refine⟨_,rfl,trivial,?_⟩;refine J.know (λh' s=>a0R (show a1d _ _ a (plF D B Pg l).length c' _ _ from s.get (i:=5) rfl)) λhcap=>?_;refine J.know (λh' s=>a7V (show a1d _ _ a (plF D B Pg l).length c' _ _ from s.get (i:=5) rfl)) λhnil=>?_;have hsl:∀n c,slv a n c= .slice (R3 (a.map λg=>(g,0))) n c:=λn c=>by cases a<;>rfl
  rw[hsl];refine J.turn1 [5] rfl (As:=[rdA (R3 (a.map λg=>(g,0))) 7 (plF D B Pg l).length (B3 (W0 a2Y (plF D B Pg l)))]) (λh s=>Sep.one (by have:=Z5 57 7 a (plF D B Pg l).length c' (B3 (W0 a2Y (plF D B Pg l))) _ (s.get (i:=0) rfl);rw[b3Z]at this;exact this)) rfl ?_;refine J.turn1 [] rfl (As:=[t7 61 17 none 0 0 (U1 [])]) (λh s=>Sep.one ⟨rfl,rfl,rfl⟩) rfl ?_;refine J.q λbq=>?_;refine J.ru hX [1,7,4,5,6,3] ?_;refine⟨bq 0,nn,⟨0,0,0,0,0,fp,a.map λg=>(g,0),c',none,0⟩,rfl,⟨λe=>hnil (by cases a with | none=>rfl | some g=>cases e),by show(W0 a2Y (plF D B Pg l)).length<=_;rw[hlen];exact hcap⟩,?_⟩;unfold a3D a4o;show _=A::([.pt (bq 0) 165 [pp nn,flP (if(T4 (Nand.new D B Pg)).2=0 then some (Fv.of (T4 (Nand.new D B Pg)).1)else none) _,_,_], .pt fp _ [.slice _ (W0 a2Y (plF D B Pg l)).length _],rdA _ 7 (W0 a2Y (plF D B Pg l)).length _,_]++(match(if(T4 (Nand.new D B Pg)).2=0 then some (Fv.of (T4 (Nand.new D B Pg)).1)else none)with | some Z=>_ | none=>_));rw[i7 he,hlen];rfl
def stC (s:Stp):List Value:=[iI s.fn,iI s.lpn,byC s.data 0,byC s.data 1,byC s.data 2,byC s.data 3,byC s.data 4,byC s.data 5,byC s.data 6,byC s.data 7,byC s.data 8,byC s.data 9,byC s.data 10,byC s.data 11,byC s.data 12,byC s.data 13,byC s.data 14,byC s.data 15,iI s.n,iI s.keep,iI s.f.at_,iI s.f.kind,iI s.f.x,iI s.f.y,iI s.f.z,iI s.f.n,iI s.f.xx]
def stV (s:Stp):Value:= .agg (stC s).toArray
def PlQ (q n:Nat) (o:Option Fv) (f:Nat) (r2 r3:Value):Atom:= .pt q 165 [pp n,flP o f,r2,r3]
theorem b4O (q n:Nat) (A:Pad) (P:Pv) (Z:Fv) (hZ:P.Z=some Z) (r2 r3:Value) (k m:Nat) (hG:Z.S.N.Gd (Dv.costK+k) m) (hm:m<=1000):FP 178 [pp q] (PlQ q n P.Z A.f r2 r3::a4o n A P) (λv As=>∃A':Pad,v=iI P.mounts.2/\(A'.fp=A.fp/\A'.a=A.a/\A'.c=A.c/\A'.a2=A.a2/\A'.c2=A.c2)/\((∃Y,P.mounts.1={P with Z:=some Y}/\As=PlQ q n (some Y) A'.f r2 r3::FvP A'.f A'.p n A'.t A'.l A'.d Y)\/∃M,P.mounts.1={P with Z:=none,M:=M}/\As=[PlQ q n none A'.f r2 r3,C1 n M])):=by
 have hnd:P.nd=Z.S.N:=by unfold Pv.nd;rw[hZ]
 have hms:P.mounts=if(T4 ((if Z.S.N.off then Z.S.N else Z.S.N.setCut (-1) 0).onN)).2=0 then({P with Z:=some (Fv.of (T4 ((if Z.S.N.off then Z.S.N else Z.S.N.setCut (-1) 0).onN)).1)},0)else({P with Z:=none,M:=(T4 ((if Z.S.N.off then Z.S.N else Z.S.N.setCut (-1) 0).onN)).1.N},(T4 ((if Z.S.N.off then Z.S.N else Z.S.N.setCut (-1) 0).onN)).2):=by unfold Pv.mounts;rw[hnd]
 rw[show a4o n A P=FvP A.f A.p n A.t A.l A.d Z from by unfold a4o;rw[hZ],hZ];refine FE [2] Tryz.func178 λX F hX=>?_;refine J.qp (a5g n Z.S.N) [4] λ_=>?_;refine J.qd (λ_ h1=>?_) λ_ h1=>?_
 ·have hoff:Z.S.N.off=false:=by simpa using h1
  have e:(if Z.S.N.off=true then Z.S.N else Z.S.N.setCut (-1) 0)=Z.S.N.setCut (-1) 0:=i7 (by rw[hoff];decide);rw[e]at hms;have hG2:(Z.S.N.setCut (-1) 0).onN.Gd (Dv.costK+k) m:=(hG.cut (-1) 0 (by decide) (by decide)).on;refine J.qp (b1V n Z.S.N (-1) 0) [4] λ_=>?_;refine J.qp (b7m n (Z.S.N.setCut (-1) 0)) [4] λ_=>?_;refine J.qc (a1w n ((Z.S.N.setCut (-1) 0)).onN k m hG2 hm rfl) [4] λ_=>?_;rintro v As (⟨he,f,p,t,ll,d,rfl,rfl⟩ | ⟨he,rfl,rfl⟩)
  ·refine⟨_,rfl,trivial,?_⟩;rw[i9 he]at hms;refine J.qr [1,4,8,9,10,11,12] λ_=>?_;exact⟨⟨f,p,t,ll,d,A.fp,A.a,A.c,A.a2,A.c2⟩,by rw[hms],⟨rfl,rfl,rfl,rfl,rfl⟩, .inl ⟨_,by rw[hms],rfl⟩⟩
  ·refine⟨_,rfl,trivial,?_⟩;rw[i7 he]at hms;refine J.qr [1,4] λ_=>?_;exact⟨A,by rw[hms],⟨rfl,rfl,rfl,rfl,rfl⟩, .inr ⟨_,by rw[hms],rfl⟩⟩
 ·have hoff:Z.S.N.off=true:=by simpa using h1
  have e:(if Z.S.N.off=true then Z.S.N else Z.S.N.setCut (-1) 0)=Z.S.N:=i9 hoff;rw[e]at hms;have hG2:Z.S.N.onN.Gd (Dv.costK+k) m:=hG.on;refine J.qp (b7m n Z.S.N) [4] λ_=>?_;refine J.qc (a1w n (Z.S.N).onN k m hG2 hm rfl) [4] λ_=>?_;rintro v As (⟨he,f,p,t,ll,d,rfl,rfl⟩ | ⟨he,rfl,rfl⟩)
  ·refine⟨_,rfl,trivial,?_⟩;rw[i9 he]at hms;refine J.qr [1,4,8,9,10,11,12] λ_=>?_;exact⟨⟨f,p,t,ll,d,A.fp,A.a,A.c,A.a2,A.c2⟩,by rw[hms],⟨rfl,rfl,rfl,rfl,rfl⟩, .inl ⟨_,by rw[hms],rfl⟩⟩
  ·refine⟨_,rfl,trivial,?_⟩;rw[i7 he]at hms;refine J.qr [1,4] λ_=>?_;exact⟨A,by rw[hms],⟨rfl,rfl,rfl,rfl,rfl⟩, .inr ⟨_,by rw[hms],rfl⟩⟩
theorem b9r (q n:Nat) (A:Pad) (P:Pv) (Z:Fv) (hZ:P.Z=some Z) (r2 r3:Value) (k m:Nat) (hO:Z.Ok (Fv.cW*200+(Dv.costS+(Dv.costK+(1+k)))) m) (hm:m<=1000) (s:Stp) (hs:s.data.length=16):FP 108 [pp q,stV s] (PlQ q n P.Z A.f r2 r3::a4o n A P) (λv As=>∃A':Pad,v=tdV (P.does s).2/\(A'.fp=A.fp/\A'.a=A.a/\A'.c=A.c/\A'.a2=A.a2/\A'.c2=A.c2)/\((∃Y,(P.does s).1={P with Z:=some Y}/\As=PlQ q n (some Y) A'.f r2 r3::FvP A'.f A'.p n A'.t A'.l A'.d Y)\/∃M,(P.does s).1={P with Z:=none,M:=M}/\As=[PlQ q n none A'.f r2 r3,C1 n M])):=by
 have hnd:P.nd=Z.S.N:=by unfold Pv.nd;rw[hZ]
 have hdv:∀Y,a4o n A {P with Z:=some Y}=FvP A.f A.p n A.t A.l A.d Y:=λY=>rfl;have hs1:∀b,s.fn=b->True:=λ_ _=>trivial;rw[show a4o n A P=FvP A.f A.p n A.t A.l A.d Z from by unfold a4o;rw[hZ],hZ];refine FE [2,0] Tryz.func108 λX F hX=>?_;refine J.qd (λ_ h1=>?_) λ_ h1=>?_
 ·have e1:s.fn=1:=by simpa using h1
  have hd:P.does s=({P with Z:=some (Z.read s.lpn).1},⟨(Z.read s.lpn).2.2,(Z.read s.lpn).2.1⟩):=by unfold Pv.does;rw[i9 e1,hZ]
  refine J.pn 7 (.take true 0 (.take true 1 (.take true 2 (.take false 3 (.take true 4 (.take false 5 (.alt false 6 ((.of [28,32,36,42,46,48])) (.alt false 10 ((.of [26,28,32,36,46,48])) .non)))))))) [12] [1,8] λ_ _=>?_;refine J.alts ?_ ?_
  ·skip
   refine J.qp (a0h A.f A.p n A.t A.l A.d Z _ m hO s.lpn) [2,3,4,5,6,7] λ_=>?_;refine J.qr [1,2,3,4,5,6,7] λ_=>?_;refine⟨A,?_,⟨rfl,rfl,rfl,rfl,rfl⟩, .inl ⟨_,by rw[hd],rfl⟩⟩;rw[hd];rfl
  ·skip
   refine J.qn 1 λ_=>?_;refine J.qp (a0h A.f A.p n A.t A.l A.d Z _ m hO s.lpn) [2,3,4,5,6,7] λ_=>?_;refine J.qr [1,2,3,4,5,6,7] λ_=>?_;refine⟨A,?_,⟨rfl,rfl,rfl,rfl,rfl⟩, .inl ⟨_,by rw[hd],rfl⟩⟩;rw[hd];rfl
 have e1:s.fn≠1:=by simpa using h1
 refine J.qd (λ_ h2=>?_) λ_ h2=>?_
 ·have e2:s.fn=2:=by simpa using h2
  have hd:P.does s=({P with Z:=some (Z.write s.lpn s.data).1},⟨(Z.write s.lpn s.data).2,zd⟩):=by unfold Pv.does;rw[i7 e1,i9 e2,hZ]
  refine J.pq (.of [0,4,8,13,16,21,24,29,34,36,43]) [10] [1,8] λ_ _=>?_;refine J.ca hX (by kernel_rfl) (a0S A.f A.p n A.t A.l A.d Z _ m (hO.less (k':=Fv.cW+(1+k)) (by omega)) hm s.lpn s.data hs) [2,3,4,5,6,7] 0 rfl rfl rfl rfl rfl rfl (λ_=>rfl) ?_;refine cpq ⟨_,rfl,stq,?_⟩;refine J.qr [1,2,3,4,5,6,7] λ_=>?_;refine⟨A,?_,⟨rfl,rfl,rfl,rfl,rfl⟩, .inl ⟨_,by rw[hd],rfl⟩⟩;rw[hd];rfl
 have e2:s.fn≠2:=by simpa using h2
 refine J.qd (λ_ h3=>?_) λ_ h3=>?_
 ·have e3:s.fn=3:=by simpa using h3
  have hd:P.does s=({P with Z:=some (Z.trim s.lpn).1},⟨(Z.trim s.lpn).2,zd⟩):=by unfold Pv.does;rw[i7 e1,i7 e2,i9 e3,hZ]
  refine J.pq (.of [0,4,8,13,16,21,26,28,35]) [8] [1,8] λ_ _=>?_;refine J.ca hX (by kernel_rfl) (a7o A.f A.p n A.t A.l A.d Z _ m (hO.less (k':=Fv.cW+(1+k)) (by omega)) hm s.lpn) [2,3,4,5,6,7] 0 rfl rfl rfl rfl rfl rfl (λ_=>rfl) ?_;refine cpq ⟨_,rfl,stq,?_⟩;refine J.qr [1,2,3,4,5,6,7] λ_=>?_;refine⟨A,?_,⟨rfl,rfl,rfl,rfl,rfl⟩, .inl ⟨_,by rw[hd],rfl⟩⟩;rw[hd];rfl
 have e3:s.fn≠3:=by simpa using h3
 refine J.qd (λ_ h4=>?_) λ_ h4=>?_
 ·have e4:s.fn=4:=by simpa using h4
  have hd:P.does s=({P with Z:=some Z.flush.1},⟨Z.flush.2,zd⟩):=by unfold Pv.does;rw[i7 e1,i7 e2,i7 e3,i9 e4,hZ]
  refine J.q λ_=>?_;refine J.ca hX (by kernel_rfl) (a1x A.f A.p n A.t A.l A.d Z _ m (hO.less (k':=Fv.cW*200+k) (by omega)) hm) [2,3,4,5,6,7] 0 rfl rfl rfl rfl rfl rfl (λ_=>rfl) ?_;refine cpq ⟨_,rfl,trivial,?_⟩;refine J.qr [1,2,3,4,5,6,7] λ_=>?_;refine⟨A,?_,⟨rfl,rfl,rfl,rfl,rfl⟩, .inl ⟨_,by rw[hd],rfl⟩⟩;rw[hd];rfl
 have e4:s.fn≠4:=by simpa using h4
 refine J.qd (λ_ h5=>?_) λ_ h5=>?_
 ·have e5:s.fn=5:=by simpa using h5
  have hd:P.does s=({P with Z:=some Z.tick.1},⟨Z.tick.2,zd⟩):=by unfold Pv.does;rw[i7 e1,i7 e2,i7 e3,i7 e4,i9 e5,hZ]
  refine J.q λ_=>?_;refine J.ca hX (by kernel_rfl) (b0R A.f A.p n A.t A.l A.d Z _ m (hO.less (k':=Dv.costS+k) (by omega)) hm) [2,3,4,5,6,7] 0 rfl rfl rfl rfl rfl rfl (λ_=>rfl) ?_;refine cpq ⟨_,rfl,trivial,?_⟩;refine J.qr [1,2,3,4,5,6,7] λ_=>?_;refine⟨A,?_,⟨rfl,rfl,rfl,rfl,rfl⟩, .inl ⟨_,by rw[hd],rfl⟩⟩;rw[hd];rfl
 have e5:s.fn≠5:=by simpa using h5
 refine J.qd (λ_ h6=>?_) λ_ h6=>?_
 ·have e6:s.fn=6:=by simpa using h6
  have hd:P.does s=(P.setN (Z.S.N.setCut s.n s.keep),⟨0,zd⟩):=by unfold Pv.does;rw[i7 e1,i7 e2,i7 e3,i7 e4,i7 e5,i9 e6,hnd]
  have hsn:P.setN (Z.S.N.setCut s.n s.keep)={P with Z:=some (Z.setN (Z.S.N.setCut s.n s.keep))}:=by unfold Pv.setN;rw[hZ]
  rw[hsn]at hd;refine J.p (.of [0,4,8,13,16,21,24,29,34]) [] [1,8] λ_=>?_;refine J.qp (b1V n Z.S.N s.n s.keep) [4] λ_=>?_;refine J.qr [1,2,3,4,5,6,7] λ_=>?_;refine⟨A,?_,⟨rfl,rfl,rfl,rfl,rfl⟩, .inl ⟨_,by rw[hd],rfl⟩⟩;rw[hd];rfl
 have e6:s.fn≠6:=by simpa using h6
 refine J.qd (λ_ h7=>?_) λ_ h7=>?_
 ·have e7:s.fn=7:=by simpa using h7
  have hd:P.does s=(P.mounts.1,⟨P.mounts.2,zd⟩):=by unfold Pv.does;rw[i7 e1,i7 e2,i7 e3,i7 e4,i7 e5,i7 e6,i9 e7]
  have hmm:=b4O q n A P Z hZ r2 r3 _ m (hO.dv.gd.less (k':=Dv.costK+(1+k)) (by omega) (m9 m)) hm;rw[show a4o n A P=FvP A.f A.p n A.t A.l A.d Z from by unfold a4o;rw[hZ],hZ]at hmm;refine J.qc (hmm) [1,2,3,4,5,6,7] λ_=>?_;rintro v As ⟨A',rfl,hA',(⟨Y,hY,rfl⟩ | ⟨M,hY,rfl⟩)⟩
  ·refine⟨_,rfl,trivial,?_⟩;refine J.qr [1,2,3,4,5,6,7] λ_=>?_;refine⟨A',?_,hA', .inl ⟨Y,by rw[hd,hY],rfl⟩⟩;rw[hd];rfl
  ·refine⟨_,rfl,trivial,?_⟩;refine J.qr [1,2] λ_=>?_;refine⟨A',?_,hA', .inr ⟨M,by rw[hd,hY],rfl⟩⟩;rw[hd];rfl
 have e7:s.fn≠7:=by simpa using h7
 refine J.qd (λ_ h8=>?_) λ_ h8=>?_
 ·have e8:s.fn=8:=by simpa using h8
  obtain⟨Q,hQ⟩:∃Q,Q=Z.S.N.fault s.f.kind s.f.x s.f.y s.f.z s.f.n s.f.xx:=⟨_,rfl⟩;have hd:P.does s=({P with Z:=some (Z.setN Q.2)},if Q.1 then⟨0,zd⟩else⟨1,zd⟩):=by unfold Pv.does;rw[i7 e1,i7 e2,i7 e3,i7 e4,i7 e5,i7 e6,i7 e7,i9 e8,hnd,<- hQ];unfold Pv.setN;rw[hZ]
  refine J.p (.of [0,4,8,13,16,21,26]) [] [1,8] λ_=>?_;refine J.qp (a2s n Z.S.N hO.dv.gd.ok s.f.at_ s.f.kind s.f.x s.f.y s.f.z s.f.n s.f.xx) [4] λ_=>?_;rw[<- hQ];refine J.qd (λ_ h9=>?_) λ_ h9=>?_
  ·rw[i9 h9]at hd;refine J.qr [1,2,3,4,5,6,7] λ_=>?_;refine⟨A,?_,⟨rfl,rfl,rfl,rfl,rfl⟩, .inl ⟨_,by rw[hd],rfl⟩⟩;rw[hd];rfl
  ·rw[i7 (by rw[h9];decide)]at hd;refine J.qr [1,2,3,4,5,6,7] λ_=>?_;refine⟨A,?_,⟨rfl,rfl,rfl,rfl,rfl⟩, .inl ⟨_,by rw[hd],rfl⟩⟩;rw[hd];rfl
 have e8:s.fn≠8:=by simpa using h8
 have hd:P.does s=(P,⟨1,zd⟩):=by unfold Pv.does;rw[i7 e1,i7 e2,i7 e3,i7 e4,i7 e5,i7 e6,i7 e7,i7 e8]
 refine J.qr [1,2,3,4,5,6,7] λ_=>?_;refine⟨A,?_,⟨rfl,rfl,rfl,rfl,rfl⟩, .inl ⟨Z,?_,rfl⟩⟩
 ·rw[hd];rfl
 ·rw[hd];show P={P with Z:=some Z};rw[<- hZ]
theorem Dv.Ok.setN {S:Dv} {k m m':Nat} {N:Nand} (h:S.Ok k m) (hl:S.N.Like N) (hG:N.Gd k m'):({S with N:=N}:Dv).Ok k m':=⟨hG,h.t.like hl,h.T,h.sl,h.row,h.next⟩
theorem Fv.Ok.setN {Z:Fv} {k m m':Nat} {N:Nand} (h:Z.Ok k m) (hl:Z.S.N.Like N) (hG:N.Gd k m'):(Z.setN N).Ok k m':=⟨h.dv.setN hl hG,h.dat,λe he=>by have:=h.rng e he;unfold Fv.lg at this ⊢;rw[show(Z.setN N).S.N=N from rfl,a8i hl];exact this,h.nd,h.nx⟩
theorem a8h (N:Nand):∀(l:List Fl),N.Like (a0q N l)
 | []=>Nand.Like.refl N
 | f::l=>(Nand.like_fault N f.kind f.x f.y f.z f.n f.xx).trans (a8h (flN N f) l)
theorem a5C (l:List Td) (x:Td):U1 l++tdC x=U1 (l++[x]):=by unfold U1;rw[J8];simp
theorem a7i (q n:Nat) (A:Pad) (P:Pv) (hA:A.Ok P) (Z:Fv) (hZ:P.Z=some Z) (k m:Nat) (hO:Z.Ok (Fv.cW*200+(Dv.costS+(Dv.costK+(1+k)))) m) (hm:m+(R0 Z.S.N.ops P.L).length<=1000) (hL:P.L.length<=1000) (hlg:P.log.length<=1000) (s:Stp) (hs:s.data.length=16):FP 53 [pp q,stV s] (a3D q n A P) (λv As=>∃A':Pad,v=tdV (P.step s).2/\A'.Ok (P.step s).1/\As=a3D q n A' (P.step s).1):=by
 have hnd:P.nd=Z.S.N:=by unfold Pv.nd;rw[hZ]
 obtain⟨D,hD⟩:∃D,R0 Z.S.N.ops P.L=D:=⟨_,rfl⟩;obtain⟨R,hR⟩:∃R,a1u Z.S.N.ops P.L=R:=⟨_,rfl⟩;rw[hD]at hm;have hrun:P.run=⟨R,P.log,some (Z.setN (a0q Z.S.N D)),P.M⟩:=by unfold Pv.run;rw[hnd,hD,hR];unfold Pv.setN;rw[hZ]
 have hO2:(Z.setN (a0q Z.S.N D)).Ok (Fv.cW*200+(Dv.costS+(Dv.costK+(1+k)))) (m+D.length):=hO.setN (a8h _ _) (a3n hO.dv.gd D);have hst:P.step s=({(P.run.does s).1 with log:=(P.run.does s).1.log++[(P.run.does s).2]},(P.run.does s).2):=rfl;unfold a3D;rw[show a4o n A P=FvP A.f A.p n A.t A.l A.d Z from by unfold a4o;rw[hZ],hZ];refine FE [2,0] Tryz.func53 λX F hX=>?_;refine J.qF λ_=>?_;refine J.p (.of [0,4,8,13,16,20,24,29,34]) [] [1] λ_=>?_;refine J.qc (c1N A.fp n A.a A.c P.L hA.z hA.c hL Z.S.N _ m hO.dv.gd) [2,3,7] λ_=>?_;rintro v As ⟨a',c',hz',hc',rfl,rfl⟩;refine⟨_,rfl,stq,?_⟩;rw[hR]at hc' ⊢;rw[hD];have hdo:=b9r q n A ⟨R,P.log,some (Z.setN (a0q Z.S.N D)),P.M⟩ (Z.setN (a0q Z.S.N D)) rfl (pp A.fp) (slv A.a2 P.log.length A.c2) k (m+D.length) hO2 hm s hs;rw[<- hrun]at hdo;rw[hrun]at hdo;obtain⟨W,hW⟩:∃W,(⟨R,P.log,some (Z.setN (a0q Z.S.N D)),P.M⟩:Pv).does s=W:=⟨_,rfl⟩;rw[hrun,hW]at hst;rw[hW]at hdo;obtain⟨Wp,wt⟩:=W;dsimp only at hdo hst;refine J.qc (hdo) [1,5,6,7,8,9,10] λ_=>?_;rintro v As ⟨A',rfl,⟨q1,q2,q3,q4,q5⟩,(⟨Y,hY,rfl⟩ | ⟨M,hY,rfl⟩)⟩
 ·refine⟨_,rfl,trivial,?_⟩;refine J.pq (.of [0,4,8,12,17,21,26,30,32,36,43]) [8,9,10] [1,13] λ_ _=>?_;refine J.ap 4 14 0 (a5C P.log wt) λa3 c3=>?_;refine J.qr [1,2,3,4,5,6,7,8,9,10] λ_=>?_;refine⟨⟨A'.f,A'.p,A'.t,A'.l,A'.d,A.fp,a',c',a3,c3⟩,?_,?_,?_⟩
  ·rw[hst];rfl
  ·rw[hst,hY];exact⟨hz',hc'⟩
  ·rw[hst,hY];dsimp only;rw[j6];rfl
 ·refine⟨_,rfl,trivial,?_⟩;refine J.pq (.of [0,4,8,12,17,21,26,30,32,36,43]) [8,9,10] [1,13] λ_ _=>?_;refine J.ap 4 14 0 (a5C P.log wt) λa3 c3=>?_;refine J.qr [1,2,3,4,5] λ_=>?_;refine⟨⟨A'.f,A'.p,A'.t,A'.l,A'.d,A.fp,a',c',a3,c3⟩,?_,?_,?_⟩
  ·rw[hst];rfl
  ·rw[hst,hY];exact⟨hz',hc'⟩
  ·rw[hst,hY];dsimp only;rw[j6];rfl
theorem b2B (l:List Td):∀u∈U1 l,u.oneCell'=true:=by
 intro u hu;simp only[U1,M2]at hu;obtain⟨s,_,hu⟩:=hu;simp only[tdC,J0,V6,a5G]at hu;rcases hu with rfl | rfl | rfl | rfl | rfl | rfl | rfl | rfl | rfl | rfl | rfl | rfl | rfl | rfl | rfl | rfl | rfl<;>rfl
theorem b4z (a:Option Nat) (n cap:Nat) (l:List Td) (hl:l.length=n) (hn:n<=1000000):FP 115 [slv a n cap] [t7 61 17 a n cap (U1 l)]
  (λv As=>∃a' c',v=slv a' n c'/\As=[t7 61 17 a n cap (U1 l),t7 61 17 a' n c' (U1 l)]):=by
 refine FE [0] Tryz.func115 λX F hX=>?_;cases a with
 | none=>
  refine J.know (λh' s=>(s.get (i:=1) rfl).2) λhn0=>?_;obtain⟨rfl,rfl⟩:=hn0;have:l=[]:=p6 hl;subst this;refine J.qT λ_=>?_;refine J.turn1 [] rfl (As:=[t7 61 17 none 0 0 (U1 [])]) (λh s=>Sep.one ⟨rfl,rfl,rfl⟩) rfl ?_;refine J.qr [1,2] λ_=>?_;exact⟨none,0,rfl,rfl⟩
 | some g=>
  refine J.qF λ_=>?_;refine J.qn 5 λbb=>?_;refine J.closeOwn (e:=61) (size:=17) (n:=0) (cap:=0) (xs:=[]) 2 rfl rfl rfl (m9 _) (n7 _) rfl rfl rfl ?_;refine J.q λ_=>?_;refine J.appendR hX tk (a:=some (bb 0)) (n:=0) (cap:=0) (xs:=[]) (oo:=0) (Ay:=t7 61 17 (some g) n cap (U1 l)) 2 1 0 rfl rfl rfl rfl rfl rfl rfl rfl rfl rfl (Z5 _ _ (some g) _ _ _) rfl rfl rfl rfl (b2B l) ?_ ?_ (λ_=>rfl) λa' c'=>⟨_,rfl,trivial,?_⟩
  ·simp only[maxLen];omega
  ·omega
  rw[I3 n,R6];refine J.qr [1,2] λ_=>?_;exact⟨a',c',rfl,rfl⟩
theorem c0S (q n:Nat) (A:Pad) (P:Pv) (hl:P.log.length<=1000):FP 62 [pp q] [PlQ q n P.Z A.f (pp A.fp) (slv A.a2 P.log.length A.c2),t7 61 17 A.a2 P.log.length A.c2 (U1 P.log)]
  (λv As=>∃a' c',v=slv a' P.log.length c'/\As=[PlQ q n P.Z A.f (pp A.fp) (slv A.a2 P.log.length A.c2),t7 61 17 A.a2 P.log.length A.c2 (U1 P.log),t7 61 17 a' P.log.length c' (U1 P.log)]):=by
 refine FE [2] Tryz.func62 λX F hX=>?_;refine J.qF λ_=>?_;refine J.qc (b4z A.a2 P.log.length A.c2 P.log rfl (by omega)) [2] λ_=>?_;rintro v As ⟨a',c',rfl,rfl⟩;refine⟨_,rfl,trivial,?_⟩;refine J.qr [1,2,3] λ_=>?_;exact⟨a',c',rfl,rfl⟩
def b4q (d b p:Int):Int:=if J3 d b p then 12*d*b*p+40 else 0
theorem c1y (d b p:Int):FP 26 [.agg #[iI d,iI b,iI p]] [] (Ps (iI (b4q d b p)) []):=by
 refine FE [0] Tryz.func26 λX F hX=>?_;refine J.qp (a6J d b p) [] λ_=>?_;refine J.qd (λ_ h1=>?_) λ_ h1=>?_
 ·have hg:J3 d b p=false:=by simpa using h1
  refine J.qr [] λ_=>?_;exact⟨by unfold b4q;rw[hg];rfl,rfl⟩
 ·have hg:J3 d b p=true:=by simpa using h1
  have hbd:(3<=d/\d<=6)/\(8<=b/\b<=16)/\(2<=p/\p<=8):=by simp[J3]at hg;omega
  have m1:0<=12*d*b/\12*d*b<=1152:=by
   have h1:=a1E (show 0<=12*d by omega) (show 0<=b by omega);have h2:=a1F (show 12*d<=72 by omega) (show b<=16 by omega) (by omega) (by omega);omega
  have m2:0<=12*d*b*p/\12*d*b*p<=9216:=by
   have h1:=a1E m1.1 (show 0<=p by omega);have h2:=a1F m1.2 (show p<=8 by omega) (by omega) (by omega);omega
  refine J.qr [] λ_=>?_;exact⟨by unfold b4q;rw[hg];rfl,rfl⟩
def Fv.allG:Nat->Int->Fv->Fv×List (List UInt8)×Int
 | 0,_,Z=>(Z,[],0)
 | n+1,i,Z=>if(Z.read i).2.2≠0 then((Z.read i).1,[],(Z.read i).2.2)else((Fv.allG n (i+1) (Z.read i).1).1,(Z.read i).2.1::(Fv.allG n (i+1) (Z.read i).1).2.1,(Fv.allG n (i+1) (Z.read i).1).2.2)
theorem Fv.allG_succ (n:Nat) (i:Int) (Z:Fv):Fv.allG (n+1) i Z=if(Z.read i).2.2≠0 then((Z.read i).1,[],(Z.read i).2.2)else((Fv.allG n (i+1) (Z.read i).1).1,(Z.read i).2.1::(Fv.allG n (i+1) (Z.read i).1).2.1,(Fv.allG n (i+1) (Z.read i).1).2.2):=rfl
def Fv.all (Z:Fv):Fv×List (List UInt8)×Int:=if(Fv.allG Z.lg.toNat 0 Z).2.2≠0 then((Fv.allG Z.lg.toNat 0 Z).1,[],(Fv.allG Z.lg.toNat 0 Z).2.2)else Fv.allG Z.lg.toNat 0 Z
theorem b1c (l:List (List UInt8)) (d:List UInt8):Q1 l++I1 d=Q1 (l++[d]):=by unfold Q1;rw[J8];simp
theorem b8v (f p n t l d:Nat) (Z:Fv) (k m:Nat) (hO:Z.Ok k m):FP 61 [pp f] (FvP f p n t l d Z)
  (λv As=>∃a c,v= .tuple #[slv a Z.all.2.1.length c,iI Z.all.2.2]/\As=FvP f p n t l d Z.all.1++[t7 30 16 a Z.all.2.1.length c (Q1 Z.all.2.1)]):=by
 refine FE [2] Tryz.func61 λX F hX=>?_;refine J.q λb9=>?_;refine J.cF ?_;refine J.qp (O5 f n t l p d Z hO.dv.gd.ok) [1,3] λ_=>?_;have hlb:=Fv.lg_bd (F:=Z) hO.dv.gd.ok;obtain⟨N,hN⟩:=j8 (show 0<=Z.lg by omega);rw[hN];have hall:Z.all=if(Fv.allG N 0 Z).2.2≠0 then((Fv.allG N 0 Z).1,[],(Fv.allG N 0 Z).2.2)else Fv.allG N 0 Z:=by unfold Fv.all;rw[hN];rfl
 refine J.q λ_=>?_;refine J.turn1 [] rfl (As:=[t7 30 16 none 0 0 (Q1 [])]) (λh s=>Sep.one ⟨rfl,rfl,rfl⟩) rfl ?_;refine J.q λ_=>?_;refine J.l (α:=(Nat×Fv×List (List UInt8)×Option Nat×Nat)) (λz=>z.1<=N/\z.2.1.Ok k m/\z.2.2.1.length=z.1/\Fv.allG N 0 Z=((Fv.allG (N-z.1) z.1 z.2.1).1,z.2.2.1++(Fv.allG (N-z.1) z.1 z.2.1).2.1,(Fv.allG (N-z.1) z.1 z.2.1).2.2)) (λz=>[si 12 z.1,si 11 N,⟨0,pp f,2, .tt⟩,sv 4 (slv z.2.2.2.1 z.2.2.1.length z.2.2.2.2)]) [1,2,3,4,5,6,7] (λz=>(FvP f p n t l d z.2.1++[t7 30 16 z.2.2.2.1 z.2.2.1.length z.2.2.2.2 (Q1 z.2.2.1)])) (λz=>N-z.1) ((0,Z,[],none,0)) (⟨n7 _,hO,rfl,rfl⟩) λz hI=>?_;obtain⟨j,Y,acc,ga,ca⟩:=z;dsimp only at hI ⊢;obtain⟨hj,hY,hacc,hgo⟩:=hI;refine J.qd (λ_ h1=>?_) λ_ h1=>?_
 ·simp only[g7,j9]at h1;have hk:=Fv.read_keep hY j;rw[show N-j=(N-(j+1))+1 from by omega]at hgo;rw[Fv.allG_succ]at hgo;refine J.qp (a0h f p n t l d Y k m hY j) [1,2,3,4,5,6] λ_=>?_;generalize Y.read j=R at hgo hk ⊢;obtain⟨Y2,dd,er⟩:=R;dsimp only at hgo hk ⊢;refine J.qd (λ_ h2=>?_) λ_ h2=>?_
  ·have he:er≠0:=by simpa using h2
   rw[i9 he]at hgo;rw[hgo,i9 he]at hall;refine J.turn1 [] rfl (As:=[t7 30 16 none 0 0 (Q1 [])]) (λh s=>Sep.one ⟨rfl,rfl,rfl⟩) rfl ?_;refine J.qr [1,2,3,4,5,6,9] λ_=>?_;rw[hall];exact⟨none,0,rfl,rfl⟩
  ·have he:er=0:=by simpa using h2
   rw[i7 (λh=>h he)]at hgo;refine J.qn 5 λb9=>?_;refine J.ap 7 9 0 (b1c acc dd) λa3 c3=>?_;refine J.q λ_=>?_;rw[show acc.length+1=(acc++[dd]).length from by simp];refine J.q λ_=>?_;refine J.n ((j+1,Y2,acc++[dd],a3,c3)) (⟨by dsimp only;omega,hk.1,by dsimp only;rw[j6];exact congrArg (· +1) hacc,by dsimp only;rw[hgo,s8];rfl⟩) (by dsimp only;omega) [0,1,2,3,4,5,6,7]
 simp only[c9,j9]at h1;obtain rfl:j=N:=by omega
 rw[a0b,show Fv.allG 0 (j:Int) Y=(Y,[],0)from rfl,B4]at hgo;rw[hgo,i7 (by simp)]at hall;refine J.qr [1,2,3,4,5,6,7] λ_=>?_;rw[hall];exact⟨ga,ca,rfl,rfl⟩
def UN:Nat:=Fv.cW+1
theorem a8J:UN=Dv.costM+8*Dv.fuel+1:=rfl
theorem b8F:96<=UN:=by
 have:96<=8*Dv.fuel:=by decide
 rw[a8J];omega
theorem a2j:Fv.cW*200<=UN*200:=H5 _ (Nat.le_succ _)
theorem b5R:FI.costW*200<=UN*200:=H5 _ (Nat.le_succ _)
theorem b8G:Dv.costK<=UN*402:=by
 have h:Dv.costT*200<=UN*200:=H5 _ (Nat.le_succ _);have:=b8F;have h2:Dv.costM<=UN:=by rw[a8J];omega
 unfold Dv.costK;omega
theorem b3H:UN*200000<=1000000000000000:=by decide+kernel
theorem c0D {n:Nat} (h:n<=200000):UN*n<=1000000000000000:=E6 (s7 _ h) b3H
theorem Inv.slots_le {fd:Int} {S:Dv} {k m:Nat} (h:Inv fd S) (hO:S.Ok k m) (hr:0<S.rows):S.slots<=(S.N.dies:Int)-1:=by
 have hg:=hO.gd.ok.bd16;unfold Dv.slots;rcases h.rows_pos hO hr with hl | hp
 ·rw[i9 hl];have:=(h.opn hl).mask.pos hg.1;omega
 ·split
  ·rename_i hl;have:=(h.opn hl).mask.pos hg.1;omega
  ·rcases S.pick_spec with e | ⟨p1,p2,_,_⟩
   ·omega
   ·have:=(h.msk hO (Tl.has_iff.2 ⟨p1,p2⟩)).pos hg.1;omega
theorem a6k (l:List En) (e:En):1<=(a0j l e).length/\(a0j l e).length<=l.length+1:=by
 unfold a0j;rw[j6,V0];have:=I5 (λx:En=>!(x.lpn==e.lpn)) l;omega
theorem Fv.waits_len {F:Fv} {k m D:Nat} (hO:F.Ok (Fv.cW+k) m) {e:En} (h0:(F.waits e).2=0) (h1:1<=F.S.slots) (hs:F.S.slots<=(D:Int)-1) (hl:F.L.length+1<=D):1<=(F.waits e).1.L.length/\(F.waits e).1.L.length+1<=D:=by
 have hk:=Fv.writes_keep (F:=F.ask) hO.ask;have hl:F.ask.L.length+1<=D:=hl;have h1:1<=F.ask.S.slots:=h1;have hs:F.ask.S.slots<=(D:Int)-1:=hs;unfold Fv.waits at h0 ⊢
 by_cases ho:F.ask.off=true
 ·rw[i9 ho]at h0;cases h0
 rw[i7 ho]at h0 ⊢
 by_cases hr:e.lpn<0\/e.lpn>=F.ask.lg
 ·rw[i9 hr]at h0;cases h0
 rw[i7 hr]at h0 ⊢
 by_cases hw:(F.ask.L.length:Int)>=F.ask.S.slots
 ·rw[i9 hw]at h0 ⊢;dsimp only at h0 ⊢
  by_cases he:F.ask.writes.2≠0
  ·rw[i9 he]at h0;exact absurd h0 he
  ·rw[i7 he];have h3:=hk.2.2.2 (Decidable.of_not_not he) (by omega);have:=a6k F.ask.writes.1.L {e with seq:=F.ask.writes.1.nx};show 1<=(a0j _ _).length/\(a0j _ _).length+1<=D;omega
 ·rw[i7 hw];have:=a6k F.ask.L {e with seq:=F.ask.nx};show 1<=(a0j F.ask.L _).length/\(a0j F.ask.L _).length+1<=D;omega
structure Dev (D B P:Nat) (F:Fv) (n:Nat) (c:Nat->List UInt8):Prop where
 fc:∃W,FC W (lgN D B P) F/\∀i:Nat,i<lgN D B P->cur W F.L i=c i
 ok:F.Ok (UN*n) 0
 nx:F.S.next+8000*(n:Int)<=1099000000000
 br:F.S.N.broken=0
 geo:F.S.N.dies=D/\F.S.N.blocks=B/\F.S.N.pages=P
 wt:F.L.length+1<=D
 le:n<=200000
namespace Dev
variable {D B P n : Nat} {F : Fv} {c : Nat → List UInt8}
theorem lg (h:Dev D B P F n c):F.lg=(lgN D B P:Int):=by
 obtain⟨W,hW,_⟩:=h.fc;exact hW.fi.lgn
theorem less (h:Dev D B P F n c) {k:Nat} (hk:k<=n):Dev D B P F k c:=
 ⟨h.fc,h.ok.less (s7 _ hk),by have:=h.nx;omega,h.br,h.geo,h.wt,by have:=h.le;omega⟩
theorem congr (h:Dev D B P F n c) {c':Nat->List UInt8} (hc:∀i,i<lgN D B P->c i=c' i):Dev D B P F n c':=by
 obtain⟨W,hW,h2⟩:=h.fc;exact⟨⟨W,hW,λi hi=>(h2 i hi).trans (hc i hi)⟩,h.ok,h.nx,h.br,h.geo,h.wt,h.le⟩
theorem read (h:Dev D B P F n c) {i:Nat} (h1:i<lgN D B P):F.read i=(F,c i,0):=by
 obtain⟨W,hW,hc⟩:=h.fc;rw[hW.fi.read,i7 (by omega),hc i h1]
theorem like (h:Dev D B P F n c) {G:Fv} (hl:F.S.N.Like G.S.N):G.S.N.dies=D/\G.S.N.blocks=B/\G.S.N.pages=P:=
 ⟨hl.dies.trans h.geo.1,hl.blocks.trans h.geo.2.1,hl.pages.trans h.geo.2.2⟩
theorem slots (h:Dev D B P F n c):1<=F.S.slots/\F.S.slots<=(D:Int)-1:=by
 obtain⟨W,hW,_⟩:=h.fc;have hg:=h.ok.dv.gd.ok.bd16;have:=hW.fi.inv.slots_le h.ok.dv (by have:=hW.rows;omega);rw[h.geo.1]at this;exact⟨hW.slots h.ok.dv,this⟩
theorem put (h:Dev D B P F (n+1) c) {e:En} {u:Nat} (hu:e.lpn=(u:Int)) (he:FitR e/\e.role≠4/\e.lpn<(lgN D B P:Int)) (hk:(F.waits e).1.Ok (UN*n) 0):
  (F.waits e).2=0/\Dev D B P (F.waits e).1 n (λj=>if j=u then e.data else c j)/\1<=(F.waits e).1.L.length:=by
 obtain⟨W,hW,hc⟩:=h.fc;have hU:UN*(n+1)=UN*n+UN:=C2 _ _;have hU2:=a8J;have hnx:=h.nx;obtain⟨F',W',r1,r2,r3,_,r5,r6,r7⟩:=hW.waits (k:=UN*n) (h.ok.dv.less (by omega)) (by omega) he;have hs:=h.slots;have hlen:=Fv.waits_len (k:=UN*n) (D:=D) (e:=e) (h.ok.less (by unfold Fv.cW;omega)) (by rw[r1]) hs.1 hs.2 h.wt;rw[r1]at hk hlen ⊢;exact⟨rfl,⟨⟨W',r2,λi hi=>by
  rw[r3,hu,hc i hi]
  by_cases e:i=u
  ·rw[i9 e,i9 (by omega)]
  ·rw[i7 e,i7 (by omega)]⟩,hk,by dsimp only;omega,r6.trans h.br,h.like r7,hlen.2,by have:=h.le;omega⟩,hlen.1⟩
theorem write (h:Dev D B P F (n+1) c) {i:Nat} (h1:i<lgN D B P) {d:List UInt8} (hd:d.length=16):
  (F.write i d).2=0/\Dev D B P (F.write i d).1 n (λj=>if j=i then d else c j)/\1<=(F.write i d).1.L.length:=by
 have h200:=(Fv.lg_bd (F:=F) h.ok.dv.gd.ok).2;rw[h.lg]at h200;have hU:UN*(n+1)=UN*n+UN:=C2 _ _;exact h.put (e:=⟨(i:Int),0,1,d⟩) (u:=i) rfl ⟨⟨⟨a0N i,by show(i:Int)<=65535;omega⟩, .inl rfl,hd⟩,by show(1:Int)≠4;decide,by show(i:Int)<_;omega⟩ (Fv.write_keep (k:=UN*n) (h.ok.less (by unfold UN at hU ⊢;omega)) i hd).1
theorem trim (h:Dev D B P F (n+1) c) {i:Nat} (h1:i<lgN D B P):
  (F.trim i).2=0/\Dev D B P (F.trim i).1 n (λj=>if j=i then zeros16 else c j)/\1<=(F.trim i).1.L.length:=by
 have h200:=(Fv.lg_bd (F:=F) h.ok.dv.gd.ok).2;rw[h.lg]at h200;have hU:UN*(n+1)=UN*n+UN:=C2 _ _;exact h.put (e:=⟨(i:Int),0,2,zeros16⟩) (u:=i) rfl ⟨⟨⟨a0N i,by show(i:Int)<=65535;omega⟩, .inr ⟨.inl rfl,rfl⟩,rfl⟩,by show(2:Int)≠4;decide,by show(i:Int)<_;omega⟩ (Fv.trim_keep (k:=UN*n) (h.ok.less (by unfold UN at hU ⊢;omega)) i).1
theorem flush (h:Dev D B P F (n+200) c):F.flush.2=0/\Dev D B P F.flush.1 n c/\F.flush.1.L=[]:=by
 obtain⟨W,hW,hc⟩:=h.fc;have hU:UN*(n+200)=UN*n+UN*200:=a2H _ _ _;have hf:=a2j;have hf2:=b5R;have hnx:=h.nx;have hk:=(Fv.flush_keep (k:=UN*n) (m:=0) (h.ok.less (by omega))).1;obtain⟨F',W',r1,r2,_,r4,r5,r6,r7,r8⟩:=hW.flush (k:=UN*n) (h.ok.dv.less (by omega)) (by omega);have hg:=h.ok.dv.gd.ok.bd16;rw[h.geo.1]at hg;rw[r1]at hk ⊢;exact⟨rfl,⟨⟨W',r2,λi hi=>by rw[r8,hc i hi]⟩,hk,by dsimp only;omega,r5.trans h.br,h.like r6,by dsimp only;rw[r7];simp only[a0V];omega,by have:=h.le;omega⟩,r7⟩
theorem new (hD:3<=D/\D<=6) (hB:8<=B/\B<=16) (hP:2<=P/\P<=8) (hlg:lgN D B P<=200) (hcap:2*lgN D B P<=(B-5)*(P*(D-2))+1) (hgm:J3 D B P=true):Dev D B P (Fv.of (Dv.new D B P (lgN D B P))) 200000 (λ_=>zeros16):=
 ⟨⟨[],FC.new hD hB hP hlg hcap,λ_ _=>rfl⟩,Fv.of_ok (Dv.Ok.new D B P _ hgm _ b3H) b3H,by show(1:Int)+8000*((200000:Nat):Int)<=_;omega,rfl,⟨rfl,rfl,rfl⟩,by show 0+1<=D;omega,m9 _⟩
end Dev
theorem Fv.all_of {F:Fv} {lg:Nat} {c:Nat->List UInt8} (hlg:F.lg=(lg:Int)) (hr:∀i:Nat,i<lg->F.read i=(F,c i,0)):F.all=(F,(List.range lg).map c,0):=by
 have:∀k i:Nat,i+k<=lg->Fv.allG k i F=(F,(List.range k).map (λj:Nat=>c (i+j)),0):=by
  intro k
  induction k with
  | zero=>intro i _;rfl
  | succ k ih=>
   intro i hi;rw[Fv.allG_succ,hr i (by omega)];dsimp only;rw[i7 (by decide),show(i:Int)+1=((i+1:Nat):Int)from by omega,ih (i+1) (by omega),List.range_succ_eq_map,s9,List.map_map];dsimp only;refine congrArg (λx=>(F,x,(0:Int))) ?_;rw[P8];refine congrArg _ (a0s λj _=>?_);show c (i+1+j)=c (i+(j+1));rw[show i+1+j=i+(j+1)from by omega]
 unfold Fv.all;rw[hlg,l9];have h0:=this lg 0 (by omega);rw[show((0:Nat):Int)=0 from rfl]at h0;rw[h0,i7 (by simp)];refine congrArg (λx=>(F,x,(0:Int))) (a0s λj _=>?_);rw[I3]
def Fv.ticksG:Nat->Int->Fv->Fv×Int
 | 0,i,Z=>(Z.whole.1,if Z.whole.2 then i else-1)
 | f+1,i,Z=>if Z.whole.2 then(Z.whole.1,i)else if Z.whole.1.tick.2≠0 then(Z.whole.1.tick.1,-1)else Fv.ticksG f (i+1) Z.whole.1.tick.1
theorem Fv.ticksG_succ (f:Nat) (i:Int) (Z:Fv):Fv.ticksG (f+1) i Z=if Z.whole.2 then(Z.whole.1,i)else if Z.whole.1.tick.2≠0 then(Z.whole.1.tick.1,-1)else Fv.ticksG f (i+1) Z.whole.1.tick.1:=rfl
def a5i (most:Int):Nat:=(min (max most 0) 10000).toNat
def Fv.ticks (Z:Fv) (most:Int):Fv×Int:=Fv.ticksG (a5i most) 0 Z
theorem b2G (f p n t l d:Nat) (Z:Fv) (k m:Nat) (most:Int) (hO:Z.Ok (Dv.costS*a5i most+k) m) (hm:m<=1000):FP 65 [pp f,iI most] (FvP f p n t l d Z)
  (Ps (iI (Z.ticks most).2) (FvP f p n t l d (Z.ticks most).1)):=by
 obtain⟨M,hM⟩:∃M,a5i most=M:=⟨_,rfl⟩;have hMM:min (max most 0) 10000=(M:Int):=by rw[<- hM];unfold a5i;omega
 have hM1:M<=10000:=by omega
 rw[show Z.ticks most=Fv.ticksG M 0 Z from by unfold Fv.ticks;rw[hM]];rw[hM]at hO;refine FE [2,0] Tryz.func65 λX F hX=>?_;refine J.qn 9 λ_=>?_;have e:(if(10000:Int)<if(0:Int)>most then 0 else most then 10000 else if(0:Int)>most then 0 else most)=(M:Int):=by
  rw[<- hMM];split<;>split<;>omega
 rw[e];refine J.q λ_=>?_;refine J.l (α:=(Nat×Fv)) (λz=>(z.1<=M/\z.2.Ok (Dv.costS*(M-z.1)+k) m/\Fv.ticksG M 0 Z=Fv.ticksG (M-z.1) z.1 z.2)\/(z.1=M+1/\Fv.ticksG M 0 Z=(z.2,-1))) (λz=>[si 11 z.1,⟨10,iI ((M:Int)+1),0, .tt⟩,⟨0,pp f,2, .tt⟩,si 1 M]) [1,2,3,4,5,6] (λz=>FvP f p n t l d z.2) (λz=>M+1-z.1) ((0,Z)) (.inl ⟨n7 _,hO,rfl⟩) λz hI=>?_;obtain⟨j,Y⟩:=z;dsimp only at hI ⊢;refine J.qd (λ_ h1=>?_) λ_ h1=>?_
 ·simp only[g7]at h1;obtain⟨hj,hY,hgo⟩:j<=M/\Y.Ok (Dv.costS*(M-j)+k) m/\Fv.ticksG M 0 Z=Fv.ticksG (M-j) j Y:=by
   rcases hI with h | h
   ·exact h
   ·omega
  have hw:=Fv.whole_keep hY;refine J.qp (a5u f p n t l d Y _ m hY) [1,2,3,4,5,6] λ_=>?_;obtain⟨W,hW⟩:∃W,Y.whole=W:=⟨_,rfl⟩;rw[hW]at hw ⊢;obtain⟨Y1,wb⟩:=W;dsimp only at hw ⊢;refine J.qd (λ_ h2=>?_) λ_ h2=>?_
  ·have hr:Fv.ticksG (M-j) j Y=(Y1,(j:Int)):=by
    cases hc:M-j with
    | zero=>show(Y.whole.1,if Y.whole.2 then(j:Int)else-1)=_;rw[hW,i9 h2]
    | succ c=>rw[Fv.ticksG_succ,hW,i9 h2]
   refine J.qr [1,2,3,4,5,6] λ_=>?_;rw[hgo,hr];exact⟨rfl,rfl⟩
  refine J.qn 6 λ_=>?_;rcases R5 j M with hjM | hjM
  ·rw[show decide ((j:Int)<(M:Int))=true from l8 (by omega)];obtain⟨c,hc⟩:∃c,M-j=c+1:=⟨M-j-1,by omega⟩;have hO1:Y1.Ok (Dv.costS+(Dv.costS*c+k)) m:=hw.1.less (by rw[hc,C2];omega);have htk:=Fv.tick_keep hO1;refine J.qp (b0R f p n t l d Y1 _ m hO1 hm) [1,2,3,4,5,6] λ_=>?_;have hr:Fv.ticksG (M-j) j Y=if Y1.tick.2≠0 then(Y1.tick.1,-1)else Fv.ticksG c (j+1) Y1.tick.1:=by
    rw[hc,Fv.ticksG_succ,hW,i7 (by rw[h2];exact n8)]
   obtain⟨W,hW2⟩:∃W,Y1.tick=W:=⟨_,rfl⟩;rw[hW2]at htk hr ⊢;obtain⟨Y2,er⟩:=W;dsimp only at htk hr ⊢;refine J.qd (λ_ h3=>?_) λ_ h3=>?_
   ·have he:er≠0:=by simpa using h3
    rw[i9 he]at hr;refine J.qr [1,2,3,4,5,6] λ_=>?_;rw[hgo,hr];exact⟨rfl,rfl⟩
   ·have he:er=0:=by simpa using h3
    rw[i7 (λh=>h he)]at hr;refine J.q λ_=>?_;refine J.n ((j+1,Y2)) (.inl ⟨by dsimp only;omega,by dsimp only;rw[show M-(j+1)=c from by omega];exact htk.1,by dsimp only;rw[show M-(j+1)=c from by omega,hgo,hr];rfl⟩) (by dsimp only;omega) [0,1,2,3,4,5,6]
  ·obtain rfl:j=M:=by omega
   rw[show decide ((j:Int)<(j:Int))=false from y8 (by omega)];refine J.q λ_=>?_;refine J.v (iI 0) rfl rfl (λhg a w he hw=>by simp[G.on]at hg) ?_;refine J.qF λ_=>?_;refine J.q λ_=>?_;refine J.n ((j+1,Y1)) (.inr ⟨rfl,by rw[hgo,a0b];show(Y.whole.1,if Y.whole.2 then(j:Int)else-1)=_;rw[hW,i7 (by rw[h2];exact n8)]⟩) (by dsimp only;omega) [0,1,2,3,4,5,6]
 simp only[c9]at h1;obtain⟨rfl,hgo⟩:j=M+1/\Fv.ticksG M 0 Z=(Y,-1):=by
  rcases hI with h | h
  ·omega
  ·exact h
 refine J.qr [1,2,3,4,5,6] λ_=>?_;rw[hgo];exact⟨rfl,rfl⟩
end Go.Proofs.YtpakpgkdpofbhaaGreat
