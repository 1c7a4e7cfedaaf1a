/- Helpers. No condition. -/
import Derived.Test.YtpakpgkdpofbhaaGreatC00
import Derived.Test.YtpakpgkdpofbhaaGreatC04
import Derived.Test.YtpakpgkdpofbhaaGreatC06
import Derived.Test.YtpakpgkdpofbhaaGreatC11
import Derived.Test.YtpakpgkdpofbhaaGreatC12
import Derived.Test.YtpakpgkdpofbhaaGreatC13
set_option maxRecDepth 20000
set_option linter.all false
namespace Go.Proofs.YtpakpgkdpofbhaaGreat
open Go Go.RowKit
theorem a9G (b m:Int):∀(q:List Nat) (x:Nand×Tl×Int),x.2.2≠0->q.foldl (Dv.eraseD b m) x=x
 | [],x,_=>rfl
 | d::q,x,h=>by
  have:Dv.eraseD b m x d=x:=by unfold Dv.eraseD;rw[d8 h]
  rw[C0,this];exact a9G b m q x h
theorem b1t (f:Nand×Tl×Int->Nat->Nand×Tl×Int) (x:Nand×Tl×Int) {j n:Nat} (h:j<=n):(List.range n).foldl f x=((List.range n).drop j).foldl f ((List.range j).foldl f x):=by
 conv=>lhs;rw[<- C1 j (List.range n)]
 rw[z8];congr 2;rw[List.take_range,J5 h]
theorem b6S (n t:Nat) (N:Nand) (tl:Tl) (k mm:Nat) (hG:N.Gd (6+k) mm) (hmm:mm<=1000) (hF:tl.Fit N) (b:Int):FP 157 [pp n,pp t,iI b] [x6 n N,TlA t tl]
  (Ps (iI (Dv.erase N tl b).2.2) [x6 n (Dv.erase N tl b).1,TlA t (Dv.erase N tl b).2.1]):=by
 have hbd:=hG.ok.bd16;have hb0:=hF.b;refine FE [2,3,0] Tryz.func157 λX F hX=>?_;refine J.qp (a2e t tl (by omega) hF.len b) [2] λ_=>?_;refine J.qp (a0H n N) [1] λ_=>?_;obtain⟨m,hm⟩:∃m,m=tl.mask b:=⟨_,rfl⟩;rw[<- hm];refine J.q λ_=>?_;refine J.l (α:=(Nat×Nand×Tl)) (λz=>z.1<=N.dies/\(List.range z.1).foldl (Dv.eraseD b m) (N,tl,0)=(z.2.1,z.2.2,0)/\z.2.1.Gd (6-z.1+k) mm/\z.2.2.Fit z.2.1/\N.Like z.2.1) (λz=>[si 16 z.1,si 15 N.dies,si 7 m,⟨0,pp n,2, .tt⟩,⟨1,pp t,3, .tt⟩,si 2 b]) [1,2] (λz=>[x6 n z.2.1,TlA t z.2.2]) (λz=>N.dies-z.1) ((0,N,tl)) (⟨j4 _,rfl,hG,hF,Nand.Like.refl _⟩) λz hI=>?_;obtain⟨d,P,T⟩:=z;dsimp only at hI ⊢;obtain⟨hd,hfo,hP,hT,hlk⟩:=hI;have hTb:T.b<=1000:=by have:=hT.b;have:=hlk.blocks;omega
 refine J.qd (λ_ h1=>?_) λ_ h1=>?_
 ·simp only[c9,g6]at h1;have hsucc:(List.range (d+1)).foldl (Dv.eraseD b m) (N,tl,0)=Dv.eraseD b m (P,T,0) d:=by rw[t6,z8,hfo];rfl
  have hP1:P.Gd (1+(6-(d+1)+k)) mm:=hP.less (by omega) (j7 _);have hk:=Dv.eraseD_keep (k:=6-(d+1)+k) (m:=mm) b m (P,T,0) d hP1 hT;refine J.qp (a9u m d) [] λ_=>?_;refine J.qd (λ_ h2=>?_) λ_ h2=>?_
  ·simp only[i7]at h2;have hz:Dv.eraseD b m (P,T,0) d=(P,T,0):=by unfold Dv.eraseD;rw[d7 (by simp),d8 h2]
   refine J.q λ_=>?_;refine J.n ((d+1,P,T)) (⟨by dsimp only;omega,hsucc.trans hz,hP.less (by dsimp only;omega) (j7 _),hT,hlk⟩) (by dsimp only;omega) [0,1,2]
  simp only[p9]at h2;have hz:Dv.eraseD b m (P,T,0) d=(P.eraseN d b,if P.eraseE d b=0 then T else if P.eraseE d b=9 then T else if P.eraseE d b=8 then T.die d else T.bad d b,if P.eraseE d b=9 then 9 else 0):=by
   unfold Dv.eraseD;rw[d7 (by simp),d7 (by rw[h2];decide)]
  rw[hz]at hsucc hk;refine J.qp (b4i n P hP.ok hP1.room hP.nodup (by have:=hP.few;omega) d b) [1] λ_=>?_;generalize P.eraseE d b=e at hsucc hk;refine J.qd (λ_ h3=>?_) λ_ h3=>?_
  ·simp only[m5]at h3;rw[d8 h3,d7 (by omega)]at hsucc;rw[d8 h3]at hk;refine J.q λ_=>?_;refine J.n ((d+1,P.eraseN d b,T)) (⟨by dsimp only;omega,hsucc,hk.1,hT.like hk.2.2,hlk.trans hk.2.2⟩) (by dsimp only;omega) [0,1,2]
  simp only[j9,D4]at h3;rw[d7 h3]at hsucc hk;refine J.qd (λ_ h4=>?_) λ_ h4=>?_
  ·simp only[m5]at h4;rw[d8 h4,d8 h4]at hsucc;have hall:Dv.eraseB N tl b=(P.eraseN d b,T,9):=by
    unfold Dv.eraseB;rw[<- hm,b1t _ _ (show d+1<=N.dies by omega),hsucc];exact a9G b m _ _ (by simp)
   refine J.qr [1,2] λ_=>?_;unfold Dv.erase;rw[hall];exact⟨rfl,rfl⟩
  simp only[j9,D4]at h4;rw[d7 h4,d7 h4]at hsucc;rw[d7 h4]at hk;refine J.qd (λ_ h5=>?_) λ_ h5=>?_
  ·simp only[m5]at h5;rw[d8 h5]at hsucc hk;refine J.qp (a4W t T d) [2] λ_=>?_;refine J.q λ_=>?_;refine J.n ((d+1,P.eraseN d b,T.die d)) (⟨by dsimp only;omega,hsucc,hk.1,(hT.die d).like hk.2.2,hlk.trans hk.2.2⟩) (by dsimp only;omega) [0,1,2]
  simp only[j9,D4]at h5;rw[d7 h5]at hsucc hk;refine J.qp (b2J t T hTb hT.len d b) [2] λ_=>?_;refine J.q λ_=>?_;refine J.n ((d+1,P.eraseN d b,T.bad d b)) (⟨by dsimp only;omega,hsucc,hk.1,(hT.bad d b).like hk.2.2,hlk.trans hk.2.2⟩) (by dsimp only;omega) [0,1,2]
 simp only[c8,g6]at h1;obtain rfl:d=N.dies:=by omega
 have hall:Dv.eraseB N tl b=(P,T,0):=by unfold Dv.eraseB;rw[<- hm];exact hfo
 have hres:Dv.erase N tl b=(P,Dv.eraseT P T b,0):=by unfold Dv.erase;rw[hall];rfl
 refine J.qp (a0H n P) [1] λ_=>?_;refine J.q λ_=>?_;refine J.l (α:=(Nat×Tl)) (λz=>z.1<=P.dies/\(List.range z.1).foldl (λt (d:Nat)=>t.wore b (P.wornAt d b)) T=z.2/\z.2.Fit P) (λz=>[si 44 z.1,si 43 P.dies,⟨0,pp n,2, .tt⟩,⟨1,pp t,3, .tt⟩,si 2 b]) [2] (λz=>[TlA t z.2]) (λz=>P.dies-z.1) ((0,T)) (⟨j4 _,rfl,hT⟩) λz hI=>?_;clear hfo hT hTb hall;obtain⟨d,U⟩:=z;dsimp only at hI ⊢;obtain⟨hd2,hfo,hU⟩:=hI;have hUb:U.b<=1000:=by have:=hU.b;have:=hlk.blocks;omega
 have hPd:P.dies<=6:=by have:=hlk.dies;omega
 refine J.qd (λ_ h1=>?_) λ_ h1=>?_
 ·simp only[c9,g6]at h1;refine J.qp (b3d n P hP.ok d b) [1] λ_=>?_;refine J.qp (a9Y t U hUb hU.len b (P.wornAt d b)) [2] λ_=>?_;refine J.q λ_=>?_;refine J.n ((d+1,U.wore b (P.wornAt d b))) (⟨by dsimp only;omega,by dsimp only;rw[t6,z8,hfo];rfl,hU.wore _ _⟩) (by dsimp only;omega) [0,1,2]
 simp only[c8,g6]at h1;obtain rfl:d=P.dies:=by omega
 have hU2:U=Dv.wores P T b:=hfo.symm;refine J.qp (a4c t U hUb hU.len b) [2] λ_=>?_;refine J.qd (λ_ h2=>?_) λ_ h2=>?_
 ·refine J.qp (a7l t U hUb hU.len b true) [2] λ_=>?_;refine J.qr [1,2] λ_=>?_;rw[hres];unfold Dv.eraseT;rw[<- hU2,d8 h2];exact⟨rfl,rfl⟩
 ·refine J.qr [1,2] λ_=>?_;rw[hres];unfold Dv.eraseT;rw[<- hU2,d7 (by rw[h2];decide)];exact⟨rfl,rfl⟩
theorem a5a (n t l:Nat) (N:Nand) (tl:Tl) (T:Tb) (k mm:Nat) (hG:N.Gd (96+k) mm) (hmm:mm<=1000) (hF:tl.Fit N) (o:Int):FP 92 [pp n,pp t,pp l,iI o] [x6 n N,TlA t tl,TbA l T]
  (Ps (iI (Dv.clearX N tl T o).2.2) [x6 n (Dv.clearX N tl T o).1,TlA t (Dv.clearX N tl T o).2.1,TbA l T]):=by
 have hbd:=hG.ok.bd16;have hb0:=hF.b;have hlen:=a0g (V5 tl T) o tl.b;refine FE [2,3,4,0] Tryz.func92 λX F hX=>?_;refine J.qF λ_=>?_;refine J.qc (b4a t tl (by omega) hF.len l T o) [2,3] λ_=>?_;rintro v As ⟨a,c,rfl,rfl⟩;refine⟨_,rfl,trivial,?_⟩;obtain⟨L,hL⟩:∃L,L=C8 (V5 tl T) o tl.b:=⟨_,rfl⟩;have hX2:Dv.clearX N tl T o=Dv.clearGo L N tl:=by unfold Dv.clearX;rw[hL]
 rw[<- hL]at hlen ⊢;refine J.q λ_=>?_;refine J.l (α:=(Nat×Nand×Tl)) (λz=>z.1<=L.length/\Dv.clearGo (L.drop z.1) z.2.1 z.2.2=Dv.clearX N tl T o/\z.2.1.Gd (6*(L.length-z.1)+k) mm/\z.2.2.Fit z.2.1/\N.Like z.2.1) (λz=>[si 27 z.1,si 26 L.length,sv 25 (slv a L.length c),⟨0,pp n,2, .tt⟩,⟨1,pp t,3, .tt⟩]) [1,2] (λz=>[x6 n z.2.1,TlA t z.2.2]) (λz=>L.length-z.1) ((0,N,tl)) (⟨j4 _,by rw[hX2];rfl,hG.less (by dsimp only;omega) (j7 _),hF,Nand.Like.refl _⟩) λz hI=>?_;obtain⟨i,P,U⟩:=z;dsimp only at hI ⊢;obtain⟨hi,hgo,hP,hU,hlk⟩:=hI;refine J.qd (λ_ h1=>?_) λ_ h1=>?_
 ·simp only[c9,g6]at h1;obtain⟨x,hx⟩:∃x,L[i]? =some x:=⟨_,d5 h1⟩;have hdr:L.drop i=x::L.drop (i+1):=by
   obtain⟨h2,h3⟩:=List.getElem?_eq_some_iff.1 hx;rw[v8 h2,h3]
  rw[hdr,Dv.clearGo]at hgo;have hP1:P.Gd (6+(6*(L.length-(i+1))+k)) mm:=hP.less (by omega) (j7 _);have hk:=Dv.erase_keep hP1 hU x;refine J.know (λh' s=>u7 (c:=(a,c)) (by omega) (s.get (i:=4) rfl)) λhg=>?_;obtain⟨g,rfl⟩:=hg;refine J.q λ_=>?_;refine J.v (iI x) rfl rfl (λhg aa w he hw=>z7 tk rfl rfl he rfl rfl rfl (hw.get (i:=4) rfl) (by rw[show 0+(i:Int).toNat*1=i from by omega,n7,j6,hx];rfl)) ?_;refine J.qp (b6S n t P U _ mm hP1 hmm hU x) [1,2] λ_=>?_;generalize Dv.erase P U x=W at hgo hk ⊢;obtain⟨P',U',er⟩:=W;dsimp only at hgo hk ⊢;refine J.qd (λ_ h2=>?_) λ_ h2=>?_
  ·simp only[C2,D4]at h2;rw[d8 h2]at hgo;refine J.qr [1,2,3] λ_=>?_;rw[<- hgo];exact⟨rfl,rfl⟩
  ·simp only[p6]at h2;rw[d7 (by rw[h2];decide)]at hgo;refine J.q λ_=>?_;refine J.n ((i+1,P',U')) (⟨by dsimp only;omega,hgo,hk.1,hk.2.1.like hk.2.2,hlk.trans hk.2.2⟩) (by dsimp only;omega) [0,1,2,3,4]
 ·simp only[c8,g6]at h1;rw[D5 (by omega),Dv.clearGo]at hgo;refine J.qr [1,2,3] λ_=>?_;rw[<- hgo];exact⟨rfl,rfl⟩
theorem a4Z (n t l p:Nat) (S:Dv) (k mm:Nat) (hO:S.Ok (Dv.costM+k) mm) (hmm:mm<=1000):FP 94 [pp n,pp t,pp l,pp p] (DvP p n t l S)
  (Ps (iI S.room.2) (DvP p n t l S.room.1)):=by
 have hbd:=hO.gd.ok.bd16;have htb:=hO.t.b;have hC:=Dv.clear_keep (S:=S) (k:=Dv.costR*16+k) (m:=mm) (hO.less (by unfold Dv.costM;omega));refine FE [3,4,5,2] Tryz.func94 λX F hX=>?_;refine J.qF λ_=>?_;refine J.qp (a2X p n t l S) [1] λ_=>?_;refine J.q λ_=>?_;refine J.ca hX (by kernel_rfl) (a5a n t l S.N S.t S.T (Dv.costR*16+k) mm (hO.gd.less (by unfold Dv.costM;omega) (j7 _)) hmm hO.t S.op) [2,3,4] 0 rfl rfl rfl rfl rfl rfl (λ_=>rfl) ?_;refine cpq ⟨_,rfl,trivial,?_⟩;have hroom:S.room=if S.clear.2≠0 then S.clear else Dv.roomGo S.t.b S.clear.1:=rfl
 refine J.qd (λ_ h1=>?_) λ_ h1=>?_
 ·simp only[C2,D4]at h1;have h1:S.clear.2≠0:=h1;rw[d8 h1]at hroom;refine J.qr [1,2,3,4] λ_=>?_;rw[hroom];exact⟨rfl,rfl⟩
 simp only[p6]at h1;have h1:S.clear.2=0:=h1;rw[d7 (by rw[h1];decide)]at hroom;have hB:S.clear.1.t.b=S.t.b:=by have:=hC.1.t.b;have:=hC.2.1.blocks;omega
 refine J.qp (a7k t S.clear.1.t) [3] λ_=>?_;rw[hB];refine J.q λ_=>?_;refine J.l (α:=(Nat×Dv)) (λz=>z.1<=S.t.b/\Dv.roomGo (S.t.b-z.1) z.2=S.room/\z.2.Ok (Dv.costR*(S.t.b-z.1)+k) mm) (λz=>[si 40 z.1,si 39 S.t.b,⟨0,pp n,3, .tt⟩,⟨1,pp t,4, .tt⟩,⟨2,pp l,5, .tt⟩,⟨3,pp p,2, .tt⟩]) [1,2,3,4] (λz=>DvP p n t l z.2) (λz=>S.t.b-z.1) ((0,S.clear.1)) (⟨j4 _,hroom.symm,hC.1.less (by dsimp only;have:Dv.costR*(S.t.b-0)<=Dv.costR*16:=O8 _ (by omega);omega)⟩) λz hI=>?_;obtain⟨i,Q⟩:=z;dsimp only at hI ⊢;obtain⟨hi,hgo,hQ⟩:=hI;have hQb:=hQ.gd.ok.bd16;have hQt:=hQ.t.b;have hQp:=hQ.t.p;have hlb:=hQ.t.len;refine J.qd (λ_ h2=>?_) λ_ h2=>?_
 ·simp only[c9,g6]at h2;obtain⟨j,hj⟩:∃j,S.t.b-i=j+1:=⟨S.t.b-i-1,by omega⟩;have hj1:S.t.b-(i+1)=j:=by omega
  rw[hj,Dv.roomGo]at hgo;rw[hj]at hQ;refine J.qp (a2X p n t l Q) [1] λ_=>?_;refine J.qp (b7A t Q.t (by omega) hlb l Q.T Q.op) [3,4] λ_=>?_;refine J.qd (λ_ h3=>?_) λ_ h3=>?_
  ·simp only[c9]at h3;have h3:(Q.free:Int)>4:=h3;rw[d8 h3]at hgo;refine J.qr [1,2,3,4] λ_=>?_;rw[<- hgo];exact⟨rfl,rfl⟩
  simp only[c8]at h3;have h3:¬(Q.free:Int)>4:=h3;rw[d7 h3]at hgo;refine J.qp (a2X p n t l Q) [1] λ_=>?_;refine J.qp (b1D t Q.t (by omega) hlb l Q.T Q.op) [3,4] λ_=>?_;rw[show a0c (λx y=>orI [T8 (Q.T.count x) (Q.T.count y),T8 (Q.t.wear x) (Q.t.wear y)]) (C8 (a2z Q.t Q.T) Q.op Q.t.b)=Q.victim from rfl];obtain⟨vv,hvv⟩:∃v,v=Q.victim:=⟨_,rfl⟩;rw[<- hvv]at hgo ⊢;refine J.qn 7 λ_=>?_;cases h4:decide (vv<0)with
  | true=>
   have h4':vv<0:=by simpa using h4
   rw[d8 (.inl h4')]at hgo;refine J.q λ_=>?_;refine J.v (iI 0) rfl rfl (λhg a w he hs=>absurd hg (by simp[G.on])) ?_;refine J.q λ_=>?_;refine J.v (.agg #[iI 0,iI 0,iI 0]) rfl rfl (λhg a w he hs=>absurd hg (by simp[G.on])) ?_;refine J.q λ_=>?_;refine J.v (iI 0) rfl rfl (λhg a w he hs=>absurd hg (by simp[G.on])) ?_;refine J.q λ_=>?_;refine J.v (iI 0) rfl rfl (λhg a w he hs=>absurd hg (by simp[G.on])) ?_;refine J.qT λ_=>?_;refine J.qr [1,2,3,4] λ_=>?_;rw[<- hgo];exact⟨rfl,rfl⟩
  | false=>
   have h4':¬vv<0:=by simpa using h4
   have hsb:=Dv.slots_le (Q.t.mask vv);have hmul:0<=(Q.t.p:Int)*G.slots (Q.t.mask vv)/\(Q.t.p:Int)*G.slots (Q.t.mask vv)<=8*7:=⟨R7 (by omega) hsb.1,Q1 (by omega) hsb.2 hsb.1 (by omega)⟩;refine J.qp (X5 l Q.T vv) [4] λ_=>?_;refine J.qp (a7k t Q.t) [3] λ_=>?_;refine J.qp (a2e t Q.t (by omega) hlb vv) [3] λ_=>?_;refine J.qp (a0Y (Q.t.mask vv)) [] λ_=>?_;refine J.qd (λ_ h5=>?_) λ_ h5=>?_
   ·have h5':Q.T.count vv>=Q.t.p*G.slots (Q.t.mask vv):=by simpa using h5
    rw[d8 (.inr h5')]at hgo;refine J.qr [1,2,3,4] λ_=>?_;rw[<- hgo];exact⟨rfl,rfl⟩
   have h5':¬Q.T.count vv>=Q.t.p*G.slots (Q.t.mask vv):=by simpa using h5
   rw[d7 (by rintro(e | e)<;>contradiction)]at hgo;dsimp only at hgo;have hQ1:Q.Ok (Dv.costC+(96+(Dv.costR*j+k))) mm:=hQ.less (by unfold Dv.costR;rw[W2];omega);have hc:=Dv.carry_keep hQ1 vv (Q.T.count vv);refine J.qp (X5 l Q.T vv) [4] λ_=>?_;refine J.qp (a7p n t l p Q _ mm hQ1 vv (Q.T.count vv)) [1,2,3,4] λ_=>?_;generalize Q.carry vv (Q.T.count vv)=W at hgo hc ⊢;obtain⟨P,cn,er⟩:=W;dsimp only at hgo hc ⊢;refine J.qd (λ_ h6=>?_) λ_ h6=>?_
   ·simp only[C2,D4]at h6;rw[d8 h6]at hgo;refine J.qr [1,2,3,4] λ_=>?_;rw[<- hgo];exact⟨rfl,rfl⟩
   simp only[p6]at h6;rw[d7 (by rw[h6];decide)]at hgo;have hcl:=Dv.clear_keep hc.1;refine J.qp (a2X p n t l P) [1] λ_=>?_;refine J.qp (a5a n t l P.N P.t P.T (Dv.costR*j+k) mm hc.1.gd hmm hc.1.t P.op) [2,3,4] λ_=>?_;refine J.qd (λ_ h7=>?_) λ_ h7=>?_
   ·simp only[C2,D4]at h7;have h7:P.clear.2≠0:=h7;rw[d8 h7]at hgo;refine J.qr [1,2,3,4] λ_=>?_;rw[<- hgo];exact⟨rfl,rfl⟩
   ·simp only[p6]at h7;have h7:P.clear.2=0:=h7;rw[d7 (by rw[h7];decide)]at hgo;refine J.q λ_=>?_;refine J.n ((i+1,P.clear.1)) (⟨by dsimp only;omega,by dsimp only;rw[hj1];exact hgo,by dsimp only;rw[hj1];exact hcl.1⟩) (by dsimp only;omega) [0,1,2,3,4]
 ·simp only[c8,g6]at h2;have hz:S.t.b-i=0:=by omega
  rw[hz,Dv.roomGo]at hgo;refine J.qr [1,2,3,4] λ_=>?_;rw[<- hgo];exact⟨rfl,rfl⟩
theorem a8L (l:List Int) (f:Int->Int) (i:Nat) (x:Int) (h:l[i]? =some x):((l.take (i+1)).map f).sum=((l.take i).map f).sum+f x:=by
 rw[s6,h,y9,x7,List.sum_append];simp
theorem c1Q (l:List Int) (f:Int->Int) (c:Int) (hc:0<=c) (hf:∀x,0<=f x/\f x<=c):0<=(l.map f).sum/\(l.map f).sum<=c*l.length:=by
 induction l with
 | nil=>simp
 | cons x l ih=>
  have:=hf x;simp only[x5,List.sum_cons,m6,a2d,Int.mul_add];omega
theorem b4l (t l:Nat) (S:Dv) (k mm:Nat) (hO:S.Ok k mm):FP 105 [pp t,pp l] [TlA t S.t,TbA l S.T]
  (Ps (iI S.leftN) [TlA t S.t,TbA l S.T]):=by
 have hbd:=hO.gd.ok.bd16;have htb:=hO.t.b;have hlog:=hO.T.log;obtain⟨L,hL⟩:∃L,L=S.hurts:=⟨_,rfl⟩;have hLl:L.length<=16:=by have:=a0g (a1H S.t S.T) (-1) S.t.b;rw[hL];unfold Dv.hurts;omega
 have hs:=λi=>c1Q (L.take i) S.T.count 1000000 (by omega) (λx=>hO.T.bd x);refine FE [2,3] Tryz.func105 λX F hX=>?_;refine J.qc (b2Y t S.t (by omega) hO.t.len l S.T S.T.logical.toNat (by omega) (by omega)) [1,2] λ_=>?_;rintro v As ⟨a,c,rfl,rfl⟩;refine⟨_,rfl,trivial,?_⟩;rw[show C8 (a1H S.t S.T) (-1) S.t.b=L from hL.symm];refine J.q λ_=>?_;refine J.l (α:=Nat) (λi=>i<=L.length) (λi=>[si 12 i,si 11 L.length,sv 10 (slv a L.length c),⟨5,iI ((L.take i).map S.T.count).sum,0, .tt⟩,⟨1,pp l,3, .tt⟩]) [] (λi=>[]) (λi=>L.length-i) (0) (j4 _) λi hI=>?_;have hsi:=hs i;have htl:((L.take i).length:Int)<=16:=by rw[l9];omega
 refine J.qd (λ_ h1=>?_) λ_ h1=>?_
 ·simp only[c9,g6]at h1;obtain⟨x,hx⟩:∃x,L[i]? =some x:=⟨_,d5 h1⟩;have hxb:=hO.T.bd x;have hsu:=a8L L S.T.count i x hx;refine J.know (λh' s=>u7 (c:=(a,c)) (by omega) (s.get (i:=3) rfl)) λhg=>?_;obtain⟨g,rfl⟩:=hg;refine J.q λ_=>?_;refine J.v (iI x) rfl rfl (λhg aa w he hw=>z7 tk rfl rfl he rfl rfl rfl (hw.get (i:=3) rfl) (by rw[show 0+(i:Int).toNat*1=i from by omega,n7,j6,hx];rfl)) ?_;refine J.qp (X5 l S.T x) [2] λ_=>?_;refine J.q λ_=>?_;rw[<- hsu];refine J.q λ_=>?_;refine J.n (i+1) (by omega) (by omega) [0,1,2,3]
 ·simp only[c8,g6]at h1;refine J.qr [1,2] λ_=>?_;rw[m7 (by omega),hL];exact⟨rfl,rfl⟩
theorem b4k (n t l p:Nat) (S:Dv) (k mm:Nat) (hO:S.Ok (Dv.costS+k) mm) (hmm:mm<=1000) (most:Int):FP 102 [pp n,pp t,pp l,pp p,iI most] (DvP p n t l S)
  (Ps (.tuple #[iI (S.step most).2.1,iI (S.step most).2.2]) (DvP p n t l (S.step most).1)):=by
 have hbd:=hO.gd.ok.bd16;have htd:=hO.t.d;have htb:=hO.t.b;refine FE [3,4,5,2,0] Tryz.func102 λX F hX=>?_;refine J.qp (a7k t S.t) [3] λ_=>?_;refine J.q λ_=>?_;refine J.l (α:=(Nat×Tl)) (λz=>z.1<=S.t.d/\(List.range z.1).foldl (λt (d:Nat)=>if S.N.deadAt d then t.die d else t) S.t=z.2/\z.2.Fit S.N) (λz=>[si 18 z.1,si 17 S.t.d,⟨0,pp n,3, .tt⟩,⟨1,pp t,4, .tt⟩,⟨2,pp l,5, .tt⟩,⟨3,pp p,2, .tt⟩,si 4 most]) [3] (λz=>[TlA t z.2]) (λz=>S.t.d-z.1) ((0,S.t)) (⟨j4 _,rfl,hO.t⟩) λz hI=>?_;obtain⟨d,U⟩:=z;dsimp only at hI ⊢;obtain⟨hd,hfo,hU⟩:=hI;refine J.qd (λ_ h1=>?_) λ_ h1=>?_
 ·simp only[c9,g6]at h1;have hsu:(List.range (d+1)).foldl (λt (d:Nat)=>if S.N.deadAt d then t.die d else t) S.t=if S.N.deadAt d then U.die d else U:=by rw[t6,z8,hfo];rfl
  refine J.qp (a7N n S.N hO.gd.ok d) [2] λ_=>?_;refine J.qd (λ_ h2=>?_) λ_ h2=>?_
  ·rw[d8 h2]at hsu;refine J.qp (a4W t U d) [3] λ_=>?_;refine J.q λ_=>?_;refine J.n ((d+1,U.die d)) (⟨by dsimp only;omega,hsu,hU.die d⟩) (by dsimp only;omega) [0,1,2,3,4]
  ·rw[d7 (by rw[h2];decide)]at hsu;refine J.q λ_=>?_;refine J.n ((d+1,U)) (⟨by dsimp only;omega,hsu,hU⟩) (by dsimp only;omega) [0,1,2,3,4]
 simp only[c8,g6]at h1;obtain rfl:d=S.t.d:=by omega
 have hseen:S.seen={S with t:=U}:=by unfold Dv.seen Dv.seeDead;rw[hfo]
 have hO1:S.seen.Ok (Dv.costM+(Dv.costC+k)) mm:=hO.seen.less (by unfold Dv.costS;omega);have hr:=Dv.room_keep hO1;obtain⟨Q,hQ⟩:∃Q,Q=S.seen:=⟨_,rfl⟩;have hQO:Q.Ok (Dv.costM+(Dv.costC+k)) mm:=by rw[hQ];exact hO1
 have hst:S.step most=(let r:=Q.room;if r.2≠0 then(r.1,0,r.2)else match r.1.hurts with | []=>(r.1,0,0) | b::_=>r.1.carry b most):=by rw[hQ];rfl
 rw[show x6 n S.N=x6 n Q.N from by rw[hQ];rfl,show TbA l S.T=TbA l Q.T from by rw[hQ];rfl,show TlA t U=TlA t Q.t from by rw[hQ,hseen],show a2a p n t l S=a2a p n t l Q from by rw[hQ];rfl];rw[<- hQ]at hr;refine J.qp (a4Z n t l p Q _ mm hQO hmm) [1,2,3,4] λ_=>?_;dsimp only at hst;generalize Q.room=W at hst hr ⊢;obtain⟨P,er⟩:=W;dsimp only at hst hr ⊢;refine J.qd (λ_ h2=>?_) λ_ h2=>?_
 ·simp only[C2,D4]at h2;rw[d8 h2]at hst;refine J.qr [1,2,3,4] λ_=>?_;rw[hst];exact⟨rfl,rfl⟩
 simp only[p6]at h2;rw[d7 (by rw[h2];decide)]at hst;have hPb:=hr.1.gd.ok.bd16;have hPt:=hr.1.t.b;have hlog:=hr.1.T.log;have hLl:=a0g (a1H P.t P.T) (-1) P.t.b;refine J.qc (b2Y t P.t (by omega) hr.1.t.len l P.T P.T.logical.toNat (by omega) (by omega)) [3,4] λ_=>?_;rintro v As ⟨a,c,rfl,rfl⟩;refine⟨_,rfl,trivial,?_⟩;have hh:C8 (a1H P.t P.T) (-1) P.t.b=P.hurts:=rfl;rw[hh]at hLl ⊢;generalize P.hurts=L at hst hLl ⊢;cases L with
 | nil=>
  refine J.qT λ_=>?_;refine J.qr [1,2,3,4] λ_=>?_;rw[hst];exact⟨rfl,rfl⟩
 | cons b L=>
  refine J.know (λh' s=>u7 (c:=(a,c)) (by simp) (s.get (i:=5) rfl)) λhg=>?_;obtain⟨g,rfl⟩:=hg;refine J.q λ_=>?_;refine J.cond rfl (λh=>absurd h (by rw[m5,m6];omega)) (λ_=>?_);refine J.q λ_=>?_;refine J.v (iI b) rfl rfl (λhg aa w he hw=>z7 tk rfl rfl he rfl rfl rfl (hw.get (i:=5) rfl) rfl) ?_;dsimp only at hst;refine J.qp (a7p n t l p P _ mm hr.1 b most) [1,2,3,4] λ_=>?_;refine J.qr [1,2,3,4] λ_=>?_;rw[hst];exact⟨rfl,rfl⟩
theorem b0r (n t l p:Nat) (S:Dv) (k mm:Nat) (A:Atom) (a:Option (Nat×Nat)) (m c:Nat) (es:List En) (hA:Rd A (K4 a) 19 m (p5 es)) (hl:es.length=m) (hm:m<=1000000) (hc:m<=c) (ha:a=none->c=0) (hd:∀s∈es,s.data.length=16) (hO:S.Ok (Dv.costT*m+k) mm) (hmm:mm<=1000):
  FP 91 [pp n,pp t,pp l,pp p, .slice (K4 a) m c] (DvP p n t l S++[A])
  (Ps (iI (S.torn es).2) (DvP p n t l (S.torn es).1++[A])):=by
 subst hl;refine FE [3,4,5,2,0] Tryz.func91 λX F hX=>?_;refine J.q λ_=>?_;refine J.l (α:=(Nat×Dv×List En×Option (Nat×Nat)×Nat)) (λz=>z.2.2.1.length<=z.1/\z.2.2.1.length<=z.2.2.2.2/\z.2.2.1.length<=1000000/\(z.2.2.2.1=none->z.2.2.2.2=0)/\Rd A (K4 z.2.2.2.1) 19 z.2.2.1.length (p5 z.2.2.1)/\(∀s∈z.2.2.1,s.data.length=16)/\z.2.1.Ok (Dv.costT*z.1+k) mm/\Dv.tornGo z.1 z.2.1 z.2.2.1=S.torn es) (λz=>[sv 4 (.slice (K4 z.2.2.2.1) z.2.2.1.length z.2.2.2.2),⟨0,pp n,3, .tt⟩,⟨1,pp t,4, .tt⟩,⟨2,pp l,5, .tt⟩,⟨3,pp p,2, .tt⟩]) [1,2,3,4] (λz=>DvP p n t l z.2.1) (λz=>z.1) ((es.length,S,es,a,c)) (⟨j7 _,hc,hm,ha,hA,hd,hO,rfl⟩) λz hI=>?_;obtain⟨j,Q,L,a',c'⟩:=z;dsimp only at hI ⊢;obtain⟨hj,hLc,hLm,ha',hAr,hLd,hQ,hw⟩:=hI;refine J.qd (λ_ h1=>?_) λ_ h1=>?_
 ·simp only[c9]at h1;have hL0:L.length≠0:=by omega
  obtain⟨j,rfl⟩:∃i,j=i+1:=⟨j-1,by omega⟩;rw[Dv.tornGo,d7 hL0]at hw;dsimp only at hw;have hQ1:Q.Ok (Dv.costM+(8*Dv.fuel+(Dv.costT*j+k))) mm:=hQ.less (by unfold Dv.costT Dv.cost;rw[W2];omega);have hr:=Dv.room_keep hQ1;refine J.qp (a4Z n t l p Q _ mm hQ1 hmm) [1,2,3,4] λ_=>?_;generalize Q.room=W at hw hr ⊢;obtain⟨P,er⟩:=W;dsimp only at hw hr ⊢;refine J.qd (λ_ h2=>?_) λ_ h2=>?_
  ·simp only[C2,D4]at h2;rw[d8 h2]at hw;refine J.qr [1,2,3,4,5] λ_=>?_;rw[<- hw];exact⟨rfl,rfl⟩
  simp only[p6]at h2;rw[d7 (by rw[h2];decide)]at hw;have htook:=λh0=>Dv.pen_took hr.1 hLd h0 hL0;have hkeep:=Dv.pen_keep hr.1 hLd;refine J.qp (a3J p n t l P _ mm hr.1 A (K4 a') L.length c' L hAr rfl hLm hLd) [1,2,3,4,5] λ_=>?_;have hpb:0<=(P.pen L).2.1/\(P.pen L).2.1<=7:=a4T _ _ _;generalize P.pen L=W at hw htook hkeep hpb ⊢;obtain⟨P',nn,er2⟩:=W;dsimp only at hw htook hkeep hpb ⊢;refine J.qd (λ_ h3=>?_) λ_ h3=>?_
  ·simp only[C2,D4]at h3;rw[d8 h3]at hw;refine J.qr [1,2,3,4,5] λ_=>?_;rw[<- hw];exact⟨rfl,rfl⟩
  simp only[p6]at h3;rw[d7 (by rw[h3];decide)]at hw;have htk:=htook h3;obtain⟨v,rfl⟩:=g7 hpb.1;have hvL:v<=L.length:=by have:=htk.2.1;omega
  rw[l6]at hw;refine J.qn 4 λ_=>?_;refine J.v (.slice (K4 (a1y a' 19 v c')) (L.length-v) (c'-v)) rfl rfl (λhg aa w he hw=>a1T tk rfl rfl rfl he rfl rfl rfl rfl rfl hvL) ?_;rw[show L.length-v=(L.drop v).length from by rw[x4]];refine J.q λ_=>?_;refine J.n ((j,P',L.drop v,a1y a' 19 v c',c'-v)) (⟨by dsimp only;rw[x4];omega,by dsimp only;rw[x4];omega,by dsimp only;rw[x4];omega,a4s ha',λh s=>b3W (hAr h s) rfl hvL hLc,λs hs=>hLd s (a4v hs),hkeep.1,hw⟩) (by dsimp only;omega) [0,1,2,3,4,5]
 ·simp only[c8]at h1;have hL0:L.length=0:=by omega
  have hz:Dv.tornGo j Q L=(Q,0):=by
   cases j with
   | zero=>rfl
   | succ j=>rw[Dv.tornGo,d8 hL0]
  refine J.qr [1,2,3,4,5] λ_=>?_;rw[<- hw,hz];exact⟨rfl,rfl⟩
def a4b (f n t l p d:Nat) (F:Fv):Atom:= .pt f 140 [pp n,pp t,pp l,pp p,pp d,iI F.nx, .bool F.off]
def FvP (f p n t l d:Nat) (F:Fv):List Atom:=[a4b f n t l p d F,a2a p n t l F.S,x6 n F.S.N,TlA t F.S.t,TbA l F.S.T,a2x d F.L]
theorem a3f (f n t l p d:Nat) (Z:Fv) (hN:Z.S.N.Ok):FP 40 [pp f] [a4b f n t l p d Z,x6 n Z.S.N] (Ps (iI Z.lg) [a4b f n t l p d Z,x6 n Z.S.N]):=by
 have hbd:=hN.bd16;have hlg:=b0w Z.S.N.dies Z.S.N.blocks Z.S.N.pages (by omega) (by omega);refine FE [2] Tryz.func40 λX F hX=>?_;refine J.qF λ_=>?_;refine J.qp (a0H n Z.S.N) [2] λ_=>?_;refine J.qp (a4l Z.S.N.dies Z.S.N.blocks Z.S.N.pages hN.geo) [] λ_=>?_;rw[hlg];exact J.qx [1,2]
theorem a1Q (f n t l p d:Nat) (Z:Fv):FP 95 [pp f] [a4b f n t l p d Z,x6 n Z.S.N] (Ps (iI (if Z.ask.off=true then 9 else 0)) [a4b f n t l p d Z.ask,x6 n Z.S.N]):=by
 have hask:a4b f n t l p d Z.ask= .pt f 140 [pp n,pp t,pp l,pp p,pp d,iI Z.nx, .bool (Z.off||Z.S.N.off)]:=rfl;have hoa:Z.ask.off=(Z.off||Z.S.N.off):=rfl;rw[hask,hoa];unfold a4b;generalize Z.off=o;refine FE [2] Tryz.func95 λX F hX=>?_;refine J.qF λ_=>?_;refine J.q λ_=>?_;refine J.gcase hX rfl rfl rfl trivial (λhb=>?_) (λhb=>?_)
 ·rw[i7]at hb;subst hb;refine J.qp (a4e n Z.S.N) [2] λ_=>?_;refine J.qd (λ_ h1=>?_) λ_ h1=>?_
  ·simp only[D1,Bool.not_not]at h1;refine J.qr [1,2] λ_=>?_;rw[h1];exact⟨rfl,rfl⟩
  ·simp only[D1,Bool.not_not]at h1;refine J.qr [1,2] λ_=>?_;rw[h1];exact⟨rfl,rfl⟩
 ·rw[p9]at hb;subst hb;refine J.q λ_=>?_;refine J.v (.bool false) rfl rfl (λhg a w he hw=>by simp[G.on]at hg) ?_;refine J.qT λ_=>?_;exact J.qx [1,2]
theorem b0C (f n t l p d:Nat) (Z:Fv) (e:Int):FP 103 [pp f,iI e] [a4b f n t l p d Z] (Ps (iI e) [a4b f n t l p d (Z.told e)]):=by
 refine FE [2,0] Tryz.func103 λX F hX=>?_;exact J.qx [1]
theorem a9n {α:Type} [BEq α] [LawfulBEq α]:∀{K M:List α},K.Nodup->(∀x∈K,x∈M)->K.length<=M.length
 | [],M,_,_=>j4 _
 | x::K,M,h,hs=>by
  obtain⟨h1,h2⟩:=List.nodup_cons.1 h;have hx:=hs x (by simp);have h3:=a9n (M:=M.erase x) h2 λy hy=>by
   have hne:y≠x:=λe=>h1 (by rw[<- e];exact hy);exact(List.mem_erase_of_ne hne).2 (hs y (by simp[hy]))
  rw[List.length_erase_of_mem hx]at h3;have:0<M.length:=List.length_pos_of_mem hx;rw[m6];omega
theorem a3d {N:Nand} (h:N.Ok):1<=lgN N.dies N.blocks N.pages/\lgN N.dies N.blocks N.pages<=200:=by
 obtain⟨hd,hb,hp⟩:=h.bd16;generalize N.dies=d at*;generalize N.blocks=b at*;generalize N.pages=p at*;have h2:3*2<=(b-5)*p:=a1h (by omega) hp.1;have h3:6*1<=(b-5)*p*(d-2):=a1h h2 (by omega);have h4:(b-5)*p<=11*8:=a1h (by omega) hp.2;have h5:(b-5)*p*(d-2)<=88*4:=a1h h4 (by omega);unfold lgN;omega
theorem b1S {N N':Nand} (h:N.Like N'):lgN N'.dies N'.blocks N'.pages=lgN N.dies N.blocks N.pages:=by rw[h.dies,h.blocks,h.pages]
theorem a3S {α:Type} {M:Nand} (f:Tl->α->Tl) (hf:∀t a,t.Fit M->(f t a).Fit M):∀(q:List α) (t:Tl),t.Fit M->(q.foldl f t).Fit M
 | [],_,h=>h
 | a::q,t,h=>a3S f hf q (f t a) (hf t a h)
theorem Tl.Fit.ofD {M N:Nand} {t:Tl} (h:t.Fit M) (b d:Nat):(Tl.ofD N b t d).Fit M:=by
 unfold Tl.ofD;dsimp only;split
 ·exact(h.wore _ _).clean _ _
 ·exact h.wore _ _
theorem Tl.Fit.ofB {M N:Nand} {t:Tl} (h:t.Fit M) (b:Nat):(Tl.ofB N t b).Fit M:=a3S _ (λ_ d h=>h.ofD b d) _ _ h
theorem Tl.Fit.new (N:Nand):(Tl.new N.dies N.blocks N.pages).Fit N:=⟨rfl,rfl,rfl,by show(List.replicate N.blocks Sb.zero).length=N.blocks;rw[T7]⟩
theorem Tl.Fit.seeDead {M N:Nand} {t:Tl} (h:t.Fit M):(Dv.seeDead N t).Fit M:=a3S _ (λt d h=>by split;(· exact h.die _);exact h) _ _ h
theorem Tl.Fit.of (N:Nand):(Tl.of N).Fit N:=a3S _ (λ_ b h=>h.ofB b) _ _ (Tl.Fit.new N).seeDead
theorem c2z {N:Nand} (hN:N.Ok) {b r:Int} {f:Fnd} (h:f∈R.all N b r):(0<=f.slot/\f.slot<=1000)/\f.en.data.length=16:=by
 unfold R.all at h;rw[H0]at h;obtain⟨m,_,h⟩:=h;unfold R.allM at h;rw[List.mem_filterMap]at h;obtain⟨k,hk,h⟩:=h;rw[M8,(X8 N b r m).1]at hk;have hs:=Dv.slots_le m;unfold R.fnd at h;split at h
 ·injection h with h;subst h;refine⟨by show(0:Int)<=((k:Nat):Int)/\((k:Nat):Int)<=1000;omega,?_⟩;show(R.enAt (R.look N b r m) k).data.length=16;unfold R.enAt;split
  ·have hl:=(X8 N b r m).1;rw[d6,d5 (by omega)];exact(a1B hN b r m).1 _ (I0 _)
  ·exact b1K hN b r m k
 ·cases h
theorem c2Z {N:Nand} (hN:N.Ok) {f:Fnd} (h:f∈V.all N):(0<=f.slot/\f.slot<=1000)/\f.en.data.length=16:=by
 unfold V.all at h;rw[H0]at h;obtain⟨b,_,h⟩:=h;rw[H0]at h;obtain⟨r,_,h⟩:=h;exact c2z hN h
theorem b8I {N:Nand} (hN:N.Ok) (n:Int):∀k,(∀x∈(V.goS N (V.all N) n k).tb.at_,0<=x.2.slot/\x.2.slot<=1000)/\(∀s∈(V.goS N (V.all N) n k).torn,s.data.length=16)/\∀s∈(V.goS N (V.all N) n k).others,s.data.length=16
 | 0=>⟨λx hx=>by simp[V.goS,Tb.new]at hx,λs hs=>by simp[V.goS]at hs,λs hs=>by simp[V.goS]at hs⟩
 | k+1=>by
  obtain⟨h1,h2,h3⟩:=b8I hN n k;rw[V.goS_succ];unfold V.step;split
  ·rename_i hs;have hm:=V.standOf_mem hs;unfold V.of at hm;obtain⟨e1,e2⟩:=c2Z hN (List.mem_filter.1 hm).1;have hp:=Tb.put_slot (e:=(V.standOf (V.of (V.all N) k)).1.en) (b:=(V.standOf (V.of (V.all N) k)).1.block) (r:=(V.standOf (V.of (V.all N) k)).1.row) (m:=(V.standOf (V.of (V.all N) k)).1.mask) h1 e1;have ha:∀l:List En,(∀s∈l,s.data.length=16)->∀s∈l++[(V.standOf (V.of (V.all N) k)).1.en],s.data.length=16:=λl hl s hs=>by
    rcases List.mem_append.1 hs with hs | hs
    ·exact hl s hs
    ·rw[U0]at hs;rw[hs];exact e2
   split
   ·exact⟨hp,h2,h3⟩
   split
   ·exact⟨hp,ha _ h2,h3⟩
   ·exact⟨hp,h2,ha _ h3⟩
  ·exact⟨h1,h2,h3⟩
theorem b0c {N:Nand} (hN:N.Ok) (n:Int):(V.scan N n).tb.Ok/\(∀x∈(V.scan N n).tb.at_,0<=x.2.slot/\x.2.slot<=1000)/\(∀s∈(V.scan N n).torn,s.data.length=16)/\(1<=(V.scan N n).next/\(V.scan N n).next<=1099511627776):=by
 obtain⟨h1,h2,h3⟩:=b8I hN n (V.size n);refine⟨V.goS_ok N (V.all N) n (V.size n),h1,λs hs=>?_,V.nextOf_bd λf hf=>(b0V hf).2⟩;have hs:s∈(V.goS N (V.all N) n (V.size n)).torn++(V.goS N (V.all N) n (V.size n)).others:=hs;rcases List.mem_append.1 hs with hs | hs
 ·exact h2 s hs
 ·exact h3 s hs
theorem a9f {N:Nand} {m:Nat} (hm:m<=65536):(V.scan N m).first<=(V.scan N m).torn.length/\((V.scan N m).torn.take (V.scan N m).first).length<=m/\((V.scan N m).torn.drop (V.scan N m).first).length<=m/\(V.scan N m).torn.length<=2*m:=by
 have hsz:V.size (m:Int)=m:=by unfold V.size;omega
 have h1:=V.goS_len N (V.all N) m (V.size m);rw[hsz]at h1;have e1:(V.scan N m).first=(V.goS N (V.all N) m m).torn.length:=by show(V.goS N (V.all N) m (V.size m)).torn.length=_;rw[hsz]
 have e2:(V.scan N m).torn=(V.goS N (V.all N) m m).torn++(V.goS N (V.all N) m m).others:=by show(V.goS N (V.all N) m (V.size m)).torn++(V.goS N (V.all N) m (V.size m)).others=_;rw[hsz]
 rw[e1,e2,l9,x4,f9];omega
theorem b5b {N:Nand} (hN:N.Ok) (n:Int):(V.scan N n).held.length<=6000:=by
 have h1:=V.goS_held N (V.all N) n (V.size n);have h2:=a7d N hN;have h3:=a5N (V.goS N (V.all N) n (V.size n)).held;show(Z8 (V.goS N (V.all N) n (V.size n)).held).length<=_;omega
namespace Dv
variable {S : Dv} {N : Nand} {k m : Nat}
theorem Ok.holds (h:S.Ok k m) (l:List Int) (on:Bool):(S.holds l on).Ok k m:=⟨h.gd,a3S _ (λ_ _ h=>h.hold _ _) _ _ h.t,h.T,h.sl,h.row,h.next⟩
def mt0 (N:Nand):Dv:=⟨N,Tl.of N,(V.scan N (lgN N.dies N.blocks N.pages)).tb,-1,0,0,max (V.scan N (lgN N.dies N.blocks N.pages)).next 1⟩
theorem Ok.mt0 (hG:N.Gd k m):(Dv.mt0 N).Ok k m:=by
 obtain⟨h1,h2,_,h4⟩:=b0c hG.ok (lgN N.dies N.blocks N.pages);refine⟨hG,Tl.Fit.of N,h1,h2,by show(0:Int)<=0/\(0:Int)<=8;omega,?_⟩;show 1<=max (V.scan N (lgN N.dies N.blocks N.pages)).next 1/\max (V.scan N (lgN N.dies N.blocks N.pages)).next 1<=_;omega
theorem mt0_log (hG:N.Gd k m):(Dv.mt0 N).T.logical=(lgN N.dies N.blocks N.pages:Int):=by
 have h:=a3d hG.ok;have:=V.goS_log N (V.all N) (lgN N.dies N.blocks N.pages) (V.size (lgN N.dies N.blocks N.pages));show(V.goS N (V.all N) (lgN N.dies N.blocks N.pages) (V.size (lgN N.dies N.blocks N.pages))).tb.logical=_;rw[this];omega
theorem torn_keep {l:List En} {c:Nat} (h:S.Ok (costT*c+k) m) (hl:l.length<=c) (hd:∀s∈l,s.data.length=16):(S.torn l).1.Ok k m/\S.N.Like (S.torn l).1.N/\(S.torn l).1.T.logical=S.T.logical:=
 tornGo_keep _ S l k (h.less (by have:=O8 costT hl;omega)) hd
def costK:Nat:=costT*200+(96+(costT*200+costM))
end Dv
theorem b1I (N:Nand):M4 N=(let s:=V.scan N (lgN N.dies N.blocks N.pages)
 let a:=((Dv.mt0 N).holds s.held true).torn (s.torn.take s.first)
 if a.2≠0 then a
 else
  let b:=(a.1.holds s.held false).clear
  if b.2≠0 then b
  else
   let c:=b.1.torn (s.torn.drop s.first)
   if c.2≠0 then c else c.1.room):=rfl
theorem a2Y {N:Nand} {k m:Nat} (hG:N.Gd (Dv.costK+k) m):(M4 N).1.Ok k m/\N.Like (M4 N).1.N/\(M4 N).1.T.logical=(lgN N.dies N.blocks N.pages:Int):=by
 have h200:=a3d hG.ok;obtain⟨t1,t2,t3,_⟩:=a9f (N:=N) (m:=lgN N.dies N.blocks N.pages) (by omega);obtain⟨_,_,hd,_⟩:=b0c hG.ok (lgN N.dies N.blocks N.pages);have h0:=Dv.Ok.mt0 hG;have hlog:=Dv.mt0_log hG;have hd1:∀s∈(V.scan N (lgN N.dies N.blocks N.pages)).torn.take (V.scan N (lgN N.dies N.blocks N.pages)).first,s.data.length=16:=λs hs=>hd s (H9 hs)
 have hd2:∀s∈(V.scan N (lgN N.dies N.blocks N.pages)).torn.drop (V.scan N (lgN N.dies N.blocks N.pages)).first,s.data.length=16:=λs hs=>hd s (a4v hs)
 rw[b1I];dsimp only;have ha:=Dv.torn_keep (k:=96+(Dv.costT*200+(Dv.costM+k))) (c:=200) ((h0.holds (V.scan N (lgN N.dies N.blocks N.pages)).held true).less (by unfold Dv.costK;omega)) (by omega) hd1;have ea:((Dv.mt0 N).holds (V.scan N (lgN N.dies N.blocks N.pages)).held true).N=N:=rfl;have ea2:((Dv.mt0 N).holds (V.scan N (lgN N.dies N.blocks N.pages)).held true).T=(Dv.mt0 N).T:=rfl;rw[ea,ea2,hlog]at ha;split
 ·exact⟨ha.1.less (by omega),ha.2⟩
 generalize(((Dv.mt0 N).holds (V.scan N (lgN N.dies N.blocks N.pages)).held true).torn ((V.scan N (lgN N.dies N.blocks N.pages)).torn.take (V.scan N (lgN N.dies N.blocks N.pages)).first)).1=A at ha;have hb:=Dv.clear_keep (ha.1.holds (V.scan N (lgN N.dies N.blocks N.pages)).held false);have eb:(A.holds (V.scan N (lgN N.dies N.blocks N.pages)).held false).N=A.N:=rfl;have eb2:(A.holds (V.scan N (lgN N.dies N.blocks N.pages)).held false).T=A.T:=rfl;rw[eb,eb2]at hb;split
 ·exact⟨hb.1.less (by omega),ha.2.1.trans hb.2.1,by rw[hb.2.2];exact ha.2.2⟩
 have hc:=Dv.torn_keep (k:=Dv.costM+k) (c:=200) hb.1 (E7 t3 h200.2) hd2;split
 ·exact⟨hc.1.less (by omega),(ha.2.1.trans hb.2.1).trans hc.2.1,by rw[hc.2.2,hb.2.2];exact ha.2.2⟩
 have hr:=Dv.room_keep hc.1;exact⟨hr.1,((ha.2.1.trans hb.2.1).trans hc.2.1).trans hr.2.1,by rw[hr.2.2,hc.2.2,hb.2.2];exact ha.2.2⟩
structure Fv.Ok (F:Fv) (k m:Nat):Prop where
 dv:F.S.Ok k m
 dat:∀e∈F.L,e.data.length=16
 rng:∀e∈F.L,0<=e.lpn/\e.lpn<F.lg
 nd:(F.L.map (·.lpn)).Nodup
 nx:0<=F.nx/\F.nx+(k:Int)<=4611686018427387904
namespace Fv
variable {F : Fv} {k m : Nat}
theorem lg_like {F G:Fv} (h:F.S.N.Like G.S.N):G.lg=F.lg:=by unfold lg;rw[b1S h]
theorem lg_bd (h:F.S.N.Ok):1<=F.lg/\F.lg<=200:=by have:=a3d h;unfold lg;omega
theorem Ok.less (h:F.Ok k m) {k':Nat} (hk:k'<=k):F.Ok k' m:=⟨h.dv.less hk,h.dat,h.rng,h.nd,by have:=h.nx;omega⟩
theorem Ok.len (h:F.Ok k m):F.L.length<=200:=by
 have hb:=lg_bd h.dv.gd.ok;have h1:=a9n (K:=F.L.map (·.lpn)) (M:=(List.range F.lg.toNat).map λi:Nat=>(i:Int)) h.nd λx hx=>by
  obtain⟨e,he,rfl⟩:=List.mem_map.1 hx;have:=h.rng e he;exact List.mem_map.2 ⟨e.lpn.toNat,List.mem_range.2 (by omega),by omega⟩
 simp at h1;omega
theorem Ok.ask (h:F.Ok k m):F.ask.Ok k m:=⟨h.dv,h.dat,h.rng,h.nd,h.nx⟩
def cW:Nat:=Dv.costM+8*Dv.fuel
theorem done_sub (L l:List En):(a1l L l).Sublist L:=List.filter_sublist
theorem done_lt {L:List En} {n:Nat} (h:L.length≠0) (hn:1<=n):(a1l L (L.take n)).length<L.length:=by
 unfold a1l;rw[List.length_filter_lt_length_iff_exists];cases L with
 | nil=>exact absurd rfl h
 | cons x L=>
  refine⟨x,z6 ..,?_⟩;obtain⟨c,rfl⟩:∃c,n=c+1:=⟨n-1,by omega⟩;simp
structure Kept (F G:Fv):Prop where
 like:F.S.N.Like G.S.N
 log:G.S.T.logical=F.S.T.logical
theorem Kept.refl (F:Fv):Kept F F:=⟨Nand.Like.refl _,rfl⟩
theorem Kept.ask (F:Fv):Kept F F.ask:=⟨Nand.Like.refl _,rfl⟩
theorem Kept.trans {F G H:Fv} (h:Kept F G) (h2:Kept G H):Kept F H:=⟨h.like.trans h2.like,h2.log.trans h.log⟩
theorem Ok.with_ {S:Dv} {L:List En} {off:Bool} {k':Nat} (h:F.Ok k' m) (hS:S.Ok k m) (hk:k<=k') (hl:F.S.N.Like S.N) (hL:L.Sublist F.L):(⟨S,L,F.nx,off⟩:Fv).Ok k m:=
 ⟨hS,λe he=>h.dat e (hL.subset he),λe he=>by rw[lg_like (F:=F) (G:=⟨S,L,F.nx,off⟩) hl];exact h.rng e (hL.subset he),h.nd.sublist (hL.map _),by have:=h.nx;show 0<=F.nx/\F.nx+(k:Int)<=_;omega⟩
theorem writes_keep (h:F.Ok (cW+k) m):F.writes.1.Ok k m/\Kept F F.writes.1/\F.writes.1.L.length<=F.L.length/\(F.writes.2=0->F.L.length≠0->F.writes.1.L.length<F.L.length):=by
 have hr:=Dv.room_keep (S:=F.S) (k:=8*Dv.fuel+k) (m:=m) (h.dv.less (by unfold cW;omega));have he:F.writes=(let r:=F.S.room
  if r.2≠0 then({F with S:=r.1}.told r.2,r.2)
  else
   let w:=r.1.pen F.L
   ({F with S:=w.1,L:=a1l F.L (F.L.take w.2.1.toNat)}.told w.2.2,w.2.2)):=rfl
 dsimp only at he
 by_cases h0:F.S.room.2≠0
 ·rw[d8 h0]at he;rw[he];exact⟨h.with_ (hr.1.less (by omega)) (by omega) hr.2.1 (List.Sublist.refl _),⟨hr.2.1,hr.2.2⟩,j7 _,λe=>absurd e h0⟩
 ·rw[d7 h0]at he;have hp:=Dv.pen_keep hr.1 h.dat
  have ht:=λe hl=>Dv.pen_took hr.1 h.dat e hl;rw[he];refine⟨h.with_ hp.1 (by omega) (hr.2.1.trans hp.2.1) (done_sub _ _),⟨hr.2.1.trans hp.2.1,hp.2.2.trans hr.2.2⟩,(done_sub _ _).length_le,λe hl=>?_⟩;have:=ht e hl;exact done_lt hl (by omega)
theorem flushGo_keep:∀(f:Nat) (F:Fv) (k:Nat),F.Ok (cW*f+k) m->(flushGo f F).1.Ok k m/\Kept F (flushGo f F).1
 | 0,F,k,h=>⟨h.less (by omega), .refl _⟩
 | f+1,F,k,h=>by
  rw[flushGo];split
  ·exact⟨h.less (by omega), .refl _⟩
  have hw:=writes_keep (F:=F) (k:=cW*f+k) (h.less (by rw[W2];omega));dsimp only;split
  ·exact⟨hw.1.less (by omega),hw.2.1⟩
  ·have ih:=flushGo_keep f F.writes.1 k hw.1;exact⟨ih.1,hw.2.1.trans ih.2⟩
theorem flush_keep (h:F.Ok (cW*200+k) m):F.flush.1.Ok k m/\Kept F F.flush.1:=by
 unfold flush;split
 ·exact⟨h.ask.less (by omega), .ask _⟩
 ·have hl:=h.len;have hm:cW*F.L.length<=cW*200:=O8 _ hl;have r:=flushGo_keep F.L.length F.ask k (h.ask.less (by omega));exact⟨r.1,⟨r.2.like,r.2.log⟩⟩
theorem put_ok (h:F.Ok (1+k) m) {e:En} (hd:e.data.length=16) (hr:¬(e.lpn<0\/e.lpn>=F.lg)):(F.put e).Ok k m:=by
 have hlg:(F.put e).lg=F.lg:=rfl;refine⟨h.dv.less (by omega),λx hx=>?_,λx hx=>?_,?_,by have:=h.nx;show 0<=F.nx+1/\F.nx+1+(k:Int)<=_;omega⟩
 ·have hx:x∈(F.L.filter λy:En=>!(y.lpn==e.lpn))++[({e with seq:=F.nx}:En)]:=hx;rcases List.mem_append.1 hx with hx | hx
  ·exact h.dat x (List.mem_filter.1 hx).1
  ·rw[U0]at hx;rw[hx];exact hd
 ·have hx:x∈(F.L.filter λy:En=>!(y.lpn==e.lpn))++[({e with seq:=F.nx}:En)]:=hx;rw[hlg];rcases List.mem_append.1 hx with hx | hx
  ·exact h.rng x (List.mem_filter.1 hx).1
  ·rw[U0]at hx;rw[hx];show 0<=e.lpn/\e.lpn<F.lg;omega
 ·show(((F.L.filter λy:En=>!(y.lpn==e.lpn))++[({e with seq:=F.nx}:En)]).map (·.lpn)).Nodup;rw[x7,V3];refine⟨List.Nodup.sublist ((List.filter_sublist (p:=λx:En=>!(x.lpn==e.lpn)) (l:=F.L)).map (·.lpn)) h.nd,by simp,λa ha b hb hab=>?_⟩;obtain⟨x,hx,rfl⟩:=List.mem_map.1 ha;simp at hb;have:=(List.mem_filter.1 hx).2;rw[hab,hb]at this;simp at this
theorem waits_keep (h:F.Ok (cW+(1+k)) m) {e:En} (hd:e.data.length=16):(F.waits e).1.Ok k m/\Kept F (F.waits e).1:=by
 unfold waits;split
 ·exact⟨h.ask.less (by omega), .ask _⟩
 split
 ·exact⟨h.ask.less (by omega), .ask _⟩
 rename_i hr;have hr:¬(e.lpn<0\/e.lpn>=F.lg):=hr;split
 ·have hw:=writes_keep h.ask;dsimp only;split
  ·exact⟨hw.1.less (by omega),⟨hw.2.1.like,hw.2.1.log⟩⟩
  ·refine⟨put_ok hw.1 hd ?_,⟨hw.2.1.like,hw.2.1.log⟩⟩;rw[lg_like (F:=F) (G:=F.ask.writes.1) hw.2.1.like];exact hr
 ·exact⟨put_ok (h.ask.less (by omega)) hd hr,⟨Nand.Like.refl _,rfl⟩⟩
theorem write_keep (h:F.Ok (cW+(1+k)) m) (i:Int) {d:List UInt8} (hd:d.length=16):(F.write i d).1.Ok k m/\Kept F (F.write i d).1:=waits_keep h hd
theorem trim_keep (h:F.Ok (cW+(1+k)) m) (i:Int):(F.trim i).1.Ok k m/\Kept F (F.trim i).1:=waits_keep h rfl
theorem tick_keep (h:F.Ok (Dv.costS+k) m):F.tick.1.Ok k m/\Kept F F.tick.1:=by
 unfold tick;split
 ·exact⟨h.ask.less (by omega), .ask _⟩
 ·have hs:=Dv.step_keep h.ask.dv 4;exact⟨h.ask.with_ hs.1 (by omega) hs.2.1 (List.Sublist.refl _),⟨hs.2.1,hs.2.2⟩⟩
theorem whole_keep (h:F.Ok k m):F.whole.1.Ok k m/\Kept F F.whole.1:=by
 unfold whole;split
 ·exact⟨h.ask, .ask _⟩
 ·exact⟨h.ask.with_ h.dv.seen (j7 _) (Nand.Like.refl _) (List.Sublist.refl _),⟨Nand.Like.refl _,rfl⟩⟩
theorem read_keep (h:F.Ok k m) (i:Int):(F.read i).1.Ok k m/\Kept F (F.read i).1:=by
 unfold read;split
 ·exact⟨h.ask, .ask _⟩
 split
 ·exact⟨h.ask, .ask _⟩
 ·exact⟨h.ask, .ask _⟩
theorem of_ok {S:Dv} (h:S.Ok k m) (hk:k<=1000000000000000):(Fv.of S).Ok k m:=⟨h,λ_ h=>(by cases h),λ_ h=>(by cases h),List.nodup_nil,by show(0:Int)<=0/\(0:Int)+(k:Int)<=_;omega⟩
end Fv
abbrev a1m (d:List UInt8):Value:= .agg (B1 d).toArray
theorem Fv.slot_bd {S:Dv} {k m:Nat} (hO:S.Ok k m) (i:Int):0<=((Tb.look S.T.at_ i).getD AtV.zero).slot/\((Tb.look S.T.at_ i).getD AtV.zero).slot<=1000:=by
 cases hl:Tb.look S.T.at_ i with
 | none=>show(0:Int)<=0/\(0:Int)<=1000;omega
 | some a=>exact hO.sl _ (Tb.look_mem hl)
theorem a4m (f p n t l d:Nat) (Z:Fv) (k m:Nat) (hO:Z.Ok k m) (i:Int):FP 41 [pp f,iI i] (FvP f p n t l d Z)
  (λv As=>v= .tuple #[a1m (Z.read i).2.1,iI (Z.read i).2.2]/\As=FvP f p n t l d (Z.read i).1):=by
 have hlen:=hO.len;have hN:=hO.dv.gd.ok;refine FE [2,0] Tryz.func41 λX F hX=>?_;refine J.q λbz=>?_;refine J.cb (a1Q f n t l p d Z) [1,3] ?_;refine cpq ⟨_,rfl,trivial,?_⟩;have hrd:Z.read i=(if Z.ask.off=true then(Z.ask,zeros16,9)else if i<0\/i>=Z.ask.lg then(Z.ask,zeros16,3)else(Z.ask,Z.ask.get i)):=rfl;obtain⟨Y,hY⟩:∃Y,Y=Z.ask:=⟨_,rfl⟩;have e1:Z.S=Y.S:=by rw[hY];rfl
 have e2:Z.L=Y.L:=by rw[hY];rfl
 rw[<- hY,e1,e2];rw[<- hY]at hrd;rw[e1]at hN;rw[e2]at hlen;cases ho:Y.off with
 | true=>
  rw[ho,d8 rfl]at hrd;refine J.qT λ_=>?_;refine J.qr [1,2,3,4,5,6] λ_=>?_;rw[hrd];exact⟨rfl,rfl⟩
 | false=>
  rw[ho,d7 s9]at hrd;refine J.qF λ_=>?_;refine J.q λ_=>?_;refine J.gcase hX rfl rfl rfl trivial (λhb=>?_) (λhb=>?_)
  ·have hi:decide (i<0)=false:=by simpa using hb
   rw[hi];refine J.qp (a3f f n t l p d Y hN) [1,3] λ_=>?_;simp only[c8]at hi;refine J.qd (λ_ h1=>?_) λ_ h1=>?_
   ·simp only[D1,a0F,c9]at h1;rw[d8 (.inr h1)]at hrd;refine J.qr [1,2,3,4,5,6] λ_=>?_;rw[hrd];exact⟨rfl,rfl⟩
   simp only[D1,a0F,c8]at h1;rw[d7 (by omega)]at hrd;refine J.qp (c1D d Y.L (by omega) i) [6] λ_=>?_;have hge:Y.get i=(if(a3u Y.L i).2=true then((a3u Y.L i).1.data,0)else match Tb.look Y.S.T.at_ i with
    | none=>(zeros16,0)
    | some a=>if a.role=2 then(zeros16,0)else if a.role=4 then(zeros16,10)else
     let x:=R.read Y.S.N a.block a.row a.slot a.mask
     if x.2≠0\/x.1.lpn≠i\/x.1.seq≠a.seq then(zeros16,10)else(x.1.data,0):List UInt8×Int):=rfl
   obtain⟨⟨we,wb⟩,hw⟩:∃w,w=a3u Y.L i:=⟨_,rfl⟩;rw[<- hw]at hge ⊢;dsimp only at hge ⊢;refine J.qd (λ_ h2=>?_) λ_ h2=>?_
   ·rw[d8 h2]at hge;refine J.qr [1,2,3,4,5,6] λ_=>?_;rw[hrd,hge];exact⟨rfl,rfl⟩
   rw[h2,d7 s9]at hge;refine J.qp (a2W l Y.S.T i) [5] λ_=>?_;obtain⟨a,ha⟩:∃a,a=(Tb.look Y.S.T.at_ i).getD AtV.zero:=⟨_,rfl⟩;obtain⟨is,his⟩:∃b,b=(Tb.look Y.S.T.at_ i).isSome:=⟨_,rfl⟩;have hslot:=Fv.slot_bd hO.dv i;rw[e1]at hslot;rw[<- ha]at hslot;rw[<- ha,<- his];cases is with
   | false=>
    cases hl:Tb.look Y.S.T.at_ i with
    | some x=>rw[hl]at his;cases his
    | none=>
     rw[hl]at hge;refine J.q λbd=>?_;refine J.cT ?_;refine J.qr [1,2,3,4,5,6] λ_=>?_;rw[hrd,hge];exact⟨rfl,rfl⟩
   | true=>
    cases hl:Tb.look Y.S.T.at_ i with
    | none=>rw[hl]at his;cases his
    | some x=>
     rw[hl]at ha hge;obtain rfl:a=x:=ha;dsimp only at hge;refine J.q λbd=>?_;refine J.cond rfl (λh3=>?_) (λh3=>?_)
     ·simp only[Z4,D1,m5]at h3;rw[d8 h3]at hge;refine J.qr [1,2,3,4,5,6] λ_=>?_;rw[hrd,hge];exact⟨rfl,rfl⟩
     simp only[Z4,D1,j9,D4]at h3;rw[d7 h3]at hge;refine J.qd (λ_ h4=>?_) λ_ h4=>?_
     ·simp only[m5]at h4;rw[d8 h4]at hge;refine J.qr [1,2,3,4,5,6] λ_=>?_;rw[hrd,hge];exact⟨rfl,rfl⟩
     simp only[j9,D4]at h4;rw[d7 h4]at hge;have hr:=hO.dv.gd.room;rw[e1]at hr;refine J.p (.take true 0 (.take true 1 (.take true 2 (.take false 3 (.take true 4 (.take false 5 (.take true 6 (.take false 7 (.alt false 8 ((.of [36,40,44,50,54,56])) (.alt false 12 ((.of [34,36,40,44,54,56])) .non)))))))))) [14] [1,2,3,4,5,6,7,8,9] λ_=>?_;obtain⟨⟨re,rx⟩,hre⟩:∃w,w=R.read Y.S.N a.block a.row a.slot a.mask:=⟨_,rfl⟩;rw[<- hre]at hge;dsimp only at hge;refine J.join (α:=Nat) (λx=>[si 12 rx,⟨11,pp x,10, .tt⟩,⟨9,pp (bd 0),9, .tt⟩,si 1 i,⟨4,pp (bz 0),8, .tt⟩]) (λx=>[.hp F,a4b f n t l p d Y,a2a p n t l Y.S,x6 n Y.S.N,TlA t Y.S.t,TbA l Y.S.T,a2x d Y.L, .pt (bz 0) 30 (B1 zeros16), .pt (bd 0) 151 [iI a.block,iI a.row,iI a.slot,iI a.mask,iI a.seq,iI a.role], .pt x 113 (enL re)]) (λhj=>?_) (λx=>?_)
     ·refine J.q λ_=>?_;refine J.alts ?_ ?_
      ·refine J.qp (b0l n Y.S.N hN hr a.block a.row a.slot a.mask (by omega) (by omega)) [3] λ_=>?_;rw[<- hre];refine J.qn 7 λbe=>?_;exact J.goto [0,1,2,3,4,5,6,7,9,10] (hj (be 0)) ⟨rfl,rfl,rfl,rfl,rfl,trivial⟩ rfl rfl
      ·refine J.qn 1 λbe=>?_;refine J.qp (b0l n Y.S.N hN hr a.block a.row a.slot a.mask (by omega) (by omega)) [3] λ_=>?_;rw[<- hre];refine J.qn 6 λ_=>?_;exact J.goto [0,1,2,3,4,5,6,7,9,10] (hj (be 0)) ⟨rfl,rfl,rfl,rfl,rfl,trivial⟩ rfl rfl
     refine J.qn 6 λ_=>?_;cases hx:(rx !=0)with
     | true=>
      have hx':rx≠0:=by simpa using hx
      rw[d8 (.inl hx')]at hge;refine J.qT λ_=>?_;refine J.qr [1,2,3,4,5,6] λ_=>?_;rw[hrd,hge];exact⟨rfl,rfl⟩
     | false=>
      have hx':rx=0:=by simpa using hx
      refine J.qn 6 λ_=>?_;cases hy:(re.lpn !=i)with
      | true=>
       have hy':re.lpn≠i:=by simpa using hy
       rw[d8 (.inr (.inl hy'))]at hge;refine J.qT λ_=>?_;refine J.qr [1,2,3,4,5,6] λ_=>?_;rw[hrd,hge];exact⟨rfl,rfl⟩
      | false=>
       have hy':re.lpn=i:=by simpa using hy
       refine J.qd (λ_ h5=>?_) λ_ h5=>?_
       ·have hz:re.seq≠a.seq:=by simpa using h5
        rw[d8 (.inr (.inr hz))]at hge;refine J.qr [1,2,3,4,5,6] λ_=>?_;rw[hrd,hge];exact⟨rfl,rfl⟩
       ·have hz:re.seq=a.seq:=by simpa using h5
        rw[d7 (by rw[hx',hy',hz];simp)]at hge;refine J.qr [1,2,3,4,5,6] λ_=>?_;rw[hrd,hge];exact⟨rfl,rfl⟩
  ·have hi:decide (i<0)=true:=by simpa using hb
   rw[hi];refine J.q λ_=>?_;refine J.v (.bool false) rfl rfl (λhg a w he hw=>by simp[G.on]at hg) ?_;simp only[c9]at hi;rw[d8 (.inl hi)]at hrd;refine J.qT λ_=>?_;refine J.qr [1,2,3,4,5,6] λ_=>?_;rw[hrd];exact⟨rfl,rfl⟩
theorem c1e (L:List En):dkN L (L.length:Int)=L.length:=by unfold dkN;omega
theorem b1b:∀(f:Nat) (S:Dv) (l:List En),(Dv.write f S l).2.1<=l.length
 | 0,S,l=>by show(0:Int)<=(l.length:Int);omega
 | f+1,S,l=>by
  rw[Dv.write_succ];have hf:=Dv.fit_le S.at1 l;split
  ·show(0:Int)<=(l.length:Int);omega
  split
  ·show(0:Int)<=(l.length:Int);omega
  split
  ·show(0:Int)<=(l.length:Int);omega
  split
  ·show(0:Int)<=(l.length:Int);omega
  split
  ·show(S.at1.fit l:Int)<=(l.length:Int);omega
  split
  ·show(0:Int)<=(l.length:Int);omega
  ·exact b1b f _ l
theorem a9D (f p n t l d:Nat) (Z:Fv) (k m:Nat) (hO:Z.Ok (Fv.cW+k) m) (hm:m<=1000):FP 101 [pp f] (FvP f p n t l d Z)
  (Ps (iI Z.writes.2) (FvP f p n t l d Z.writes.1)):=by
 have hlen:=hO.len;have hQ1:Z.S.Ok (Dv.costM+(8*Dv.fuel+k)) m:=hO.dv.less (by unfold Fv.cW;omega);have hr:=Dv.room_keep hQ1;have hw:Z.writes=(let r:=Z.S.room
  if r.2≠0 then({Z with S:=r.1}.told r.2,r.2)
  else
   let w:=r.1.pen Z.L
   ({Z with S:=w.1,L:=a1l Z.L (Z.L.take w.2.1.toNat)}.told w.2.2,w.2.2)):=rfl
 refine FE [2] Tryz.func101 λX F hX=>?_;refine J.p (.of [0,4,8,13,16,20,24,29,32,36,40,45,48,52,56,61,67,68]) [16,17] [1,6] λ_=>?_;refine J.qp (a4Z n t l p Z.S _ m hQ1 hm) [2,3,4,5] λ_=>?_;dsimp only at hw;generalize Z.S.room=W at hw hr ⊢;obtain⟨P,er⟩:=W;dsimp only at hw hr ⊢;rw[show a4b f n t l p d Z=a4b f n t l p d {Z with S:=P}from rfl];refine J.qd (λ_ h2=>?_) λ_ h2=>?_
 ·simp only[C2,D4]at h2;rw[d8 h2]at hw;refine J.qp (b0C f n t l p d {Z with S:=P} er) [1] λ_=>?_;refine J.qr [1,2,3,4,5,6] λ_=>?_;rw[hw];exact⟨rfl,rfl⟩
 simp only[p6]at h2;rw[d7 (by rw[h2];decide)]at hw;refine J.p (.of [0,4,8,13,16,20,24,29,34,38,40]) [10] [1,2,3,4,5,6] λ_=>?_;refine J.qp (b4B d Z.L) [6] λ_=>?_;refine J.qc (b4C d Z.L (by omega) Z.L.length) [6] λ_=>?_;rintro v As ⟨a,c,rfl,rfl⟩;refine⟨_,rfl,stq,?_⟩;rw[c1e,m7 (j7 _)];refine J.know (λh' s=>a0w (show a0E _ _ a Z.L.length c _ _ from s.get (i:=7) rfl)) λhcap=>?_;rw[a6T];have hpb:0<=(P.pen Z.L).2.1/\(P.pen Z.L).2.1<=7:=a4T _ _ _;have hple:=b1b Dv.fuel P Z.L;have hple:(P.pen Z.L).2.1<=Z.L.length:=hple;refine J.q λ_=>?_;refine J.ca hX (by kernel_rfl) (a3J p n t l P _ m hr.1 (l5 113 19 a Z.L.length c (p5 Z.L)) (oad a) Z.L.length c Z.L (R8 113 19 a Z.L.length c (p5 Z.L)) rfl (by omega) hO.dat) [2,3,4,5,7] 0 rfl rfl rfl rfl rfl rfl (λ_=>rfl) ?_;refine cpq ⟨_,rfl,trivial,?_⟩;generalize P.pen Z.L=W at hw hpb hple ⊢;obtain⟨Q,kk,er2⟩:=W;dsimp only at hw hpb hple ⊢;obtain⟨v,rfl⟩:=g7 hpb.1;rw[l6]at hw;have hvl:v<=Z.L.length:=by omega
 have hRd:Rd (l5 113 19 a Z.L.length c (p5 Z.L)) (oad a) 19 v (p5 (Z.L.take v)):=by
  have:=(R8 113 19 a Z.L.length c (p5 Z.L)).take v hvl
  rwa [a3i]at this
 refine J.pn 6 (.of [0,4,8,13,16,20,24,30]) [] [1,2,3,4,5] λ_ _=>?_;refine J.vT (.slice (oad a) v c) rfl rfl (λhg aa w he hC=>a3V tk rfl rfl rfl he rfl rfl rfl rfl (by omega)) ?_;refine J.qc (b9h d Z.L (by omega) (l5 113 19 a Z.L.length c (p5 Z.L)) (oad a) v c (Z.L.take v) hRd (by rw[l9];omega) (by omega)) [6,7] λ_=>?_;rintro v2 As ⟨rfl,rfl⟩;refine⟨_,rfl,stq,?_⟩;rw[show a4b f n t l p d {Z with S:=P}=a4b f n t l p d {Z with S:=Q,L:=a1l Z.L (Z.L.take v)}from rfl];refine J.qc (b0C f n t l p d {Z with S:=Q,L:=a1l Z.L (Z.L.take v)} er2) [1] λ_=>?_;rintro v2 As ⟨rfl,rfl⟩;refine⟨_,rfl,trivial,?_⟩;refine J.qr [1,2,3,4,5,6] λ_=>?_;rw[hw];exact⟨rfl,rfl⟩
theorem b2c (f p n t l d:Nat) (Z:Fv) (k m:Nat) (hO:Z.Ok (Fv.cW+(1+k)) m) (hm:m<=1000) (e:En) (hd:e.data.length=16):FP 99 [pp f,enV e] (FvP f p n t l d Z)
  (Ps (iI (Z.waits e).2) (FvP f p n t l d (Z.waits e).1)):=by
 have hwt:Z.waits e=(if Z.ask.off=true then(Z.ask,9)
  else if e.lpn<0\/e.lpn>=Z.ask.lg then(Z.ask,3)
  else if(Z.ask.L.length:Int)>=Z.ask.S.slots then
   let w:=Z.ask.writes
   if w.2≠0 then w else(w.1.put e,0)
  else(Z.ask.put e,0)):=rfl
 have hlen:=hO.len;refine FE [2,0] Tryz.func99 λX F hX=>?_;refine J.q λbz=>?_;refine J.cb (a1Q f n t l p d Z) [1,3] ?_;refine cpq ⟨_,rfl,trivial,?_⟩;have hOY:=hO.ask;obtain⟨Y,hY⟩:∃Y,Y=Z.ask:=⟨_,rfl⟩;have e1:Z.S=Y.S:=by rw[hY];rfl
 have e2:Z.L=Y.L:=by rw[hY];rfl
 rw[<- hY]at hwt hOY;rw[<- hY,e1,e2];rw[e2]at hlen;have hN:=hOY.dv.gd.ok;cases ho:Y.off with
 | true=>
  rw[ho,d8 rfl]at hwt;refine J.qT λ_=>?_;refine J.qr [1,2,3,4,5,6] λ_=>?_;rw[hwt];exact⟨rfl,rfl⟩
 | false=>
  rw[ho,d7 s9]at hwt;refine J.qF λ_=>?_;refine J.pq (.of [0,5,8,12,16,21,24,30,32,36]) [] [1,2,3,4,5,6,7] λ_ _=>?_;have hput:∀W:{W:Fv//Z.waits e=(W.put e,0)/\W.L.length<=200/\0<=W.nx/\W.nx<=4611686018427387904},Z.waits e=(W.1.put e,0):=λW=>W.2.1;refine J.gcase hX rfl rfl rfl stq (λhb=>?_) (λhb=>?_)
  ·have hi:decide (e.lpn<0)=false:=by simpa using hb
   rw[hi];refine J.qp (a3f f n t l p d Y hN) [1,3] λ_=>?_;simp only[c8]at hi;refine J.qd (λ_ h1=>?_) λ_ h1=>?_
   ·simp only[D1,a0F,c9]at h1;rw[d8 (.inr h1)]at hwt;refine J.qr [1,2,3,4,5,6] λ_=>?_;rw[hwt];exact⟨rfl,rfl⟩
   simp only[D1,a0F,c8]at h1;rw[d7 (by omega)]at hwt;have hbb:Y.S.t.b<=1000:=by have:=hOY.dv.t.b;have:=hN.bd16;omega
   refine J.p (.of [0,4,8,13,20,24,28,33,18,38,40]) [] [1,2,3,4,5,6,7] λ_=>?_;refine J.qp (b4B d Y.L) [6] λ_=>?_;refine J.qp (b1A p n t l Y.S hbb hOY.dv.t.len) [2,3,4,5] λ_=>?_;refine J.q λ_=>?_;refine J.join (α:={W:Fv//Z.waits e=(W.put e,0)/\W.L.length<=200/\0<=W.nx/\W.nx<=4611686018427387904}) (λ_=>[⟨0,pp f,2, .tt⟩,⟨3,pp (bz 0),8, .tt⟩]) (λW=>[.hp F,a4b f n t l p d W.1,a2a p n t l W.1.S,x6 n W.1.S.N,TlA t W.1.S.t,TbA l W.1.S.T,a2x d W.1.L, .pt (bz 0) 113 (enL e)]) (λhj=>?_) (λW=>?_)
   ·refine J.qd (λ_ h2=>?_) λ_ h2=>?_
    ·simp only[a0F,c9]at h2;rw[d8 h2]at hwt;have hkw:=Fv.writes_keep hOY;refine J.qp (a9D f p n t l d Y (1+k) m hOY hm) [1,2,3,4,5,6] λ_=>?_;dsimp only at hwt;generalize Y.writes=w at hwt hkw ⊢;obtain⟨V,er⟩:=w;dsimp only at hwt hkw ⊢;refine J.qd (λ_ h3=>?_) λ_ h3=>?_
     ·simp only[C2,D4]at h3;rw[d8 h3]at hwt;refine J.qr [1,2,3,4,5,6] λ_=>?_;rw[hwt];exact⟨rfl,rfl⟩
     ·simp only[p6]at h3;rw[d7 (by rw[h3];decide)]at hwt;have hnx:=hkw.1.nx;refine J.qn 1 λ_=>?_;exact J.goto [0,1,2,3,4,5,6,7] (hj ⟨V,hwt,hkw.1.len,by omega,by omega⟩) ⟨rfl,rfl,trivial⟩ rfl rfl
    ·simp only[a0F,c8]at h2;rw[d7 h2]at hwt;have hnx:=hOY.nx;refine J.qn 1 λ_=>?_;exact J.goto [0,1,2,3,4,5,6,7] (hj ⟨Y,hwt,hlen,by omega,by omega⟩) ⟨rfl,rfl,trivial⟩ rfl rfl
   obtain⟨W,hw1,hw2,hw3,hw4⟩:=W;dsimp only;refine J.p (.of [0,4,8,13,17,22]) [] [1,2,3,4,5,7] λ_=>?_;refine J.qp (b4A d W.L (by omega) {e with seq:=W.nx}) [6] λ_=>?_;refine J.qr [1,2,3,4,5,6] λ_=>?_;rw[hw1];exact⟨rfl,rfl⟩
  ·have hi:decide (e.lpn<0)=true:=by simpa using hb
   rw[hi];refine J.q λ_=>?_;refine J.vT (.bool false) rfl rfl (λhg a w he hC=>by simp[G.on]at hg) ?_;simp only[c9]at hi;rw[d8 (.inl hi)]at hwt;refine J.qT λ_=>?_;refine J.qr [1,2,3,4,5,6] λ_=>?_;rw[hwt];exact⟨rfl,rfl⟩
theorem a8e (f p n t l d:Nat) (Z:Fv) (k m:Nat) (hO:Z.Ok (Fv.cW+(1+k)) m) (hm:m<=1000) (i:Int) (x:List UInt8) (hx:x.length=16):FP 42 [pp f,iI i,a1m x] (FvP f p n t l d Z)
  (λv As=>v=iI (Z.write i x).2/\As=FvP f p n t l d (Z.write i x).1):=by
 refine FE [2,0,0] Tryz.func42 λX F hX=>?_;refine J.qp (b2c f p n t l d Z k m hO hm ⟨i,0,1,x⟩ hx) [1,2,3,4,5,6] λ_=>?_;exact J.qx [1,2,3,4,5,6]
theorem b4v (f p n t l d:Nat) (Z:Fv) (k m:Nat) (hO:Z.Ok (Fv.cW+(1+k)) m) (hm:m<=1000) (i:Int):FP 43 [pp f,iI i] (FvP f p n t l d Z)
  (λv As=>v=iI (Z.trim i).2/\As=FvP f p n t l d (Z.trim i).1):=by
 refine FE [2,0] Tryz.func43 λX F hX=>?_;refine J.qp (b2c f p n t l d Z k m hO hm ⟨i,0,2,zeros16⟩ rfl) [1,2,3,4,5,6] λ_=>?_;exact J.qx [1,2,3,4,5,6]
theorem b2e (f p n t l d:Nat) (Z:Fv) (k m:Nat) (hO:Z.Ok (Fv.cW*200+k) m) (hm:m<=1000):FP 45 [pp f] (FvP f p n t l d Z)
  (λv As=>v=iI Z.flush.2/\As=FvP f p n t l d Z.flush.1):=by
 have hfl:Z.flush=(if Z.ask.off=true then(Z.ask,9)else Fv.flushGo Z.ask.L.length Z.ask):=rfl;have hlen:=hO.len;refine FE [2] Tryz.func45 λX F hX=>?_;refine J.qp (a1Q f n t l p d Z) [1,3] λ_=>?_;have hOY:=hO.ask;obtain⟨Y,hY⟩:∃Y,Y=Z.ask:=⟨_,rfl⟩;have e1:Z.S=Y.S:=by rw[hY];rfl
 have e2:Z.L=Y.L:=by rw[hY];rfl
 rw[<- hY]at hfl hOY;rw[<- hY,e1,e2];rw[e2]at hlen;cases ho:Y.off with
 | true=>
  rw[ho,d8 rfl]at hfl;refine J.qT λ_=>?_;refine J.qr [1,2,3,4,5,6] λ_=>?_;rw[hfl];exact⟨rfl,rfl⟩
 | false=>
  rw[ho,d7 s9]at hfl;refine J.qF λ_=>?_;have hmul:Fv.cW*Y.L.length<=Fv.cW*200:=O8 _ hlen;refine J.q λ_=>?_;refine J.l (α:=(Nat×Fv)) (λz=>z.2.Ok (Fv.cW*z.1+k) m/\z.2.L.length<=z.1/\Fv.flushGo z.1 z.2=Z.flush) (λz=>[⟨0,pp f,2, .tt⟩]) [1,2,3,4,5,6] (λz=>FvP f p n t l d z.2) (λz=>z.1) ((Y.L.length,Y)) (⟨hOY.less (by dsimp only;omega),j7 _,hfl.symm⟩) λz hI=>?_;obtain⟨j,V⟩:=z;dsimp only at hI ⊢;obtain⟨hV,hj,hw⟩:=hI;refine J.qp (b4B d V.L) [6] λ_=>?_;refine J.qd (λ_ h1=>?_) λ_ h1=>?_
  ·simp only[gt_iff_lt,c9]at h1;have hL0:V.L.length≠0:=by omega
   obtain⟨j,rfl⟩:∃i,j=i+1:=⟨j-1,by omega⟩;rw[Fv.flushGo,d7 hL0]at hw;have hV1:V.Ok (Fv.cW+(Fv.cW*j+k)) m:=hV.less (by rw[W2];omega);have hkw:=Fv.writes_keep hV1;refine J.qp (a9D f p n t l d V _ m hV1 hm) [1,2,3,4,5,6] λ_=>?_;dsimp only at hw;generalize V.writes=w at hw hkw ⊢;obtain⟨U,er⟩:=w;dsimp only at hw hkw ⊢;refine J.qd (λ_ h2=>?_) λ_ h2=>?_
   ·simp only[C2,D4]at h2;rw[d8 h2]at hw;refine J.qr [1,2,3,4,5,6] λ_=>?_;rw[<- hw];exact⟨rfl,rfl⟩
   ·simp only[p6]at h2;rw[d7 (by rw[h2];decide)]at hw;have:=hkw.2.2.2 h2 hL0;refine J.q λ_=>?_;refine J.n ((j,U)) (⟨hkw.1,by dsimp only;omega,hw⟩) (by dsimp only;omega) [0,1,2,3,4,5,6]
  ·simp only[gt_iff_lt,c8]at h1;have hz:Fv.flushGo j V=(V,0):=by
    cases j with
    | zero=>rfl
    | succ j=>rw[Fv.flushGo,d8 (by omega)]
   refine J.qr [1,2,3,4,5,6] λ_=>?_;rw[<- hw,hz];exact⟨rfl,rfl⟩
theorem b4w (f p n t l d:Nat) (Z:Fv) (k m:Nat) (hO:Z.Ok (Dv.costS+k) m) (hm:m<=1000):FP 46 [pp f] (FvP f p n t l d Z)
  (λv As=>v=iI Z.tick.2/\As=FvP f p n t l d Z.tick.1):=by
 have htk:Z.tick=(if Z.ask.off=true then(Z.ask,9)else({Z.ask with S:=(Z.ask.S.step 4).1}.told (Z.ask.S.step 4).2.2,(Z.ask.S.step 4).2.2)):=rfl;refine FE [2] Tryz.func46 λX F hX=>?_;refine J.qp (a1Q f n t l p d Z) [1,3] λ_=>?_;have hOY:=hO.ask;obtain⟨Y,hY⟩:∃Y,Y=Z.ask:=⟨_,rfl⟩;have e1:Z.S=Y.S:=by rw[hY];rfl
 have e2:Z.L=Y.L:=by rw[hY];rfl
 rw[<- hY]at htk hOY;rw[<- hY,e1,e2];cases ho:Y.off with
 | true=>
  rw[ho,d8 rfl]at htk;refine J.qT λ_=>?_;refine J.qr [1,2,3,4,5,6] λ_=>?_;rw[htk];exact⟨rfl,rfl⟩
 | false=>
  rw[ho,d7 s9]at htk;refine J.qF λ_=>?_;refine J.p (.of [0,4,8,13,16,20,24,29,32,36,40,45,48,52,56,61,66,68,72,76,80,84]) [21] [1,6] λ_=>?_;refine J.qp (b4k n t l p Y.S _ m hOY.dv hm 4) [2,3,4,5] λ_=>?_;generalize Y.S.step 4=w at htk ⊢;obtain⟨V,nn,er⟩:=w;dsimp only at htk ⊢;rw[show a4b f n t l p d Y=a4b f n t l p d {Y with S:=V}from rfl];refine J.qp (b0C f n t l p d {Y with S:=V} er) [1] λ_=>?_;refine J.qr [1,2,3,4,5,6] λ_=>?_;rw[htk];exact⟨rfl,rfl⟩
theorem b8L (f p n t l d:Nat) (Z:Fv) (k m:Nat) (hO:Z.Ok k m):FP 47 [pp f] (FvP f p n t l d Z)
  (λv As=>v= .bool Z.whole.2/\As=FvP f p n t l d Z.whole.1):=by
 have hwh:Z.whole=(if Z.ask.off=true then(Z.ask,false)else({Z.ask with S:=Z.ask.S.seen},Z.ask.S.seen.leftN==0)):=rfl;refine FE [2] Tryz.func47 λX F hX=>?_;refine J.qp (a1Q f n t l p d Z) [1,3] λ_=>?_;have hOY:=hO.ask;obtain⟨Y,hY⟩:∃Y,Y=Z.ask:=⟨_,rfl⟩;have e1:Z.S=Y.S:=by rw[hY];rfl
 have e2:Z.L=Y.L:=by rw[hY];rfl
 rw[<- hY]at hwh hOY;rw[<- hY,e1,e2];have hbd:=hOY.dv.gd.ok.bd16;have htd:=hOY.dv.t.d;cases ho:Y.off with
 | true=>
  rw[ho,d8 rfl]at hwh;refine J.qT λ_=>?_;refine J.qr [1,2,3,4,5,6] λ_=>?_;rw[hwh];exact⟨rfl,rfl⟩
 | false=>
  rw[ho,d7 s9]at hwh;refine J.qF λ_=>?_;refine J.qp (a0H n Y.S.N) [3] λ_=>?_;refine J.q λ_=>?_;refine J.l (α:=(Nat×Tl)) (λz=>z.1<=Y.S.N.dies/\(List.range z.1).foldl (λt (d:Nat)=>if Y.S.N.deadAt d then t.die d else t) Y.S.t=z.2/\z.2.Fit Y.S.N) (λz=>[si 13 z.1,si 12 Y.S.N.dies,⟨0,pp f,2, .tt⟩]) [4] (λz=>[TlA t z.2]) (λz=>Y.S.N.dies-z.1) ((0,Y.S.t)) (⟨j4 _,rfl,hOY.dv.t⟩) λz hI=>?_;obtain⟨i,U⟩:=z;dsimp only at hI ⊢;obtain⟨hd,hfo,hU⟩:=hI;refine J.qd (λ_ h1=>?_) λ_ h1=>?_
  ·simp only[c9,g6]at h1;have hsu:(List.range (i+1)).foldl (λt (d:Nat)=>if Y.S.N.deadAt d then t.die d else t) Y.S.t=if Y.S.N.deadAt i then U.die i else U:=by rw[t6,z8,hfo];rfl
   refine J.qp (a7N n Y.S.N hOY.dv.gd.ok i) [3] λ_=>?_;refine J.qd (λ_ h2=>?_) λ_ h2=>?_
   ·rw[d8 h2]at hsu;refine J.qp (a4W t U i) [4] λ_=>?_;refine J.q λ_=>?_;refine J.n ((i+1,U.die i)) (⟨by dsimp only;omega,hsu,hU.die i⟩) (by dsimp only;omega) [0,1,2,3,4,5,6]
   ·rw[d7 (by rw[h2];decide)]at hsu;refine J.q λ_=>?_;refine J.n ((i+1,U)) (⟨by dsimp only;omega,hsu,hU⟩) (by dsimp only;omega) [0,1,2,3,4,5,6]
  simp only[c8,g6]at h1;obtain rfl:i=Y.S.N.dies:=by omega
  have hseen:Y.S.seen={Y.S with t:=U}:=by unfold Dv.seen Dv.seeDead;rw[htd,hfo]
  obtain⟨Q,hQ⟩:∃Q,Q=Y.S.seen:=⟨_,rfl⟩;have hQO:Q.Ok k m:=by rw[hQ];exact hOY.dv.seen
  have eT:Y.S.T=Q.T:=by rw[hQ];rfl
  have eU:U=Q.t:=by rw[hQ,hseen]
  rw[eT,eU];refine J.p (.of [0,4,8,13,16,20,24,29,34,36,40]) [10] [1,2,3,4,5,6] λ_=>?_;refine J.qp (b4l t l Q k m hQO) [4,5] λ_=>?_;refine J.qr [1,2,3,4,5,6] λ_=>?_;rw[hwh,<- hQ];refine⟨rfl,?_⟩;unfold FvP;dsimp only;rw[show a2a p n t l Y.S=a2a p n t l Q from by rw[hQ];rfl,show x6 n Y.S.N=x6 n Q.N from by rw[hQ];rfl];rfl
theorem Tl.seeDead_succ (N:Nand) (t:Tl) (i:Nat):(List.range (i+1)).foldl (λt (d:Nat)=>if N.deadAt d then t.die d else t) t=if N.deadAt i then((List.range i).foldl (λt (d:Nat)=>if N.deadAt d then t.die d else t) t).die i else(List.range i).foldl (λt (d:Nat)=>if N.deadAt d then t.die d else t) t:=by rw[t6,z8];rfl
theorem Tl.ofB_succ (N:Nand) (t:Tl) (b i:Nat):(List.range (i+1)).foldl (Tl.ofD N b) t=Tl.ofD N b ((List.range i).foldl (Tl.ofD N b) t) i:=by rw[t6,z8];rfl
theorem Tl.of_succ (N:Nand) (t:Tl) (i:Nat):(List.range (i+1)).foldl (Tl.ofB N) t=Tl.ofB N ((List.range i).foldl (Tl.ofB N) t) i:=by rw[t6,z8];rfl
theorem c3k (n:Nat) (N:Nand) (hN:N.Ok):FP 87 [pp n] [x6 n N] (λv As=>∃q,v=pp q/\As=[x6 n N,TlA q (Tl.of N)]):=by
 have hbd:=hN.bd16;refine FE [2] Tryz.func87 λX F hX=>?_;refine J.qp (a0H n N) [1] λ_=>?_;refine J.q λ_=>?_;refine J.ca hX (by kernel_rfl) (b2I N.dies N.blocks N.pages hN.geo) [] 3 rfl rfl rfl rfl rfl rfl (λ_=>rfl) ?_;rintro v As ⟨q,rfl,rfl⟩;refine⟨_,rfl,trivial,?_⟩;refine J.qF λ_=>?_;refine J.o (α:=Nat) 2 λg=>?_;refine J.q λ_=>?_;refine J.cl (λg:Nat=>TlP q (Tl.new N.dies N.blocks N.pages) g) (g) [2,3] ?_;refine J.q λ_=>?_;refine J.l (α:=(Nat×Tl)) (λz=>z.1<=N.dies/\(List.range z.1).foldl (λt (d:Nat)=>if N.deadAt d then t.die d else t) (Tl.new N.dies N.blocks N.pages)=z.2/\z.2.Fit N) (λz=>[si 17 z.1,si 16 N.dies,⟨0,pp n,2, .tt⟩,⟨3,pp q,3, .tt⟩]) [2] (λz=>[TlA q z.2]) (λz=>N.dies-z.1) ((0,Tl.new N.dies N.blocks N.pages)) (⟨j4 _,rfl,Tl.Fit.new N⟩) λz hI=>?_;obtain⟨i,U⟩:=z;dsimp only at hI ⊢;obtain⟨hd,hfo,hU⟩:=hI;refine J.qd (λ_ h1=>?_) λ_ h1=>?_
 ·simp only[c9,g6]at h1;have hsu:=Tl.seeDead_succ N (Tl.new N.dies N.blocks N.pages) i;rw[hfo]at hsu;refine J.qp (a7N n N hN i) [1] λ_=>?_;refine J.qd (λ_ h2=>?_) λ_ h2=>?_
  ·rw[d8 h2]at hsu;refine J.qp (a4W q U i) [2] λ_=>?_;refine J.q λ_=>?_;refine J.n ((i+1,U.die i)) (⟨by dsimp only;omega,hsu,hU.die i⟩) (by dsimp only;omega) [0,1,2,3]
  ·rw[d7 (by rw[h2];decide)]at hsu;refine J.q λ_=>?_;refine J.n ((i+1,U)) (⟨by dsimp only;omega,hsu,hU⟩) (by dsimp only;omega) [0,1,2,3]
 simp only[c8,g6]at h1;obtain rfl:i=N.dies:=by omega
 have hsee:U=Dv.seeDead N (Tl.new N.dies N.blocks N.pages):=hfo.symm;have hUb:=hU.b;refine J.o (α:=Nat) 2 λg2=>?_;refine J.q λ_=>?_;refine J.cl (λg:Nat=>TlP q U g) (g2) [2,4] ?_;rw[hUb];refine J.q λ_=>?_;refine J.l (α:=(Nat×Tl)) (λz=>z.1<=N.blocks/\(List.range z.1).foldl (Tl.ofB N) U=z.2/\z.2.Fit N) (λz=>[si 32 z.1,si 31 N.blocks,⟨0,pp n,2, .tt⟩,⟨3,pp q,3, .tt⟩]) [2] (λz=>[TlA q z.2]) (λz=>N.blocks-z.1) ((0,U)) (⟨j4 _,rfl,hU⟩) λz hI=>?_;obtain⟨b,T⟩:=z;dsimp only at hI ⊢;obtain⟨hb,hfb,hT⟩:=hI;refine J.qd (λ_ h3=>?_) λ_ h3=>?_
 ·simp only[c9,g6]at h3;have hsu:=Tl.of_succ N U b;rw[hfb]at hsu;have hTd:=hT.d;refine J.o (α:=Nat) 2 λg3=>?_;refine J.q λ_=>?_;refine J.cl (λg:Nat=>TlP q T g) (g3) [2,5] ?_;rw[hTd];refine J.q λ_=>?_;refine J.l (α:=(Nat×Tl)) (λz=>z.1<=N.dies/\(List.range z.1).foldl (Tl.ofD N b) T=z.2/\z.2.Fit N) (λz=>[si 40 z.1,si 39 N.dies,si 32 b,si 31 N.blocks,si 5 b,⟨0,pp n,2, .tt⟩,⟨3,pp q,3, .tt⟩]) [2] (λz=>[TlA q z.2]) (λz=>N.dies-z.1) ((0,T)) (⟨j4 _,rfl,hT⟩) λz hI=>?_;obtain⟨d,V⟩:=z;dsimp only at hI ⊢;obtain⟨hd,hfd,hV⟩:=hI;refine J.qd (λ_ h4=>?_) λ_ h4=>?_
  ·simp only[c9,g6]at h4;have hsd:=Tl.ofB_succ N T b d;rw[hfd]at hsd;have hVb:=hV.b;have hod:Tl.ofD N b V d=if(L.has ((V.wore b (N.wornAt d b)).mask b) d&&decide ((N.next d b:Int)>0))=true then(V.wore b (N.wornAt d b)).clean b false else V.wore b (N.wornAt d b):=rfl
   rw[hod]at hsd;have hW:=hV.wore b (N.wornAt d b);refine J.qp (b3d n N hN d b) [1] λ_=>?_;refine J.qp (a9Y q V (by omega) hV.len b (N.wornAt d b)) [2] λ_=>?_;obtain⟨Q,hQ⟩:∃Q,V.wore b (N.wornAt d b)=Q:=⟨_,rfl⟩;rw[hQ]at hsd hW ⊢;have hQb:=hW.b;refine J.qp (a2e q Q (by omega) hW.len b) [2] λ_=>?_;refine J.qp (a9u (Q.mask b) d) [] λ_=>?_;refine J.q λ_=>?_;refine J.gcase hX rfl rfl rfl trivial (λhb2=>?_) (λhb2=>?_)
   ·rw[hb2]at hsd ⊢;refine J.qp (b0o n N hN d b) [1] λ_=>?_;refine J.qd (λ_ h5=>?_) λ_ h5=>?_
    ·simp only[o0]at h5 hsd;rw[d8 h5]at hsd;refine J.qp (a7l q Q (by omega) hW.len b false) [2] λ_=>?_;refine J.q λ_=>?_;refine J.n ((d+1,Q.clean b false)) (⟨by dsimp only;omega,hsd,hW.clean b false⟩) (by dsimp only;omega) [0,1,2,3,4,5]
    ·simp only[o0]at h5 hsd;rw[d7 (by rw[h5];decide)]at hsd;refine J.q λ_=>?_;refine J.n ((d+1,Q)) (⟨by dsimp only;omega,hsd,hW⟩) (by dsimp only;omega) [0,1,2,3,4,5]
   ·rw[hb2]at hsd ⊢;rw[O0,d7 s9]at hsd;refine J.q λ_=>?_;refine J.v (.bool false) rfl rfl (λhg a w he hw=>by simp[G.on]at hg) ?_;refine J.qF λ_=>?_;refine J.q λ_=>?_;refine J.n ((d+1,Q)) (⟨by dsimp only;omega,hsd,hW⟩) (by dsimp only;omega) [0,1,2,3,4,5]
  simp only[c8,g6]at h4;obtain rfl:d=N.dies:=by omega
  have hsu2:(List.range (b+1)).foldl (Tl.ofB N) U=V:=by rw[hsu,<- hfd];rfl
  refine J.q λ_=>?_;refine J.n ((b+1,V)) (⟨by dsimp only;omega,hsu2,hV⟩) (by dsimp only;omega) [0,1,2,3,4]
 simp only[c8,g6]at h3;obtain rfl:b=N.blocks:=by omega
 have hof:T=Tl.of N:=by rw[<- hfb,hsee];rfl
 refine J.qr [1,2] λ_=>?_;exact⟨q,rfl,by rw[<- hof];rfl⟩
theorem b3N (q:Nat) (t:Tl) (hb:t.b<=1000) (hl:t.l.length=t.b) (k:Int) (on:Bool):FP 90 [pp q,iI k, .bool on] [TlA q t] (Ps (.tuple #[]) [TlA q (t.hold k on)]):=by
 refine FE [2,0,0] Tryz.func90 λX F hX=>?_;refine J.o (α:=Nat) 1 λg=>?_;refine J.qp (a6k q t hb g k) [1,2] λ_=>?_;cases hh:t.has k with
 | false=>
  rw[Tl.adr,hh,d7 (by simp)];refine J.qF λ_=>?_;refine J.q λ_=>?_;refine J.cl (λg:Nat=>TlP q t g) g [1,2] ?_;refine J.q λ_=>?_;refine J.f [1] ?_;exact⟨rfl,by rw[Tl.hold,Tl.set,hh];rfl⟩
 | true=>
  rw[Tl.adr,hh,d8 rfl];refine J.qT λ_=>?_;refine J.q λ_=>?_;refine J.s1 2 ((t.hold k on).l.flatMap sbL) ?_ ?_ ?_
  ·rw[t.len_l,hl];simp only[Tl.has,i9,c9]at hh;omega
  ·exact t.set_at hl hh 3 (by omega) _ _ rfl
  refine J.close (f:=λg:Nat=>TlP q (t.hold k on) g) g [1,2] rfl (by simp only[TlP,Tl.hold,Tl.set_d,Tl.set_b,Tl.set_p,Tl.set_dead];rfl) rfl ?_;refine J.q λ_=>?_;refine J.f [1] ?_;exact⟨rfl,rfl⟩
theorem a9B (t:Tl) (l:List Int) (on:Bool) {i:Nat} {x:Int} (h:l[i]? =some x):(l.take (i+1)).foldl (λt b=>t.hold b on) t=((l.take i).foldl (λt b=>t.hold b on) t).hold x on:=by
 rw[s6,h,y9,z8];rfl
theorem b4e (a:Option Nat):oad a=K4 (a.map λg=>(g,0)):=by cases a<;>rfl
theorem a1R (n:Nat) (N:Nand) (k m:Nat) (hG:N.Gd (Dv.costK+k) m) (hm:m<=1000) (hoff:N.off=false):FP 39 [pp n] [x6 n N]
  (λv As=>(M4 N).2=0/\(∃f p t l d,v= .tuple #[pp f,iI 0]/\As=FvP f p n t l d (Fv.of (M4 N).1))\/(M4 N).2≠0/\v= .tuple #[.pointer none,iI (M4 N).2]/\As=[x6 n (M4 N).1.N]):=by
 have hN:=hG.ok;have hbd:=hN.bd16;have hlg:=b0w N.dies N.blocks N.pages (by omega) (by omega);refine FE [2] Tryz.func39 λX F hX=>?_;refine J.qp (a0H n N) [1] λ_=>?_;refine J.qp (a4l N.dies N.blocks N.pages hN.geo) [] λ_=>?_;rw[hlg];refine J.qc (b2G n N hN hG.room hoff (lgN N.dies N.blocks N.pages)) [1] λ_=>?_;rintro v As ⟨q,a1,c1,a2,c2,rfl,rfl⟩;refine⟨_,rfl,trivial,?_⟩;obtain⟨en1,en2,en3,en4⟩:=b0c hN (lgN N.dies N.blocks N.pages);have h200:=a3d hN;obtain⟨tn1,tn2,tn3,tn4⟩:=a9f (N:=N) (m:=lgN N.dies N.blocks N.pages) (by omega);have hheld:=b5b hN (lgN N.dies N.blocks N.pages);have h0:=Dv.Ok.mt0 hG;have hmt:=b1I N;have e0:Dv.mt0 N=⟨N,Tl.of N,(V.scan N (lgN N.dies N.blocks N.pages)).tb,-1,0,0,max (V.scan N (lgN N.dies N.blocks N.pages)).next 1⟩:=rfl;obtain⟨sc,hsc⟩:∃sc,V.scan N (lgN N.dies N.blocks N.pages)=sc:=⟨_,rfl⟩;rw[hsc]at en1 en2 en3 en4 tn1 tn2 tn3 tn4 hheld hmt e0 ⊢;refine J.q λbs=>?_;refine J.cF ?_;refine J.know (λh' s=>a0w (show a0E _ _ a1 sc.torn.length c1 _ _ from s.get (i:=3) rfl)) λhcap1=>?_;refine J.know (λh' s=>a7J (show a0E _ _ a1 sc.torn.length c1 _ _ from s.get (i:=3) rfl)) λhnil1=>?_;refine J.know (λh' s=>a0w (show a0E _ _ a2 sc.held.length c2 _ _ from s.get (i:=4) rfl)) λhcap2=>?_;refine J.p (.of [0,4,12,17,10,22,24,31,32]) [6,7,8] [1,2,3,4,5] λ_=>?_;refine J.qc (c3k n N hN) [1] λ_=>?_;rintro v As ⟨t,rfl,rfl⟩;refine⟨_,rfl,stq,?_⟩;refine J.qc (c1C) [] λ_=>?_;rintro v As ⟨d,rfl,rfl⟩;refine⟨_,rfl,stq,?_⟩;refine J.q λbf=>?_;rw[a6T,b4e];refine J.p (.of [0,4,8,12,16,21,24,28,32,37,40,45,50,52,56,63]) [13,14,15] [1,2,3,4,5,6,7,8] λ_=>?_;refine J.qc (b7t n t q sc.next (by omega) N (Tl.of N) sc.tb) [] λ_=>?_;rintro v As ⟨p,rfl,rfl⟩;refine⟨_,rfl,stq,?_⟩;rw[<- e0];rw[show TlA t (Tl.of N)=TlA t (Dv.mt0 N).t from rfl,show x6 n N=x6 n (Dv.mt0 N).N from rfl,show TbA q sc.tb=TbA q (Dv.mt0 N).T from by rw[e0]];generalize Dv.mt0 N=S0 at h0 hmt ⊢;refine J.q λ_=>?_;refine J.l (α:=(Nat×Tl)) (λz=>z.1<=sc.held.length/\(sc.held.take z.1).foldl (λt b=>t.hold b true) S0.t=z.2/\z.2.Fit S0.N) (λz=>[si 52 z.1,si 51 sc.held.length,sv 50 (slv a2 sc.held.length c2),⟨0,pp n,2, .tt⟩,⟨4,pp (bs 0),6, .tt⟩,⟨6,pp (bf 0),9, .tt⟩]) [6] (λz=>[TlA t z.2]) (λz=>sc.held.length-z.1) ((0,S0.t)) (⟨j4 _,rfl,h0.t⟩) λz hI=>?_;obtain⟨i,U⟩:=z;dsimp only at hI ⊢;obtain⟨hi,hfo,hU⟩:=hI;have hUb:=hU.b;have hS0:=h0.gd.ok.bd16;refine J.qd (λ_ h1=>?_) λ_ h1=>?_
 ·simp only[c9,g6]at h1;obtain⟨x,hx⟩:∃x,sc.held[i]? =some x:=⟨_,d5 h1⟩;have hsu:=a9B S0.t sc.held true hx;rw[hfo]at hsu;refine J.know (λh' s=>u7 (c:=(a2,c2)) (by omega) (s.get (i:=4) rfl)) λhg=>?_;obtain⟨g,rfl⟩:=hg;refine J.q λ_=>?_;refine J.v (iI x) rfl rfl (λhg aa w he hw=>z7 tk rfl rfl he rfl rfl rfl (hw.get (i:=4) rfl) (by rw[show 0+(i:Int).toNat*1=i from by omega,n7,j6,hx];rfl)) ?_;refine J.qp (b3N t U (by omega) hU.len x true) [6] λ_=>?_;refine J.q λ_=>?_;refine J.n ((i+1,U.hold x true)) (⟨by dsimp only;omega,hsu,hU.hold x true⟩) (by dsimp only;omega) [0,1,2,3,4,5,6,7,8,9]
 simp only[c8,g6]at h1;obtain rfl:i=sc.held.length:=by omega
 rw[m7 (j7 _)]at hfo;have hA:S0.holds sc.held true={S0 with t:=U}:=by unfold Dv.holds;rw[hfo]
 have hAO:=h0.holds sc.held true;dsimp only at hmt;obtain⟨Q,hQ⟩:∃Q,Q=S0.holds sc.held true:=⟨_,rfl⟩;rw[<- hQ]at hAO hmt;rw[show x6 n S0.N=x6 n Q.N from by rw[hQ];rfl,show TbA q S0.T=TbA q Q.T from by rw[hQ];rfl,show TlA t U=TlA t Q.t from by rw[hQ,hA],show a2a p n t q S0=a2a p n t q Q from by rw[hQ];rfl];have hf200:sc.first<=200:=by rw[l9]at tn2;omega
 have hRdA:Rd (l5 113 19 a1 sc.torn.length c1 (p5 sc.torn)) (K4 (a1.map λg=>(g,0))) 19 sc.torn.length (p5 sc.torn):=by
  have:=R8 113 19 a1 sc.torn.length c1 (p5 sc.torn)
  rwa [b4e]at this
 have hRd1:Rd (l5 113 19 a1 sc.torn.length c1 (p5 sc.torn)) (K4 (a1.map λg=>(g,0))) 19 sc.first (p5 (sc.torn.take sc.first)):=by
  have:=hRdA.take sc.first tn1
  rwa [a3i]at this
 have hnil2:(a1.map λg=>(g,0))=none->c1=0:=λe=>hnil1 (by cases a1 with | none=>rfl | some g=>cases e);have hd1:∀s∈sc.torn.take sc.first,s.data.length=16:=λs hs=>en3 s (H9 hs);have hd2:∀s∈sc.torn.drop sc.first,s.data.length=16:=λs hs=>en3 s (a4v hs);have hct1:Dv.costT*sc.first<=Dv.costT*200:=O8 _ hf200;have hlt1:(sc.torn.take sc.first).length=sc.first:=by rw[l9];omega
 have hAO1:Q.Ok (Dv.costT*sc.first+(96+(Dv.costT*200+(Dv.costM+k)))) m:=hAO.less (by unfold Dv.costK;omega);have hka:=Dv.torn_keep (k:=96+(Dv.costT*200+(Dv.costM+k))) (c:=sc.first) hAO1 (by omega) hd1;refine J.pn 17 (.of [0,4,8,12,17,20,24,28,33,36,40,44,49,52,57,60,65,68,75,76]) [18,19] [5,8] λ_ _=>?_;refine J.vT (.slice (K4 (a1.map λg=>(g,0))) sc.first c1) rfl rfl (λhg aa w he hC=>a3V tk rfl rfl rfl he rfl rfl rfl rfl (by omega)) ?_;refine J.q λ_=>?_;refine J.ca hX (by kernel_rfl) (b0r n t q p Q _ m (l5 113 19 a1 sc.torn.length c1 (p5 sc.torn)) (a1.map λg=>(g,0)) sc.first c1 (sc.torn.take sc.first) hRd1 hlt1 (by omega) (by omega) hnil2 hd1 hAO1 hm) [9,1,6,2,3] 0 rfl rfl rfl rfl rfl rfl (λ_=>rfl) ?_;refine cpq ⟨_,rfl,stq,?_⟩;clear hAO hAO1;generalize Q.torn (sc.torn.take sc.first)=W at hmt hka ⊢;obtain⟨P,er⟩:=W;dsimp only at hmt hka ⊢;refine J.qd (λ_ h2=>?_) λ_ h2=>?_
 ·simp only[C2,D4]at h2;rw[d8 h2]at hmt;refine J.qr [1] λ_=>?_;rw[hmt];exact .inr ⟨h2,rfl,rfl⟩
 simp only[p6]at h2;rw[d7 (by rw[h2];decide)]at hmt;have hPO:=hka.1;clear hka hU hUb hfo hA hQ h0 e0;refine J.q λ_=>?_;refine J.l (α:=(Nat×Tl)) (λz=>z.1<=sc.held.length/\(sc.held.take z.1).foldl (λt b=>t.hold b false) P.t=z.2/\z.2.Fit P.N) (λz=>[si 88 z.1,si 87 sc.held.length,sv 86 (slv a2 sc.held.length c2),⟨0,pp n,2, .tt⟩,⟨4,pp (bs 0),6, .tt⟩,⟨6,pp (bf 0),9, .tt⟩]) [6] (λz=>[TlA t z.2]) (λz=>sc.held.length-z.1) ((0,P.t)) (⟨j4 _,rfl,hPO.t⟩) λz hI=>?_;obtain⟨i,U2⟩:=z;dsimp only at hI ⊢;obtain⟨hi2,hfo,hU⟩:=hI;have hUb:=hU.b;have hP0:=hPO.gd.ok.bd16;refine J.qd (λ_ h3=>?_) λ_ h3=>?_
 ·simp only[c9,g6]at h3;obtain⟨x,hx⟩:∃x,sc.held[i]? =some x:=⟨_,d5 h3⟩;have hsu:=a9B P.t sc.held false hx;rw[hfo]at hsu;refine J.know (λh' s=>u7 (c:=(a2,c2)) (by omega) (s.get (i:=4) rfl)) λhg=>?_;obtain⟨g,rfl⟩:=hg;refine J.q λ_=>?_;refine J.v (iI x) rfl rfl (λhg aa w he hw=>z7 tk rfl rfl he rfl rfl rfl (hw.get (i:=4) rfl) (by rw[show 0+(i:Int).toNat*1=i from by omega,n7,j6,hx];rfl)) ?_;refine J.qp (b3N t U2 (by omega) hU.len x false) [6] λ_=>?_;refine J.q λ_=>?_;refine J.n ((i+1,U2.hold x false)) (⟨by dsimp only;omega,hsu,hU.hold x false⟩) (by dsimp only;omega) [0,1,2,3,4,5,6,7,8,9]
 simp only[c8,g6]at h3;obtain rfl:i=sc.held.length:=by omega
 rw[m7 (j7 _)]at hfo;have hA:P.holds sc.held false={P with t:=U2}:=by unfold Dv.holds;rw[hfo]
 have hBO:=hPO.holds sc.held false;obtain⟨B,hB⟩:∃B,B=P.holds sc.held false:=⟨_,rfl⟩;rw[<- hB]at hBO hmt;rw[show x6 n P.N=x6 n B.N from by rw[hB];rfl,show TbA q P.T=TbA q B.T from by rw[hB];rfl,show TlA t U2=TlA t B.t from by rw[hB,hA],show a2a p n t q P=a2a p n t q B from by rw[hB];rfl];clear hPO hU hUb hfo hA hB;have hkb:=Dv.clear_keep hBO;have hcl:B.clear=({B with N:=(Dv.clearX B.N B.t B.T B.op).1,t:=(Dv.clearX B.N B.t B.T B.op).2.1},(Dv.clearX B.N B.t B.T B.op).2.2):=rfl;rw[hcl]at hmt hkb;dsimp only at hmt hkb;refine J.p (.of [0,4,8,12,17,20,24,28,33,36,40,44,49,54,58,60]) [15] [5,8] λ_=>?_;refine J.qp (a2X p n t q B) [9] λ_=>?_;refine J.qp (a5a n t q B.N B.t B.T _ m hBO.gd hm hBO.t B.op) [1,6,2] λ_=>?_;generalize Dv.clearX B.N B.t B.T B.op=W at hmt hkb ⊢;obtain⟨N1,t1,er1⟩:=W;dsimp only at hmt hkb ⊢;obtain⟨D,hD⟩:∃D:Dv,D={B with N:=N1,t:=t1}:=⟨_,rfl⟩;rw[<- hD]at hmt hkb;have hDO:=hkb.1;rw[show x6 n N1=x6 n D.N from by rw[hD],show TbA q B.T=TbA q D.T from by rw[hD],show TlA t t1=TlA t D.t from by rw[hD],show a2a p n t q B=a2a p n t q D from by rw[hD];rfl];clear hBO hkb hD hcl;refine J.qd (λ_ h4=>?_) λ_ h4=>?_
 ·simp only[C2,D4]at h4;rw[d8 h4]at hmt;refine J.qr [1] λ_=>?_;rw[hmt];exact .inr ⟨h4,rfl,rfl⟩
 simp only[p6]at h4;rw[d7 (by rw[h4];decide)]at hmt;have hlt2:(sc.torn.drop sc.first).length=sc.torn.length-sc.first:=x4;have hl200:(sc.torn.drop sc.first).length<=200:=by omega
 have hct2:Dv.costT*(sc.torn.drop sc.first).length<=Dv.costT*200:=O8 _ hl200;have hDO1:D.Ok (Dv.costT*(sc.torn.drop sc.first).length+(Dv.costM+k)) m:=hDO.less (by omega);have hkc:=Dv.torn_keep (k:=Dv.costM+k) (c:=(sc.torn.drop sc.first).length) hDO1 (j7 _) hd2;have hRd2:Rd (l5 113 19 a1 sc.torn.length c1 (p5 sc.torn)) (K4 (a1y (a1.map λg=>(g,0)) 19 sc.first c1)) 19 (sc.torn.drop sc.first).length (p5 (sc.torn.drop sc.first)):=λh s=>b3W (hRdA h s) rfl tn1 hcap1;refine J.pn 17 (.of [0,4,8,12,17,20,24,28,33,36,40,44,49,52,57,60,65,68,75,76]) [18,19] [5,8] λ_ _=>?_;refine J.vT (.slice (K4 (a1y (a1.map λg=>(g,0)) 19 sc.first c1)) (sc.torn.length-sc.first) (c1-sc.first)) rfl rfl (λhg aa w he hC=>a1T tk rfl rfl rfl he rfl rfl rfl rfl rfl tn1) ?_;rw[<- hlt2];refine J.q λ_=>?_;refine J.ca hX (by kernel_rfl) (b0r n t q p D _ m (l5 113 19 a1 sc.torn.length c1 (p5 sc.torn)) (a1y (a1.map λg=>(g,0)) 19 sc.first c1) (sc.torn.drop sc.first).length (c1-sc.first) (sc.torn.drop sc.first) hRd2 rfl (by omega) (by omega) (a4s hnil2) hd2 hDO1 hm) [9,1,6,2,3] 0 rfl rfl rfl rfl rfl rfl (λ_=>rfl) ?_;refine cpq ⟨_,rfl,stq,?_⟩;clear hDO hDO1;generalize D.torn (sc.torn.drop sc.first)=W at hmt hkc ⊢;obtain⟨P2,er2⟩:=W;dsimp only at hmt hkc ⊢;refine J.qd (λ_ h5=>?_) λ_ h5=>?_
 ·simp only[C2,D4]at h5;rw[d8 h5]at hmt;refine J.qr [1] λ_=>?_;rw[hmt];exact .inr ⟨h5,rfl,rfl⟩
 simp only[p6]at h5;rw[d7 (by rw[h5];decide)]at hmt;refine J.p (.of [0,4,8,12,17,20,24,28,33,36,40,44,49,55,56]) [13,14] [5,8] λ_=>?_;refine J.qp (a4Z n t q p P2 _ m hkc.1 hm) [9,1,6,2] λ_=>?_;generalize P2.room=W at hmt ⊢;obtain⟨P3,er3⟩:=W;dsimp only at hmt ⊢;refine J.qd (λ_ h6=>?_) λ_ h6=>?_
 ·simp only[C2,D4]at h6;refine J.qr [1] λ_=>?_;rw[hmt];exact .inr ⟨h6,rfl,rfl⟩
 simp only[p6]at h6;refine J.qr [8,9,1,6,2,7] λ_=>?_;rw[hmt];exact .inl ⟨h6,bf 0,p,t,q,d,rfl,rfl⟩
end Go.Proofs.YtpakpgkdpofbhaaGreat
