/- Helpers. No condition. -/
import Derived.Test.YtmafiplddapokaaGreatT19
import Derived.JoinedOf
set_option maxRecDepth 20000
set_option linter.all false
namespace Go.Proofs.YtmafiplddapokaaGreat
section
open Go Go.RowKit
theorem Fv.read_len {F:Fv} {k m:Nat} (h:F.Ok k m) (i:Int):(F.read i).2.1.length=16:=by
 have hN:=h.dv.gd.ok;unfold Fv.read;split
 ·rfl
 split
 ·rfl
 ·unfold Fv.get a2E;dsimp only;cases hf:F.ask.L.find? (λx=>x.lpn==i)with
  | some e=>
   rw[d7 rfl];exact h.dat e (List.mem_of_find?_eq_some hf)
  | none=>
   rw[d4 (by decide)];split
   ·rfl
   ·split
    ·rfl
    split
    ·rfl
    split
    ·rfl
    ·exact Go.Proofs.YtmafiplddapokaaGreat.read_len hN _ _ _ _
theorem Fv.read_ask (F:Fv) (i:Int):(F.read i).1=F.ask:=by
 unfold Fv.read;split
 ·rfl
 split<;>rfl
theorem Fq.seen {W:List (Int×En)} {lg:Nat} {F:Fv} (h:Fq W lg F):F.S.seen=F.S:=by
 unfold Dv.seen;rw[a7W h.cm.no.dead]
theorem Cm.hurt_none {W:List (Int×En)} {lg:Nat} {S:Dv} {k m:Nat} (h:Cm W lg S) (hO:S.Ok k m):S.hurts=[]:=by
 have hg:=hO.gd.ok.bd16;have htd:=hO.t.d;have htb:=hO.t.b;refine a3p _ λx hx=>?_;have hhas:S.t.has (x:Int)=true:=Tl.has_iff.2 (by omega);have hm:=(a2y (h.gi.inv.msk hO hhas).calm2 hg.1).1;have:a1i S.t S.T x=false:=by
  unfold a1i;rw[X1];intro i _;have hl:a8g S.t S.T x i=false:=by
   unfold a8g;rw[hm,htd];cases ha:Tb.look S.T.at_ i with
   | none=>exact b5G _ (by omega) hg.1.1
   | some a=>
    show(IntKind.i64.wrap ((BitVec.ofInt IntKind.i64.bits a.mask&&& _).toNat:Int) !=0)=false;rw[(a2y (h.gi.msk i a ha).calm2 hg.1).1];exact(b7T _ (by omega) hg.1.1).1
  rw[hl];exact l4
 rw[this,Bool.and_false]
theorem DevW.whole {D B P n:Nat} {F:Fv} {c:Nat->List UInt8} {K:Nat->List UInt8->Prop} (h:DevW D B P F n c K):F.whole=(F,true):=by
 obtain⟨W,hW,hc⟩:=h.fc;unfold Fv.whole;rw[hW.fi.ask,hW.fi.off,d4 l4,hW.seen];unfold Dv.leftN;rw[hW.cm.hurt_none h.ok.dv];rfl
namespace DevK
variable {D B P n : Nat} {K : Nat → List UInt8 → Prop} {Z : Fv} {c : Nat → List UInt8}
theorem ask (h:DevK D B P n c K Z):DevK D B P n c K Z.ask:=by
 refine⟨h.ok.ask,h.kc,?_⟩;rcases h.st with⟨F,h1,h2⟩ | h1
 ·left;refine⟨F,h1,?_⟩;rcases h2 with rfl | ⟨cc,kp,rfl⟩
  ·exact .inl (h1.asked 0 0).1
  ·exact .inr ⟨cc,kp,(h1.asked cc kp).2.2⟩
 ·exact .inr h1.ask
theorem tick (h:DevK D B P (n+2) c K Z):DevK D B P n c K Z.tick.1:=by
 have hU:UN*(n+2)=UN*n+UN*2:=a2P _ _ _;have hS:=c2w;have hk:=(Fv.tick_keep (k:=UN*n) (m:=0) (h.ok.less (by omega))).1;refine⟨hk,h.kc,?_⟩;rcases h.st with⟨F,h1,h2⟩ | h1
 ·obtain⟨W,hW,hc,hcK⟩:=h1.fc;have hnx:=h1.nx;have hle:=h1.le;have hkF:=(Fv.tick_keep (k:=UN*n) (m:=0) (h1.ok.less (by omega))).1;have hM:Dv.costM+UN*n<=UN*(n+2):=by unfold Dv.costS at hS;omega
  obtain⟨V,r1,r2,r3,r4,r5,r6,r7,r8⟩:=hW.room (k:=UN*n) (h1.ok.dv.less hM) (by omega);have hh:V.hurts=[]:=r2.hurt_none r4;have hV:=hW.kept r2 r3 r5 (by omega) hW.fi.wr (a3m _) F.nx;have he:F.tick=(⟨V,F.L,F.nx,false⟩,0):=by
   unfold Fv.tick Dv.step;rw[(h1.asked 0 0).1,(h1.asked 0 0).2.1,d4 l4,hW.seen,r1];dsimp only;rw[d4 (by decide),hh];unfold Fv.told;dsimp only;rw[(h1.asked 0 0).2.1];rfl
  rw[he]at hkF;have hF':DevW D B P ⟨V,F.L,F.nx,false⟩ n c K:=⟨⟨W,hV,hc,hcK⟩,hkF,by show V.next+_<=_;omega,r5.broken.trans h1.br,h1.like (G:=⟨V,F.L,F.nx,false⟩) r5.like,by omega⟩;rcases h2 with rfl | ⟨cc,kp,rfl⟩
  ·left;exact⟨_,hF', .inl (by rw[he])⟩
  ·have hsn:(F.S.armed cc kp).seen=F.S.armed cc kp:=by
    have:=congrArg Dv.t hW.seen;show({F.S.armed cc kp with t:=Dv.seeDead F.S.N F.S.t}:Dv)=_;have e:Dv.seeDead F.S.N F.S.t=F.S.t:=this;rw[e];rfl
   have ho:(F.armed cc kp).off=false:=(h1.asked 0 0).2.1;have htk:(F.armed cc kp).tick=(let s:=(if(F.S.armed cc kp).room.2≠0 then((F.S.armed cc kp).room.1,(0:Int),(F.S.armed cc kp).room.2)else match(F.S.armed cc kp).room.1.hurts with
     | []=>((F.S.armed cc kp).room.1,(0:Int),(0:Int))
     | b::_=>(F.S.armed cc kp).room.1.carry b 4);(({F.armed cc kp with S:=s.1}:Fv).told s.2.2,s.2.2)):=by
    unfold Fv.tick Dv.step;rw[(h1.asked cc kp).2.2,ho,d4 l4,show(F.armed cc kp).S.seen=F.S.armed cc kp from hsn];rfl
   rw[htk];rcases r8 cc kp (h.ok.dv.less hM)with⟨c',hc'⟩ | ⟨Z,X',z1,z2,z3⟩
   ·left;rw[hc'];dsimp only;rw[d4 (show¬(0:Int)≠0 by simp),show(V.armed c' kp).hurts=V.hurts from rfl,hh];dsimp only;refine⟨_,hF', .inr ⟨c',kp,?_⟩⟩;unfold Fv.told;show(⟨V.armed c' kp,F.L,F.nx,F.off||(0:Int)==9⟩:Fv)=⟨V.armed c' kp,F.L,F.nx,false⟩;rw[(h1.asked 0 0).2.1];rfl
   ·right;rw[z1];dsimp only;rw[d7 (show(9:Int)≠0 by decide)];exact⟨⟨F.S.N,_,h1.geo,h1.br,⟨W,X',z2,hW.fi.wr,z3,λi j hj hj2=>by subst hj;exact hcK j hj2⟩,by omega⟩,h1.cap,by omega⟩
 ·right;have:Z.tick=(Z.ask,9):=by unfold Fv.tick;rw[h1.asked,d7 rfl]
  rw[this];exact h1.ask.less (by omega)
end DevK
def b9c (_:Nat) (_:List UInt8):Prop:=True
structure WtK (D B P:Nat) (W:Wa) (Z:Fv) (n b:Nat):Prop where
 z:W.P.Z=some Z
 dev:∃c,DevK D B P n c b9c Z
 none:W.P.L=[]
 stuck:W.stuck=false
 len:W.M.length=lgN D B P
 fine:Mv.Fine W.M b
 log:W.P.log.length<=b
 b1:1<=b
namespace WtK
variable {D B P n b : Nat} {W : Wa} {Z : Fv}
theorem less (h:WtK D B P W Z n b) {k c:Nat} (hk:k<=n) (hc:b<=c):WtK D B P W Z k c:=by
 obtain⟨d,hD⟩:=h.dev;exact⟨h.z,⟨d,hD.less hk⟩,h.none,h.stuck,h.len,h.fine.more hc,by have:=h.log;omega,by have:=h.b1;omega⟩
theorem new (die:Int) (hD:3<=D/\D<=6) (hB:8<=B/\B<=16) (hP:2<=P/\P<=8) (hlg:1<=lgN D B P/\lgN D B P<=200/\2*lgN D B P<=(B-5)*(P*(D-2))+1) (hgm:L4 D B P=true):WtK D B P (Wa.new D B P die []) (Fv.of (Dv.new D B P (lgN D B P))) 200000 1:=by
 refine⟨?_,⟨_,(DevW.new hD hB hP hlg.2.1 hlg.2.2 hgm λ_ _=>trivial).devk λ_ _=>trivial⟩,rfl,rfl,?_,λv hv=>?_,j8 _,j3 _⟩
 ·show(if(O4 (Nand.new D B P)).2=0 then some (Fv.of (O4 (Nand.new D B P)).1)else Option.none)=_;rw[a9V (Dv.Ok.new D B P (lgN D B P) hgm 0 (by decide))];rfl
 ·show(Mv.new (lgN D B P)).length=_;unfold Mv.new;rw[L7];omega
 ·obtain rfl:v=Mv.page0:=List.eq_of_mem_replicate hv;exact⟨rfl,by decide,by decide,by decide,by decide⟩
theorem does (h:WtK D B P W Z (n+1400) b) {s:Stp} (h8:s.fn≠8) (hn: -1<=s.n/\s.n<=1048576) (hd:s.data.length=16):
  ∃Z' t,W.P.does s=({W.P with Z:=some Z'},t)/\(∃c,DevK D B P n c b9c Z')/\t.data.length=16/\(s.fn=7->t.err=0/\Z'.S.N.off=false/\(∃c,DevW D B P Z' n c b9c)/\Z'.L=[]):=by
 obtain⟨c,hD⟩:=h.dev;have hnd:W.P.nd=Z.S.N:=by unfold Pv.nd;rw[h.z]
 have hlg:=Fv.lg_bd (F:=Z) hD.ok.dv.gd.ok;rw[hD.lg]at hlg;unfold Pv.does
 by_cases h1:s.fn=1
 ·rw[d7 h1,h.z];dsimp only;exact⟨_,_,rfl,⟨c,by rw[Fv.read_ask];exact hD.ask.less (by omega)⟩,Fv.read_len hD.ok _,λh7=>by omega⟩
 rw[d4 h1]
 by_cases h2:s.fn=2
 ·rw[d7 h2,h.z];exact⟨_,_,rfl,⟨_,(hD.less (k:=n+1) (by omega)).write s.lpn hd (by omega) λ_ _ _=>trivial⟩,rfl,λh7=>by omega⟩
 rw[d4 h2]
 by_cases h3:s.fn=3
 ·rw[d7 h3,h.z];exact⟨_,_,rfl,⟨_,(hD.less (k:=n+1) (by omega)).trim s.lpn (by omega) λ_ _ _=>trivial⟩,rfl,λh7=>by omega⟩
 rw[d4 h3]
 by_cases h4:s.fn=4
 ·rw[d7 h4,h.z];exact⟨_,_,rfl,⟨_,(hD.less (k:=n+200) (by omega)).flush.1⟩,rfl,λh7=>by omega⟩
 rw[d4 h4]
 by_cases h5:s.fn=5
 ·rw[d7 h5,h.z];exact⟨_,_,rfl,⟨_,(hD.less (k:=n+2) (by omega)).tick⟩,rfl,λh7=>by omega⟩
 rw[d4 h5]
 by_cases h6:s.fn=6
 ·rw[d7 h6];have hs:W.P.setN (W.P.nd.setCut s.n s.keep)={W.P with Z:=some (Z.setN (Z.S.N.setCut s.n s.keep))}:=by
   unfold Pv.setN;rw[h.z,hnd]
  rw[hs];refine⟨_,_,rfl,⟨c,?_⟩,rfl,λh7=>by omega⟩;rcases Int.lt_or_le s.n 0 with e | e
  ·exact(hD.cut0 s.n s.keep ⟨e,by omega⟩).less (by omega)
  ·exact(hD.cut s.n s.keep ⟨e,by omega⟩).less (by omega)
 rw[d4 h6]
 by_cases h7:s.fn=7
 ·rw[d7 h7];obtain⟨_,w0,c',w,w2,_⟩:=(hD.less (k:=n+1000) (by omega)).again;have hcy:(if Z.S.N.off then Z.S.N else Z.S.N.setCut (-1) 0).onN=Z.S.N.cyc:=by
   unfold Nand.cyc;split
   ·rename_i ho;unfold Nand.setCut;rw[ho,d7 rfl]
   ·rfl
  have hm:W.P.mounts=({W.P with Z:=some (Fv.of (O4 Z.S.N.cyc).1)},0):=by
   unfold Pv.mounts;dsimp only;rw[hnd,hcy,d7 w0]
  rw[hm];exact⟨_,_,rfl,⟨c',w.devk w2⟩,rfl,λ_=>⟨rfl,w.off,⟨c',w⟩,rfl⟩⟩
 rw[d4 h7,d4 h8];refine⟨Z,⟨1,zd⟩,?_,⟨c,hD.less (by omega)⟩,rfl,λh=>absurd h h7⟩;rw[<- h.z]
theorem next (h:WtK D B P W Z (n+1400) b) {s:Stp} (h8:s.fn≠8) (hd:s.data.length=16) (hsk:Wa.skip s=false):
  ∃Z',(W.P.step s).1.Z=some Z'/\(s.fn=7->(W.P.step s).2.err=0/\Z'.S.N.off=false)/\(W.P.step s).2.data.length=16:=by
 unfold Wa.skip at hsk;rw[D5,c8,c8]at hsk;obtain⟨Z',t,e1,e2,e3,e4⟩:=h.does h8 (by omega) hd;have hst:W.P.step s=({W.P with Z:=some Z',log:=W.P.log++[t]},t):=by
  unfold Pv.step;rw[Pv.run_none h.z h.none,e1]
 rw[hst];exact⟨Z',rfl,λh7=>⟨(e4 h7).1,(e4 h7).2.1⟩,e3⟩
theorem step (h:WtK D B P W Z (n+1400) b) {s:Stp} (h8:s.fn≠8) (hd:s.data.length=16):∃Z',WtK D B P (W.step s) Z' n (b+1)/\(s.fn=7->Wa.skip s=false->∃c,DevW D B P Z' n c b9c):=by
 have hask:W.ask s=s:=by unfold Wa.ask;rw[d4 h8]
 have hb1:=h.b1;unfold Wa.step;rw[h.stuck,d4 l4,d4 h8];dsimp only
 by_cases hsk:Wa.skip s=true
 ·rw[d7 hsk];exact⟨Z,h.less (by omega) (by omega),λ_ e=>by rw[hsk]at e;cases e⟩
 have hsk:Wa.skip s=false:=by simpa using hsk
 have hsk2:=hsk;unfold Wa.skip at hsk2;rw[D5,c8,c8]at hsk2;obtain⟨Z',t,e1,e2,e3,e4⟩:=h.does h8 (by omega) hd;have hst:W.P.step s=({W.P with Z:=some Z',log:=W.P.log++[t]},t):=by
  unfold Pv.step;rw[Pv.run_none h.z h.none,e1]
 have hlog:(W.P.log++[t]).length<=b+1:=by rw[d8,L6];have:=h.log;omega
 rw[d4 (by rw[hsk];decide),hask,hst];dsimp only;have hM:=(Wa.hold_len W s t).trans h.len;have hF:=Wa.hold_fine h.fine hb1 hd e3
 by_cases h7:s.fn=7
 ·obtain⟨h0,ho,⟨c,hW⟩,hL⟩:=e4 h7;rw[d7 h7,d7 h0];refine⟨Z',⟨rfl,e2,h.none,?_,(Mv.cut_len _).trans hM,hF.cut,hlog,by omega⟩,λ_ _=>?_⟩
  ·dsimp only;rw[h0];rfl
  ·exact⟨c,hW⟩
 ·rw[d4 h7];exact⟨Z',⟨rfl,e2,h.none,h.stuck,hM,hF,hlog,by omega⟩,λe=>absurd e h7⟩
end WtK
theorem b1z:Fv.cW*200+(Dv.costS+(Dv.costK+(1+0)))<=UN*605:=by
 have h1:=a9e;have h2:=b3c;have h3:Dv.costS<=UN*2:=by
  have:Dv.costC<=Dv.costM:=by unfold Dv.costM Dv.costR;omega
  have:=b0C;unfold Dv.costS;omega
 have h4:=b9h;omega
theorem b5p (g0 g1 g2:Int) (A:Atom) (ad:Option Addr) (nl cl:Nat) (l:List Stp) (hA:Rd A ad 27 nl (l.flatMap stC)) (hl:l.length=nl) (hd:∀e∈l,e.data.length=16) (mo:Int):
  FP 4 [.agg #[iI g0,iI g1,iI g2], .slice ad nl cl,iI mo] [A] (Ps (.bool true) [A]):=by
 refine FE [0,0,0] Tryz.func4 λX F hX=>?_;refine J.qp (b5I) [] λ_=>?_;refine J.qF λ_=>?_;refine J.q λ_=>?_;refine J.turn1 [] rfl (As:=[l9 41 7 none 0 0 (A7 [])]) (λh s=>Sep.one ⟨rfl,rfl,rfl⟩) rfl ?_;refine J.qc (c1p g0 g1 g2 0 (l9 41 7 none 0 0 (A7 [])) none 0 0 [] (Y6 _ _ none _ _ _) rfl) [3] λ_=>?_;rintro v As ⟨D,B,P,U,Zl,rfl,hD,hB,hP,hA0,hM0,rfl⟩;have hgm:L4 D B P=true:=by simp[L4];omega
 have hgb:=b4H hD hB hP;have hW0:=WtK.new (P:=P) 0 hD hB hP hgb hgm;generalize Fv.of (Dv.new D B P (lgN D B P))=Z0 at hW0;generalize Wa.new D B P 0 []=W0 at hA0 hM0 hW0 ⊢;rw[Z4 hW0.z];refine⟨_,rfl,trivial,?_⟩;obtain⟨w,q,nn,A0,R,fa,fc⟩:=U;refine J.q λ_=>?_;refine J.l (α:=(Nat×Wa×Pad×List MSl×Fv)) (λz=>(z.1<=nl/\z.1<=50)/\z.2.2.1.Ok z.2.1.P/\z.2.2.2.1.map (·.v)=z.2.1.M/\WtK D B P z.2.1 z.2.2.2.2 (190000-1400*z.1) (z.1+1)) (λz=>[si 9 z.1,sp 8 w,sv 1 (.slice ad nl cl),si 2 mo]) [4,5,6,7,8,9,10,11,12,13,14,15,16,17,18,19,20,21,22] (λz=>(a9d ⟨w,q,nn,z.2.2.1,R,fa,fc⟩ z.2.1 z.2.2.2.1 z.2.2.2.2)) (λz=>50-z.1) ((0,W0,A0,Zl,Z0)) (⟨⟨j8 _,j8 _⟩,hA0,hM0,hW0.less (by omega) (by omega)⟩) λz hI=>?_;clear hA0 hM0 hW0;obtain⟨i,W,A1,Zl,Z⟩:=z;dsimp only at hI ⊢;obtain⟨⟨hi1,hi2⟩,hA1,hM1,hW1⟩:=hI;refine J.qd (λ_ h1=>?_) λ_ h1=>?_
 ·simp only[f8,d6,i6]at h1;obtain⟨h1,h2⟩:=h1;have h2:i<50:=by omega
  obtain⟨x,hx⟩:∃x,l[i]? =some x:=⟨_,c9 (by omega)⟩;have hxd:=hd x (j9 hx);refine J.know (p:=∃g o,ad=some ⟨g,o,none⟩) (λh' s=>Rd.addr (hA _ (s.get (i:=1) rfl)) (by omega)) λhk=>?_;obtain⟨gs,os,rfl⟩:=hk;refine J.q λ_=>?_;refine J.v (iI x.fn) rfl rfl (λhg a w he hw=>a7r tk rfl rfl he rfl rfl rfl (hA _ (hw.get (i:=1) rfl)) (by omega) (j:=i*27+0) (by omega) (a1U stC 27 (λ_=>rfl) hx 0 (by omega))) ?_;refine J.qd (λ_ h3=>?_) λ_ h3=>?_
  ·have h8:x.fn≠8:=by simpa using h3
   have hW2:=hW1.less (k:=(190000-1400*(i+1))+1400) (c:=i+1) (by omega) (j3 _);obtain⟨Z3,hW3,_⟩:=hW2.step h8 hxd;obtain⟨c,hDv⟩:=hW2.dev;have hml:Zl.length=lgN D B P:=by rw[<- hW1.len,<- hM1,j5]
   have hstep:=b1G ⟨w,q,nn,A1,R,fa,fc⟩ W Zl hA1 Z hW1.z 0 0 (hDv.ok.less (E9 b1z (y9 _ (by omega)))) (by rw[hW1.none];show 0+0<=1000;omega) (by rw[hW1.none];exact j8 _) (by have:=hW1.log;omega) x hxd hW1.stuck h8 (λhsk=>hW2.next h8 hxd hsk) hM1 (a4C hM1 λv hv=>by obtain⟨a1,a2,a3,a4,a5⟩:=hW1.fine v hv;exact⟨a1,a2,a3,by omega,by omega⟩) (by omega);rw[Z4 hW1.z]at hstep;refine J.q λ_=>?_;refine J.v (stV x) rfl rfl (λhg a w he hw=>a2x tk rfl rfl he rfl rfl rfl (hA _ (hw.get (i:=1) rfl)) (by omega) (j:=i*27) (by omega) (a2j stC 27 (λ_=>rfl) l i x hx) rfl) ?_;refine J.qc (hstep) [4,5,6,7,8,9,10,11,12,13,14,15,16,17,18,19,20,21,22] λ_=>?_;rintro _ As ⟨A2,Zl2,rfl,hA2,hM2,rfl⟩;rw[Z4 hW3.z];refine⟨_,rfl,trivial,?_⟩;refine J.q λ_=>?_;refine J.n ((i+1,W.step x,A2,Zl2,Z3)) (⟨⟨by dsimp only;omega,by dsimp only;omega⟩,hA2,hM2,hW3⟩) (by dsimp only;omega) [0,1,2,3,4,5,6,7,8,9,10,11,12,13,14,15,16,17,18,19,20,21,22]
  ·refine J.q λ_=>?_;refine J.n ((i+1,W,A1,Zl,Z)) (⟨⟨by dsimp only;omega,by dsimp only;omega⟩,hA1,hM1,hW1.less (by dsimp only;omega) (by dsimp only;omega)⟩) (by dsimp only;omega) [0,1,2,3,4,5,6,7,8,9,10,11,12,13,14,15,16,17,18,19,20,21,22]
 clear h1;have hW2:=hW1.less (k:=118000+1400) (c:=i+1) (by omega) (j3 _);obtain⟨Z3,hW3,hmt⟩:=hW2.step (s:=⟨7,0,zd,0,0,dF⟩) (by decide) rfl;obtain⟨c0,hDv⟩:=hW2.dev;obtain⟨c,hD0⟩:=hmt rfl rfl;have hml:Zl.length=lgN D B P:=by rw[<- hW1.len,<- hM1,j5]
 have hstep:=b1G ⟨w,q,nn,A1,R,fa,fc⟩ W Zl hA1 Z hW1.z 0 0 (hDv.ok.less (E9 b1z (y9 _ (by omega)))) (by rw[hW1.none];show 0+0<=1000;omega) (by rw[hW1.none];exact j8 _) (by have:=hW1.log;omega) ⟨7,0,zd,0,0,dF⟩ rfl hW1.stuck (by decide) (λhsk=>hW2.next (by decide) rfl hsk) hM1 (a4C hM1 λv hv=>by obtain⟨a1,a2,a3,a4,a5⟩:=hW1.fine v hv;exact⟨a1,a2,a3,by omega,by omega⟩) (by omega);rw[Z4 hW1.z]at hstep;refine J.qc (hstep) [4,5,6,7,8,9,10,11,12,13,14,15,16,17,18,19,20,21,22] λ_=>?_;rintro _ As ⟨A2,Zl2,rfl,hA2,hM2,rfl⟩;rw[Z4 hW3.z];refine⟨_,rfl,trivial,?_⟩;generalize W.step ⟨7,0,zd,0,0,dF⟩=W2 at hA2 hM2 hW3 ⊢;clear hmt hstep hW1 hW2 hDv hA1 hM1;have hml2:Zl2.length=lgN D B P:=by rw[<- hW3.len,<- hM2,j5]
 have hfl:∀(P:Pv) (Y:Fv),P.Z=some Y->P.L=[]->P.step flS=({P with Z:=some Y.flush.1,log:=P.log++[⟨Y.flush.2,zd⟩]},⟨Y.flush.2,zd⟩):=λP Y h1 h2=>by
  unfold Pv.step;rw[Pv.run_none h1 h2];unfold Pv.does;rw[d4 (by decide),d4 (by decide),d4 (by decide),d7 (by rfl),h1]
 have htk:∀{n:Nat} {Y:Fv},DevW D B P Y n c b9c->∀mo,Y.ticks mo=(Y,0):=λh mo=>by
  unfold Fv.ticks;cases a4M mo with
  | zero=>show(_,_)=_;rw[h.whole];rfl
  | succ k=>rw[Fv.ticksG_succ,h.whole];rfl
 have hcost:∀q:Nat,Fv.cW*200+(Dv.costS+(Dv.costK+(1+(Dv.costS*q+0))))<=UN*(605+2*q):=λq=>by
  have h1:=b1z;have h2:Dv.costS*q<=UN*2*q:=H9 _ c2w;have h3:UN*(605+2*q)=UN*605+UN*2*q:=by rw[a2P,a7E]
  omega
 obtain⟨_,e1,hF1,hFL1,_⟩:=(hD0.less (k:=100000+200) (by decide)).flush λ_ _=>trivial;obtain⟨_,e2,hF2,hFL2,_⟩:=(hF1.less (k:=90000+200) (by decide)).flush λ_ _=>trivial;obtain rfl:=congrArg Prod.fst e1;obtain rfl:=congrArg Prod.fst e2;clear e1 e2;have hlog:=hW3.log;have hoff0:=hD0.off;have hoff1:=hF1.off;have hr1:=b1t q nn A2 W2.P hA2 Z3 hW3.z 200 0 0 (hD0.ok.less (E9 (hcost (a4M 200)) (y9 _ (by decide)))) hoff0 (by rw[hW3.none];show 0+0<=1000;omega) (by rw[hW3.none];exact j8 _) (by omega) Z3.flush.1 (by rw[hfl _ _ hW3.z hW3.none]);rw[T5 q nn A2 W2.P Z3 hW3.z,htk hF1,hfl _ _ hW3.z hW3.none]at hr1;dsimp only at hr1;obtain⟨P3,hP3⟩:∃P3:Pv,P3=⟨W2.P.L,W2.P.log++[⟨Z3.flush.2,zd⟩],some Z3.flush.1,W2.P.M⟩:=⟨_,rfl⟩;have hz3:P3.Z=some Z3.flush.1:=by rw[hP3]
 have hL3:P3.L=[]:=by rw[hP3];exact hW3.none
 have hlog3:P3.log.length<=200:=by rw[hP3];show(W2.P.log++[_]).length<=200;rw[d8,L6];omega
 rw[<- hP3]at hr1;clear hP3;generalize Z3.flush.1=F1 at hF1 hFL1 hr1 hz3 hF2 hFL2 hoff1;dsimp only;refine J.q λ_=>?_;refine J.v (pp q) rfl rfl (λhg aa w he hw=>B6 tk rfl rfl he rfl rfl rfl (hw.get (i:=4) rfl) rfl) ?_;refine J.qc (hr1) [13,14,15,16,17,18,19,20,21,22] λ_=>?_;rintro _ As ⟨A3,rfl,hA3,rfl⟩;rw[T5 q nn A3 P3 F1 hz3];refine⟨_,rfl,trivial,?_⟩;have hr2:=b1t q nn A3 P3 hA3 F1 hz3 (-1) 0 0 (hF1.ok.less (E9 (hcost (a4M (-1))) (y9 _ (by decide)))) hoff1 (by rw[hL3];show 0+0<=1000;omega) (by rw[hL3];exact j8 _) (by omega) F1.flush.1 (by rw[hfl _ _ hz3 hL3]);rw[T5 q nn A3 P3 F1 hz3,htk hF2,hfl _ _ hz3 hL3]at hr2;dsimp only at hr2;obtain⟨P4,hP4⟩:∃P4:Pv,P4=⟨P3.L,P3.log++[⟨F1.flush.2,zd⟩],some F1.flush.1,P3.M⟩:=⟨_,rfl⟩;have hz4:P4.Z=some F1.flush.1:=by rw[hP4]
 rw[<- hP4]at hr2;clear hP4;generalize F1.flush.1=F2 at hF2 hFL2 hr2 hz4;refine J.q λ_=>?_;refine J.v (pp q) rfl rfl (λhg aa w he hw=>B6 tk rfl rfl he rfl rfl rfl (hw.get (i:=4) rfl) rfl) ?_;refine J.qc (hr2) [13,14,15,16,17,18,19,20,21,22] λ_=>?_;rintro _ As ⟨A4,rfl,hA4,rfl⟩;rw[T5 q nn A4 P4 F2 hz4];refine⟨_,rfl,trivial,?_⟩;refine J.qF λ_=>?_;refine J.q λ_=>?_;refine J.v (pp q) rfl rfl (λhg aa w he hw=>B6 tk rfl rfl he rfl rfl rfl (hw.get (i:=4) rfl) rfl) ?_;refine J.qc (a4U q nn (some F2) A4.f (pp A4.fp) (slv A4.a2 P4.log.length A4.c2)) [13] λ_=>?_;rintro _ As ⟨rfl,rfl⟩;refine⟨_,rfl,trivial,?_⟩;refine J.qc (b8U A4.f A4.p nn A4.t A4.l A4.d F2 _ 0 hF2.ok) [17,18,19,20,21,22] λ_=>?_;rintro _ As ⟨ga,ca,rfl,rfl⟩;rw[Fv.all_of hF2.lgF λ_ hi=>hF2.read hi];dsimp only;have hpgl:((List.range (lgN D B P)).map c).length=lgN D B P:=by rw[j5,K7]
 obtain⟨pg,hpg⟩:∃pg,(List.range (lgN D B P)).map c=pg:=⟨_,rfl⟩;rw[hpg]at hpgl ⊢;refine⟨_,rfl,trivial,?_⟩;refine J.q λ_=>?_;refine J.v (pp q) rfl rfl (λhg aa w he hw=>B6 tk rfl rfl he rfl rfl rfl (hw.get (i:=4) rfl) rfl) ?_;refine J.qc (a4U q nn (some F2) A4.f (pp A4.fp) (slv A4.a2 P4.log.length A4.c2)) [13] λ_=>?_;rintro _ As ⟨rfl,rfl⟩;refine⟨_,rfl,trivial,?_⟩;refine J.q λ_=>?_;refine J.ca hX (by kernel_rfl) (b2X A4.f A4.p nn A4.t A4.l A4.d F2 0 0 mo (hF2.ok.less (E9 (H9 _ c2w) (by rw[a7E];exact y9 _ (by unfold a4M;omega)))) (by decide)) [17,18,19,20,21,22] 0 rfl rfl rfl rfl rfl rfl (λ_=>rfl) ?_;rintro _ As ⟨rfl,rfl⟩;rw[htk hF2];dsimp only;refine⟨_,rfl,trivial,?_⟩;refine J.q λ_=>?_;refine J.v (pp R.q) rfl rfl (λhg aa w he hw=>B6 tk rfl rfl he hg rfl rfl (hw.get (i:=4) rfl) rfl) ?_;refine J.q λ_=>?_;refine J.v (.slice (some ⟨R.n,0,none⟩) Zl2.length Zl2.length) rfl rfl (λhg aa w he hw=>B6 tk rfl rfl he hg rfl rfl (hw.get (i:=6) rfl) rfl) ?_;refine J.qn 3 λ_=>?_;rw[hpgl,hml2,show((lgN D B P:Int)==(lgN D B P:Int))=true from beq_self_eq_true _];refine J.q λ_=>?_;refine J.v (pp q) rfl rfl (λhg aa w he hw=>B6 tk rfl rfl he hg rfl rfl (hw.get (i:=4) rfl) rfl) ?_;refine J.qc (a4U q nn (some F2) A4.f (pp A4.fp) (slv A4.a2 P4.log.length A4.c2)) [13] λ_=>?_;rintro _ As ⟨rfl,rfl⟩;refine⟨_,rfl,trivial,?_⟩;refine J.qc (b3K A4.f nn A4.t A4.l A4.p A4.d F2) [17,22] λ_=>?_;rintro _ As ⟨rfl,rfl⟩;refine⟨_,rfl,trivial,?_⟩;rw[show(F2.L.length:Int)=0 from by rw[hFL2];rfl];refine J.q λ_=>?_;refine J.v (pp q) rfl rfl (λhg aa w he hw=>B6 tk rfl rfl he hg rfl rfl (hw.get (i:=4) rfl) rfl) ?_;refine J.qc (a4U q nn (some F2) A4.f (pp A4.fp) (slv A4.a2 P4.log.length A4.c2)) [13] λ_=>?_;rintro _ As ⟨rfl,rfl⟩;refine⟨_,rfl,trivial,?_⟩;refine J.qc (b2F A4.f A4.p nn A4.t A4.l A4.d F2 _ 0 hF2.ok) [17,18,19,20,21,22] λ_=>?_;rintro _ As ⟨rfl,rfl⟩;rw[hF2.whole];refine⟨_,rfl,trivial,?_⟩;exact J.qx [1]
end
section
open Go Go.RowKit
open Go.ChangeShapes Go.WideShapes Go.ChangeAt
section
variable {H : Type} {enc : TypeId × Value → H} {w : World} {base : Nat} {spare : Nat → Bool} {held : Bool}
set_option maxRecDepth 100000 in
theorem c3a {fuel:Nat} {cs:List Value} {y:DataW H×List MemPlace} (h:DataW.trod enc Tryz.prog w base spare held fuel 41 cs=some y):∃x:Fl,cs=flC x:=by
 obtain⟨xs,n,_,_,hl,hlen,hf⟩:=DataW.trod_struct Tryz.underlying41 h;have hlen2:cs.length=7:=hl.trans (by kernel_rfl);have hx:xs.length=5:=hlen;have c1:Tryz.prog.cellsOf 3=1:=by kernel_rfl
 have c3:Tryz.prog.cellsOf 39=3:=by kernel_rfl
 match xs,hx with
 | [y0,y1,y2,y3,y4],_=>
  have h0:DataW.trod enc Tryz.prog w base spare held n 3 ((cs.drop 0).take (Tryz.prog.cellsOf 3))=some y0:=hf 0 _ rfl;have h1:DataW.trod enc Tryz.prog w base spare held n 3 ((cs.drop 1).take (Tryz.prog.cellsOf 3))=some y1:=hf 1 _ rfl;have h2:DataW.trod enc Tryz.prog w base spare held n 39 ((cs.drop 2).take (Tryz.prog.cellsOf 39))=some y2:=hf 2 _ rfl;have h3:DataW.trod enc Tryz.prog w base spare held n 3 ((cs.drop 5).take (Tryz.prog.cellsOf 3))=some y3:=hf 3 _ rfl;have h4:DataW.trod enc Tryz.prog w base spare held n 3 ((cs.drop 6).take (Tryz.prog.cellsOf 3))=some y4:=hf 4 _ rfl;rw[c1]at h0 h1 h3 h4;rw[c3]at h2;obtain⟨z0,z1,z2,m,_,_,g0,g1,g2⟩:=Deep.trod_struct3 Tryz.underlying39 h2;simp only[c1]at g0 g1 g2;obtain⟨n0,q0⟩:=a0p Tryz.underlying3 h0;obtain⟨n1,q1⟩:=a0p Tryz.underlying3 h1;obtain⟨n2,q2⟩:=a0p Tryz.underlying3 g0;obtain⟨n3,q3⟩:=a0p Tryz.underlying3 g1;obtain⟨n4,q4⟩:=a0p Tryz.underlying3 g2;obtain⟨n5,q5⟩:=a0p Tryz.underlying3 h3;obtain⟨n6,q6⟩:=a0p Tryz.underlying3 h4;refine⟨⟨n0,n1,n2,n3,n4,n5,n6⟩,?_⟩
  match cs,hlen2 with
  | [_,_,_,_,_,_,_],_=>
   simp at q0 q1 q2 q3 q4 q5 q6;subst q0 q1 q2 q3 q4 q5 q6;rfl
theorem c1X {n:Int} (h:(Lit.int .i64 n).wf=true): -9223372036854775808<=n/\n<=9223372036854775807:=by
 simp[Lit.wf,IntKind.min,IntKind.max,IntKind.bits,IntKind.signed]at h;omega
set_option maxRecDepth 100000 in
theorem b9K {fuel:Nat} {cs:List Value} {y:DataW H×List MemPlace} (h:DataW.trod enc Tryz.prog w base spare held fuel 53 cs=some y):∃x:Stp,(x.data.length=16/\ -9223372036854775808<=x.n/\x.n<=9223372036854775807)/\cs=stC x:=by
 obtain⟨xs,n,_,_,hl,hlen,hf⟩:=DataW.trod_struct Tryz.underlying53 h;have hlen2:cs.length=27:=hl.trans (by kernel_rfl);have hx:xs.length=6:=hlen;have c1:Tryz.prog.cellsOf 3=1:=by kernel_rfl
 have c16:Tryz.prog.cellsOf 36=16:=by kernel_rfl
 have c7:Tryz.prog.cellsOf 41=7:=by kernel_rfl
 match xs,hx with
 | [y0,y1,y2,y3,y4,y5],_=>
  have h0:DataW.trod enc Tryz.prog w base spare held n 3 ((cs.drop 0).take (Tryz.prog.cellsOf 3))=some y0:=hf 0 _ rfl;have h1:DataW.trod enc Tryz.prog w base spare held n 3 ((cs.drop 1).take (Tryz.prog.cellsOf 3))=some y1:=hf 1 _ rfl;have h2:DataW.trod enc Tryz.prog w base spare held n 36 ((cs.drop 2).take (Tryz.prog.cellsOf 36))=some y2:=hf 2 _ rfl;have h3:DataW.trod enc Tryz.prog w base spare held n 3 ((cs.drop 18).take (Tryz.prog.cellsOf 3))=some y3:=hf 3 _ rfl;have h4:DataW.trod enc Tryz.prog w base spare held n 3 ((cs.drop 19).take (Tryz.prog.cellsOf 3))=some y4:=hf 4 _ rfl;have h5:DataW.trod enc Tryz.prog w base spare held n 41 ((cs.drop 20).take (Tryz.prog.cellsOf 41))=some y5:=hf 5 _ rfl;rw[c1]at h0 h1 h3 h4;rw[c16]at h2;rw[c7]at h5;obtain⟨n0,q0⟩:=a0p Tryz.underlying3 h0;obtain⟨n1,q1⟩:=a0p Tryz.underlying3 h1;obtain⟨d,hd,q2⟩:=c0R h2;obtain⟨n3,q3,_,r3⟩:=DataW.trod_int Tryz.underlying3 h3;obtain⟨n4,q4⟩:=a0p Tryz.underlying3 h4;obtain⟨f,q5⟩:=c3a h5;refine⟨⟨n0,n1,d,n3,n4,f⟩,⟨hd,c1X r3⟩,?_⟩
  match cs,hlen2 with
  | [_,_,_,_,_,_,_,_,_,_,_,_,_,_,_,_,_,_,_,_,_,_,_,_,_,_,_],_=>
   simp at q0 q1 q3 q4;simp only[X8,a0b,a0C,a3l,H4]at q2;simp only[X8,a0b,a0C,a3l,flC]at q5;subst q0 q1 q3 q4;simp only[stC,U9]at q2 q5 ⊢;obtain⟨e0,e1,e2,e3,e4,e5,e6,e7,e8,e9,e10,e11,e12,e13,e14,e15,_⟩:=q2;obtain⟨u0,u1,u2,u3,u4,u5,u6,_⟩:=q5;exact⟨trivial,trivial,e0,e1,e2,e3,e4,e5,e6,e7,e8,e9,e10,e11,e12,e13,e14,e15,trivial,trivial,u0,u1,u2,u3,u4,u5,u6,trivial⟩
theorem c1z {fuel:Nat} {cs:List Value} {y:DataW H×List MemPlace} (h:DataW.trod enc Tryz.prog w base spare held fuel 53 cs=some y):∃x:Stp,x.data.length=16/\cs=stC x:=let⟨x,h1,h2⟩:=b9K h;⟨x,h1.1,h2⟩
theorem b5z {held':Bool} {fuel:Nat} {a:Option Addr} {len cap:Nat} {x:DataW H×List MemPlace} (h:DataW.trod enc Tryz.prog w base spare held' fuel 49 [.slice a len cap]=some x):
  ∃l:List Stp,l.length=len/\(∀e∈l,e.data.length=16)/\rdP a 27 len (l.flatMap stC) (hl w):=
 b5A stC (λx=>x.data.length=16) Tryz.underlying49 (by kernel_rfl) (by decide) (λh=>c1z h) h
end
end
section
open Go
theorem a0L {a b:Bool} (ha:a=true) (hb:b=true):(a&&b)=true:=by rw[ha,hb];rfl
theorem b5S {P:Program} {f:FuncId} {fn:Func} {s:ChangeSpec} {c:OpenClaim} (k0:(c.wf (OpenSpec.ofChange s))=true) (k1:(laidOutB P)=true) (k2:(mapsRowed P)=true) (k3:(fn.params.all (P.readableRec ·))=true) (k4:(namedTie P c.named s.vars)=true) (k5:(c.stops==[])=true) (k6:(P.stops==[])=true) (k7:(c.knobs==[])=true) (k8:(P.stopKnobs==[])=true) (k9:(c.inPlace==P.inPlace f)=true) (k10:(c.unfollowed==P.unfollowed f)=true) (k11:(c.recurses==P.recurses f)=true) (k12:(c.named==P.varsNamed f)=true) (k13:(c.maps==(fn.params.toList++s.plain.varTypes P).any (P.mapsRec ·))=true) (k14:(c.ifaces==(fn.params.toList++s.plain.varTypes P).any (P.ifacesRec ·))=true) (k15:(c.mapsOut==P.mapsAmong fn.resultTypes.toList)=true) (k16:(c.loops==(fn.params.toList++s.plain.varTypes P).any (P.loopsFrom ·))=true) (k17:(c.wideKeys==(fn.params.toList++s.plain.varTypes P++fn.resultTypes.toList).any (P.wideKeysFrom ·))=true) (k18:(s.vars.all (P.varReadable ·))=true) (k19:(fn.resultTypes.all (λt=>P.readableRec t&&decide (t<P.types.size)))=true) (k20:(c.ifacesOut==fn.resultTypes.toList.any (P.ifacesRec ·))=true) (k21:(c.loopsOut==fn.resultTypes.toList.any (P.loopsFrom ·))=true) (k22:(c.plainKeys==P.plainKeys)=true) (k23:(c.shortTexts.isNone)=true) (k24:(P.stopsHeard)=true) (k25:(P.mayEnter)=true) (k26:(c.lifted==P.liftsFinal)=true) (k27:(P.make==some c.make)=true) (k28a:c.domain.isEmpty=true) (k28:(c.kinds==[])=true) (k29:(c.pinned==c.pinnedBy)=true) (k30:(c.veiled==(fn.params.toList++s.plain.varTypes P++fn.resultTypes.toList).any (P.veiledRec ·))=true) (k31:(c.veiledFits P fn.params.toList (fn.params.toList++s.plain.varTypes P++fn.resultTypes.toList))=true):joinedFacts P f fn s c=true:=by
 unfold joinedFacts;rw[d7 k28a];exact(a0L (a0L (a0L (a0L (a0L (a0L (a0L (a0L (a0L (a0L (a0L (a0L (a0L (a0L (a0L (a0L (a0L (a0L (a0L (a0L (a0L (a0L (a0L (a0L (a0L (a0L (a0L (a0L (a0L (a0L (a0L k0 k1) k2) k3) k4) k5) k6) k7) k8) k9) k10) k11) k12) k13) k14) k15) k16) k17) k18) k19) k20) k21) k22) k23) k24) k25) k26) k27) k28) k29) k30) k31)
theorem b3H:laidOutB Tryz.prog=true:=by kernel_rfl
theorem c0t:mapsRowed Tryz.prog=true:=by kernel_rfl
theorem c0s:(Tryz.prog.stops==[])=true:=by kernel_rfl
theorem c0u:(Tryz.prog.stopKnobs==[])=true:=by kernel_rfl
theorem c0v:Tryz.prog.stopsHeard=true:=by kernel_rfl
theorem c0w:Tryz.prog.mayEnter=true:=by kernel_rfl
end
end Go.Proofs.YtmafiplddapokaaGreat
