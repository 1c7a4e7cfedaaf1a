/- Helpers. No condition. -/
import Derived.Test.YtpakpgkdpofbhaaGreatA00
import Derived.Test.YtpakpgkdpofbhaaGreatA04
import Derived.Test.YtpakpgkdpofbhaaGreatA12
import Derived.Test.YtpakpgkdpofbhaaGreatA14
import Derived.Test.YtpakpgkdpofbhaaGreatA18
import Derived.Test.YtpakpgkdpofbhaaGreatA21
set_option maxRecDepth 20000
set_option linter.all false
namespace Go.Proofs.YtpakpgkdpofbhaaGreat
open Go Go.RowKit
theorem b5u (g0 g1 g2:Int) (A:Atom) (ad:Option Addr) (nl cl:Nat) (l:List Stp) (hA:Rd A ad 27 nl (l.flatMap stC)) (hl:l.length=nl) (hd:∀e∈l,e.data.length=16) (tn:Int):
  FP 10 [.agg #[iI g0,iI g1,iI g2], .slice ad nl cl,iI tn] [A] (Ps (.bool true) [A]):=by
 refine FE [0,0,0] Tryz.func10 λX F hX=>?_;refine J.qp (b0i) [] λ_=>?_;refine J.qF λ_=>?_;refine J.q λ_=>?_;refine J.turn1 [] rfl (As:=[n9 57 7 none 0 0 (y8 [])]) (λh s=>Sep.one ⟨rfl,rfl,rfl⟩) rfl ?_;refine J.qc (c1x g0 g1 g2 0 (n9 57 7 none 0 0 (y8 [])) none 0 0 [] (X8 _ _ none _ _ _) rfl) [3] λ_=>?_;rintro v As ⟨D,B,P,U,Zl,rfl,hD,hB,hP,hA0,hM0,rfl⟩;have hgm:J9 D B P=true:=by simp[J9];omega
 have hgb:=b1j hD hB hP;have hW0:=Wt.new (P:=P) 0 hD hB hP hgb hgm;generalize Fv.of (Dv.new D B P (lgN D B P))=Z0 at hW0;generalize Wa.new D B P 0 []=W0 at hA0 hM0 hW0 ⊢;rw[a1Q hW0.z];refine⟨_,rfl,trivial,?_⟩;obtain⟨w,q,nn,A0,R,fa,fc⟩:=U;refine J.q λ_=>?_;refine J.l (α:=(Nat×Wa×Pad×List MSl×Fv)) (λz=>(z.1<=nl/\z.1<=50)/\z.2.2.1.Ok z.2.1.P/\z.2.2.2.1.map (·.v)=z.2.1.M/\Wt D B P z.2.1 z.2.2.2.2 (100000-605*z.1) (z.1+1)) (λz=>[si 9 z.1,sp 8 w,sv 1 (.slice ad nl cl),si 2 tn]) [4,5,6,7,8,9,10,11,12,13,14,15,16,17,18,19,20,21,22] (λz=>(a9g ⟨w,q,nn,z.2.2.1,R,fa,fc⟩ z.2.1 z.2.2.2.1 z.2.2.2.2)) (λz=>50-z.1) ((0,W0,A0,Zl,Z0)) (⟨⟨j7 _,j7 _⟩,hA0,hM0,hW0.less (by omega) (by omega)⟩) λz hI=>?_;clear hA0 hM0 hW0;obtain⟨i,W,A1,Zl,Z⟩:=z;dsimp only at hI ⊢;obtain⟨⟨hi1,hi2⟩,hA1,hM1,hW1⟩:=hI;refine J.qd (λ_ h1=>?_) λ_ h1=>?_
 ·simp only[i3,d7,i7]at h1;obtain⟨h1,h2⟩:=h1;have h2:i<50:=by omega
  obtain⟨x,hx⟩:∃x,l[i]? =some x:=⟨_,c9 (by omega)⟩;have hxd:=hd x (m6 hx);refine J.know (p:=∃g o,ad=some ⟨g,o,none⟩) (λh' s=>Rd.addr (hA _ (s.get (i:=1) rfl)) (by omega)) λhk=>?_;obtain⟨gs,os,rfl⟩:=hk;refine J.q λ_=>?_;refine J.v (iI x.fn) rfl rfl (λhg a w he hw=>a3p tk rfl rfl he rfl rfl rfl (hA _ (hw.get (i:=1) rfl)) (by omega) (j:=i*27+0) (by omega) (a1m stC 27 (λ_=>rfl) hx 0 (by omega))) ?_;refine J.q λ_=>?_;refine J.v (iI x.fn) rfl rfl (λhg a w he hw=>a3p tk rfl rfl he hg rfl rfl (hA _ (hw.get (i:=1) rfl)) (by omega) (j:=i*27+0) (by omega) (a1m stC 27 (λ_=>rfl) hx 0 (by omega))) ?_;refine J.qd (λ_ h3=>?_) λ_ h3=>?_
  ·have h3:x.fn≠8/\x.fn≠6:=by simpa using h3
   obtain⟨h8,h6⟩:=h3;have hW2:=hW1.less (k:=(100000-605*(i+1))+605) (c:=i+1) (by omega) (j6 _);obtain⟨Z2,p1,p2,p3,p4⟩:=hW2.pre h6 h8 hxd;obtain⟨Z3,hW3⟩:=hW2.step h6 h8 hxd;obtain⟨c,hDv⟩:=hW2.dev;have hml:Zl.length=lgN D B P:=by rw[<- hW1.len,<- hM1,j8]
   have hask:W.ask x=x:=by unfold Wa.ask;rw[f9 h8]
   have hstep:=b9y ⟨w,q,nn,A1,R,fa,fc⟩ W Zl hA1 Z Z2 hW1.z 0 0 (hDv.ok.less (D4 b5a (x7 _ (by omega)))) (by rw[hW1.none];show 0+0<=1000;omega) (by rw[hW1.none];exact j7 _) (by have:=hW1.log;omega) x hxd hW1.stuck (by rw[hW1.late];decide) hDv.off (by rw[hask];exact p1) p2 (by rw[hask];exact p3) (by rw[hask];exact p4) hM1 (a5E hM1 λv hv=>by obtain⟨a1,a2,a3,a4,a5⟩:=hW1.fine v hv;exact⟨a1,a2,a3,by omega,by omega⟩) (by omega);rw[a1Q hW1.z]at hstep;refine J.q λ_=>?_;refine J.v (stV x) rfl rfl (λhg a w he hw=>a2B tk rfl rfl he rfl rfl rfl (hA _ (hw.get (i:=1) rfl)) (by omega) (j:=i*27) (by omega) (a0z stC 27 (λ_=>rfl) l i x hx) rfl) ?_;refine J.qc (hstep) [4,5,6,7,8,9,10,11,12,13,14,15,16,17,18,19,20,21,22] λ_=>?_;rintro _ As ⟨A2,Zl2,rfl,hA2,hM2,rfl⟩;rw[a1Q hW3.z];refine⟨_,rfl,trivial,?_⟩;refine J.q λ_=>?_;refine J.n ((i+1,W.step x,A2,Zl2,Z3)) (⟨⟨by dsimp only;omega,by dsimp only;omega⟩,hA2,hM2,hW3⟩) (by dsimp only;omega) [0,1,2,3,4,5,6,7,8,9,10,11,12,13,14,15,16,17,18,19,20,21,22]
  ·refine J.q λ_=>?_;refine J.n ((i+1,W,A1,Zl,Z)) (⟨⟨by dsimp only;omega,by dsimp only;omega⟩,hA1,hM1,hW1.less (by dsimp only;omega) (by dsimp only;omega)⟩) (by dsimp only;omega) [0,1,2,3,4,5,6,7,8,9,10,11,12,13,14,15,16,17,18,19,20,21,22]
 clear h1;refine J.q λ_=>?_;refine J.v (pp q) rfl rfl (λhg aa w he hw=>B3 tk rfl rfl he rfl rfl rfl (hw.get (i:=4) rfl) rfl) ?_;refine J.qc (b1b q nn (some Z) A1.f (pp A1.fp) (slv A1.a2 W.P.log.length A1.c2)) [13] λ_=>?_;rintro _ As ⟨rfl,rfl⟩;refine⟨_,rfl,trivial,?_⟩;refine J.qF λ_=>?_;obtain⟨c,hD0⟩:=hW1.dev;have hD0:=hD0.less (k:=60000) (by omega);refine J.qc (b1C A1.f A1.p nn A1.t A1.l A1.d Z _ 0 hD0.ok) [17,18,19,20,21,22] λ_=>?_;rintro _ As ⟨ga,ca,rfl,rfl⟩;rw[hD0.all];dsimp only;obtain⟨pg,hpg⟩:∃pg,(List.range (lgN D B P)).map c=pg:=⟨_,rfl⟩;have hpn:pg.length<=200:=by rw[<- hpg,j8,K6];omega
 have hpl:∀x∈pg,x.length=16:=λx hx=>by
  rw[<- hpg]at hx;obtain⟨y,hy,rfl⟩:=List.mem_map.1 hx;exact hD0.c_len (List.mem_range.1 hy)
 rw[hpg];refine⟨_,rfl,trivial,?_⟩;have ht1:=a6G tn 8 (by omega);have ht2:=b6W tn 8 (by omega);refine J.q λ_=>?_;refine J.l (α:=(Nat×Fv)) (λz=>z.1<=8/\Dev D B P z.2 (60000-2*z.1) c) (λz=>[si 13 z.1,sp 10 A1.f,sv 11 (slv ga pg.length ca),si 12 0,si 2 tn]) [17,18,19,20,21,22] (λz=>(FvP A1.f A1.p nn A1.t A1.l A1.d z.2)) (λz=>8-z.1) ((0,Z)) (⟨j7 _,hD0⟩) λz hI=>?_;clear hD0 hW1;obtain⟨j,Z1⟩:=z;dsimp only at hI ⊢;obtain⟨hj8,hD1⟩:=hI;refine J.qd (λ_ h4=>?_) λ_ h4=>?_
 ·simp only[d7]at h4;have hj:j<8:=by omega
  have hD1:=hD1.less (k:=(60000-2*(j+1))+2) (by omega);obtain⟨k1,k2,_⟩:=hD1.tick;refine J.q λ_=>?_;refine J.ca hX (by kernel_rfl) (b1r A1.f A1.p nn A1.t A1.l A1.d Z1 0 0 (hD1.ok.less (D4 (show Dv.costS+0<=UN*605 by have:=b5a;omega) (x7 _ (by omega)))) (by decide)) [17,18,19,20,21,22] 0 rfl rfl rfl rfl rfl rfl (λ_=>rfl) ?_;rintro _ As ⟨rfl,rfl⟩;refine⟨_,rfl,trivial,?_⟩;rw[k1];refine J.qF λ_=>?_;refine J.q λ_=>?_;refine J.n ((j+1,Z1.tick.1)) (⟨by dsimp only;omega,k2⟩) (by dsimp only;omega) [0,1,2,3,4,5,6,7,8,9,10,11,12,13,14,15,16,17,18,19,20,21,22,23]
 clear h4;refine J.qc (b1C A1.f A1.p nn A1.t A1.l A1.d Z1 _ 0 hD1.ok) [17,18,19,20,21,22] λ_=>?_;rintro _ As ⟨gb,cb,rfl,rfl⟩;rw[hD1.all];dsimp only;rw[hpg];refine⟨_,rfl,trivial,?_⟩;refine J.q λ_=>?_;refine J.l (α:=Nat) (λi=>i<=pg.length) (λi=>[si 16 i,sp 10 A1.f,sv 11 (slv ga pg.length ca),si 12 0,sv 14 (slv gb pg.length cb),si 15 0]) [] (λi=>[]) (λi=>pg.length-i) (0) (j7 _) λi hI=>?_;refine J.qd (λ_ h5=>?_) λ_ h5=>?_
 ·simp only[i3,d7,i7]at h5;obtain⟨h5,_⟩:=h5;obtain⟨x,hx⟩:∃x,pg[i]? =some x:=⟨_,c9 (by omega)⟩;have hxl:=hpl x (m6 hx);refine J.know (λh' s=>C6 (c:=(ga,ca)) (by omega) (s.get (i:=23) rfl)) λhg=>?_;obtain⟨g1,rfl⟩:=hg;refine J.know (λh' s=>C6 (c:=(gb,cb)) (by omega) (s.get (i:=24) rfl)) λhg=>?_;obtain⟨g2,rfl⟩:=hg;refine J.pn 3 (.of [0,4,8,13,16,20,24,29,32]) [] [23,24] λ_ _=>?_;refine J.vT (a3C x) rfl rfl (λhg aa w he hC=>J4 tk rfl rfl he rfl rfl rfl (hC rfl _ (B1 (i:=23) rfl)) (by rw[show 0+(i:Int).toNat*16=i*16 from by omega];exact a0z D2 16 (λ_=>rfl) pg i x hx) rfl) ?_;refine J.qn 3 λ_=>?_;refine J.vT (a3C x) rfl rfl (λhg aa w he hC=>J4 tk rfl rfl he rfl rfl rfl (hC rfl _ (B1 (i:=24) rfl)) (by rw[show 0+(i:Int).toNat*16=i*16 from by omega];exact a0z D2 16 (λ_=>rfl) pg i x hx) rfl) ?_;refine J.vT (.bool false) rfl rfl (λhg aa w he hC=>(a0o (xs:=D2 x) (ys:=D2 x) rfl rfl rfl he rfl rfl W6 (T6 _) (T6 _) mkD gdD).trans (by rw[eqD _ _ hxl hxl,j3 rfl];rfl)) ?_;refine J.qF λ_=>?_;refine J.q λ_=>?_;refine J.n (i+1) (by omega) (by omega) [0,1,2,3,4,5,6,7,8,9,10,11,12,13,14,15,16,17,18,19,20,21,22,23,24]
 clear h5;refine J.r hX tk 400 (λ_=>rfl) (λ_=>?_) (λ_=>by(repeat' (first | exact Conj.nil | refine Conj.cons ?_ ?_ | exact rfl | assumption | (rw[i6];assumption) | exact Bool.and_eq_true_iff.2 ⟨by first | assumption | (rw[i6];assumption),by assumption⟩ | intro hq | (simp;done) | (simp;omega) | decide)));rw[show((pg.length:Int)==(pg.length:Int))=true from beq_self_eq_true _];refine J.qc (b2M A1.f A1.p nn A1.t A1.l A1.d Z1 _ 0 hD1.ok) [17,18,19,20,21,22] λ_=>?_;rintro _ As ⟨rfl,rfl⟩;rw[hD1.whole];refine⟨_,rfl,trivial,?_⟩;refine J.qr [1] λ_=>?_;exact⟨by simp,rfl⟩
end Go.Proofs.YtpakpgkdpofbhaaGreat
namespace Go.Proofs.YtpakpgkdpofbhaaGreat
open Go Go.RowKit
open Go.ChangeShapes Go.WideShapes Go.ChangeAt
section
variable {H : Type} {enc : TypeId × Value → H} {w : World} {base : Nat} {spare : Nat → Bool} {held : Bool}
set_option maxRecDepth 100000 in
theorem c3e {fuel:Nat} {cs:List Value} {y:DataW H×List MemPlace} (h:DataW.trod enc Tryz.prog w base spare held fuel 57 cs=some y):∃x:Fl,cs=flC x:=by
 obtain⟨xs,n,_,_,hl,hlen,hf⟩:=DataW.trod_struct Tryz.underlying57 h;have hlen2:cs.length=7:=hl.trans (by kernel_rfl);have hx:xs.length=5:=hlen;have c1:Tryz.prog.cellsOf 3=1:=by kernel_rfl
 have c3:Tryz.prog.cellsOf 55=3:=by kernel_rfl
 match xs,hx with
 | [y0,y1,y2,y3,y4],_=>
  have h0:DataW.trod enc Tryz.prog w base spare held n 3 ((cs.drop 0).take (Tryz.prog.cellsOf 3))=some y0:=hf 0 _ rfl;have h1:DataW.trod enc Tryz.prog w base spare held n 3 ((cs.drop 1).take (Tryz.prog.cellsOf 3))=some y1:=hf 1 _ rfl;have h2:DataW.trod enc Tryz.prog w base spare held n 55 ((cs.drop 2).take (Tryz.prog.cellsOf 55))=some y2:=hf 2 _ rfl;have h3:DataW.trod enc Tryz.prog w base spare held n 3 ((cs.drop 5).take (Tryz.prog.cellsOf 3))=some y3:=hf 3 _ rfl;have h4:DataW.trod enc Tryz.prog w base spare held n 3 ((cs.drop 6).take (Tryz.prog.cellsOf 3))=some y4:=hf 4 _ rfl;rw[c1]at h0 h1 h3 h4;rw[c3]at h2;obtain⟨z0,z1,z2,m,_,_,g0,g1,g2⟩:=Deep.trod_struct3 Tryz.underlying55 h2;simp only[c1]at g0 g1 g2;obtain⟨n0,q0⟩:=M4 Tryz.underlying3 h0;obtain⟨n1,q1⟩:=M4 Tryz.underlying3 h1;obtain⟨n2,q2⟩:=M4 Tryz.underlying3 g0;obtain⟨n3,q3⟩:=M4 Tryz.underlying3 g1;obtain⟨n4,q4⟩:=M4 Tryz.underlying3 g2;obtain⟨n5,q5⟩:=M4 Tryz.underlying3 h3;obtain⟨n6,q6⟩:=M4 Tryz.underlying3 h4;refine⟨⟨n0,n1,n2,n3,n4,n5,n6⟩,?_⟩
  match cs,hlen2 with
  | [_,_,_,_,_,_,_],_=>
   simp at q0 q1 q2 q3 q4 q5 q6;subst q0 q1 q2 q3 q4 q5 q6;rfl
theorem c2f {n:Int} (h:(Lit.int .i64 n).wf=true): -9223372036854775808<=n/\n<=9223372036854775807:=by
 simp[Lit.wf,IntKind.min,IntKind.max,IntKind.bits,IntKind.signed]at h;omega
set_option maxRecDepth 100000 in
theorem b9V {fuel:Nat} {cs:List Value} {y:DataW H×List MemPlace} (h:DataW.trod enc Tryz.prog w base spare held fuel 64 cs=some y):∃x:Stp,(x.data.length=16/\ -9223372036854775808<=x.n/\x.n<=9223372036854775807)/\cs=stC x:=by
 obtain⟨xs,n,_,_,hl,hlen,hf⟩:=DataW.trod_struct Tryz.underlying64 h;have hlen2:cs.length=27:=hl.trans (by kernel_rfl);have hx:xs.length=6:=hlen;have c1:Tryz.prog.cellsOf 3=1:=by kernel_rfl
 have c16:Tryz.prog.cellsOf 30=16:=by kernel_rfl
 have c7:Tryz.prog.cellsOf 57=7:=by kernel_rfl
 match xs,hx with
 | [y0,y1,y2,y3,y4,y5],_=>
  have h0:DataW.trod enc Tryz.prog w base spare held n 3 ((cs.drop 0).take (Tryz.prog.cellsOf 3))=some y0:=hf 0 _ rfl;have h1:DataW.trod enc Tryz.prog w base spare held n 3 ((cs.drop 1).take (Tryz.prog.cellsOf 3))=some y1:=hf 1 _ rfl;have h2:DataW.trod enc Tryz.prog w base spare held n 30 ((cs.drop 2).take (Tryz.prog.cellsOf 30))=some y2:=hf 2 _ rfl;have h3:DataW.trod enc Tryz.prog w base spare held n 3 ((cs.drop 18).take (Tryz.prog.cellsOf 3))=some y3:=hf 3 _ rfl;have h4:DataW.trod enc Tryz.prog w base spare held n 3 ((cs.drop 19).take (Tryz.prog.cellsOf 3))=some y4:=hf 4 _ rfl;have h5:DataW.trod enc Tryz.prog w base spare held n 57 ((cs.drop 20).take (Tryz.prog.cellsOf 57))=some y5:=hf 5 _ rfl;rw[c1]at h0 h1 h3 h4;rw[c16]at h2;rw[c7]at h5;obtain⟨n0,q0⟩:=M4 Tryz.underlying3 h0;obtain⟨n1,q1⟩:=M4 Tryz.underlying3 h1;obtain⟨d,hd,q2⟩:=c0Y h2;obtain⟨n3,q3,_,r3⟩:=DataW.trod_int Tryz.underlying3 h3;obtain⟨n4,q4⟩:=M4 Tryz.underlying3 h4;obtain⟨f,q5⟩:=c3e h5;refine⟨⟨n0,n1,d,n3,n4,f⟩,⟨hd,c2f r3⟩,?_⟩
  match cs,hlen2 with
  | [_,_,_,_,_,_,_,_,_,_,_,_,_,_,_,_,_,_,_,_,_,_,_,_,_,_,_],_=>
   simp at q0 q1 q3 q4;simp only[X3,Z7,a0B,a3k,D2]at q2;simp only[X3,Z7,a0B,a3k,flC]at q5;subst q0 q1 q3 q4;simp only[stC,K5]at q2 q5 ⊢;obtain⟨e0,e1,e2,e3,e4,e5,e6,e7,e8,e9,e10,e11,e12,e13,e14,e15,_⟩:=q2;obtain⟨u0,u1,u2,u3,u4,u5,u6,_⟩:=q5;exact⟨trivial,trivial,e0,e1,e2,e3,e4,e5,e6,e7,e8,e9,e10,e11,e12,e13,e14,e15,trivial,trivial,u0,u1,u2,u3,u4,u5,u6,trivial⟩
theorem c1H {fuel:Nat} {cs:List Value} {y:DataW H×List MemPlace} (h:DataW.trod enc Tryz.prog w base spare held fuel 64 cs=some y):∃x:Stp,x.data.length=16/\cs=stC x:=let⟨x,h1,h2⟩:=b9V h;⟨x,h1.1,h2⟩
theorem b5F {held':Bool} {fuel:Nat} {a:Option Addr} {len cap:Nat} {x:DataW H×List MemPlace} (h:DataW.trod enc Tryz.prog w base spare held' fuel 70 [.slice a len cap]=some x):
  ∃l:List Stp,l.length=len/\(∀e∈l,e.data.length=16)/\rdP a 27 len (l.flatMap stC) (hl w):=
 a9V stC (λx=>x.data.length=16) Tryz.underlying70 (by kernel_rfl) (by decide) (λh=>c1H h) h
end
end Go.Proofs.YtpakpgkdpofbhaaGreat
