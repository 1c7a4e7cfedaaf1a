/- Helpers. No condition. -/
import Derived.Test.YtpohajhbfllbbaaGreatF20
import Derived.Test.YtpohajhbfllbbaaGreatF23
import Derived.Test.YtpohajhbfllbbaaGreatF25
import Derived.Test.YtpohajhbfllbbaaGreatRows
import Derived.JoinedOf
set_option maxRecDepth 20000
set_option linter.all false
namespace Go.Proofs.YtpohajhbfllbbaaGreat
open Go Go.RowKit
open Go.ChangeShapes Go.WideShapes Go.ChangeAt
section
variable {H : Type} {enc : TypeId × Value → H} {w : World} {base : Nat} {spare : Nat → Bool} {held : Bool}
set_option maxRecDepth 100000 in
theorem b4Y {fuel:Nat} {cs:List Value} {y:DataW H×List MemPlace} (h:DataW.trod enc Tryz.prog w base spare held fuel 35 cs=some y):∃x:Fl,cs=flC x:=by
 obtain⟨xs,n,_,_,hl,hlen,hf⟩:=DataW.trod_struct Tryz.underlying35 h;have hlen2:cs.length=7:=hl.trans (by kernel_rfl);have hx:xs.length=5:=hlen;have c1:Tryz.prog.cellsOf 3=1:=by kernel_rfl
 have c3:Tryz.prog.cellsOf 33=3:=by kernel_rfl
 match xs,hx with
 | [y0,y1,y2,y3,y4],_=>
  have h0:DataW.trod enc Tryz.prog w base spare held n 3 ((cs.drop 0).take (Tryz.prog.cellsOf 3))=some y0:=hf 0 _ rfl;have h1:DataW.trod enc Tryz.prog w base spare held n 3 ((cs.drop 1).take (Tryz.prog.cellsOf 3))=some y1:=hf 1 _ rfl;have h2:DataW.trod enc Tryz.prog w base spare held n 33 ((cs.drop 2).take (Tryz.prog.cellsOf 33))=some y2:=hf 2 _ rfl;have h3:DataW.trod enc Tryz.prog w base spare held n 3 ((cs.drop 5).take (Tryz.prog.cellsOf 3))=some y3:=hf 3 _ rfl;have h4:DataW.trod enc Tryz.prog w base spare held n 3 ((cs.drop 6).take (Tryz.prog.cellsOf 3))=some y4:=hf 4 _ rfl;rw[c1]at h0 h1 h3 h4;rw[c3]at h2;obtain⟨z0,z1,z2,m,_,_,g0,g1,g2⟩:=Deep.trod_struct3 Tryz.underlying33 h2;simp only[c1]at g0 g1 g2;obtain⟨n0,q0⟩:=y7 Tryz.underlying3 h0;obtain⟨n1,q1⟩:=y7 Tryz.underlying3 h1;obtain⟨n2,q2⟩:=y7 Tryz.underlying3 g0;obtain⟨n3,q3⟩:=y7 Tryz.underlying3 g1;obtain⟨n4,q4⟩:=y7 Tryz.underlying3 g2;obtain⟨n5,q5⟩:=y7 Tryz.underlying3 h3;obtain⟨n6,q6⟩:=y7 Tryz.underlying3 h4;refine⟨⟨n0,n1,n2,n3,n4,n5,n6⟩,?_⟩
  match cs,hlen2 with
  | [_,_,_,_,_,_,_],_=>
   simp at q0 q1 q2 q3 q4 q5 q6;subst q0 q1 q2 q3 q4 q5 q6;rfl
theorem b3X {n:Int} (h:(Lit.int .i64 n).wf=true): -9223372036854775808<=n/\n<=9223372036854775807:=by
 simp[Lit.wf,IntKind.min,IntKind.max,IntKind.bits,IntKind.signed]at h;omega
set_option maxRecDepth 100000 in
theorem b1S {fuel:Nat} {cs:List Value} {y:DataW H×List MemPlace} (h:DataW.trod enc Tryz.prog w base spare held fuel 37 cs=some y):∃x:Stp,(x.data.length=16/\ -9223372036854775808<=x.n/\x.n<=9223372036854775807)/\cs=stC x:=by
 obtain⟨xs,n,_,_,hl,hlen,hf⟩:=DataW.trod_struct Tryz.underlying37 h;have hlen2:cs.length=27:=hl.trans (by kernel_rfl);have hx:xs.length=6:=hlen;have c1:Tryz.prog.cellsOf 3=1:=by kernel_rfl
 have c16:Tryz.prog.cellsOf 31=16:=by kernel_rfl
 have c7:Tryz.prog.cellsOf 35=7:=by kernel_rfl
 match xs,hx with
 | [y0,y1,y2,y3,y4,y5],_=>
  have h0:DataW.trod enc Tryz.prog w base spare held n 3 ((cs.drop 0).take (Tryz.prog.cellsOf 3))=some y0:=hf 0 _ rfl;have h1:DataW.trod enc Tryz.prog w base spare held n 3 ((cs.drop 1).take (Tryz.prog.cellsOf 3))=some y1:=hf 1 _ rfl;have h2:DataW.trod enc Tryz.prog w base spare held n 31 ((cs.drop 2).take (Tryz.prog.cellsOf 31))=some y2:=hf 2 _ rfl;have h3:DataW.trod enc Tryz.prog w base spare held n 3 ((cs.drop 18).take (Tryz.prog.cellsOf 3))=some y3:=hf 3 _ rfl;have h4:DataW.trod enc Tryz.prog w base spare held n 3 ((cs.drop 19).take (Tryz.prog.cellsOf 3))=some y4:=hf 4 _ rfl;have h5:DataW.trod enc Tryz.prog w base spare held n 35 ((cs.drop 20).take (Tryz.prog.cellsOf 35))=some y5:=hf 5 _ rfl;rw[c1]at h0 h1 h3 h4;rw[c16]at h2;rw[c7]at h5;obtain⟨n0,q0⟩:=y7 Tryz.underlying3 h0;obtain⟨n1,q1⟩:=y7 Tryz.underlying3 h1;obtain⟨d,hd,q2⟩:=b2T h2;obtain⟨n3,q3,_,r3⟩:=DataW.trod_int Tryz.underlying3 h3;obtain⟨n4,q4⟩:=y7 Tryz.underlying3 h4;obtain⟨f,q5⟩:=b4Y h5;refine⟨⟨n0,n1,d,n3,n4,f⟩,⟨hd,b3X r3⟩,?_⟩
  match cs,hlen2 with
  | [_,_,_,_,_,_,_,_,_,_,_,_,_,_,_,_,_,_,_,_,_,_,_,_,_,_,_],_=>
   simp at q0 q1 q3 q4;simp only[List.drop_succ_cons,List.drop_zero,List.take_succ_cons,List.take_zero,j8]at q2;simp only[List.drop_succ_cons,List.drop_zero,List.take_succ_cons,List.take_zero,flC]at q5;subst q0 q1 q3 q4;simp only[stC,List.cons.injEq]at q2 q5 ⊢;obtain⟨e0,e1,e2,e3,e4,e5,e6,e7,e8,e9,e10,e11,e12,e13,e14,e15,_⟩:=q2;obtain⟨u0,u1,u2,u3,u4,u5,u6,_⟩:=q5;exact⟨trivial,trivial,e0,e1,e2,e3,e4,e5,e6,e7,e8,e9,e10,e11,e12,e13,e14,e15,trivial,trivial,u0,u1,u2,u3,u4,u5,u6,trivial⟩
theorem a6i {held':Bool} {fuel:Nat} {a:Option Addr} {len cap:Nat} {x:DataW H×List MemPlace} (h:DataW.trod enc Tryz.prog w base spare held' fuel 25 [.slice a len cap]=some x):
  ∃l:List Stp,l.length=len/\(∀e∈l,e.data.length=16/\ -9223372036854775808<=e.n/\e.n<=9223372036854775807)/\rdP a 27 len (l.flatMap stC) (hl w):=
 a7R stC (λx=>x.data.length=16/\ -9223372036854775808<=x.n/\x.n<=9223372036854775807) Tryz.underlying25 (by kernel_rfl) (by decide) (λh=>b1S h) h
end
end Go.Proofs.YtpohajhbfllbbaaGreat
namespace Go.Proofs.YtpohajhbfllbbaaGreat
open Go
theorem A8 {a b:Bool} (ha:a=true) (hb:b=true):(a&&b)=true:=by rw[ha,hb];rfl
theorem a8i {P:Program} {f:FuncId} {fn:Func} {s:ChangeSpec} {c:OpenClaim} (k0:(c.wf (OpenSpec.ofChange s))=true) (k1:(laidOutB P)=true) (k2:(mapsRowed P)=true) (k3:(fn.params.all (P.readableRec ·))=true) (k4:(namedTie P c.named s.vars)=true) (k5:(c.stops==[])=true) (k6:(P.stops==[])=true) (k7:(c.knobs==[])=true) (k8:(P.stopKnobs==[])=true) (k9:(c.inPlace==P.inPlace f)=true) (k10:(c.unfollowed==P.unfollowed f)=true) (k11:(c.recurses==P.recurses f)=true) (k12:(c.named==P.varsNamed f)=true) (k13:(c.maps==(fn.params.toList++s.plain.varTypes P).any (P.mapsRec ·))=true) (k14:(c.ifaces==(fn.params.toList++s.plain.varTypes P).any (P.ifacesRec ·))=true) (k15:(c.mapsOut==P.mapsAmong fn.resultTypes.toList)=true) (k16:(c.loops==(fn.params.toList++s.plain.varTypes P).any (P.loopsFrom ·))=true) (k17:(c.wideKeys==(fn.params.toList++s.plain.varTypes P++fn.resultTypes.toList).any (P.wideKeysFrom ·))=true) (k18:(s.vars.all (P.varReadable ·))=true) (k19:(fn.resultTypes.all (λt=>P.readableRec t&&decide (t<P.types.size)))=true) (k20:(c.ifacesOut==fn.resultTypes.toList.any (P.ifacesRec ·))=true) (k21:(c.loopsOut==fn.resultTypes.toList.any (P.loopsFrom ·))=true) (k22:(c.plainKeys==P.plainKeys)=true) (k23:(c.shortTexts.isNone)=true) (k24:(P.stopsHeard)=true) (k25:(P.mayEnter)=true) (k26:(c.lifted==P.liftsFinal)=true) (k27:(P.make==some c.make)=true) (k28a:c.domain.isEmpty=true) (k28:(c.kinds==[])=true) (k29:(c.pinned==c.pinnedBy)=true) (k30:(c.veiled==(fn.params.toList++s.plain.varTypes P++fn.resultTypes.toList).any (P.veiledRec ·))=true) (k31:(c.veiledFits P fn.params.toList (fn.params.toList++s.plain.varTypes P++fn.resultTypes.toList))=true):joinedFacts P f fn s c=true:=by
 unfold joinedFacts;rw[if_pos k28a];exact(A8 (A8 (A8 (A8 (A8 (A8 (A8 (A8 (A8 (A8 (A8 (A8 (A8 (A8 (A8 (A8 (A8 (A8 (A8 (A8 (A8 (A8 (A8 (A8 (A8 (A8 (A8 (A8 (A8 (A8 (A8 k0 k1) k2) k3) k4) k5) k6) k7) k8) k9) k10) k11) k12) k13) k14) k15) k16) k17) k18) k19) k20) k21) k22) k23) k24) k25) k26) k27) k28) k29) k30) k31)
theorem a6u:laidOutB Tryz.prog=true:=by kernel_rfl
theorem b2z:mapsRowed Tryz.prog=true:=by kernel_rfl
theorem b2y:(Tryz.prog.stops==[])=true:=by kernel_rfl
theorem b2A:(Tryz.prog.stopKnobs==[])=true:=by kernel_rfl
theorem b2B:Tryz.prog.stopsHeard=true:=by kernel_rfl
theorem b2C:Tryz.prog.mayEnter=true:=by kernel_rfl
end Go.Proofs.YtpohajhbfllbbaaGreat
