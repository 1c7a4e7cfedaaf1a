/- Helpers. No condition. -/
import Derived.Test.YtpohajhbfllbbaaGreatE01
import Derived.Test.YtpohajhbfllbbaaGreatE06
import Derived.Test.YtpohajhbfllbbaaGreatE18
import Derived.Test.YtpohajhbfllbbaaGreatE20
import Derived.Test.YtpohajhbfllbbaaGreatE21
import Derived.Test.YtpohajhbfllbbaaGreatE22
import Derived.Test.YtpohajhbfllbbaaGreatE23
set_option maxRecDepth 20000
set_option linter.all false
namespace Go.Proofs.YtpohajhbfllbbaaGreat
structure Td where
 err:Int
 data:List UInt8
structure Stp where
 fn:Int
 lpn:Int
 data:List UInt8
 n:Int
 keep:Int
 f:Fl
def zd:List UInt8:=Mv.z16
structure Pv where
 L:List Fl
 log:List Td
 Z:Option Fv
 M:Nand
def Fv.setN (Z:Fv) (N:Nand):Fv:={Z with S:={Z.S with N:=N}}
namespace Pv
def nd (P:Pv):Nand:=match P.Z with | some Z=>Z.S.N | none=>P.M
def setN (P:Pv) (N:Nand):Pv:=match P.Z with | some Z=>{P with Z:=some (Z.setN N)} | none=>{P with M:=N}
def run (P:Pv):Pv:={P.setN (O5 P.nd (B1 P.nd.ops P.L))with L:=Z9 P.nd.ops P.L}
def mounts (P:Pv):Pv×Int:=
 let N1:=if P.nd.off then P.nd else P.nd.setCut (-1) 0
 let r:=s9 N1.onN
 if r.2=0 then({P with Z:=some (Fv.of r.1)},0)else({P with Z:=none,M:=r.1.N},r.2)
def does (P:Pv) (s:Stp):Pv×Td:=
 if s.fn=1 then(match P.Z with | some Z=>({P with Z:=some (Z.read s.lpn).1},⟨(Z.read s.lpn).2.2,(Z.read s.lpn).2.1⟩) | none=>(P,⟨12,zd⟩))
 else if s.fn=2 then(match P.Z with | some Z=>({P with Z:=some (Z.write s.lpn s.data).1},⟨(Z.write s.lpn s.data).2,zd⟩) | none=>(P,⟨12,zd⟩))
 else if s.fn=3 then(match P.Z with | some Z=>({P with Z:=some (Z.trim s.lpn).1},⟨(Z.trim s.lpn).2,zd⟩) | none=>(P,⟨12,zd⟩))
 else if s.fn=4 then(match P.Z with | some Z=>({P with Z:=some Z.flush.1},⟨Z.flush.2,zd⟩) | none=>(P,⟨12,zd⟩))
 else if s.fn=5 then(match P.Z with | some Z=>({P with Z:=some Z.tick.1},⟨Z.tick.2,zd⟩) | none=>(P,⟨12,zd⟩))
 else if s.fn=6 then(P.setN (P.nd.setCut s.n s.keep),⟨0,zd⟩)
 else if s.fn=7 then(P.mounts.1,⟨P.mounts.2,zd⟩)
 else if s.fn=8 then(P.setN (P.nd.fault s.f.kind s.f.x s.f.y s.f.z s.f.n s.f.xx).2,if(P.nd.fault s.f.kind s.f.x s.f.y s.f.z s.f.n s.f.xx).1 then⟨0,zd⟩else⟨1,zd⟩)
 else(P,⟨1,zd⟩)
def step (P:Pv) (s:Stp):Pv×Td:=({(P.run.does s).1 with log:=(P.run.does s).1.log++[(P.run.does s).2]},(P.run.does s).2)
def new (D B Pg:Nat) (l:List Fl):Pv:=⟨B5 X0 (plF D B Pg l),[],if(s9 (Nand.new D B Pg)).2=0 then some (Fv.of (s9 (Nand.new D B Pg)).1)else none,(s9 (Nand.new D B Pg)).1.N⟩
end Pv
end Go.Proofs.YtpohajhbfllbbaaGreat
namespace Go.Proofs.YtpohajhbfllbbaaGreat
structure Wa where
 P:Pv
 M:List MPv
 die:Int
 wrong:Bool
 full:Bool
 stuck:Bool
 fs:List Fl
 since:Int
 late:Int
namespace Wa
def lates (W:Wa):Int:=W.late+((W.fs.filter λf=>decide (f.at_>=W.since)).length:Int)
def ask (W:Wa) (s:Stp):Stp:=if s.fn=8 then {s with f:={s.f with x:=W.die}}else s
def skip (s:Stp):Bool:=decide (s.n>1048576)||decide (s.n< -1)
def on (W:Wa):Bool:=!W.P.nd.off&&W.P.Z.isSome
def hold (W:Wa) (s:Stp) (t:Td):List MPv×Bool:=
 if s.fn=1 then(if t.err=0 then Mv.saw W.M s.lpn t.data else W.M,(decide (t.err=0)&& !Mv.may W.M s.lpn t.data)||decide (t.err=10)||decide (t.err=11)||(decide (t.err=3)&&decide (s.lpn>=0)&&decide (s.lpn<(W.M.length:Int))))
 else if s.fn=2\/s.fn=3 then(if t.err=0 then Mv.write W.M s.lpn (if s.fn=3 then zd else s.data)else W.M,decide (t.err=0)&& !Mv.inR W.M s.lpn)
 else if s.fn=4 then(if t.err=0 then Mv.flush W.M else W.M,false)
 else(W.M,false)
def step (W:Wa) (s:Stp):Wa:=
 if W.stuck then W
 else
  let W1:Wa:=if s.fn=8 then {W with late:=W.late+1}else W
  if skip s then W1
  else
   let r:=W.P.step (W.ask s)
   let off:=r.1.nd.off
   let h:=W.hold s r.2
   let W2:Wa:={W1 with P:=r.1,M:=h.1,wrong:=W.wrong||h.2,full:=W.full||(decide (r.2.err=11)&&decide (s.fn≠7))}
   if s.fn=7 then
    let st:=decide (r.2.err=11)&& !off&&decide (W2.lates>1)
    let W3:Wa:={W2 with M:=Mv.cut W2.M,stuck:=st,wrong:=W2.wrong||(decide (r.2.err≠0)&& !off&& !st)}
    if r.2.err=0 then {W3 with since:=r.1.nd.ops,late:=0}else W3
   else {W2 with wrong:=W2.wrong||(W.on&& !off&&(decide (r.2.err=9)||decide (r.2.err=12)))}
def fx (u:Int) (f:Fl):Fl:={f with x:=u}
def dieI (die:Int) (D:Nat):Int:=(die.tmod D+D).tmod D
def fl (D:Nat) (die:Int) (l:List Fl):List Fl:=(l.take 15).map (fx (dieI die D))
def new (D B P:Nat) (die:Int) (l:List Fl):Wa:=⟨Pv.new D B P (fl D die l),Mv.new (lgN D B P),dieI die D,false,false,false,fl D die l,0,0⟩
end Wa
end Go.Proofs.YtpohajhbfllbbaaGreat
namespace Go.Proofs.YtpohajhbfllbbaaGreat
open Go Go.RowKit
structure Pad where
 f:Nat
 p:Nat
 t:Nat
 l:Nat
 d:Nat
 fp:Nat
 a:Option (Nat×Nat)
 c:Nat
 a2:Option Nat
 c2:Nat
def tdC (t:Td):List Value:=[iI t.err,byC t.data 0,byC t.data 1,byC t.data 2,byC t.data 3,byC t.data 4,byC t.data 5,byC t.data 6,byC t.data 7,byC t.data 8,byC t.data 9,byC t.data 10,byC t.data 11,byC t.data 12,byC t.data 13,byC t.data 14,byC t.data 15]
def tdV (t:Td):Value:= .agg (tdC t).toArray
def y9 (l:List Td):List Value:=l.flatMap tdC
def flP (o:Option Fv) (f:Nat):Value:=match o with | some _=>pp f | none=> .pointer none
def a0v (n:Nat) (A:Pad) (P:Pv):List Atom:=match P.Z with | some Z=>FvP A.f A.p n A.t A.l A.d Z | none=>[i5 n P.M]
def V0 (q n:Nat) (A:Pad) (P:Pv):List Atom:=[.pt q 87 [pp n,flP P.Z A.f,pp A.fp,slv A.a2 P.log.length A.c2], .pt A.fp 155 [.slice (y7 A.a) P.L.length A.c],rdA (y7 A.a) 7 P.L.length (f6 P.L),c9 40 17 A.a2 P.log.length A.c2 (y9 P.log)]++a0v n A P
structure Pad.Ok (A:Pad) (P:Pv):Prop where
 z:A.a=none->A.c=0
 c:P.L.length<=A.c
theorem a2I (q n:Nat) (r:Value) (r2 r3:Value):FP 13 [pp q] [.pt q 87 [pp n,r,r2,r3]] (λv As=>v=pp n/\As=[.pt q 87 [pp n,r,r2,r3]]):=by
 refine FE [2] Tryz.func13 λX F hX=>?_;refine J.qF λ_=>?_;exact J.qx [1]
theorem a6a (q n:Nat) (o:Option Fv) (f:Nat) (r2 r3:Value):FP 17 [pp q] [.pt q 87 [pp n,flP o f,r2,r3]] (λv As=>v=flP o f/\As=[.pt q 87 [pp n,flP o f,r2,r3]]):=by
 refine FE [2] Tryz.func17 λX F hX=>?_;refine J.qF λ_=>?_;cases o with
 | none=>
  exact J.qx [1]
 | some Z=>
  exact J.qx [1]
theorem a9r (a:Option Nat):oad a=y7 (a.map λg=>(g,0)):=by cases a<;>rfl
theorem a6H (d b p:Nat) (h:p9 d b p=true) (k:Nat) (hk:k<4611686018427387904):(Nand.new d b p).Gd k 0:=by
 have g:=Nand.Gd.new d b p h 0 (by omega);exact⟨g.ok,by show(0:Int)+k<_;omega,by show(0:Int)+k<_;omega,g.nodup,g.few⟩
theorem b2n (D B Pg:Nat) (hg:p9 D B Pg=true) (A:Atom) (ad:Option Addr) (n c:Nat) (l:List Fl) (hA:Rd A ad 7 n (f6 l)) (hl:l.length=n) (hn:n<=15):FP 10 [.agg #[iI D,iI B,iI Pg], .slice ad n c] [A] (λv As=>∃q nn A',v=pp q/\A'.Ok (Pv.new D B Pg l)/\As=A::V0 q nn A' (Pv.new D B Pg l)):=by
 have hbd:(3<=D/\D<=6)/\(8<=B/\B<=16)/\(2<=Pg/\Pg<=8):=by simp[p9]at hg;omega
 refine FE [0,0] Tryz.func10 λX F hX=>?_;refine J.qc (a4Z D B Pg hg) [] λ_=>?_;rintro v As ⟨nn,rfl,rfl⟩;refine⟨_,rfl,trivial,?_⟩;refine J.qF λ_=>?_;have hG:(Nand.new D B Pg).Gd (Dv.costK+0) 0:=a6H D B Pg hg _ (by decide);refine J.qc (a0c nn (Nand.new D B Pg) 0 0 hG (by decide) rfl) [3] λ_=>?_;have hlen:(B5 X0 (plF D B Pg l)).length=(plF D B Pg l).length:=(a2g _ _).length_eq;rintro v As (⟨he,f,p,t,ll,d,rfl,rfl⟩ | ⟨he,rfl,rfl⟩)
 ·refine⟨_,rfl,trivial,?_⟩;refine J.qc (b5S D B Pg (by omega) (by omega) (by omega) A ad n c l hA hl hn) [1] λ_=>?_;rintro v As ⟨fp,a,c',rfl,rfl⟩;refine⟨_,rfl,trivial,?_⟩;refine J.know (λh' s=>J4 (show M9 _ _ a (plF D B Pg l).length c' _ _ from s.get (i:=10) rfl)) λhcap=>?_;refine J.know (λh' s=>a3w (show M9 _ _ a (plF D B Pg l).length c' _ _ from s.get (i:=10) rfl)) λhnil=>?_;have hsl:∀n c,slv a n c= .slice (y7 (a.map λg=>(g,0))) n c:=λn c=>by cases a<;>rfl
  rw[hsl];refine J.turn1 [10] rfl (As:=[rdA (y7 (a.map λg=>(g,0))) 7 (plF D B Pg l).length (f6 (B5 X0 (plF D B Pg l)))]) (λh s=>Sep.one (by have:=C7 35 7 a (plF D B Pg l).length c' (f6 (B5 X0 (plF D B Pg l))) _ (s.get (i:=0) rfl);rw[a9r]at this;exact this)) rfl ?_;refine J.turn1 [] rfl (As:=[c9 40 17 none 0 0 (y9 [])]) (λh s=>Sep.one ⟨rfl,rfl,rfl⟩) rfl ?_;refine J.q λbq=>?_;refine J.ru hX [1,12,9,10,11,3,4,5,6,7,8] ?_;refine⟨bq 0,nn,⟨f,p,t,ll,d,fp,a.map λg=>(g,0),c',none,0⟩,rfl,⟨λe=>hnil (by cases a with | none=>rfl | some g=>cases e),by show(B5 X0 (plF D B Pg l)).length<=_;rw[hlen];exact hcap⟩,?_⟩;unfold V0 a0v;show _=A::([.pt (bq 0) 87 [pp nn,flP (if(s9 (Nand.new D B Pg)).2=0 then some (Fv.of (s9 (Nand.new D B Pg)).1)else none) _,_,_], .pt fp _ [.slice _ (B5 X0 (plF D B Pg l)).length _],rdA _ 7 (B5 X0 (plF D B Pg l)).length _,_]++(match(if(s9 (Nand.new D B Pg)).2=0 then some (Fv.of (s9 (Nand.new D B Pg)).1)else none)with | some Z=>_ | none=>_));rw[if_pos he,hlen];rfl
 ·refine⟨_,rfl,trivial,?_⟩;refine J.qc (b5S D B Pg (by omega) (by omega) (by omega) A ad n c l hA hl hn) [1] λ_=>?_;rintro v As ⟨fp,a,c',rfl,rfl⟩;refine⟨_,rfl,trivial,?_⟩;refine J.know (λh' s=>J4 (show M9 _ _ a (plF D B Pg l).length c' _ _ from s.get (i:=5) rfl)) λhcap=>?_;refine J.know (λh' s=>a3w (show M9 _ _ a (plF D B Pg l).length c' _ _ from s.get (i:=5) rfl)) λhnil=>?_;have hsl:∀n c,slv a n c= .slice (y7 (a.map λg=>(g,0))) n c:=λn c=>by cases a<;>rfl
  rw[hsl];refine J.turn1 [5] rfl (As:=[rdA (y7 (a.map λg=>(g,0))) 7 (plF D B Pg l).length (f6 (B5 X0 (plF D B Pg l)))]) (λh s=>Sep.one (by have:=C7 35 7 a (plF D B Pg l).length c' (f6 (B5 X0 (plF D B Pg l))) _ (s.get (i:=0) rfl);rw[a9r]at this;exact this)) rfl ?_;refine J.turn1 [] rfl (As:=[c9 40 17 none 0 0 (y9 [])]) (λh s=>Sep.one ⟨rfl,rfl,rfl⟩) rfl ?_;refine J.q λbq=>?_;refine J.ru hX [1,7,4,5,6,3] ?_;refine⟨bq 0,nn,⟨0,0,0,0,0,fp,a.map λg=>(g,0),c',none,0⟩,rfl,⟨λe=>hnil (by cases a with | none=>rfl | some g=>cases e),by show(B5 X0 (plF D B Pg l)).length<=_;rw[hlen];exact hcap⟩,?_⟩;unfold V0 a0v;show _=A::([.pt (bq 0) 87 [pp nn,flP (if(s9 (Nand.new D B Pg)).2=0 then some (Fv.of (s9 (Nand.new D B Pg)).1)else none) _,_,_], .pt fp _ [.slice _ (B5 X0 (plF D B Pg l)).length _],rdA _ 7 (B5 X0 (plF D B Pg l)).length _,_]++(match(if(s9 (Nand.new D B Pg)).2=0 then some (Fv.of (s9 (Nand.new D B Pg)).1)else none)with | some Z=>_ | none=>_));rw[if_neg he,hlen];rfl
def stC (s:Stp):List Value:=[iI s.fn,iI s.lpn,byC s.data 0,byC s.data 1,byC s.data 2,byC s.data 3,byC s.data 4,byC s.data 5,byC s.data 6,byC s.data 7,byC s.data 8,byC s.data 9,byC s.data 10,byC s.data 11,byC s.data 12,byC s.data 13,byC s.data 14,byC s.data 15,iI s.n,iI s.keep,iI s.f.at_,iI s.f.kind,iI s.f.x,iI s.f.y,iI s.f.z,iI s.f.n,iI s.f.xx]
def stV (s:Stp):Value:= .agg (stC s).toArray
def PlQ (q n:Nat) (o:Option Fv) (f:Nat) (r2 r3:Value):Atom:= .pt q 87 [pp n,flP o f,r2,r3]
theorem b0r (q n:Nat) (A:Pad) (P:Pv) (Z:Fv) (hZ:P.Z=some Z) (r2 r3:Value) (k m:Nat) (hG:Z.S.N.Gd (Dv.costK+k) m) (hm:m<=12):FP 96 [pp q] (PlQ q n P.Z A.f r2 r3::a0v n A P) (λv As=>∃A':Pad,v=iI P.mounts.2/\(A'.fp=A.fp/\A'.a=A.a/\A'.c=A.c/\A'.a2=A.a2/\A'.c2=A.c2)/\((∃Y,P.mounts.1={P with Z:=some Y}/\As=PlQ q n (some Y) A'.f r2 r3::FvP A'.f A'.p n A'.t A'.l A'.d Y)\/∃M,P.mounts.1={P with Z:=none,M:=M}/\As=[PlQ q n none A'.f r2 r3,i5 n M])):=by
 have hnd:P.nd=Z.S.N:=by unfold Pv.nd;rw[hZ]
 have hms:P.mounts=if(s9 ((if Z.S.N.off then Z.S.N else Z.S.N.setCut (-1) 0).onN)).2=0 then({P with Z:=some (Fv.of (s9 ((if Z.S.N.off then Z.S.N else Z.S.N.setCut (-1) 0).onN)).1)},0)else({P with Z:=none,M:=(s9 ((if Z.S.N.off then Z.S.N else Z.S.N.setCut (-1) 0).onN)).1.N},(s9 ((if Z.S.N.off then Z.S.N else Z.S.N.setCut (-1) 0).onN)).2):=by unfold Pv.mounts;rw[hnd]
 rw[show a0v n A P=FvP A.f A.p n A.t A.l A.d Z from by unfold a0v;rw[hZ],hZ];refine FE [2] Tryz.func96 λX F hX=>?_;refine J.qp (V6 n Z.S.N) [4] λ_=>?_;refine J.qd (λ_ h1=>?_) λ_ h1=>?_
 ·have hoff:Z.S.N.off=false:=by simpa using h1
  have e:(if Z.S.N.off=true then Z.S.N else Z.S.N.setCut (-1) 0)=Z.S.N.setCut (-1) 0:=if_neg (by rw[hoff];decide);rw[e]at hms;have hG2:(Z.S.N.setCut (-1) 0).onN.Gd (Dv.costK+k) m:=(hG.cut (-1) 0 (by decide) (by decide)).on;refine J.qp (a9w n Z.S.N (-1) 0) [4] λ_=>?_;refine J.qp (b5a n (Z.S.N.setCut (-1) 0)) [4] λ_=>?_;refine J.qc (a0c n ((Z.S.N.setCut (-1) 0)).onN k m hG2 hm rfl) [4] λ_=>?_;rintro v As (⟨he,f,p,t,ll,d,rfl,rfl⟩ | ⟨he,rfl,rfl⟩)
  ·refine⟨_,rfl,trivial,?_⟩;rw[if_pos he]at hms;refine J.qr [1,4,8,9,10,11,12] λ_=>?_;exact⟨⟨f,p,t,ll,d,A.fp,A.a,A.c,A.a2,A.c2⟩,by rw[hms],⟨rfl,rfl,rfl,rfl,rfl⟩, .inl ⟨_,by rw[hms],rfl⟩⟩
  ·refine⟨_,rfl,trivial,?_⟩;rw[if_neg he]at hms;refine J.qr [1,4] λ_=>?_;exact⟨A,by rw[hms],⟨rfl,rfl,rfl,rfl,rfl⟩, .inr ⟨_,by rw[hms],rfl⟩⟩
 ·have hoff:Z.S.N.off=true:=by simpa using h1
  have e:(if Z.S.N.off=true then Z.S.N else Z.S.N.setCut (-1) 0)=Z.S.N:=if_pos hoff;rw[e]at hms;have hG2:Z.S.N.onN.Gd (Dv.costK+k) m:=hG.on;refine J.qp (b5a n Z.S.N) [4] λ_=>?_;refine J.qc (a0c n (Z.S.N).onN k m hG2 hm rfl) [4] λ_=>?_;rintro v As (⟨he,f,p,t,ll,d,rfl,rfl⟩ | ⟨he,rfl,rfl⟩)
  ·refine⟨_,rfl,trivial,?_⟩;rw[if_pos he]at hms;refine J.qr [1,4,8,9,10,11,12] λ_=>?_;exact⟨⟨f,p,t,ll,d,A.fp,A.a,A.c,A.a2,A.c2⟩,by rw[hms],⟨rfl,rfl,rfl,rfl,rfl⟩, .inl ⟨_,by rw[hms],rfl⟩⟩
  ·refine⟨_,rfl,trivial,?_⟩;rw[if_neg he]at hms;refine J.qr [1,4] λ_=>?_;exact⟨A,by rw[hms],⟨rfl,rfl,rfl,rfl,rfl⟩, .inr ⟨_,by rw[hms],rfl⟩⟩
theorem b4O (q n:Nat) (A:Pad) (P:Pv) (Z:Fv) (hZ:P.Z=some Z) (r2 r3:Value) (k m:Nat) (hO:Z.Ok (Fv.cW*200+(Dv.costS+(Dv.costK+(1+k)))) m) (hm:m<=12) (s:Stp) (hs:s.data.length=16):FP 51 [pp q,stV s] (PlQ q n P.Z A.f r2 r3::a0v n A P) (λv As=>∃A':Pad,v=tdV (P.does s).2/\(A'.fp=A.fp/\A'.a=A.a/\A'.c=A.c/\A'.a2=A.a2/\A'.c2=A.c2)/\((∃Y,(P.does s).1={P with Z:=some Y}/\As=PlQ q n (some Y) A'.f r2 r3::FvP A'.f A'.p n A'.t A'.l A'.d Y)\/∃M,(P.does s).1={P with Z:=none,M:=M}/\As=[PlQ q n none A'.f r2 r3,i5 n M])):=by
 have hnd:P.nd=Z.S.N:=by unfold Pv.nd;rw[hZ]
 have hdv:∀Y,a0v n A {P with Z:=some Y}=FvP A.f A.p n A.t A.l A.d Y:=λY=>rfl;have hs1:∀b,s.fn=b->True:=λ_ _=>trivial;rw[show a0v n A P=FvP A.f A.p n A.t A.l A.d Z from by unfold a0v;rw[hZ],hZ];refine FE [2,0] Tryz.func51 λX F hX=>?_;refine J.qd (λ_ h1=>?_) λ_ h1=>?_
 ·have e1:s.fn=1:=by simpa using h1
  have hd:P.does s=({P with Z:=some (Z.read s.lpn).1},⟨(Z.read s.lpn).2.2,(Z.read s.lpn).2.1⟩):=by unfold Pv.does;rw[if_pos e1,hZ]
  refine J.pn 7 (.take true 0 (.take true 1 (.take true 2 (.take false 3 (.take true 4 (.take false 5 (.alt false 6 ((.of [28,32,36,42,46,48])) (.alt false 10 ((.of [26,28,32,36,46,48])) .non)))))))) [12] [1,8] λ_ _=>?_;refine J.alts ?_ ?_
  ·skip
   refine J.qp (a0r A.f A.p n A.t A.l A.d Z _ m hO s.lpn) [2,3,4,5,6,7] λ_=>?_;refine J.qr [1,2,3,4,5,6,7] λ_=>?_;refine⟨A,?_,⟨rfl,rfl,rfl,rfl,rfl⟩, .inl ⟨_,by rw[hd],rfl⟩⟩;rw[hd];rfl
  ·skip
   refine J.qn 1 λ_=>?_;refine J.qp (a0r A.f A.p n A.t A.l A.d Z _ m hO s.lpn) [2,3,4,5,6,7] λ_=>?_;refine J.qr [1,2,3,4,5,6,7] λ_=>?_;refine⟨A,?_,⟨rfl,rfl,rfl,rfl,rfl⟩, .inl ⟨_,by rw[hd],rfl⟩⟩;rw[hd];rfl
 have e1:s.fn≠1:=by simpa using h1
 refine J.qd (λ_ h2=>?_) λ_ h2=>?_
 ·have e2:s.fn=2:=by simpa using h2
  have hd:P.does s=({P with Z:=some (Z.write s.lpn s.data).1},⟨(Z.write s.lpn s.data).2,zd⟩):=by unfold Pv.does;rw[if_neg e1,if_pos e2,hZ]
  refine J.pq (.of [0,4,8,13,16,21,24,29,34,36,43]) [10] [1,8] λ_ _=>?_;refine J.ca hX (by kernel_rfl) (a3R A.f A.p n A.t A.l A.d Z _ m (hO.less (k':=Fv.cW+(1+k)) (by omega)) hm s.lpn s.data hs) [2,3,4,5,6,7] 0 rfl rfl rfl rfl rfl rfl (λ_=>rfl) ?_;refine cpq ⟨_,rfl,stq,?_⟩;refine J.qr [1,2,3,4,5,6,7] λ_=>?_;refine⟨A,?_,⟨rfl,rfl,rfl,rfl,rfl⟩, .inl ⟨_,by rw[hd],rfl⟩⟩;rw[hd];rfl
 have e2:s.fn≠2:=by simpa using h2
 refine J.qd (λ_ h3=>?_) λ_ h3=>?_
 ·have e3:s.fn=3:=by simpa using h3
  have hd:P.does s=({P with Z:=some (Z.trim s.lpn).1},⟨(Z.trim s.lpn).2,zd⟩):=by unfold Pv.does;rw[if_neg e1,if_neg e2,if_pos e3,hZ]
  refine J.pq (.of [0,4,8,13,16,21,26,28,35]) [8] [1,8] λ_ _=>?_;refine J.ca hX (by kernel_rfl) (a9J A.f A.p n A.t A.l A.d Z _ m (hO.less (k':=Fv.cW+(1+k)) (by omega)) hm s.lpn) [2,3,4,5,6,7] 0 rfl rfl rfl rfl rfl rfl (λ_=>rfl) ?_;refine cpq ⟨_,rfl,stq,?_⟩;refine J.qr [1,2,3,4,5,6,7] λ_=>?_;refine⟨A,?_,⟨rfl,rfl,rfl,rfl,rfl⟩, .inl ⟨_,by rw[hd],rfl⟩⟩;rw[hd];rfl
 have e3:s.fn≠3:=by simpa using h3
 refine J.qd (λ_ h4=>?_) λ_ h4=>?_
 ·have e4:s.fn=4:=by simpa using h4
  have hd:P.does s=({P with Z:=some Z.flush.1},⟨Z.flush.2,zd⟩):=by unfold Pv.does;rw[if_neg e1,if_neg e2,if_neg e3,if_pos e4,hZ]
  refine J.q λ_=>?_;refine J.ca hX (by kernel_rfl) (a7I A.f A.p n A.t A.l A.d Z _ m (hO.less (k':=Fv.cW*200+k) (by omega)) hm) [2,3,4,5,6,7] 0 rfl rfl rfl rfl rfl rfl (λ_=>rfl) ?_;refine cpq ⟨_,rfl,trivial,?_⟩;refine J.qr [1,2,3,4,5,6,7] λ_=>?_;refine⟨A,?_,⟨rfl,rfl,rfl,rfl,rfl⟩, .inl ⟨_,by rw[hd],rfl⟩⟩;rw[hd];rfl
 have e4:s.fn≠4:=by simpa using h4
 refine J.qd (λ_ h5=>?_) λ_ h5=>?_
 ·have e5:s.fn=5:=by simpa using h5
  have hd:P.does s=({P with Z:=some Z.tick.1},⟨Z.tick.2,zd⟩):=by unfold Pv.does;rw[if_neg e1,if_neg e2,if_neg e3,if_neg e4,if_pos e5,hZ]
  refine J.q λ_=>?_;refine J.ca hX (by kernel_rfl) (a6p A.f A.p n A.t A.l A.d Z _ m (hO.less (k':=Dv.costS+k) (by omega)) hm) [2,3,4,5,6,7] 0 rfl rfl rfl rfl rfl rfl (λ_=>rfl) ?_;refine cpq ⟨_,rfl,trivial,?_⟩;refine J.qr [1,2,3,4,5,6,7] λ_=>?_;refine⟨A,?_,⟨rfl,rfl,rfl,rfl,rfl⟩, .inl ⟨_,by rw[hd],rfl⟩⟩;rw[hd];rfl
 have e5:s.fn≠5:=by simpa using h5
 refine J.qd (λ_ h6=>?_) λ_ h6=>?_
 ·have e6:s.fn=6:=by simpa using h6
  have hd:P.does s=(P.setN (Z.S.N.setCut s.n s.keep),⟨0,zd⟩):=by unfold Pv.does;rw[if_neg e1,if_neg e2,if_neg e3,if_neg e4,if_neg e5,if_pos e6,hnd]
  have hsn:P.setN (Z.S.N.setCut s.n s.keep)={P with Z:=some (Z.setN (Z.S.N.setCut s.n s.keep))}:=by unfold Pv.setN;rw[hZ]
  rw[hsn]at hd;refine J.p (.of [0,4,8,13,16,21,24,29,34]) [] [1,8] λ_=>?_;refine J.qp (a9w n Z.S.N s.n s.keep) [4] λ_=>?_;refine J.qr [1,2,3,4,5,6,7] λ_=>?_;refine⟨A,?_,⟨rfl,rfl,rfl,rfl,rfl⟩, .inl ⟨_,by rw[hd],rfl⟩⟩;rw[hd];rfl
 have e6:s.fn≠6:=by simpa using h6
 refine J.qd (λ_ h7=>?_) λ_ h7=>?_
 ·have e7:s.fn=7:=by simpa using h7
  have hd:P.does s=(P.mounts.1,⟨P.mounts.2,zd⟩):=by unfold Pv.does;rw[if_neg e1,if_neg e2,if_neg e3,if_neg e4,if_neg e5,if_neg e6,if_pos e7]
  have hmm:=b0r q n A P Z hZ r2 r3 _ m (hO.dv.gd.less (k':=Dv.costK+(1+k)) (by omega) (Nat.le_refl m)) hm;rw[show a0v n A P=FvP A.f A.p n A.t A.l A.d Z from by unfold a0v;rw[hZ],hZ]at hmm;refine J.qc (hmm) [1,2,3,4,5,6,7] λ_=>?_;rintro v As ⟨A',rfl,hA',(⟨Y,hY,rfl⟩ | ⟨M,hY,rfl⟩)⟩
  ·refine⟨_,rfl,trivial,?_⟩;refine J.qr [1,2,3,4,5,6,7] λ_=>?_;refine⟨A',?_,hA', .inl ⟨Y,by rw[hd,hY],rfl⟩⟩;rw[hd];rfl
  ·refine⟨_,rfl,trivial,?_⟩;refine J.qr [1,2] λ_=>?_;refine⟨A',?_,hA', .inr ⟨M,by rw[hd,hY],rfl⟩⟩;rw[hd];rfl
 have e7:s.fn≠7:=by simpa using h7
 refine J.qd (λ_ h8=>?_) λ_ h8=>?_
 ·have e8:s.fn=8:=by simpa using h8
  obtain⟨Q,hQ⟩:∃Q,Q=Z.S.N.fault s.f.kind s.f.x s.f.y s.f.z s.f.n s.f.xx:=⟨_,rfl⟩;have hd:P.does s=({P with Z:=some (Z.setN Q.2)},if Q.1 then⟨0,zd⟩else⟨1,zd⟩):=by unfold Pv.does;rw[if_neg e1,if_neg e2,if_neg e3,if_neg e4,if_neg e5,if_neg e6,if_neg e7,if_pos e8,hnd,<- hQ];unfold Pv.setN;rw[hZ]
  refine J.p (.of [0,4,8,13,16,21,26]) [] [1,8] λ_=>?_;refine J.qp (a0o n Z.S.N hO.dv.gd.ok s.f.at_ s.f.kind s.f.x s.f.y s.f.z s.f.n s.f.xx) [4] λ_=>?_;rw[<- hQ];refine J.qd (λ_ h9=>?_) λ_ h9=>?_
  ·rw[if_pos h9]at hd;refine J.qr [1,2,3,4,5,6,7] λ_=>?_;refine⟨A,?_,⟨rfl,rfl,rfl,rfl,rfl⟩, .inl ⟨_,by rw[hd],rfl⟩⟩;rw[hd];rfl
  ·rw[if_neg (by rw[h9];decide)]at hd;refine J.qr [1,2,3,4,5,6,7] λ_=>?_;refine⟨A,?_,⟨rfl,rfl,rfl,rfl,rfl⟩, .inl ⟨_,by rw[hd],rfl⟩⟩;rw[hd];rfl
 have e8:s.fn≠8:=by simpa using h8
 have hd:P.does s=(P,⟨1,zd⟩):=by unfold Pv.does;rw[if_neg e1,if_neg e2,if_neg e3,if_neg e4,if_neg e5,if_neg e6,if_neg e7,if_neg e8]
 refine J.qr [1,2,3,4,5,6,7] λ_=>?_;refine⟨A,?_,⟨rfl,rfl,rfl,rfl,rfl⟩, .inl ⟨Z,?_,rfl⟩⟩
 ·rw[hd];rfl
 ·rw[hd];show P={P with Z:=some Z};rw[<- hZ]
theorem Dv.Ok.setN {S:Dv} {k m m':Nat} {N:Nand} (h:S.Ok k m) (hl:S.N.Like N) (hG:N.Gd k m'):({S with N:=N}:Dv).Ok k m':=⟨hG,h.t.like hl,h.T,h.sl,h.row,h.next⟩
theorem Fv.Ok.setN {Z:Fv} {k m m':Nat} {N:Nand} (h:Z.Ok k m) (hl:Z.S.N.Like N) (hG:N.Gd k m'):(Z.setN N).Ok k m':=⟨h.dv.setN hl hG,h.dat,λe he=>by have:=h.rng e he;unfold Fv.lg at this ⊢;rw[show(Z.setN N).S.N=N from rfl,a7w hl];exact this,h.nd,h.nx⟩
theorem a3M (N:Nand):∀(l:List Fl),N.Like (O5 N l)
 | []=>Nand.Like.refl N
 | f::l=>(Nand.like_fault N f.kind f.x f.y f.z f.n f.xx).trans (a3M (flN N f) l)
theorem a1o (l:List Td) (x:Td):y9 l++tdC x=y9 (l++[x]):=by unfold y9;rw[List.flatMap_append];simp
theorem a2H (q n:Nat) (A:Pad) (P:Pv) (hA:A.Ok P) (Z:Fv) (hZ:P.Z=some Z) (k m:Nat) (hO:Z.Ok (Fv.cW*200+(Dv.costS+(Dv.costK+(1+k)))) m) (hm:m+(B1 Z.S.N.ops P.L).length<=12) (hL:P.L.length<=1000) (hlg:P.log.length<=1000) (s:Stp) (hs:s.data.length=16):FP 11 [pp q,stV s] (V0 q n A P) (λv As=>∃A':Pad,v=tdV (P.step s).2/\A'.Ok (P.step s).1/\As=V0 q n A' (P.step s).1):=by
 have hnd:P.nd=Z.S.N:=by unfold Pv.nd;rw[hZ]
 obtain⟨D,hD⟩:∃D,B1 Z.S.N.ops P.L=D:=⟨_,rfl⟩;obtain⟨R,hR⟩:∃R,Z9 Z.S.N.ops P.L=R:=⟨_,rfl⟩;rw[hD]at hm;have hrun:P.run=⟨R,P.log,some (Z.setN (O5 Z.S.N D)),P.M⟩:=by unfold Pv.run;rw[hnd,hD,hR];unfold Pv.setN;rw[hZ]
 have hO2:(Z.setN (O5 Z.S.N D)).Ok (Fv.cW*200+(Dv.costS+(Dv.costK+(1+k)))) (m+D.length):=hO.setN (a3M _ _) (a2N hO.dv.gd D);have hst:P.step s=({(P.run.does s).1 with log:=(P.run.does s).1.log++[(P.run.does s).2]},(P.run.does s).2):=rfl;unfold V0;rw[show a0v n A P=FvP A.f A.p n A.t A.l A.d Z from by unfold a0v;rw[hZ],hZ];refine FE [2,0] Tryz.func11 λX F hX=>?_;refine J.qF λ_=>?_;refine J.p (.of [0,4,8,13,16,20,24,29,34]) [] [1] λ_=>?_;refine J.qc (b7t A.fp n A.a A.c P.L hA.z hA.c hL Z.S.N _ m hO.dv.gd) [2,3,7] λ_=>?_;rintro v As ⟨a',c',hz',hc',rfl,rfl⟩;refine⟨_,rfl,stq,?_⟩;rw[hR]at hc' ⊢;rw[hD];have hdo:=b4O q n A ⟨R,P.log,some (Z.setN (O5 Z.S.N D)),P.M⟩ (Z.setN (O5 Z.S.N D)) rfl (pp A.fp) (slv A.a2 P.log.length A.c2) k (m+D.length) hO2 hm s hs;rw[<- hrun]at hdo;rw[hrun]at hdo;obtain⟨W,hW⟩:∃W,(⟨R,P.log,some (Z.setN (O5 Z.S.N D)),P.M⟩:Pv).does s=W:=⟨_,rfl⟩;rw[hrun,hW]at hst;rw[hW]at hdo;obtain⟨Wp,wt⟩:=W;dsimp only at hdo hst;refine J.qc (hdo) [1,5,6,7,8,9,10] λ_=>?_;rintro v As ⟨A',rfl,⟨q1,q2,q3,q4,q5⟩,(⟨Y,hY,rfl⟩ | ⟨M,hY,rfl⟩)⟩
 ·refine⟨_,rfl,trivial,?_⟩;refine J.pq (.of [0,4,8,12,17,21,26,30,32,36,43]) [8,9,10] [1,13] λ_ _=>?_;refine J.ap 4 14 0 (a1o P.log wt) λa3 c3=>?_;refine J.qr [1,2,3,4,5,6,7,8,9,10] λ_=>?_;refine⟨⟨A'.f,A'.p,A'.t,A'.l,A'.d,A.fp,a',c',a3,c3⟩,?_,?_,?_⟩
  ·rw[hst];rfl
  ·rw[hst,hY];exact⟨hz',hc'⟩
  ·rw[hst,hY];dsimp only;rw[List.length_append];rfl
 ·refine⟨_,rfl,trivial,?_⟩;refine J.pq (.of [0,4,8,12,17,21,26,30,32,36,43]) [8,9,10] [1,13] λ_ _=>?_;refine J.ap 4 14 0 (a1o P.log wt) λa3 c3=>?_;refine J.qr [1,2,3,4,5] λ_=>?_;refine⟨⟨A'.f,A'.p,A'.t,A'.l,A'.d,A.fp,a',c',a3,c3⟩,?_,?_,?_⟩
  ·rw[hst];rfl
  ·rw[hst,hY];exact⟨hz',hc'⟩
  ·rw[hst,hY];dsimp only;rw[List.length_append];rfl
theorem a7U (l:List Td):∀u∈y9 l,u.oneCell'=true:=by
 intro u hu;simp only[y9,List.mem_flatMap]at hu;obtain⟨s,_,hu⟩:=hu;simp only[tdC,List.mem_cons,List.not_mem_nil,or_false]at hu;rcases hu with rfl | rfl | rfl | rfl | rfl | rfl | rfl | rfl | rfl | rfl | rfl | rfl | rfl | rfl | rfl | rfl | rfl<;>rfl
theorem b0a (a:Option Nat) (n cap:Nat) (l:List Td) (hl:l.length=n) (hn:n<=1000000):FP 52 [slv a n cap] [c9 40 17 a n cap (y9 l)]
  (λv As=>∃a' c',v=slv a' n c'/\As=[c9 40 17 a n cap (y9 l),c9 40 17 a' n c' (y9 l)]):=by
 refine FE [0] Tryz.func52 λX F hX=>?_;cases a with
 | none=>
  refine J.know (λh' s=>(s.get (i:=1) rfl).2) λhn0=>?_;obtain⟨rfl,rfl⟩:=hn0;have:l=[]:=List.eq_nil_of_length_eq_zero hl;subst this;refine J.qT λ_=>?_;refine J.turn1 [] rfl (As:=[c9 40 17 none 0 0 (y9 [])]) (λh s=>Sep.one ⟨rfl,rfl,rfl⟩) rfl ?_;refine J.qr [1,2] λ_=>?_;exact⟨none,0,rfl,rfl⟩
 | some g=>
  refine J.qF λ_=>?_;refine J.qn 5 λbb=>?_;refine J.closeOwn (e:=40) (size:=17) (n:=0) (cap:=0) (xs:=[]) 2 rfl rfl rfl (Nat.le_refl _) (Nat.zero_le _) rfl rfl rfl ?_;refine J.q λ_=>?_;refine J.appendR hX tk (a:=some (bb 0)) (n:=0) (cap:=0) (xs:=[]) (oo:=0) (Ay:=c9 40 17 (some g) n cap (y9 l)) 2 1 0 rfl rfl rfl rfl rfl rfl rfl rfl rfl rfl (C7 _ _ (some g) _ _ _) rfl rfl rfl rfl (a7U l) ?_ ?_ (λ_=>rfl) λa' c'=>⟨_,rfl,trivial,?_⟩
  ·simp only[maxLen];omega
  ·omega
  rw[Nat.zero_add n,List.nil_append];refine J.qr [1,2] λ_=>?_;exact⟨a',c',rfl,rfl⟩
theorem b6x (q n:Nat) (A:Pad) (P:Pv) (hl:P.log.length<=1000):FP 12 [pp q] [PlQ q n P.Z A.f (pp A.fp) (slv A.a2 P.log.length A.c2),c9 40 17 A.a2 P.log.length A.c2 (y9 P.log)]
  (λv As=>∃a' c',v=slv a' P.log.length c'/\As=[PlQ q n P.Z A.f (pp A.fp) (slv A.a2 P.log.length A.c2),c9 40 17 A.a2 P.log.length A.c2 (y9 P.log),c9 40 17 a' P.log.length c' (y9 P.log)]):=by
 refine FE [2] Tryz.func12 λX F hX=>?_;refine J.qF λ_=>?_;refine J.qc (b0a A.a2 P.log.length A.c2 P.log rfl (by omega)) [2] λ_=>?_;rintro v As ⟨a',c',rfl,rfl⟩;refine⟨_,rfl,trivial,?_⟩;refine J.qr [1,2,3] λ_=>?_;exact⟨a',c',rfl,rfl⟩
def a9Q (d b p:Int):Int:=if p9 d b p then 12*d*b*p+40 else 0
theorem b7e (d b p:Int):FP 48 [.agg #[iI d,iI b,iI p]] [] (Ps (iI (a9Q d b p)) []):=by
 refine FE [0] Tryz.func48 λX F hX=>?_;refine J.qp (a2n d b p) [] λ_=>?_;refine J.qd (λ_ h1=>?_) λ_ h1=>?_
 ·have hg:p9 d b p=false:=by simpa using h1
  refine J.qr [] λ_=>?_;exact⟨by unfold a9Q;rw[hg];rfl,rfl⟩
 ·have hg:p9 d b p=true:=by simpa using h1
  have hbd:(3<=d/\d<=6)/\(8<=b/\b<=16)/\(2<=p/\p<=8):=by simp[p9]at hg;omega
  have m1:0<=12*d*b/\12*d*b<=1152:=by
   have h1:=Int.mul_nonneg (show 0<=12*d by omega) (show 0<=b by omega);have h2:=Int.mul_le_mul (show 12*d<=72 by omega) (show b<=16 by omega) (by omega) (by omega);omega
  have m2:0<=12*d*b*p/\12*d*b*p<=9216:=by
   have h1:=Int.mul_nonneg m1.1 (show 0<=p by omega);have h2:=Int.mul_le_mul m1.2 (show p<=8 by omega) (by omega) (by omega);omega
  refine J.qr [] λ_=>?_;exact⟨by unfold a9Q;rw[hg];rfl,rfl⟩
def Fv.allG:Nat->Int->Fv->Fv×List (List UInt8)×Int
 | 0,_,Z=>(Z,[],0)
 | n+1,i,Z=>if(Z.read i).2.2≠0 then((Z.read i).1,[],(Z.read i).2.2)else((Fv.allG n (i+1) (Z.read i).1).1,(Z.read i).2.1::(Fv.allG n (i+1) (Z.read i).1).2.1,(Fv.allG n (i+1) (Z.read i).1).2.2)
theorem Fv.allG_succ (n:Nat) (i:Int) (Z:Fv):Fv.allG (n+1) i Z=if(Z.read i).2.2≠0 then((Z.read i).1,[],(Z.read i).2.2)else((Fv.allG n (i+1) (Z.read i).1).1,(Z.read i).2.1::(Fv.allG n (i+1) (Z.read i).1).2.1,(Fv.allG n (i+1) (Z.read i).1).2.2):=rfl
def Fv.all (Z:Fv):Fv×List (List UInt8)×Int:=if(Fv.allG Z.lg.toNat 0 Z).2.2≠0 then((Fv.allG Z.lg.toNat 0 Z).1,[],(Fv.allG Z.lg.toNat 0 Z).2.2)else Fv.allG Z.lg.toNat 0 Z
theorem a6z (l:List (List UInt8)) (d:List UInt8):j5 l++j3 d=j5 (l++[d]):=by unfold j5;rw[List.flatMap_append];simp
theorem a8S (f p n t l d:Nat) (Z:Fv) (k m:Nat) (hO:Z.Ok k m):FP 18 [pp f] (FvP f p n t l d Z)
  (λv As=>∃a c,v= .tuple #[slv a Z.all.2.1.length c,iI Z.all.2.2]/\As=FvP f p n t l d Z.all.1++[c9 31 16 a Z.all.2.1.length c (j5 Z.all.2.1)]):=by
 refine FE [2] Tryz.func18 λX F hX=>?_;refine J.q λb9=>?_;refine J.cF ?_;refine J.qp (W6 f n t l p d Z hO.dv.gd.ok) [1,3] λ_=>?_;have hlb:=Fv.lg_bd (F:=Z) hO.dv.gd.ok;obtain⟨N,hN⟩:=Int.eq_ofNat_of_zero_le (show 0<=Z.lg by omega);rw[hN];have hall:Z.all=if(Fv.allG N 0 Z).2.2≠0 then((Fv.allG N 0 Z).1,[],(Fv.allG N 0 Z).2.2)else Fv.allG N 0 Z:=by unfold Fv.all;rw[hN];rfl
 refine J.q λ_=>?_;refine J.turn1 [] rfl (As:=[c9 31 16 none 0 0 (j5 [])]) (λh s=>Sep.one ⟨rfl,rfl,rfl⟩) rfl ?_;refine J.q λ_=>?_;refine J.l (α:=(Nat×Fv×List (List UInt8)×Option Nat×Nat)) (λz=>z.1<=N/\z.2.1.Ok k m/\z.2.2.1.length=z.1/\Fv.allG N 0 Z=((Fv.allG (N-z.1) z.1 z.2.1).1,z.2.2.1++(Fv.allG (N-z.1) z.1 z.2.1).2.1,(Fv.allG (N-z.1) z.1 z.2.1).2.2)) (λz=>[si 12 z.1,si 11 N,⟨0,pp f,2, .tt⟩,sv 4 (slv z.2.2.2.1 z.2.2.1.length z.2.2.2.2)]) [1,2,3,4,5,6,7] (λz=>(FvP f p n t l d z.2.1++[c9 31 16 z.2.2.2.1 z.2.2.1.length z.2.2.2.2 (j5 z.2.2.1)])) (λz=>N-z.1) ((0,Z,[],none,0)) (⟨Nat.zero_le _,hO,rfl,rfl⟩) λz hI=>?_;obtain⟨j,Y,acc,ga,ca⟩:=z;dsimp only at hI ⊢;obtain⟨hj,hY,hacc,hgo⟩:=hI;refine J.qd (λ_ h1=>?_) λ_ h1=>?_
 ·simp only[decide_eq_true_eq,Int.ofNat_lt]at h1;have hk:=Fv.read_keep hY j;rw[show N-j=(N-(j+1))+1 from by omega]at hgo;rw[Fv.allG_succ]at hgo;refine J.qp (a0r f p n t l d Y k m hY j) [1,2,3,4,5,6] λ_=>?_;generalize Y.read j=R at hgo hk ⊢;obtain⟨Y2,dd,er⟩:=R;dsimp only at hgo hk ⊢;refine J.qd (λ_ h2=>?_) λ_ h2=>?_
  ·have he:er≠0:=by simpa using h2
   rw[if_pos he]at hgo;rw[hgo,if_pos he]at hall;refine J.turn1 [] rfl (As:=[c9 31 16 none 0 0 (j5 [])]) (λh s=>Sep.one ⟨rfl,rfl,rfl⟩) rfl ?_;refine J.qr [1,2,3,4,5,6,9] λ_=>?_;rw[hall];exact⟨none,0,rfl,rfl⟩
  ·have he:er=0:=by simpa using h2
   rw[if_neg (λh=>h he)]at hgo;refine J.qn 5 λb9=>?_;refine J.ap 7 9 0 (a6z acc dd) λa3 c3=>?_;refine J.q λ_=>?_;rw[show acc.length+1=(acc++[dd]).length from by simp];refine J.q λ_=>?_;refine J.n ((j+1,Y2,acc++[dd],a3,c3)) (⟨by dsimp only;omega,hk.1,by dsimp only;rw[List.length_append];exact congrArg (· +1) hacc,by dsimp only;rw[hgo,List.append_assoc];rfl⟩) (by dsimp only;omega) [0,1,2,3,4,5,6,7]
 simp only[decide_eq_false_iff_not,Int.ofNat_lt]at h1;obtain rfl:j=N:=by omega
 rw[Nat.sub_self,show Fv.allG 0 (j:Int) Y=(Y,[],0)from rfl,List.append_nil]at hgo;rw[hgo,if_neg (by simp)]at hall;refine J.qr [1,2,3,4,5,6,7] λ_=>?_;rw[hall];exact⟨ga,ca,rfl,rfl⟩
def Fv.ticksG:Nat->Int->Fv->Fv×Int
 | 0,i,Z=>(Z.whole.1,if Z.whole.2 then i else-1)
 | f+1,i,Z=>if Z.whole.2 then(Z.whole.1,i)else if Z.whole.1.tick.2≠0 then(Z.whole.1.tick.1,-1)else Fv.ticksG f (i+1) Z.whole.1.tick.1
theorem Fv.ticksG_succ (f:Nat) (i:Int) (Z:Fv):Fv.ticksG (f+1) i Z=if Z.whole.2 then(Z.whole.1,i)else if Z.whole.1.tick.2≠0 then(Z.whole.1.tick.1,-1)else Fv.ticksG f (i+1) Z.whole.1.tick.1:=rfl
def a5b (most:Int):Nat:=(min (max most 0) 10000).toNat
def Fv.ticks (Z:Fv) (most:Int):Fv×Int:=Fv.ticksG (a5b most) 0 Z
theorem b3P (f p n t l d:Nat) (Z:Fv) (k m:Nat) (most:Int) (hO:Z.Ok (Dv.costS*a5b most+k) m) (hm:m<=12):FP 31 [pp f,iI most] (FvP f p n t l d Z)
  (Ps (iI (Z.ticks most).2) (FvP f p n t l d (Z.ticks most).1)):=by
 obtain⟨M,hM⟩:∃M,a5b most=M:=⟨_,rfl⟩;have hMM:min (max most 0) 10000=(M:Int):=by rw[<- hM];unfold a5b;omega
 have hM1:M<=10000:=by omega
 rw[show Z.ticks most=Fv.ticksG M 0 Z from by unfold Fv.ticks;rw[hM]];rw[hM]at hO;refine FE [2,0] Tryz.func31 λX F hX=>?_;refine J.qn 9 λ_=>?_;have e:(if(10000:Int)<if(0:Int)>most then 0 else most then 10000 else if(0:Int)>most then 0 else most)=(M:Int):=by
  rw[<- hMM];split<;>split<;>omega
 rw[e];refine J.q λ_=>?_;refine J.l (α:=(Nat×Fv)) (λz=>(z.1<=M/\z.2.Ok (Dv.costS*(M-z.1)+k) m/\Fv.ticksG M 0 Z=Fv.ticksG (M-z.1) z.1 z.2)\/(z.1=M+1/\Fv.ticksG M 0 Z=(z.2,-1))) (λz=>[si 11 z.1,⟨10,iI ((M:Int)+1),0, .tt⟩,⟨0,pp f,2, .tt⟩,si 1 M]) [1,2,3,4,5,6] (λz=>FvP f p n t l d z.2) (λz=>M+1-z.1) ((0,Z)) (.inl ⟨Nat.zero_le _,hO,rfl⟩) λz hI=>?_;obtain⟨j,Y⟩:=z;dsimp only at hI ⊢;refine J.qd (λ_ h1=>?_) λ_ h1=>?_
 ·simp only[decide_eq_true_eq]at h1;obtain⟨hj,hY,hgo⟩:j<=M/\Y.Ok (Dv.costS*(M-j)+k) m/\Fv.ticksG M 0 Z=Fv.ticksG (M-j) j Y:=by
   rcases hI with h | h
   ·exact h
   ·omega
  have hw:=Fv.whole_keep hY;refine J.qp (a7H f p n t l d Y _ m hY) [1,2,3,4,5,6] λ_=>?_;obtain⟨W,hW⟩:∃W,Y.whole=W:=⟨_,rfl⟩;rw[hW]at hw ⊢;obtain⟨Y1,wb⟩:=W;dsimp only at hw ⊢;refine J.qd (λ_ h2=>?_) λ_ h2=>?_
  ·have hr:Fv.ticksG (M-j) j Y=(Y1,(j:Int)):=by
    cases hc:M-j with
    | zero=>show(Y.whole.1,if Y.whole.2 then(j:Int)else-1)=_;rw[hW,if_pos h2]
    | succ c=>rw[Fv.ticksG_succ,hW,if_pos h2]
   refine J.qr [1,2,3,4,5,6] λ_=>?_;rw[hgo,hr];exact⟨rfl,rfl⟩
  refine J.qn 6 λ_=>?_;rcases Nat.lt_or_ge j M with hjM | hjM
  ·rw[show decide ((j:Int)<(M:Int))=true from decide_eq_true (by omega)];obtain⟨c,hc⟩:∃c,M-j=c+1:=⟨M-j-1,by omega⟩;have hO1:Y1.Ok (Dv.costS+(Dv.costS*c+k)) m:=hw.1.less (by rw[hc,Nat.mul_succ];omega);have htk:=Fv.tick_keep hO1;refine J.qp (a6p f p n t l d Y1 _ m hO1 hm) [1,2,3,4,5,6] λ_=>?_;have hr:Fv.ticksG (M-j) j Y=if Y1.tick.2≠0 then(Y1.tick.1,-1)else Fv.ticksG c (j+1) Y1.tick.1:=by
    rw[hc,Fv.ticksG_succ,hW,if_neg (by rw[h2];exact Bool.false_ne_true)]
   obtain⟨W,hW2⟩:∃W,Y1.tick=W:=⟨_,rfl⟩;rw[hW2]at htk hr ⊢;obtain⟨Y2,er⟩:=W;dsimp only at htk hr ⊢;refine J.qd (λ_ h3=>?_) λ_ h3=>?_
   ·have he:er≠0:=by simpa using h3
    rw[if_pos he]at hr;refine J.qr [1,2,3,4,5,6] λ_=>?_;rw[hgo,hr];exact⟨rfl,rfl⟩
   ·have he:er=0:=by simpa using h3
    rw[if_neg (λh=>h he)]at hr;refine J.q λ_=>?_;refine J.n ((j+1,Y2)) (.inl ⟨by dsimp only;omega,by dsimp only;rw[show M-(j+1)=c from by omega];exact htk.1,by dsimp only;rw[show M-(j+1)=c from by omega,hgo,hr];rfl⟩) (by dsimp only;omega) [0,1,2,3,4,5,6]
  ·obtain rfl:j=M:=by omega
   rw[show decide ((j:Int)<(j:Int))=false from decide_eq_false (by omega)];refine J.q λ_=>?_;refine J.v (iI 0) rfl rfl (λhg a w he hw=>by simp[G.on]at hg) ?_;refine J.qF λ_=>?_;refine J.q λ_=>?_;refine J.n ((j+1,Y1)) (.inr ⟨rfl,by rw[hgo,Nat.sub_self];show(Y.whole.1,if Y.whole.2 then(j:Int)else-1)=_;rw[hW,if_neg (by rw[h2];exact Bool.false_ne_true)]⟩) (by dsimp only;omega) [0,1,2,3,4,5,6]
 simp only[decide_eq_false_iff_not]at h1;obtain⟨rfl,hgo⟩:j=M+1/\Fv.ticksG M 0 Z=(Y,-1):=by
  rcases hI with h | h
  ·omega
  ·exact h
 refine J.qr [1,2,3,4,5,6] λ_=>?_;rw[hgo];exact⟨rfl,rfl⟩
def flS:Stp:=⟨4,0,zd,0,0,dF⟩
theorem Pv.step_flush (P:Pv) (Z:Fv) (hZ:P.Z=some Z) (s:Stp) (hs:s.fn=4):P.step s=(⟨Z9 Z.S.N.ops P.L,P.log++[⟨(Z.setN (O5 Z.S.N (B1 Z.S.N.ops P.L))).flush.2,zd⟩],some (Z.setN (O5 Z.S.N (B1 Z.S.N.ops P.L))).flush.1,P.M⟩,⟨(Z.setN (O5 Z.S.N (B1 Z.S.N.ops P.L))).flush.2,zd⟩):=by
 have hnd:P.nd=Z.S.N:=by unfold Pv.nd;rw[hZ]
 have hrun:P.run=⟨Z9 Z.S.N.ops P.L,P.log,some (Z.setN (O5 Z.S.N (B1 Z.S.N.ops P.L))),P.M⟩:=by unfold Pv.run;rw[hnd];unfold Pv.setN;rw[hZ]
 have hd:P.run.does s=({P.run with Z:=some (Z.setN (O5 Z.S.N (B1 Z.S.N.ops P.L))).flush.1},⟨(Z.setN (O5 Z.S.N (B1 Z.S.N.ops P.L))).flush.2,zd⟩):=by
  rw[hrun];unfold Pv.does;rw[if_neg (by rw[hs];decide),if_neg (by rw[hs];decide),if_neg (by rw[hs];decide),if_pos hs]
 unfold Pv.step;rw[hd,hrun]
theorem b5O (q n:Nat) (A:Pad) (P:Pv) (hA:A.Ok P) (Z:Fv) (hZ:P.Z=some Z) (most:Int) (k m:Nat) (hO:Z.Ok (Fv.cW*200+(Dv.costS+(Dv.costK+(1+(Dv.costS*a5b most+k))))) m) (hoff:Z.S.N.off=false) (hm:m+(B1 Z.S.N.ops P.L).length<=12) (hL:P.L.length<=1000) (hlg:P.log.length<=1000) (Z1:Fv) (hZ1:(P.step flS).1.Z=some Z1):FP 47 [pp q,iI most] (V0 q n A P)
  (λv As=>∃A':Pad,v= .bool (decide ((Z1.ticks most).2>=0))/\A'.Ok {(P.step flS).1 with Z:=some (Z1.ticks most).1}/\As=V0 q n A' {(P.step flS).1 with Z:=some (Z1.ticks most).1}):=by
 have hsf:=Pv.step_flush P Z hZ flS rfl;obtain⟨D,hD⟩:∃D,B1 Z.S.N.ops P.L=D:=⟨_,rfl⟩;rw[hD]at hm hsf;have hO2:(Z.setN (O5 Z.S.N D)).Ok (Fv.cW*200+(Dv.costS+(Dv.costK+(1+(Dv.costS*a5b most+k))))) (m+D.length):=hO.setN (a3M _ _) (a2N hO.dv.gd D);have hkp:=Fv.flush_keep hO2;have hz1:Z1=(Z.setN (O5 Z.S.N D)).flush.1:=by rw[hsf]at hZ1;injection hZ1 with e;exact e.symm
 rw[<- hz1]at hkp;have hst:=a2H q n A P hA Z hZ _ m hO (by rw[hD];exact hm) hL hlg flS rfl;have hone:(P.step flS).1=⟨Z9 Z.S.N.ops P.L,(P.step flS).1.log,some Z1,P.M⟩:=by rw[hsf,hz1]
 have hpl:V0 q n A P=[PlQ q n (some Z) A.f (pp A.fp) (slv A.a2 P.log.length A.c2), .pt A.fp 155 [.slice (y7 A.a) P.L.length A.c],rdA (y7 A.a) 7 P.L.length (f6 P.L),c9 40 17 A.a2 P.log.length A.c2 (y9 P.log)]++FvP A.f A.p n A.t A.l A.d Z:=by unfold V0 a0v;rw[hZ];rfl
 rw[hpl]at hst ⊢;refine FE [2,0] Tryz.func47 λX F hX=>?_;refine J.qp (a2I q n (flP (some Z) A.f) (pp A.fp) (slv A.a2 P.log.length A.c2)) [1] λ_=>?_;refine J.qp (V6 n Z.S.N) [7] λ_=>?_;rw[hoff];refine J.qp (a6a q n (some Z) A.f (pp A.fp) (slv A.a2 P.log.length A.c2)) [1] λ_=>?_;refine J.qF λ_=>?_;refine J.qc (hst) [1,2,3,4,5,6,7,8,9,10] λ_=>?_;rintro v As ⟨A',rfl,hA',rfl⟩;rw[hone]at hA' ⊢;refine⟨_,rfl,trivial,?_⟩;refine J.qp (a6a q n (some Z1) A'.f (pp A'.fp) (slv A'.a2 (P.step flS).1.log.length A'.c2)) [1] λ_=>?_;refine J.qp (b3P A'.f A'.p n A'.t A'.l A'.d Z1 k (m+D.length) most (hkp.1.less (by omega)) hm) [5,6,7,8,9,10] λ_=>?_;refine J.qr [1,2,3,4,5,6,7,8,9,10] λ_=>?_;refine⟨A',rfl,?_,?_⟩
 ·rw[hone];exact⟨hA'.z,hA'.c⟩
 ·rw[hone];rfl
theorem Fv.allG_keep {k m:Nat}:∀(n:Nat) (i:Int) (Z:Fv),Z.Ok k m->(Fv.allG n i Z).1.Ok k m
 | 0,_,_,h=>h
 | n+1,i,Z,h=>by
  rw[Fv.allG_succ];split
  ·exact(Fv.read_keep h i).1
  ·exact Fv.allG_keep n (i+1) _ (Fv.read_keep h i).1
theorem Fv.all_keep {Z:Fv} {k m:Nat} (h:Z.Ok k m):Z.all.1.Ok k m:=by
 unfold Fv.all;split
 ·exact Fv.allG_keep _ _ _ h
 ·exact Fv.allG_keep _ _ _ h
namespace B21
def d1 (n:UInt8):List UInt8:=n::List.replicate 15 0
def N0:Nand:=Nand.new 3 8 2
def F0:Fv:=Fv.of (s9 N0).1
def F1:Fv×Int:=F0.write 1 (d1 7)
def F2:Fv×Int:=F1.1.trim 2
def F3:Fv×Int:=F2.1.write 3 zd
def F4:Fv×List UInt8×Int:=F3.1.read 1
def F5:Fv×Int:=F4.1.flush
def F6:Fv:=F5.1.setN (F5.1.S.N.setCut (-1) 0)
def F7:Fv×List UInt8×Int:=F6.read 1
def N8:Nand:=F7.1.S.N.onN
def F8:Fv:=Fv.of (s9 N8).1
def F9:Fv×List UInt8×Int:=F8.read 1
def Fa:Fv×List (List UInt8)×Int:=F9.1.all
def P0:Pv:=Pv.new 3 8 2 []
def s1:Stp:=⟨2,0,d1 9,0,0,dF⟩
def s2:Stp:=⟨1,0,zd,0,0,dF⟩
def Z1:Fv:=((F0.setN F0.S.N).write 0 (d1 9)).1
def Z2:Fv:=((Z1.setN Z1.S.N).read 0).1
def Z3:Fv:=((Z2.setN Z2.S.N)).flush.1
theorem m0:(s9 N0).2=0:=by kernel_rfl
theorem v1:F1.2=0:=by kernel_rfl
theorem v2:F2.2=0:=by kernel_rfl
theorem v3:F3.2=3:=by kernel_rfl
theorem v4:F4.2.2=0:=by kernel_rfl
theorem w4:F4.2.1=d1 7:=by kernel_rfl
theorem v5:F5.2=0:=by kernel_rfl
theorem v7:F7.2.2=9:=by kernel_rfl
theorem m8:(s9 N8).2=0:=by kernel_rfl
theorem v9:F9.2.2=0:=by kernel_rfl
theorem w9:F9.2.1=d1 7:=by kernel_rfl
theorem va:Fa.2.1.length=3:=by kernel_rfl
theorem wa:Fa.2.2=0:=by kernel_rfl
theorem z0:P0.Z=some F0:=by kernel_rfl
theorem e1:(P0.step s1).2.err=0:=by kernel_rfl
theorem z1:(P0.step s1).1.Z=some Z1:=by kernel_rfl
def P1:Pv:=(P0.step s1).1
theorem e2:(P1.step s2).2.data=d1 9:=by kernel_rfl
theorem z2:(P1.step s2).1.Z=some Z2:=by kernel_rfl
def P2:Pv:=(P1.step s2).1
theorem z3:(P2.step flS).1.Z=some Z3:=by kernel_rfl
theorem pL1:P1.L=[]:=by kernel_rfl
theorem pl1:P1.log.length=1:=by kernel_rfl
theorem pL2:P2.L=[]:=by kernel_rfl
theorem lg2:P2.log.length=2:=by kernel_rfl
theorem t3:decide ((Z3.ticks 50).2>=0)=true:=by kernel_rfl
theorem lgA:Fa.1.lg=3:=by kernel_rfl
def M0:List MPv:=Mv.new 2
def M1:List MPv:=Mv.cut (Mv.write M0 0 (d1 1))
theorem q1:Mv.may M1 0 zd=true:=by kernel_rfl
theorem q2:Mv.may M1 0 (d1 1)=true:=by kernel_rfl
theorem q3:Mv.may M1 0 (d1 2)=false:=by kernel_rfl
def K (j:Nat):Nat:=(20-j)*10000000000000
theorem ok0:F0.Ok (K 0) 0:=Fv.of_ok (a3D (a6H 3 8 2 rfl _ (by decide))).1 (by decide)
theorem ok1:F1.1.Ok (K 1) 0:=(Fv.write_keep (ok0.less (k':=Fv.cW+(1+K 1)) (by decide)) 1 rfl).1
theorem ok2:F2.1.Ok (K 2) 0:=(Fv.trim_keep (ok1.less (k':=Fv.cW+(1+K 2)) (by decide)) 2).1
theorem ok3:F3.1.Ok (K 3) 0:=(Fv.write_keep (ok2.less (k':=Fv.cW+(1+K 3)) (by decide)) 3 rfl).1
theorem ok4:F4.1.Ok (K 4) 0:=(Fv.read_keep (ok3.less (k':=K 4) (by decide)) 1).1
theorem ok5:F5.1.Ok (K 5) 0:=(Fv.flush_keep (ok4.less (k':=Fv.cW*200+K 5) (by decide))).1
theorem ok6:F6.Ok (K 5) 0:=ok5.setN (Nand.like_cut _ _ _) (ok5.dv.gd.cut (-1) 0 (by decide) (by decide))
theorem ok7:F7.1.Ok (K 5) 0:=(Fv.read_keep ok6 1).1
theorem g8:N8.Gd (Dv.costK+K 6) 0:=(ok7.dv.gd.less (by decide) (Nat.le_refl 0)).on
theorem ok8:F8.Ok (K 6) 0:=Fv.of_ok (a3D g8).1 (by decide)
theorem ok9:F9.1.Ok (K 6) 0:=(Fv.read_keep ok8 1).1
theorem oka:Fa.1.Ok (K 6) 0:=Fv.all_keep ok9
theorem okz1:Z1.Ok (K 1) 0:=(Fv.write_keep ((ok0.setN (Nand.Like.refl _) ok0.dv.gd).less (k':=Fv.cW+(1+K 1)) (by decide)) 0 rfl).1
theorem okz2:Z2.Ok (K 1) 0:=(Fv.read_keep (okz1.setN (Nand.Like.refl _) okz1.dv.gd) 0).1
theorem okz2o:Z2.S.N.off=false:=by kernel_rfl
end B21
theorem Bt.numAt_congr {a b:List UInt8} {k:Nat}:∀w,(∀i,i<w->Bt.bitAt a (k+i)=Bt.bitAt b (k+i))->Bt.numAt a k w=Bt.numAt b k w
 | 0,_=>rfl
 | w+1,h=>by rw[Bt.numAt,Bt.numAt,Bt.numAt_congr w (λi hi=>h i (by omega)),h w (by omega)]
theorem a7K (K:Nat) (p:List UInt8) (hp:p.length=32) (hK:K<=32) (i:Nat):(Nand.fillP K p).getD i 0=if i<K then p.getD i 0 else if i<32 then 255 else 0:=by
 unfold Nand.fillP;simp only[List.getD_eq_getElem?_getD];rw[List.getElem?_append,List.length_take,hp]
 by_cases h:i<K
 ·rw[if_pos (by omega),if_pos h,List.getElem?_take,if_pos h]
 ·rw[if_neg (by omega),if_neg h]
  by_cases h2:i<32
  ·rw[if_pos h2,List.getElem?_replicate,if_pos (by omega)];rfl
  ·rw[if_neg h2,List.getElem?_replicate,if_neg (by omega)];rfl
theorem a1Q (p:List UInt8) (k i:Nat):(p.drop k).getD i 0=p.getD (k+i) 0:=by
 simp[List.getD_eq_getElem?_getD]
theorem b0g (K:Nat) (p:List UInt8) (hp:p.length=32) (hK:K<28):(S.fields (Nand.fillP K p)).kind=255:=by
 show((Bt.numAt ((Nand.fillP K p).drop 16) 88 8:Nat):Int)=255;rw[Bt.numAt_eq _ 88 8 255 (λi hi=>?_) 8 (Nat.le_refl 8)]
 ·rfl
 ·unfold Bt.bitAt;rw[show(88+i)/8=11 from by omega,a1Q,a7K K p hp (by omega),if_neg (by omega),if_pos (by omega),show 7-(88+i) % 8=8-1-i from by omega];rfl
theorem a6T (K:Nat) (p:List UInt8) (hp:p.length=32) (hK:28<=K) (hK2:K<=32):S.fields (Nand.fillP K p)=S.fields p:=by
 have hb:∀j,j<96->Bt.bitAt ((Nand.fillP K p).drop 16) j=Bt.bitAt (p.drop 16) j:=λj hj=>by
  unfold Bt.bitAt;rw[a1Q,a1Q,a7K K p hp hK2,if_pos (by omega)]
 have h16:(Nand.fillP K p).take 16=p.take 16:=by
  unfold Nand.fillP;rw[List.take_append_of_le_length (by rw[List.length_take,hp];omega),List.take_take,Nat.min_eq_left (by omega)]
 unfold S.fields;simp only[h16,Bt.numAt_congr (a:=(Nand.fillP K p).drop 16) (b:=p.drop 16) (k:=0) 64 (λi hi=>hb _ (by omega)),Bt.numAt_congr (a:=(Nand.fillP K p).drop 16) (b:=p.drop 16) (k:=88) 8 (λi hi=>hb _ (by omega)),
  Bt.numAt_congr (a:=(Nand.fillP K p).drop 16) (b:=p.drop 16) (k:=64) 8 (λi hi=>hb _ (by omega)),Bt.numAt_congr (a:=(Nand.fillP K p).drop 16) (b:=p.drop 16) (k:=72) 8 (λi hi=>hb _ (by omega)),Bt.numAt_congr (a:=(Nand.fillP K p).drop 16) (b:=p.drop 16) (k:=80) 8 (λi hi=>hb _ (by omega))]
namespace Nand
variable {N : Nand} {n : Nat}
end Nand
namespace Nand
variable {N N' N'' : Nand} {b : Nat}
end Nand
theorem a8A {N:Nand} {d b r:Int} (h:(N.blk d.toNat b.toNat).cells.length<=r.toNat):(M.look N d b r).2=2\/(M.look N d b r).2=4:=by
 have hp:N.pageAt d b r=none:=List.getElem?_eq_none h;have hr:N.refuses d b r=0\/N.refuses d b r=9\/N.refuses d b r=3\/N.refuses d b r=8:=by
  unfold Nand.refuses;split
  ·simp
  ·split
   ·simp
   ·split<;>simp
 have he:N.readE d b r=5\/N.readE d b r=9\/N.readE d b r=3\/N.readE d b r=8:=by
  unfold Nand.readE;rw[hp];rcases hr with e | e | e | e<;>rw[e]<;>simp
 unfold M.look;simp only;rcases he with e | e | e | e<;>rw[e]<;>simp
theorem b1s {N:Nand} {b r:Int} (h:∀d:Nat,(M.look N (d:Nat) b r).2≠1):R.all N b r=[]:=by
 have:(M.rowN N b r N.dies).filterMap M.maskOf=[]:=by
  refine List.filterMap_eq_nil_iff.2 λx hx=>?_;unfold M.rowN at hx;obtain⟨d,_,rfl⟩:=List.mem_map.1 hx;unfold M.maskOf;rw[if_neg (h d)]
 unfold R.all M.masks;rw[this];rfl
namespace V
end V
def u8 (x:Int):UInt8:=UInt8.ofNat (x % 256).toNat
theorem a8i (x:Int):Value.int .u8 (IntKind.u8.wrap x)=bv (u8 x):=by
 have h:IntKind.u8.wrap x=x % 256:=by simp[IntKind.wrap,IntKind.bits,IntKind.signed]
 rw[h,bv,u8];congr 1;have h1:0<=x % 256/\x % 256<256:=⟨Int.emod_nonneg _ (by decide),Int.emod_lt_of_pos _ (by decide)⟩;have h2:(UInt8.ofNat (x % 256).toNat).toNat=(x % 256).toNat:=by
  rw[UInt8.toNat_ofNat'];omega
 rw[h2];omega
def e18 (k s:Int):En:=⟨k,s,1,[u8 k,u8 s,u8 (s/256),7,0,0,0,0,0,0,0,0,0,0,0,0]⟩
theorem U4 (k s:Int):FP 141 [iI k,iI s] [] (Ps (enV (e18 k s)) []):=by
 refine FE [0,0] Tryz.func141 λX F hX=>?_;refine J.qn 9 λ_=>?_;refine J.v (bv (u8 k)) rfl rfl (λhg a w he hs=>by rw[<- a8i k];exact R7 tk rfl rfl he rfl rfl rfl) ?_;refine J.qn 1 λ_=>?_;refine J.v (bv (u8 s)) rfl rfl (λhg a w he hs=>by rw[<- a8i s];exact R7 tk rfl rfl he rfl rfl rfl) ?_;refine J.qn 2 λ_=>?_;rw[show s.fdiv (2^min (Int.toNat 8) IntKind.i64.bits)=s/256 from Int.fdiv_eq_ediv_of_nonneg s (by decide:(0:Int)<=256)];refine J.v (bv (u8 (s/256))) rfl rfl (λhg a w he hs=>by rw[<- a8i (s/256)];exact R7 tk rfl rfl he rfl rfl rfl) ?_;exact J.qx []
def Dv.new (d b p:Nat) (lg:Int):Dv:=⟨Nand.new d b p,Tl.new d b p,Tb.new lg,-1,0,0,1⟩
theorem b6S (d b p:Nat) (h:p9 d b p=true) (k:Nat) (hk:k<=1000000000000000):(Nand.new d b p).Gd k 0:=by
 have h0:=Nand.Gd.new d b p h 0 (by omega);refine⟨h0.ok,?_,?_,h0.nodup,h0.few⟩
 ·show(0:Int)+(k:Int)<_;omega
 ·show(0:Int)+(k:Int)<_;omega
theorem Dv.Ok.new (d b p:Nat) (lg:Int) (h:p9 d b p=true) (k:Nat) (hk:k<=1000000000000000):(Dv.new d b p lg).Ok k 0:=
 ⟨b6S d b p h k hk,⟨rfl,rfl,rfl,by show(List.replicate b Sb.zero).length=b;simp⟩,Tb.Ok.new lg,λx hx=>by simp[Dv.new,Tb.new]at hx,by show(0:Int)<=0/\(0:Int)<=8;omega,by show(1:Int)<=1/\(1:Int)<=1099511627776;omega⟩
theorem b0H (d b p:Nat) (h:p9 d b p=true) (lg:Int):FP 140 [.agg #[iI d,iI b,iI p],iI lg] []
  (λv As=>∃n t l q,v= .tuple #[pp n,pp t,pp l,pp q]/\As=DvP q n t l (Dv.new d b p lg)):=by
 refine FE [0,0] Tryz.func140 λX F hX=>?_;refine J.qc (a4Z d b p h) [] λ_=>?_;rintro v As ⟨n,rfl,rfl⟩;refine⟨_,rfl,trivial,?_⟩;refine J.qc (a8j d b p h) [] λ_=>?_;rintro v As ⟨t,rfl,rfl⟩;refine⟨_,rfl,trivial,?_⟩;refine J.qc (a8l lg) [] λ_=>?_;rintro v As ⟨l,rfl,rfl⟩;refine⟨_,rfl,trivial,?_⟩;refine J.qc (b2p n t l 1 (by decide) (Nand.new d b p) (Tl.new d b p) (Tb.new lg)) [] λ_=>?_;rintro v As ⟨q,rfl,rfl⟩;refine⟨_,rfl,trivial,?_⟩;refine J.qr [5,2,3,4] λ_=>?_;exact⟨n,t,l,q,rfl,rfl⟩
theorem Dv.Ok.fault0 {S:Dv} {k m:Nat} (h:S.Ok k m) (kd x y z n xx:Int) (hk:kd≠1):({S with N:=(S.N.fault kd x y z n xx).2}:Dv).Ok k m:=
 ⟨h.gd.fault0 kd x y z n xx hk,h.t.like (Nand.like_fault _ _ _ _ _ _ _),h.T,h.sl,h.row,h.next⟩
namespace B18
def S0:Dv:=Dv.new 3 8 2 20
def S1:Dv:=(S0.pen [e18 1 1,e18 2 2,e18 3 3]).1
def S2:Dv:=(S1.pen [e18 3 3]).1
def S3:Dv:=(S2.carry 0 2).1
def S4:Dv:={S3 with N:=(S3.N.fault 4 2 0 0 0 0).2}
def S5:Dv:=(S4.step 2).1
def S6:Dv:=S5.room.1
def S7:Dv:=(S6.torn [e18 9 9]).1
theorem h1:(S0.pen [e18 1 1,e18 2 2,e18 3 3]).2=(2,0):=by kernel_rfl
theorem h2:(S1.pen [e18 3 3]).2=(1,0):=by kernel_rfl
theorem h3:(S2.carry 0 2).2=(2,0):=by kernel_rfl
theorem h4:Tb.look S3.T.at_ 1=some ⟨1,0,0,7,4,1⟩:=by kernel_rfl
theorem h5:S3.op=1:=by kernel_rfl
theorem h6:(S4.step 2).2=(1,0):=by kernel_rfl
theorem h7:S5.leftN=2:=by kernel_rfl
theorem h8:S5.N.broken=0:=by kernel_rfl
theorem h9:S5.room.2=0:=by kernel_rfl
theorem h10:(S6.torn [e18 9 9]).2=0:=by kernel_rfl
theorem h11:S7.clear.2=0:=by kernel_rfl
def U:Nat:=10000000000
theorem G0:S0.Ok (10*U) 0:=Dv.Ok.new 3 8 2 20 rfl _ (by decide)
theorem d3:∀s∈[e18 1 1,e18 2 2,e18 3 3],s.data.length=16:=by decide
theorem d1:∀s∈[e18 3 3],s.data.length=16:=by decide
theorem d9:∀s∈[e18 9 9],s.data.length=16:=by decide
theorem G1:S1.Ok (9*U) 0:=(Dv.pen_keep (G0.less (by decide:8*Dv.fuel+9*U<=_)) d3).1
theorem G2:S2.Ok (8*U) 0:=(Dv.pen_keep (G1.less (by decide:8*Dv.fuel+8*U<=_)) d1).1
theorem G3:S3.Ok (7*U) 0:=(Dv.carry_keep (G2.less (by decide:Dv.costC+7*U<=_)) 0 2).1
theorem G4:S4.Ok (7*U) 0:=Dv.Ok.fault0 G3 4 2 0 0 0 0 (by decide)
theorem G5:S5.Ok (6*U) 0:=(Dv.step_keep (G4.less (by decide:Dv.costS+6*U<=_)) 2).1
theorem G6:S6.Ok (5*U) 0:=(Dv.room_keep (G5.less (by decide:Dv.costM+5*U<=_))).1
theorem G7:S7.Ok (4*U) 0:=(Dv.tornGo_keep 1 S6 [e18 9 9] _ (G6.less (by decide:Dv.costT*1+4*U<=_)) d9).1
end B18
end Go.Proofs.YtpohajhbfllbbaaGreat
