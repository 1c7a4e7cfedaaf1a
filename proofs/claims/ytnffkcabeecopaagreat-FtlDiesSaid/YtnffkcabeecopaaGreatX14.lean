/- Helpers. No condition. -/
import Derived.Test.YtnffkcabeecopaaGreatX00
import Derived.Test.YtnffkcabeecopaaGreatX01
import Derived.Test.YtnffkcabeecopaaGreatX04
import Derived.Test.YtnffkcabeecopaaGreatX11
import Derived.Test.YtnffkcabeecopaaGreatX12
import Derived.Test.YtnffkcabeecopaaGreatX13
set_option maxRecDepth 20000
set_option linter.all false
namespace Go.Proofs.YtnffkcabeecopaaGreat
structure Td where
 err:Int
 data:List UInt8
structure Stp where
 fn:Int
 lpn:Int
 data:List UInt8
 n:Int
 keep:Int
 f:Fl
def zd:List UInt8:=Mv.z16
structure Pv where
 L:List Fl
 log:List Td
 Z:Option Fv
 M:Nand
def Fv.setN (Z:Fv) (N:Nand):Fv:={Z with S:={Z.S with N:=N}}
namespace Pv
def nd (P:Pv):Nand:=match P.Z with | some Z=>Z.S.N | none=>P.M
def setN (P:Pv) (N:Nand):Pv:=match P.Z with | some Z=>{P with Z:=some (Z.setN N)} | none=>{P with M:=N}
def run (P:Pv):Pv:={P.setN (a0A P.nd (Q8 P.nd.ops P.L))with L:=a0G P.nd.ops P.L}
def mounts (P:Pv):Pv×Int:=
 let N1:=if P.nd.off then P.nd else P.nd.setCut (-1) 0
 let r:=Q6 N1.onN
 if r.2=0 then({P with Z:=some (Fv.of r.1)},0)else({P with Z:=none,M:=r.1.N},r.2)
def does (P:Pv) (s:Stp):Pv×Td:=
 if s.fn=1 then(match P.Z with | some Z=>({P with Z:=some (Z.read s.lpn).1},⟨(Z.read s.lpn).2.2,(Z.read s.lpn).2.1⟩) | none=>(P,⟨12,zd⟩))
 else if s.fn=2 then(match P.Z with | some Z=>({P with Z:=some (Z.write s.lpn s.data).1},⟨(Z.write s.lpn s.data).2,zd⟩) | none=>(P,⟨12,zd⟩))
 else if s.fn=3 then(match P.Z with | some Z=>({P with Z:=some (Z.trim s.lpn).1},⟨(Z.trim s.lpn).2,zd⟩) | none=>(P,⟨12,zd⟩))
 else if s.fn=4 then(match P.Z with | some Z=>({P with Z:=some Z.flush.1},⟨Z.flush.2,zd⟩) | none=>(P,⟨12,zd⟩))
 else if s.fn=5 then(match P.Z with | some Z=>({P with Z:=some Z.tick.1},⟨Z.tick.2,zd⟩) | none=>(P,⟨12,zd⟩))
 else if s.fn=6 then(P.setN (P.nd.setCut s.n s.keep),⟨0,zd⟩)
 else if s.fn=7 then(P.mounts.1,⟨P.mounts.2,zd⟩)
 else if s.fn=8 then(P.setN (P.nd.fault s.f.kind s.f.x s.f.y s.f.z s.f.n s.f.xx).2,if(P.nd.fault s.f.kind s.f.x s.f.y s.f.z s.f.n s.f.xx).1 then⟨0,zd⟩else⟨1,zd⟩)
 else(P,⟨1,zd⟩)
def step (P:Pv) (s:Stp):Pv×Td:=({(P.run.does s).1 with log:=(P.run.does s).1.log++[(P.run.does s).2]},(P.run.does s).2)
def new (D B Pg:Nat) (l:List Fl):Pv:=⟨U6 a2E (plF D B Pg l),[],if(Q6 (Nand.new D B Pg)).2=0 then some (Fv.of (Q6 (Nand.new D B Pg)).1)else none,(Q6 (Nand.new D B Pg)).1.N⟩
end Pv
end Go.Proofs.YtnffkcabeecopaaGreat
namespace Go.Proofs.YtnffkcabeecopaaGreat
structure Wa where
 P:Pv
 M:List MPv
 die:Int
 wrong:Bool
 full:Bool
 stuck:Bool
 fs:List Fl
 since:Int
 late:Int
namespace Wa
def lates (W:Wa):Int:=W.late+((W.fs.filter λf=>decide (f.at_>=W.since)).length:Int)
def ask (W:Wa) (s:Stp):Stp:=if s.fn=8 then {s with f:={s.f with x:=W.die}}else s
def skip (s:Stp):Bool:=decide (s.n>1048576)||decide (s.n< -1)
def on (W:Wa):Bool:=!W.P.nd.off&&W.P.Z.isSome
def hold (W:Wa) (s:Stp) (t:Td):List MPv×Bool:=
 if s.fn=1 then(if t.err=0 then Mv.saw W.M s.lpn t.data else W.M,(decide (t.err=0)&& !Mv.may W.M s.lpn t.data)||decide (t.err=10)||decide (t.err=11)||(decide (t.err=3)&&decide (s.lpn>=0)&&decide (s.lpn<(W.M.length:Int))))
 else if s.fn=2\/s.fn=3 then(if t.err=0 then Mv.write W.M s.lpn (if s.fn=3 then zd else s.data)else W.M,decide (t.err=0)&& !Mv.inR W.M s.lpn)
 else if s.fn=4 then(if t.err=0 then Mv.flush W.M else W.M,false)
 else(W.M,false)
def step (W:Wa) (s:Stp):Wa:=
 if W.stuck then W
 else
  let W1:Wa:=if s.fn=8 then {W with late:=W.late+1}else W
  if skip s then W1
  else
   let r:=W.P.step (W.ask s)
   let off:=r.1.nd.off
   let h:=W.hold s r.2
   let W2:Wa:={W1 with P:=r.1,M:=h.1,wrong:=W.wrong||h.2,full:=W.full||(decide (r.2.err=11)&&decide (s.fn≠7))}
   if s.fn=7 then
    let st:=decide (r.2.err=11)&& !off&&decide (W2.lates>1)
    let W3:Wa:={W2 with M:=Mv.cut W2.M,stuck:=st,wrong:=W2.wrong||(decide (r.2.err≠0)&& !off&& !st)}
    if r.2.err=0 then {W3 with since:=r.1.nd.ops,late:=0}else W3
   else {W2 with wrong:=W2.wrong||(W.on&& !off&&(decide (r.2.err=9)||decide (r.2.err=12)))}
def fx (u:Int) (f:Fl):Fl:={f with x:=u}
def dieI (die:Int) (D:Nat):Int:=(die.tmod D+D).tmod D
def fl (D:Nat) (die:Int) (l:List Fl):List Fl:=(l.take 15).map (fx (dieI die D))
def new (D B P:Nat) (die:Int) (l:List Fl):Wa:=⟨Pv.new D B P (fl D die l),Mv.new (lgN D B P),dieI die D,false,false,false,fl D die l,0,0⟩
end Wa
end Go.Proofs.YtnffkcabeecopaaGreat
namespace Go.Proofs.YtnffkcabeecopaaGreat
open Go Go.RowKit
structure Pad where
 f:Nat
 p:Nat
 t:Nat
 l:Nat
 d:Nat
 fp:Nat
 a:Option (Nat×Nat)
 c:Nat
 a2:Option Nat
 c2:Nat
def tdC (t:Td):List Value:=[iI t.err,byC t.data 0,byC t.data 1,byC t.data 2,byC t.data 3,byC t.data 4,byC t.data 5,byC t.data 6,byC t.data 7,byC t.data 8,byC t.data 9,byC t.data 10,byC t.data 11,byC t.data 12,byC t.data 13,byC t.data 14,byC t.data 15]
def tdV (t:Td):Value:= .agg (tdC t).toArray
def T3 (l:List Td):List Value:=l.flatMap tdC
def flP (o:Option Fv) (f:Nat):Value:=match o with | some _=>pp f | none=> .pointer none
def a4r (n:Nat) (A:Pad) (P:Pv):List Atom:=match P.Z with | some Z=>FvP A.f A.p n A.t A.l A.d Z | none=>[C0 n P.M]
def a2V (q n:Nat) (A:Pad) (P:Pv):List Atom:=[.pt q 97 [pp n,flP P.Z A.f,pp A.fp,slv A.a2 P.log.length A.c2], .pt A.fp 176 [.slice (Q5 A.a) P.L.length A.c],rdA (Q5 A.a) 7 P.L.length (x9 P.L),n7 50 17 A.a2 P.log.length A.c2 (T3 P.log)]++a4r n A P
structure Pad.Ok (A:Pad) (P:Pv):Prop where
 z:A.a=none->A.c=0
 c:P.L.length<=A.c
theorem a4f (q n:Nat) (r:Value) (r2 r3:Value):FP 15 [pp q] [.pt q 97 [pp n,r,r2,r3]] (λv As=>v=pp n/\As=[.pt q 97 [pp n,r,r2,r3]]):=by
 refine FE [2] Tryz.func15 λX F hX=>?_;refine J.qF λ_=>?_;exact J.qx [1]
theorem a3b (q n:Nat) (o:Option Fv) (f:Nat) (r2 r3:Value):FP 24 [pp q] [.pt q 97 [pp n,flP o f,r2,r3]] (λv As=>v=flP o f/\As=[.pt q 97 [pp n,flP o f,r2,r3]]):=by
 refine FE [2] Tryz.func24 λX F hX=>?_;refine J.qF λ_=>?_;cases o with
 | none=>
  exact J.qx [1]
 | some Z=>
  exact J.qx [1]
theorem b3F (a:Option Nat):oad a=Q5 (a.map λg=>(g,0)):=by cases a<;>rfl
theorem a7c (d b p:Nat) (h:J2 d b p=true) (k:Nat) (hk:k<4611686018427387904):(Nand.new d b p).Gd k 0:=by
 have g:=Nand.Gd.new d b p h 0 (by omega);exact⟨g.ok,by show(0:Int)+k<_;omega,by show(0:Int)+k<_;omega,g.nodup,g.few⟩
theorem b6E (D B Pg:Nat) (hg:J2 D B Pg=true) (A:Atom) (ad:Option Addr) (n c:Nat) (l:List Fl) (hA:Rd A ad 7 n (x9 l)) (hl:l.length=n) (hn:n<=15):FP 18 [.agg #[iI D,iI B,iI Pg], .slice ad n c] [A] (λv As=>∃q nn A',v=pp q/\A'.Ok (Pv.new D B Pg l)/\As=A::a2V q nn A' (Pv.new D B Pg l)):=by
 have hbd:(3<=D/\D<=6)/\(8<=B/\B<=16)/\(2<=Pg/\Pg<=8):=by simp[J2]at hg;omega
 refine FE [0,0] Tryz.func18 λX F hX=>?_;refine J.qc (a9r D B Pg hg) [] λ_=>?_;rintro v As ⟨nn,rfl,rfl⟩;refine⟨_,rfl,trivial,?_⟩;refine J.qF λ_=>?_;have hG:(Nand.new D B Pg).Gd (Dv.costK+0) 0:=a7c D B Pg hg _ (by decide);refine J.qc (a3S nn (Nand.new D B Pg) 0 0 hG (by decide) rfl) [3] λ_=>?_;have hlen:(U6 a2E (plF D B Pg l)).length=(plF D B Pg l).length:=(a3P _ _).length_eq;rintro v As (⟨he,f,p,t,ll,d,rfl,rfl⟩ | ⟨he,rfl,rfl⟩)
 ·refine⟨_,rfl,trivial,?_⟩;refine J.qc (c0f D B Pg (by omega) (by omega) (by omega) A ad n c l hA hl hn) [1] λ_=>?_;rintro v As ⟨fp,a,c',rfl,rfl⟩;refine⟨_,rfl,trivial,?_⟩;refine J.know (λh' s=>a0S (show a1b _ _ a (plF D B Pg l).length c' _ _ from s.get (i:=10) rfl)) λhcap=>?_;refine J.know (λh' s=>a7G (show a1b _ _ a (plF D B Pg l).length c' _ _ from s.get (i:=10) rfl)) λhnil=>?_;have hsl:∀n c,slv a n c= .slice (Q5 (a.map λg=>(g,0))) n c:=λn c=>by cases a<;>rfl
  rw[hsl];refine J.turn1 [10] rfl (As:=[rdA (Q5 (a.map λg=>(g,0))) 7 (plF D B Pg l).length (x9 (U6 a2E (plF D B Pg l)))]) (λh s=>Sep.one (by have:=X6 34 7 a (plF D B Pg l).length c' (x9 (U6 a2E (plF D B Pg l))) _ (s.get (i:=0) rfl);rw[b3F]at this;exact this)) rfl ?_;refine J.turn1 [] rfl (As:=[n7 50 17 none 0 0 (T3 [])]) (λh s=>Sep.one ⟨rfl,rfl,rfl⟩) rfl ?_;refine J.q λbq=>?_;refine J.ru hX [1,12,9,10,11,3,4,5,6,7,8] ?_;refine⟨bq 0,nn,⟨f,p,t,ll,d,fp,a.map λg=>(g,0),c',none,0⟩,rfl,⟨λe=>hnil (by cases a with | none=>rfl | some g=>cases e),by show(U6 a2E (plF D B Pg l)).length<=_;rw[hlen];exact hcap⟩,?_⟩;unfold a2V a4r;show _=A::([.pt (bq 0) 97 [pp nn,flP (if(Q6 (Nand.new D B Pg)).2=0 then some (Fv.of (Q6 (Nand.new D B Pg)).1)else none) _,_,_], .pt fp _ [.slice _ (U6 a2E (plF D B Pg l)).length _],rdA _ 7 (U6 a2E (plF D B Pg l)).length _,_]++(match(if(Q6 (Nand.new D B Pg)).2=0 then some (Fv.of (Q6 (Nand.new D B Pg)).1)else none)with | some Z=>_ | none=>_));rw[f0 he,hlen];rfl
 ·refine⟨_,rfl,trivial,?_⟩;refine J.qc (c0f D B Pg (by omega) (by omega) (by omega) A ad n c l hA hl hn) [1] λ_=>?_;rintro v As ⟨fp,a,c',rfl,rfl⟩;refine⟨_,rfl,trivial,?_⟩;refine J.know (λh' s=>a0S (show a1b _ _ a (plF D B Pg l).length c' _ _ from s.get (i:=5) rfl)) λhcap=>?_;refine J.know (λh' s=>a7G (show a1b _ _ a (plF D B Pg l).length c' _ _ from s.get (i:=5) rfl)) λhnil=>?_;have hsl:∀n c,slv a n c= .slice (Q5 (a.map λg=>(g,0))) n c:=λn c=>by cases a<;>rfl
  rw[hsl];refine J.turn1 [5] rfl (As:=[rdA (Q5 (a.map λg=>(g,0))) 7 (plF D B Pg l).length (x9 (U6 a2E (plF D B Pg l)))]) (λh s=>Sep.one (by have:=X6 34 7 a (plF D B Pg l).length c' (x9 (U6 a2E (plF D B Pg l))) _ (s.get (i:=0) rfl);rw[b3F]at this;exact this)) rfl ?_;refine J.turn1 [] rfl (As:=[n7 50 17 none 0 0 (T3 [])]) (λh s=>Sep.one ⟨rfl,rfl,rfl⟩) rfl ?_;refine J.q λbq=>?_;refine J.ru hX [1,7,4,5,6,3] ?_;refine⟨bq 0,nn,⟨0,0,0,0,0,fp,a.map λg=>(g,0),c',none,0⟩,rfl,⟨λe=>hnil (by cases a with | none=>rfl | some g=>cases e),by show(U6 a2E (plF D B Pg l)).length<=_;rw[hlen];exact hcap⟩,?_⟩;unfold a2V a4r;show _=A::([.pt (bq 0) 97 [pp nn,flP (if(Q6 (Nand.new D B Pg)).2=0 then some (Fv.of (Q6 (Nand.new D B Pg)).1)else none) _,_,_], .pt fp _ [.slice _ (U6 a2E (plF D B Pg l)).length _],rdA _ 7 (U6 a2E (plF D B Pg l)).length _,_]++(match(if(Q6 (Nand.new D B Pg)).2=0 then some (Fv.of (Q6 (Nand.new D B Pg)).1)else none)with | some Z=>_ | none=>_));rw[d8 he,hlen];rfl
def stC (s:Stp):List Value:=[iI s.fn,iI s.lpn,byC s.data 0,byC s.data 1,byC s.data 2,byC s.data 3,byC s.data 4,byC s.data 5,byC s.data 6,byC s.data 7,byC s.data 8,byC s.data 9,byC s.data 10,byC s.data 11,byC s.data 12,byC s.data 13,byC s.data 14,byC s.data 15,iI s.n,iI s.keep,iI s.f.at_,iI s.f.kind,iI s.f.x,iI s.f.y,iI s.f.z,iI s.f.n,iI s.f.xx]
def stV (s:Stp):Value:= .agg (stC s).toArray
def PlQ (q n:Nat) (o:Option Fv) (f:Nat) (r2 r3:Value):Atom:= .pt q 97 [pp n,flP o f,r2,r3]
theorem b4E (q n:Nat) (A:Pad) (P:Pv) (Z:Fv) (hZ:P.Z=some Z) (r2 r3:Value) (k m:Nat) (hG:Z.S.N.Gd (Dv.costK+k) m) (hm:m<=1000):FP 107 [pp q] (PlQ q n P.Z A.f r2 r3::a4r n A P) (λv As=>∃A':Pad,v=iI P.mounts.2/\(A'.fp=A.fp/\A'.a=A.a/\A'.c=A.c/\A'.a2=A.a2/\A'.c2=A.c2)/\((∃Y,P.mounts.1={P with Z:=some Y}/\As=PlQ q n (some Y) A'.f r2 r3::FvP A'.f A'.p n A'.t A'.l A'.d Y)\/∃M,P.mounts.1={P with Z:=none,M:=M}/\As=[PlQ q n none A'.f r2 r3,C0 n M])):=by
 have hnd:P.nd=Z.S.N:=by unfold Pv.nd;rw[hZ]
 have hms:P.mounts=if(Q6 ((if Z.S.N.off then Z.S.N else Z.S.N.setCut (-1) 0).onN)).2=0 then({P with Z:=some (Fv.of (Q6 ((if Z.S.N.off then Z.S.N else Z.S.N.setCut (-1) 0).onN)).1)},0)else({P with Z:=none,M:=(Q6 ((if Z.S.N.off then Z.S.N else Z.S.N.setCut (-1) 0).onN)).1.N},(Q6 ((if Z.S.N.off then Z.S.N else Z.S.N.setCut (-1) 0).onN)).2):=by unfold Pv.mounts;rw[hnd]
 rw[show a4r n A P=FvP A.f A.p n A.t A.l A.d Z from by unfold a4r;rw[hZ],hZ];refine FE [2] Tryz.func107 λX F hX=>?_;refine J.qp (a2m n Z.S.N) [4] λ_=>?_;refine J.qd (λ_ h1=>?_) λ_ h1=>?_
 ·have hoff:Z.S.N.off=false:=by simpa using h1
  have e:(if Z.S.N.off=true then Z.S.N else Z.S.N.setCut (-1) 0)=Z.S.N.setCut (-1) 0:=d8 (by rw[hoff];decide);rw[e]at hms;have hG2:(Z.S.N.setCut (-1) 0).onN.Gd (Dv.costK+k) m:=(hG.cut (-1) 0 (by decide) (by decide)).on;refine J.qp (b3J n Z.S.N (-1) 0) [4] λ_=>?_;refine J.qp (b9n n (Z.S.N.setCut (-1) 0)) [4] λ_=>?_;refine J.qc (a3S n ((Z.S.N.setCut (-1) 0)).onN k m hG2 hm rfl) [4] λ_=>?_;rintro v As (⟨he,f,p,t,ll,d,rfl,rfl⟩ | ⟨he,rfl,rfl⟩)
  ·refine⟨_,rfl,trivial,?_⟩;rw[f0 he]at hms;refine J.qr [1,4,8,9,10,11,12] λ_=>?_;exact⟨⟨f,p,t,ll,d,A.fp,A.a,A.c,A.a2,A.c2⟩,by rw[hms],⟨rfl,rfl,rfl,rfl,rfl⟩, .inl ⟨_,by rw[hms],rfl⟩⟩
  ·refine⟨_,rfl,trivial,?_⟩;rw[d8 he]at hms;refine J.qr [1,4] λ_=>?_;exact⟨A,by rw[hms],⟨rfl,rfl,rfl,rfl,rfl⟩, .inr ⟨_,by rw[hms],rfl⟩⟩
 ·have hoff:Z.S.N.off=true:=by simpa using h1
  have e:(if Z.S.N.off=true then Z.S.N else Z.S.N.setCut (-1) 0)=Z.S.N:=f0 hoff;rw[e]at hms;have hG2:Z.S.N.onN.Gd (Dv.costK+k) m:=hG.on;refine J.qp (b9n n Z.S.N) [4] λ_=>?_;refine J.qc (a3S n (Z.S.N).onN k m hG2 hm rfl) [4] λ_=>?_;rintro v As (⟨he,f,p,t,ll,d,rfl,rfl⟩ | ⟨he,rfl,rfl⟩)
  ·refine⟨_,rfl,trivial,?_⟩;rw[f0 he]at hms;refine J.qr [1,4,8,9,10,11,12] λ_=>?_;exact⟨⟨f,p,t,ll,d,A.fp,A.a,A.c,A.a2,A.c2⟩,by rw[hms],⟨rfl,rfl,rfl,rfl,rfl⟩, .inl ⟨_,by rw[hms],rfl⟩⟩
  ·refine⟨_,rfl,trivial,?_⟩;rw[d8 he]at hms;refine J.qr [1,4] λ_=>?_;exact⟨A,by rw[hms],⟨rfl,rfl,rfl,rfl,rfl⟩, .inr ⟨_,by rw[hms],rfl⟩⟩
theorem b8Z (q n:Nat) (A:Pad) (P:Pv) (Z:Fv) (hZ:P.Z=some Z) (r2 r3:Value) (k m:Nat) (hO:Z.Ok (Fv.cW*200+(Dv.costS+(Dv.costK+(1+k)))) m) (hm:m<=1000) (s:Stp) (hs:s.data.length=16):FP 64 [pp q,stV s] (PlQ q n P.Z A.f r2 r3::a4r n A P) (λv As=>∃A':Pad,v=tdV (P.does s).2/\(A'.fp=A.fp/\A'.a=A.a/\A'.c=A.c/\A'.a2=A.a2/\A'.c2=A.c2)/\((∃Y,(P.does s).1={P with Z:=some Y}/\As=PlQ q n (some Y) A'.f r2 r3::FvP A'.f A'.p n A'.t A'.l A'.d Y)\/∃M,(P.does s).1={P with Z:=none,M:=M}/\As=[PlQ q n none A'.f r2 r3,C0 n M])):=by
 have hnd:P.nd=Z.S.N:=by unfold Pv.nd;rw[hZ]
 have hdv:∀Y,a4r n A {P with Z:=some Y}=FvP A.f A.p n A.t A.l A.d Y:=λY=>rfl;have hs1:∀b,s.fn=b->True:=λ_ _=>trivial;rw[show a4r n A P=FvP A.f A.p n A.t A.l A.d Z from by unfold a4r;rw[hZ],hZ];refine FE [2,0] Tryz.func64 λX F hX=>?_;refine J.qd (λ_ h1=>?_) λ_ h1=>?_
 ·have e1:s.fn=1:=by simpa using h1
  have hd:P.does s=({P with Z:=some (Z.read s.lpn).1},⟨(Z.read s.lpn).2.2,(Z.read s.lpn).2.1⟩):=by unfold Pv.does;rw[f0 e1,hZ]
  refine J.pn 7 (.take true 0 (.take true 1 (.take true 2 (.take false 3 (.take true 4 (.take false 5 (.alt false 6 ((.of [28,32,36,42,46,48])) (.alt false 10 ((.of [26,28,32,36,46,48])) .non)))))))) [12] [1,8] λ_ _=>?_;refine J.alts ?_ ?_
  ·skip
   refine J.qp (a3j A.f A.p n A.t A.l A.d Z _ m hO s.lpn) [2,3,4,5,6,7] λ_=>?_;refine J.qr [1,2,3,4,5,6,7] λ_=>?_;refine⟨A,?_,⟨rfl,rfl,rfl,rfl,rfl⟩, .inl ⟨_,by rw[hd],rfl⟩⟩;rw[hd];rfl
  ·skip
   refine J.qn 1 λ_=>?_;refine J.qp (a3j A.f A.p n A.t A.l A.d Z _ m hO s.lpn) [2,3,4,5,6,7] λ_=>?_;refine J.qr [1,2,3,4,5,6,7] λ_=>?_;refine⟨A,?_,⟨rfl,rfl,rfl,rfl,rfl⟩, .inl ⟨_,by rw[hd],rfl⟩⟩;rw[hd];rfl
 have e1:s.fn≠1:=by simpa using h1
 refine J.qd (λ_ h2=>?_) λ_ h2=>?_
 ·have e2:s.fn=2:=by simpa using h2
  have hd:P.does s=({P with Z:=some (Z.write s.lpn s.data).1},⟨(Z.write s.lpn s.data).2,zd⟩):=by unfold Pv.does;rw[d8 e1,f0 e2,hZ]
  refine J.pq (.of [0,4,8,13,16,21,24,29,34,36,43]) [10] [1,8] λ_ _=>?_;refine J.ca hX (by kernel_rfl) (a8c A.f A.p n A.t A.l A.d Z _ m (hO.less (k':=Fv.cW+(1+k)) (by omega)) hm s.lpn s.data hs) [2,3,4,5,6,7] 0 rfl rfl rfl rfl rfl rfl (λ_=>rfl) ?_;refine cpq ⟨_,rfl,stq,?_⟩;refine J.qr [1,2,3,4,5,6,7] λ_=>?_;refine⟨A,?_,⟨rfl,rfl,rfl,rfl,rfl⟩, .inl ⟨_,by rw[hd],rfl⟩⟩;rw[hd];rfl
 have e2:s.fn≠2:=by simpa using h2
 refine J.qd (λ_ h3=>?_) λ_ h3=>?_
 ·have e3:s.fn=3:=by simpa using h3
  have hd:P.does s=({P with Z:=some (Z.trim s.lpn).1},⟨(Z.trim s.lpn).2,zd⟩):=by unfold Pv.does;rw[d8 e1,d8 e2,f0 e3,hZ]
  refine J.pq (.of [0,4,8,13,16,21,26,28,35]) [8] [1,8] λ_ _=>?_;refine J.ca hX (by kernel_rfl) (b3W A.f A.p n A.t A.l A.d Z _ m (hO.less (k':=Fv.cW+(1+k)) (by omega)) hm s.lpn) [2,3,4,5,6,7] 0 rfl rfl rfl rfl rfl rfl (λ_=>rfl) ?_;refine cpq ⟨_,rfl,stq,?_⟩;refine J.qr [1,2,3,4,5,6,7] λ_=>?_;refine⟨A,?_,⟨rfl,rfl,rfl,rfl,rfl⟩, .inl ⟨_,by rw[hd],rfl⟩⟩;rw[hd];rfl
 have e3:s.fn≠3:=by simpa using h3
 refine J.qd (λ_ h4=>?_) λ_ h4=>?_
 ·have e4:s.fn=4:=by simpa using h4
  have hd:P.does s=({P with Z:=some Z.flush.1},⟨Z.flush.2,zd⟩):=by unfold Pv.does;rw[d8 e1,d8 e2,d8 e3,f0 e4,hZ]
  refine J.q λ_=>?_;refine J.ca hX (by kernel_rfl) (a8e A.f A.p n A.t A.l A.d Z _ m (hO.less (k':=Fv.cW*200+k) (by omega)) hm) [2,3,4,5,6,7] 0 rfl rfl rfl rfl rfl rfl (λ_=>rfl) ?_;refine cpq ⟨_,rfl,trivial,?_⟩;refine J.qr [1,2,3,4,5,6,7] λ_=>?_;refine⟨A,?_,⟨rfl,rfl,rfl,rfl,rfl⟩, .inl ⟨_,by rw[hd],rfl⟩⟩;rw[hd];rfl
 have e4:s.fn≠4:=by simpa using h4
 refine J.qd (λ_ h5=>?_) λ_ h5=>?_
 ·have e5:s.fn=5:=by simpa using h5
  have hd:P.does s=({P with Z:=some Z.tick.1},⟨Z.tick.2,zd⟩):=by unfold Pv.does;rw[d8 e1,d8 e2,d8 e3,d8 e4,f0 e5,hZ]
  refine J.q λ_=>?_;refine J.ca hX (by kernel_rfl) (b0I A.f A.p n A.t A.l A.d Z _ m (hO.less (k':=Dv.costS+k) (by omega)) hm) [2,3,4,5,6,7] 0 rfl rfl rfl rfl rfl rfl (λ_=>rfl) ?_;refine cpq ⟨_,rfl,trivial,?_⟩;refine J.qr [1,2,3,4,5,6,7] λ_=>?_;refine⟨A,?_,⟨rfl,rfl,rfl,rfl,rfl⟩, .inl ⟨_,by rw[hd],rfl⟩⟩;rw[hd];rfl
 have e5:s.fn≠5:=by simpa using h5
 refine J.qd (λ_ h6=>?_) λ_ h6=>?_
 ·have e6:s.fn=6:=by simpa using h6
  have hd:P.does s=(P.setN (Z.S.N.setCut s.n s.keep),⟨0,zd⟩):=by unfold Pv.does;rw[d8 e1,d8 e2,d8 e3,d8 e4,d8 e5,f0 e6,hnd]
  have hsn:P.setN (Z.S.N.setCut s.n s.keep)={P with Z:=some (Z.setN (Z.S.N.setCut s.n s.keep))}:=by unfold Pv.setN;rw[hZ]
  rw[hsn]at hd;refine J.p (.of [0,4,8,13,16,21,24,29,34]) [] [1,8] λ_=>?_;refine J.qp (b3J n Z.S.N s.n s.keep) [4] λ_=>?_;refine J.qr [1,2,3,4,5,6,7] λ_=>?_;refine⟨A,?_,⟨rfl,rfl,rfl,rfl,rfl⟩, .inl ⟨_,by rw[hd],rfl⟩⟩;rw[hd];rfl
 have e6:s.fn≠6:=by simpa using h6
 refine J.qd (λ_ h7=>?_) λ_ h7=>?_
 ·have e7:s.fn=7:=by simpa using h7
  have hd:P.does s=(P.mounts.1,⟨P.mounts.2,zd⟩):=by unfold Pv.does;rw[d8 e1,d8 e2,d8 e3,d8 e4,d8 e5,d8 e6,f0 e7]
  have hmm:=b4E q n A P Z hZ r2 r3 _ m (hO.dv.gd.less (k':=Dv.costK+(1+k)) (by omega) (j4 m)) hm;rw[show a4r n A P=FvP A.f A.p n A.t A.l A.d Z from by unfold a4r;rw[hZ],hZ]at hmm;refine J.qc (hmm) [1,2,3,4,5,6,7] λ_=>?_;rintro v As ⟨A',rfl,hA',(⟨Y,hY,rfl⟩ | ⟨M,hY,rfl⟩)⟩
  ·refine⟨_,rfl,trivial,?_⟩;refine J.qr [1,2,3,4,5,6,7] λ_=>?_;refine⟨A',?_,hA', .inl ⟨Y,by rw[hd,hY],rfl⟩⟩;rw[hd];rfl
  ·refine⟨_,rfl,trivial,?_⟩;refine J.qr [1,2] λ_=>?_;refine⟨A',?_,hA', .inr ⟨M,by rw[hd,hY],rfl⟩⟩;rw[hd];rfl
 have e7:s.fn≠7:=by simpa using h7
 refine J.qd (λ_ h8=>?_) λ_ h8=>?_
 ·have e8:s.fn=8:=by simpa using h8
  obtain⟨Q,hQ⟩:∃Q,Q=Z.S.N.fault s.f.kind s.f.x s.f.y s.f.z s.f.n s.f.xx:=⟨_,rfl⟩;have hd:P.does s=({P with Z:=some (Z.setN Q.2)},if Q.1 then⟨0,zd⟩else⟨1,zd⟩):=by unfold Pv.does;rw[d8 e1,d8 e2,d8 e3,d8 e4,d8 e5,d8 e6,d8 e7,f0 e8,hnd,<- hQ];unfold Pv.setN;rw[hZ]
  refine J.p (.of [0,4,8,13,16,21,26]) [] [1,8] λ_=>?_;refine J.qp (a4j n Z.S.N hO.dv.gd.ok s.f.at_ s.f.kind s.f.x s.f.y s.f.z s.f.n s.f.xx) [4] λ_=>?_;rw[<- hQ];refine J.qd (λ_ h9=>?_) λ_ h9=>?_
  ·rw[f0 h9]at hd;refine J.qr [1,2,3,4,5,6,7] λ_=>?_;refine⟨A,?_,⟨rfl,rfl,rfl,rfl,rfl⟩, .inl ⟨_,by rw[hd],rfl⟩⟩;rw[hd];rfl
  ·rw[d8 (by rw[h9];decide)]at hd;refine J.qr [1,2,3,4,5,6,7] λ_=>?_;refine⟨A,?_,⟨rfl,rfl,rfl,rfl,rfl⟩, .inl ⟨_,by rw[hd],rfl⟩⟩;rw[hd];rfl
 have e8:s.fn≠8:=by simpa using h8
 have hd:P.does s=(P,⟨1,zd⟩):=by unfold Pv.does;rw[d8 e1,d8 e2,d8 e3,d8 e4,d8 e5,d8 e6,d8 e7,d8 e8]
 refine J.qr [1,2,3,4,5,6,7] λ_=>?_;refine⟨A,?_,⟨rfl,rfl,rfl,rfl,rfl⟩, .inl ⟨Z,?_,rfl⟩⟩
 ·rw[hd];rfl
 ·rw[hd];show P={P with Z:=some Z};rw[<- hZ]
theorem Dv.Ok.setN {S:Dv} {k m m':Nat} {N:Nand} (h:S.Ok k m) (hl:S.N.Like N) (hG:N.Gd k m'):({S with N:=N}:Dv).Ok k m':=⟨hG,h.t.like hl,h.T,h.sl,h.row,h.next⟩
theorem Fv.Ok.setN {Z:Fv} {k m m':Nat} {N:Nand} (h:Z.Ok k m) (hl:Z.S.N.Like N) (hG:N.Gd k m'):(Z.setN N).Ok k m':=⟨h.dv.setN hl hG,h.dat,λe he=>by have:=h.rng e he;unfold Fv.lg at this ⊢;rw[show(Z.setN N).S.N=N from rfl,a7V hl];exact this,h.nd,h.nx⟩
theorem a7U (N:Nand):∀(l:List Fl),N.Like (a0A N l)
 | []=>Nand.Like.refl N
 | f::l=>(Nand.like_fault N f.kind f.x f.y f.z f.n f.xx).trans (a7U (flN N f) l)
theorem a5u (l:List Td) (x:Td):T3 l++tdC x=T3 (l++[x]):=by unfold T3;rw[J5];simp
theorem a6U (q n:Nat) (A:Pad) (P:Pv) (hA:A.Ok P) (Z:Fv) (hZ:P.Z=some Z) (k m:Nat) (hO:Z.Ok (Fv.cW*200+(Dv.costS+(Dv.costK+(1+k)))) m) (hm:m+(Q8 Z.S.N.ops P.L).length<=1000) (hL:P.L.length<=1000) (hlg:P.log.length<=1000) (s:Stp) (hs:s.data.length=16):FP 19 [pp q,stV s] (a2V q n A P) (λv As=>∃A':Pad,v=tdV (P.step s).2/\A'.Ok (P.step s).1/\As=a2V q n A' (P.step s).1):=by
 have hnd:P.nd=Z.S.N:=by unfold Pv.nd;rw[hZ]
 obtain⟨D,hD⟩:∃D,Q8 Z.S.N.ops P.L=D:=⟨_,rfl⟩;obtain⟨R,hR⟩:∃R,a0G Z.S.N.ops P.L=R:=⟨_,rfl⟩;rw[hD]at hm;have hrun:P.run=⟨R,P.log,some (Z.setN (a0A Z.S.N D)),P.M⟩:=by unfold Pv.run;rw[hnd,hD,hR];unfold Pv.setN;rw[hZ]
 have hO2:(Z.setN (a0A Z.S.N D)).Ok (Fv.cW*200+(Dv.costS+(Dv.costK+(1+k)))) (m+D.length):=hO.setN (a7U _ _) (a3l hO.dv.gd D);have hst:P.step s=({(P.run.does s).1 with log:=(P.run.does s).1.log++[(P.run.does s).2]},(P.run.does s).2):=rfl;unfold a2V;rw[show a4r n A P=FvP A.f A.p n A.t A.l A.d Z from by unfold a4r;rw[hZ],hZ];refine FE [2,0] Tryz.func19 λX F hX=>?_;refine J.qF λ_=>?_;refine J.p (.of [0,4,8,13,16,20,24,29,34]) [] [1] λ_=>?_;refine J.qc (c1I A.fp n A.a A.c P.L hA.z hA.c hL Z.S.N _ m hO.dv.gd) [2,3,7] λ_=>?_;rintro v As ⟨a',c',hz',hc',rfl,rfl⟩;refine⟨_,rfl,stq,?_⟩;rw[hR]at hc' ⊢;rw[hD];have hdo:=b8Z q n A ⟨R,P.log,some (Z.setN (a0A Z.S.N D)),P.M⟩ (Z.setN (a0A Z.S.N D)) rfl (pp A.fp) (slv A.a2 P.log.length A.c2) k (m+D.length) hO2 hm s hs;rw[<- hrun]at hdo;rw[hrun]at hdo;obtain⟨W,hW⟩:∃W,(⟨R,P.log,some (Z.setN (a0A Z.S.N D)),P.M⟩:Pv).does s=W:=⟨_,rfl⟩;rw[hrun,hW]at hst;rw[hW]at hdo;obtain⟨Wp,wt⟩:=W;dsimp only at hdo hst;refine J.qc (hdo) [1,5,6,7,8,9,10] λ_=>?_;rintro v As ⟨A',rfl,⟨q1,q2,q3,q4,q5⟩,(⟨Y,hY,rfl⟩ | ⟨M,hY,rfl⟩)⟩
 ·refine⟨_,rfl,trivial,?_⟩;refine J.pq (.of [0,4,8,12,17,21,26,30,32,36,43]) [8,9,10] [1,13] λ_ _=>?_;refine J.ap 4 14 0 (a5u P.log wt) λa3 c3=>?_;refine J.qr [1,2,3,4,5,6,7,8,9,10] λ_=>?_;refine⟨⟨A'.f,A'.p,A'.t,A'.l,A'.d,A.fp,a',c',a3,c3⟩,?_,?_,?_⟩
  ·rw[hst];rfl
  ·rw[hst,hY];exact⟨hz',hc'⟩
  ·rw[hst,hY];dsimp only;rw[f9];rfl
 ·refine⟨_,rfl,trivial,?_⟩;refine J.pq (.of [0,4,8,12,17,21,26,30,32,36,43]) [8,9,10] [1,13] λ_ _=>?_;refine J.ap 4 14 0 (a5u P.log wt) λa3 c3=>?_;refine J.qr [1,2,3,4,5] λ_=>?_;refine⟨⟨A'.f,A'.p,A'.t,A'.l,A'.d,A.fp,a',c',a3,c3⟩,?_,?_,?_⟩
  ·rw[hst];rfl
  ·rw[hst,hY];exact⟨hz',hc'⟩
  ·rw[hst,hY];dsimp only;rw[f9];rfl
theorem b2o (l:List Td):∀u∈T3 l,u.oneCell'=true:=by
 intro u hu;simp only[T3,L7]at hu;obtain⟨s,_,hu⟩:=hu;simp only[tdC,I6,V1,a5A]at hu;rcases hu with rfl | rfl | rfl | rfl | rfl | rfl | rfl | rfl | rfl | rfl | rfl | rfl | rfl | rfl | rfl | rfl | rfl<;>rfl
theorem b4n (a:Option Nat) (n cap:Nat) (l:List Td) (hl:l.length=n) (hn:n<=1000000):FP 65 [slv a n cap] [n7 50 17 a n cap (T3 l)]
  (λv As=>∃a' c',v=slv a' n c'/\As=[n7 50 17 a n cap (T3 l),n7 50 17 a' n c' (T3 l)]):=by
 refine FE [0] Tryz.func65 λX F hX=>?_;cases a with
 | none=>
  refine J.know (λh' s=>(s.get (i:=1) rfl).2) λhn0=>?_;obtain⟨rfl,rfl⟩:=hn0;have:l=[]:=m6 hl;subst this;refine J.qT λ_=>?_;refine J.turn1 [] rfl (As:=[n7 50 17 none 0 0 (T3 [])]) (λh s=>Sep.one ⟨rfl,rfl,rfl⟩) rfl ?_;refine J.qr [1,2] λ_=>?_;exact⟨none,0,rfl,rfl⟩
 | some g=>
  refine J.qF λ_=>?_;refine J.qn 5 λbb=>?_;refine J.closeOwn (e:=50) (size:=17) (n:=0) (cap:=0) (xs:=[]) 2 rfl rfl rfl (j4 _) (j8 _) rfl rfl rfl ?_;refine J.q λ_=>?_;refine J.appendR hX tk (a:=some (bb 0)) (n:=0) (cap:=0) (xs:=[]) (oo:=0) (Ay:=n7 50 17 (some g) n cap (T3 l)) 2 1 0 rfl rfl rfl rfl rfl rfl rfl rfl rfl rfl (X6 _ _ (some g) _ _ _) rfl rfl rfl rfl (b2o l) ?_ ?_ (λ_=>rfl) λa' c'=>⟨_,rfl,trivial,?_⟩
  ·simp only[maxLen];omega
  ·omega
  rw[I5 n,R1];refine J.qr [1,2] λ_=>?_;exact⟨a',c',rfl,rfl⟩
theorem c0J (q n:Nat) (A:Pad) (P:Pv) (hl:P.log.length<=1000):FP 20 [pp q] [PlQ q n P.Z A.f (pp A.fp) (slv A.a2 P.log.length A.c2),n7 50 17 A.a2 P.log.length A.c2 (T3 P.log)]
  (λv As=>∃a' c',v=slv a' P.log.length c'/\As=[PlQ q n P.Z A.f (pp A.fp) (slv A.a2 P.log.length A.c2),n7 50 17 A.a2 P.log.length A.c2 (T3 P.log),n7 50 17 a' P.log.length c' (T3 P.log)]):=by
 refine FE [2] Tryz.func20 λX F hX=>?_;refine J.qF λ_=>?_;refine J.qc (b4n A.a2 P.log.length A.c2 P.log rfl (by omega)) [2] λ_=>?_;rintro v As ⟨a',c',rfl,rfl⟩;refine⟨_,rfl,trivial,?_⟩;refine J.qr [1,2,3] λ_=>?_;exact⟨a',c',rfl,rfl⟩
def b4d (d b p:Int):Int:=if J2 d b p then 12*d*b*p+40 else 0
def a5x (d b p:Int):Int:=if J2 d b p then(lgN d.toNat b.toNat p.toNat:Int)+2*b else 0
theorem c1r (d b p:Int):FP 42 [.agg #[iI d,iI b,iI p]] [] (Ps (iI (b4d d b p)) []):=by
 refine FE [0] Tryz.func42 λX F hX=>?_;refine J.qp (a5q d b p) [] λ_=>?_;refine J.qd (λ_ h1=>?_) λ_ h1=>?_
 ·have hg:J2 d b p=false:=by simpa using h1
  refine J.qr [] λ_=>?_;exact⟨by unfold b4d;rw[hg];rfl,rfl⟩
 ·have hg:J2 d b p=true:=by simpa using h1
  have hbd:(3<=d/\d<=6)/\(8<=b/\b<=16)/\(2<=p/\p<=8):=by simp[J2]at hg;omega
  have m1:0<=12*d*b/\12*d*b<=1152:=by
   have h1:=a1B (show 0<=12*d by omega) (show 0<=b by omega);have h2:=a1C (show 12*d<=72 by omega) (show b<=16 by omega) (by omega) (by omega);omega
  have m2:0<=12*d*b*p/\12*d*b*p<=9216:=by
   have h1:=a1B m1.1 (show 0<=p by omega);have h2:=a1C m1.2 (show p<=8 by omega) (by omega) (by omega);omega
  refine J.qr [] λ_=>?_;exact⟨by unfold b4d;rw[hg];rfl,rfl⟩
theorem b8f (d b p:Int):FP 27 [.agg #[iI d,iI b,iI p]] [] (Ps (iI (a5x d b p)) []):=by
 refine FE [0] Tryz.func27 λX F hX=>?_;refine J.qp (a5q d b p) [] λ_=>?_;refine J.qd (λ_ h1=>?_) λ_ h1=>?_
 ·have hg:J2 d b p=false:=by simpa using h1
  refine J.qr [] λ_=>?_;exact⟨by unfold a5x;rw[hg];rfl,rfl⟩
 ·have hg:J2 d b p=true:=by simpa using h1
  have hbd:(3<=d/\d<=6)/\(8<=b/\b<=16)/\(2<=p/\p<=8):=by simp[J2]at hg;omega
  obtain⟨D,rfl⟩:=i5 (show 0<=d by omega);obtain⟨B,rfl⟩:=i5 (show 0<=b by omega);obtain⟨P,rfl⟩:=i5 (show 0<=p by omega);have hlg:=b0A D B P (by omega) (by omega);have h200:1<=lgN D B P/\lgN D B P<=200:=a5g (a7c D B P hg 0 (by decide)).ok;refine J.p (.of [1,8,13,16,6,20,24]) [5,6] [1] λ_=>?_;refine J.qp (a4l D B P hg) [] λ_=>?_;rw[hlg];refine J.qr [] λ_=>?_;exact⟨by unfold a5x;rw[hg];rfl,rfl⟩
def Fv.allG:Nat->Int->Fv->Fv×List (List UInt8)×Int
 | 0,_,Z=>(Z,[],0)
 | n+1,i,Z=>if(Z.read i).2.2≠0 then((Z.read i).1,[],(Z.read i).2.2)else((Fv.allG n (i+1) (Z.read i).1).1,(Z.read i).2.1::(Fv.allG n (i+1) (Z.read i).1).2.1,(Fv.allG n (i+1) (Z.read i).1).2.2)
theorem Fv.allG_succ (n:Nat) (i:Int) (Z:Fv):Fv.allG (n+1) i Z=if(Z.read i).2.2≠0 then((Z.read i).1,[],(Z.read i).2.2)else((Fv.allG n (i+1) (Z.read i).1).1,(Z.read i).2.1::(Fv.allG n (i+1) (Z.read i).1).2.1,(Fv.allG n (i+1) (Z.read i).1).2.2):=rfl
def Fv.all (Z:Fv):Fv×List (List UInt8)×Int:=if(Fv.allG Z.lg.toNat 0 Z).2.2≠0 then((Fv.allG Z.lg.toNat 0 Z).1,[],(Fv.allG Z.lg.toNat 0 Z).2.2)else Fv.allG Z.lg.toNat 0 Z
theorem b0T (l:List (List UInt8)) (d:List UInt8):H2 l++H3 d=H2 (l++[d]):=by unfold H2;rw[J5];simp
theorem c1p (f p n t l d:Nat) (Z:Fv) (k m:Nat) (hO:Z.Ok k m):FP 50 [pp f] (FvP f p n t l d Z)
  (λv As=>∃a c,v= .tuple #[slv a Z.all.2.1.length c,iI Z.all.2.2]/\As=FvP f p n t l d Z.all.1++[n7 30 16 a Z.all.2.1.length c (H2 Z.all.2.1)]):=by
 refine FE [2] Tryz.func50 λX F hX=>?_;refine J.q λb9=>?_;refine J.cF ?_;refine J.qp (a3k f n t l p d Z hO.dv.gd.ok) [1,3] λ_=>?_;have hlb:=Fv.lg_bd (F:=Z) hO.dv.gd.ok;obtain⟨N,hN⟩:=i5 (show 0<=Z.lg by omega);rw[hN];have hall:Z.all=if(Fv.allG N 0 Z).2.2≠0 then((Fv.allG N 0 Z).1,[],(Fv.allG N 0 Z).2.2)else Fv.allG N 0 Z:=by unfold Fv.all;rw[hN];rfl
 refine J.q λ_=>?_;refine J.turn1 [] rfl (As:=[n7 30 16 none 0 0 (H2 [])]) (λh s=>Sep.one ⟨rfl,rfl,rfl⟩) rfl ?_;refine J.q λ_=>?_;refine J.l (α:=(Nat×Fv×List (List UInt8)×Option Nat×Nat)) (λz=>z.1<=N/\z.2.1.Ok k m/\z.2.2.1.length=z.1/\Fv.allG N 0 Z=((Fv.allG (N-z.1) z.1 z.2.1).1,z.2.2.1++(Fv.allG (N-z.1) z.1 z.2.1).2.1,(Fv.allG (N-z.1) z.1 z.2.1).2.2)) (λz=>[si 12 z.1,si 11 N,⟨0,pp f,2, .tt⟩,sv 4 (slv z.2.2.2.1 z.2.2.1.length z.2.2.2.2)]) [1,2,3,4,5,6,7] (λz=>(FvP f p n t l d z.2.1++[n7 30 16 z.2.2.2.1 z.2.2.1.length z.2.2.2.2 (H2 z.2.2.1)])) (λz=>N-z.1) ((0,Z,[],none,0)) (⟨j8 _,hO,rfl,rfl⟩) λz hI=>?_;obtain⟨j,Y,acc,ga,ca⟩:=z;dsimp only at hI ⊢;obtain⟨hj,hY,hacc,hgo⟩:=hI;refine J.qd (λ_ h1=>?_) λ_ h1=>?_
 ·simp only[d7,i6]at h1;have hk:=Fv.read_keep hY j;rw[show N-j=(N-(j+1))+1 from by omega]at hgo;rw[Fv.allG_succ]at hgo;refine J.qp (a3j f p n t l d Y k m hY j) [1,2,3,4,5,6] λ_=>?_;generalize Y.read j=R at hgo hk ⊢;obtain⟨Y2,dd,er⟩:=R;dsimp only at hgo hk ⊢;refine J.qd (λ_ h2=>?_) λ_ h2=>?_
  ·have he:er≠0:=by simpa using h2
   rw[f0 he]at hgo;rw[hgo,f0 he]at hall;refine J.turn1 [] rfl (As:=[n7 30 16 none 0 0 (H2 [])]) (λh s=>Sep.one ⟨rfl,rfl,rfl⟩) rfl ?_;refine J.qr [1,2,3,4,5,6,9] λ_=>?_;rw[hall];exact⟨none,0,rfl,rfl⟩
  ·have he:er=0:=by simpa using h2
   rw[d8 (λh=>h he)]at hgo;refine J.qn 5 λb9=>?_;refine J.ap 7 9 0 (b0T acc dd) λa3 c3=>?_;refine J.q λ_=>?_;rw[show acc.length+1=(acc++[dd]).length from by simp];refine J.q λ_=>?_;refine J.n ((j+1,Y2,acc++[dd],a3,c3)) (⟨by dsimp only;omega,hk.1,by dsimp only;rw[f9];exact congrArg (· +1) hacc,by dsimp only;rw[hgo,n8];rfl⟩) (by dsimp only;omega) [0,1,2,3,4,5,6,7]
 simp only[c9,i6]at h1;obtain rfl:j=N:=by omega
 rw[T5,show Fv.allG 0 (j:Int) Y=(Y,[],0)from rfl,y8]at hgo;rw[hgo,d8 (by simp)]at hall;refine J.qr [1,2,3,4,5,6,7] λ_=>?_;rw[hall];exact⟨ga,ca,rfl,rfl⟩
def Fv.ticksG:Nat->Int->Fv->Fv×Int
 | 0,i,Z=>(Z.whole.1,if Z.whole.2 then i else-1)
 | f+1,i,Z=>if Z.whole.2 then(Z.whole.1,i)else if Z.whole.1.tick.2≠0 then(Z.whole.1.tick.1,-1)else Fv.ticksG f (i+1) Z.whole.1.tick.1
theorem Fv.ticksG_succ (f:Nat) (i:Int) (Z:Fv):Fv.ticksG (f+1) i Z=if Z.whole.2 then(Z.whole.1,i)else if Z.whole.1.tick.2≠0 then(Z.whole.1.tick.1,-1)else Fv.ticksG f (i+1) Z.whole.1.tick.1:=rfl
def a9t (most:Int):Nat:=(min (max most 0) 10000).toNat
def Fv.ticks (Z:Fv) (most:Int):Fv×Int:=Fv.ticksG (a9t most) 0 Z
theorem b8c (f p n t l d:Nat) (Z:Fv) (k m:Nat) (most:Int) (hO:Z.Ok (Dv.costS*a9t most+k) m) (hm:m<=1000):FP 99 [pp f,iI most] (FvP f p n t l d Z)
  (Ps (iI (Z.ticks most).2) (FvP f p n t l d (Z.ticks most).1)):=by
 obtain⟨M,hM⟩:∃M,a9t most=M:=⟨_,rfl⟩;have hMM:min (max most 0) 10000=(M:Int):=by rw[<- hM];unfold a9t;omega
 have hM1:M<=10000:=by omega
 rw[show Z.ticks most=Fv.ticksG M 0 Z from by unfold Fv.ticks;rw[hM]];rw[hM]at hO;refine FE [2,0] Tryz.func99 λX F hX=>?_;refine J.qn 9 λ_=>?_;have e:(if(10000:Int)<if(0:Int)>most then 0 else most then 10000 else if(0:Int)>most then 0 else most)=(M:Int):=by
  rw[<- hMM];split<;>split<;>omega
 rw[e];refine J.q λ_=>?_;refine J.l (α:=(Nat×Fv)) (λz=>(z.1<=M/\z.2.Ok (Dv.costS*(M-z.1)+k) m/\Fv.ticksG M 0 Z=Fv.ticksG (M-z.1) z.1 z.2)\/(z.1=M+1/\Fv.ticksG M 0 Z=(z.2,-1))) (λz=>[si 11 z.1,⟨10,iI ((M:Int)+1),0, .tt⟩,⟨0,pp f,2, .tt⟩,si 1 M]) [1,2,3,4,5,6] (λz=>FvP f p n t l d z.2) (λz=>M+1-z.1) ((0,Z)) (.inl ⟨j8 _,hO,rfl⟩) λz hI=>?_;obtain⟨j,Y⟩:=z;dsimp only at hI ⊢;refine J.qd (λ_ h1=>?_) λ_ h1=>?_
 ·simp only[d7]at h1;obtain⟨hj,hY,hgo⟩:j<=M/\Y.Ok (Dv.costS*(M-j)+k) m/\Fv.ticksG M 0 Z=Fv.ticksG (M-j) j Y:=by
   rcases hI with h | h
   ·exact h
   ·omega
  have hw:=Fv.whole_keep hY;refine J.qp (a8d f p n t l d Y _ m hY) [1,2,3,4,5,6] λ_=>?_;obtain⟨W,hW⟩:∃W,Y.whole=W:=⟨_,rfl⟩;rw[hW]at hw ⊢;obtain⟨Y1,wb⟩:=W;dsimp only at hw ⊢;refine J.qd (λ_ h2=>?_) λ_ h2=>?_
  ·have hr:Fv.ticksG (M-j) j Y=(Y1,(j:Int)):=by
    cases hc:M-j with
    | zero=>show(Y.whole.1,if Y.whole.2 then(j:Int)else-1)=_;rw[hW,f0 h2]
    | succ c=>rw[Fv.ticksG_succ,hW,f0 h2]
   refine J.qr [1,2,3,4,5,6] λ_=>?_;rw[hgo,hr];exact⟨rfl,rfl⟩
  refine J.qn 6 λ_=>?_;rcases O1 j M with hjM | hjM
  ·rw[show decide ((j:Int)<(M:Int))=true from j3 (by omega)];obtain⟨c,hc⟩:∃c,M-j=c+1:=⟨M-j-1,by omega⟩;have hO1:Y1.Ok (Dv.costS+(Dv.costS*c+k)) m:=hw.1.less (by rw[hc,D5];omega);have htk:=Fv.tick_keep hO1;refine J.qp (b0I f p n t l d Y1 _ m hO1 hm) [1,2,3,4,5,6] λ_=>?_;have hr:Fv.ticksG (M-j) j Y=if Y1.tick.2≠0 then(Y1.tick.1,-1)else Fv.ticksG c (j+1) Y1.tick.1:=by
    rw[hc,Fv.ticksG_succ,hW,d8 (by rw[h2];exact j6)]
   obtain⟨W,hW2⟩:∃W,Y1.tick=W:=⟨_,rfl⟩;rw[hW2]at htk hr ⊢;obtain⟨Y2,er⟩:=W;dsimp only at htk hr ⊢;refine J.qd (λ_ h3=>?_) λ_ h3=>?_
   ·have he:er≠0:=by simpa using h3
    rw[f0 he]at hr;refine J.qr [1,2,3,4,5,6] λ_=>?_;rw[hgo,hr];exact⟨rfl,rfl⟩
   ·have he:er=0:=by simpa using h3
    rw[d8 (λh=>h he)]at hr;refine J.q λ_=>?_;refine J.n ((j+1,Y2)) (.inl ⟨by dsimp only;omega,by dsimp only;rw[show M-(j+1)=c from by omega];exact htk.1,by dsimp only;rw[show M-(j+1)=c from by omega,hgo,hr];rfl⟩) (by dsimp only;omega) [0,1,2,3,4,5,6]
  ·obtain rfl:j=M:=by omega
   rw[show decide ((j:Int)<(j:Int))=false from y6 (by omega)];refine J.q λ_=>?_;refine J.v (iI 0) rfl rfl (λhg a w he hw=>by simp[G.on]at hg) ?_;refine J.qF λ_=>?_;refine J.q λ_=>?_;refine J.n ((j+1,Y1)) (.inr ⟨rfl,by rw[hgo,T5];show(Y.whole.1,if Y.whole.2 then(j:Int)else-1)=_;rw[hW,d8 (by rw[h2];exact j6)]⟩) (by dsimp only;omega) [0,1,2,3,4,5,6]
 simp only[c9]at h1;obtain⟨rfl,hgo⟩:j=M+1/\Fv.ticksG M 0 Z=(Y,-1):=by
  rcases hI with h | h
  ·omega
  ·exact h
 refine J.qr [1,2,3,4,5,6] λ_=>?_;rw[hgo];exact⟨rfl,rfl⟩
def flS:Stp:=⟨4,0,zd,0,0,dF⟩
theorem Pv.step_flush (P:Pv) (Z:Fv) (hZ:P.Z=some Z) (s:Stp) (hs:s.fn=4):P.step s=(⟨a0G Z.S.N.ops P.L,P.log++[⟨(Z.setN (a0A Z.S.N (Q8 Z.S.N.ops P.L))).flush.2,zd⟩],some (Z.setN (a0A Z.S.N (Q8 Z.S.N.ops P.L))).flush.1,P.M⟩,⟨(Z.setN (a0A Z.S.N (Q8 Z.S.N.ops P.L))).flush.2,zd⟩):=by
 have hnd:P.nd=Z.S.N:=by unfold Pv.nd;rw[hZ]
 have hrun:P.run=⟨a0G Z.S.N.ops P.L,P.log,some (Z.setN (a0A Z.S.N (Q8 Z.S.N.ops P.L))),P.M⟩:=by unfold Pv.run;rw[hnd];unfold Pv.setN;rw[hZ]
 have hd:P.run.does s=({P.run with Z:=some (Z.setN (a0A Z.S.N (Q8 Z.S.N.ops P.L))).flush.1},⟨(Z.setN (a0A Z.S.N (Q8 Z.S.N.ops P.L))).flush.2,zd⟩):=by
  rw[hrun];unfold Pv.does;rw[d8 (by rw[hs];decide),d8 (by rw[hs];decide),d8 (by rw[hs];decide),f0 hs]
 unfold Pv.step;rw[hd,hrun]
theorem c0b (q n:Nat) (A:Pad) (P:Pv) (hA:A.Ok P) (Z:Fv) (hZ:P.Z=some Z) (most:Int) (k m:Nat) (hO:Z.Ok (Fv.cW*200+(Dv.costS+(Dv.costK+(1+(Dv.costS*a9t most+k))))) m) (hoff:Z.S.N.off=false) (hm:m+(Q8 Z.S.N.ops P.L).length<=1000) (hL:P.L.length<=1000) (hlg:P.log.length<=1000) (Z1:Fv) (hZ1:(P.step flS).1.Z=some Z1):FP 54 [pp q,iI most] (a2V q n A P)
  (λv As=>∃A':Pad,v= .bool (decide ((Z1.ticks most).2>=0))/\A'.Ok {(P.step flS).1 with Z:=some (Z1.ticks most).1}/\As=a2V q n A' {(P.step flS).1 with Z:=some (Z1.ticks most).1}):=by
 have hsf:=Pv.step_flush P Z hZ flS rfl;obtain⟨D,hD⟩:∃D,Q8 Z.S.N.ops P.L=D:=⟨_,rfl⟩;rw[hD]at hm hsf;have hO2:(Z.setN (a0A Z.S.N D)).Ok (Fv.cW*200+(Dv.costS+(Dv.costK+(1+(Dv.costS*a9t most+k))))) (m+D.length):=hO.setN (a7U _ _) (a3l hO.dv.gd D);have hkp:=Fv.flush_keep hO2;have hz1:Z1=(Z.setN (a0A Z.S.N D)).flush.1:=by rw[hsf]at hZ1;injection hZ1 with e;exact e.symm
 rw[<- hz1]at hkp;have hst:=a6U q n A P hA Z hZ _ m hO (by rw[hD];exact hm) hL hlg flS rfl;have hone:(P.step flS).1=⟨a0G Z.S.N.ops P.L,(P.step flS).1.log,some Z1,P.M⟩:=by rw[hsf,hz1]
 have hpl:a2V q n A P=[PlQ q n (some Z) A.f (pp A.fp) (slv A.a2 P.log.length A.c2), .pt A.fp 176 [.slice (Q5 A.a) P.L.length A.c],rdA (Q5 A.a) 7 P.L.length (x9 P.L),n7 50 17 A.a2 P.log.length A.c2 (T3 P.log)]++FvP A.f A.p n A.t A.l A.d Z:=by unfold a2V a4r;rw[hZ];rfl
 rw[hpl]at hst ⊢;refine FE [2,0] Tryz.func54 λX F hX=>?_;refine J.qp (a4f q n (flP (some Z) A.f) (pp A.fp) (slv A.a2 P.log.length A.c2)) [1] λ_=>?_;refine J.qp (a2m n Z.S.N) [7] λ_=>?_;rw[hoff];refine J.qp (a3b q n (some Z) A.f (pp A.fp) (slv A.a2 P.log.length A.c2)) [1] λ_=>?_;refine J.qF λ_=>?_;refine J.qc (hst) [1,2,3,4,5,6,7,8,9,10] λ_=>?_;rintro v As ⟨A',rfl,hA',rfl⟩;rw[hone]at hA' ⊢;refine⟨_,rfl,trivial,?_⟩;refine J.qp (a3b q n (some Z1) A'.f (pp A'.fp) (slv A'.a2 (P.step flS).1.log.length A'.c2)) [1] λ_=>?_;refine J.qp (b8c A'.f A'.p n A'.t A'.l A'.d Z1 k (m+D.length) most (hkp.1.less (by omega)) hm) [5,6,7,8,9,10] λ_=>?_;refine J.qr [1,2,3,4,5,6,7,8,9,10] λ_=>?_;refine⟨A',rfl,?_,?_⟩
 ·rw[hone];exact⟨hA'.z,hA'.c⟩
 ·rw[hone];rfl
theorem Fv.allG_keep {k m:Nat}:∀(n:Nat) (i:Int) (Z:Fv),Z.Ok k m->(Fv.allG n i Z).1.Ok k m
 | 0,_,_,h=>h
 | n+1,i,Z,h=>by
  rw[Fv.allG_succ];split
  ·exact(Fv.read_keep h i).1
  ·exact Fv.allG_keep n (i+1) _ (Fv.read_keep h i).1
theorem Fv.all_keep {Z:Fv} {k m:Nat} (h:Z.Ok k m):Z.all.1.Ok k m:=by
 unfold Fv.all;split
 ·exact Fv.allG_keep _ _ _ h
 ·exact Fv.allG_keep _ _ _ h
namespace B21
def d1 (n:UInt8):List UInt8:=n::List.replicate 15 0
def N0:Nand:=Nand.new 3 8 2
def F0:Fv:=Fv.of (Q6 N0).1
def F1:Fv×Int:=F0.write 1 (d1 7)
def F2:Fv×Int:=F1.1.trim 2
def F3:Fv×Int:=F2.1.write 3 zd
def F4:Fv×List UInt8×Int:=F3.1.read 1
def F5:Fv×Int:=F4.1.flush
def F6:Fv:=F5.1.setN (F5.1.S.N.setCut (-1) 0)
def F7:Fv×List UInt8×Int:=F6.read 1
def N8:Nand:=F7.1.S.N.onN
def F8:Fv:=Fv.of (Q6 N8).1
def F9:Fv×List UInt8×Int:=F8.read 1
def Fa:Fv×List (List UInt8)×Int:=F9.1.all
def P0:Pv:=Pv.new 3 8 2 []
def s1:Stp:=⟨2,0,d1 9,0,0,dF⟩
def s2:Stp:=⟨1,0,zd,0,0,dF⟩
def Z1:Fv:=((F0.setN F0.S.N).write 0 (d1 9)).1
def Z2:Fv:=((Z1.setN Z1.S.N).read 0).1
def Z3:Fv:=((Z2.setN Z2.S.N)).flush.1
theorem m0:(Q6 N0).2=0:=by kernel_rfl
theorem v1:F1.2=0:=by kernel_rfl
theorem v2:F2.2=0:=by kernel_rfl
theorem v3:F3.2=3:=by kernel_rfl
theorem v4:F4.2.2=0:=by kernel_rfl
theorem w4:F4.2.1=d1 7:=by kernel_rfl
theorem v5:F5.2=0:=by kernel_rfl
theorem v7:F7.2.2=9:=by kernel_rfl
theorem m8:(Q6 N8).2=0:=by kernel_rfl
theorem v9:F9.2.2=0:=by kernel_rfl
theorem w9:F9.2.1=d1 7:=by kernel_rfl
theorem va:Fa.2.1.length=3:=by kernel_rfl
theorem wa:Fa.2.2=0:=by kernel_rfl
theorem z0:P0.Z=some F0:=by kernel_rfl
theorem e1:(P0.step s1).2.err=0:=by kernel_rfl
theorem z1:(P0.step s1).1.Z=some Z1:=by kernel_rfl
def P1:Pv:=(P0.step s1).1
theorem e2:(P1.step s2).2.data=d1 9:=by kernel_rfl
theorem z2:(P1.step s2).1.Z=some Z2:=by kernel_rfl
def P2:Pv:=(P1.step s2).1
theorem z3:(P2.step flS).1.Z=some Z3:=by kernel_rfl
theorem pL1:P1.L=[]:=by kernel_rfl
theorem pl1:P1.log.length=1:=by kernel_rfl
theorem pL2:P2.L=[]:=by kernel_rfl
theorem lg2:P2.log.length=2:=by kernel_rfl
theorem t3:decide ((Z3.ticks 50).2>=0)=true:=by kernel_rfl
theorem lgA:Fa.1.lg=3:=by kernel_rfl
def M0:List MPv:=Mv.new 2
def M1:List MPv:=Mv.cut (Mv.write M0 0 (d1 1))
theorem q1:Mv.may M1 0 zd=true:=by kernel_rfl
theorem q2:Mv.may M1 0 (d1 1)=true:=by kernel_rfl
theorem q3:Mv.may M1 0 (d1 2)=false:=by kernel_rfl
def K (j:Nat):Nat:=(20-j)*10000000000000
theorem ok0:F0.Ok (K 0) 0:=Fv.of_ok (a7M (a7c 3 8 2 rfl _ (by decide))).1 (by decide)
theorem ok1:F1.1.Ok (K 1) 0:=(Fv.write_keep (ok0.less (k':=Fv.cW+(1+K 1)) (by decide)) 1 rfl).1
theorem ok2:F2.1.Ok (K 2) 0:=(Fv.trim_keep (ok1.less (k':=Fv.cW+(1+K 2)) (by decide)) 2).1
theorem ok3:F3.1.Ok (K 3) 0:=(Fv.write_keep (ok2.less (k':=Fv.cW+(1+K 3)) (by decide)) 3 rfl).1
theorem ok4:F4.1.Ok (K 4) 0:=(Fv.read_keep (ok3.less (k':=K 4) (by decide)) 1).1
theorem ok5:F5.1.Ok (K 5) 0:=(Fv.flush_keep (ok4.less (k':=Fv.cW*200+K 5) (by decide))).1
theorem ok6:F6.Ok (K 5) 0:=ok5.setN (Nand.like_cut _ _ _) (ok5.dv.gd.cut (-1) 0 (by decide) (by decide))
theorem ok7:F7.1.Ok (K 5) 0:=(Fv.read_keep ok6 1).1
theorem g8:N8.Gd (Dv.costK+K 6) 0:=(ok7.dv.gd.less (by decide) (j4 0)).on
theorem ok8:F8.Ok (K 6) 0:=Fv.of_ok (a7M g8).1 (by decide)
theorem ok9:F9.1.Ok (K 6) 0:=(Fv.read_keep ok8 1).1
theorem oka:Fa.1.Ok (K 6) 0:=Fv.all_keep ok9
theorem okz1:Z1.Ok (K 1) 0:=(Fv.write_keep ((ok0.setN (Nand.Like.refl _) ok0.dv.gd).less (k':=Fv.cW+(1+K 1)) (by decide)) 0 rfl).1
theorem okz2:Z2.Ok (K 1) 0:=(Fv.read_keep (okz1.setN (Nand.Like.refl _) okz1.dv.gd) 0).1
theorem okz2o:Z2.S.N.off=false:=by kernel_rfl
end B21
theorem Bt.numAt_congr {a b:List UInt8} {k:Nat}:∀w,(∀i,i<w->Bt.bitAt a (k+i)=Bt.bitAt b (k+i))->Bt.numAt a k w=Bt.numAt b k w
 | 0,_=>rfl
 | w+1,h=>by rw[Bt.numAt,Bt.numAt,Bt.numAt_congr w (λi hi=>h i (by omega)),h w (by omega)]
theorem b2d (K:Nat) (p:List UInt8) (hp:p.length=32) (hK:K<=32) (i:Nat):(Nand.fillP K p).getD i 0=if i<K then p.getD i 0 else if i<32 then 255 else 0:=by
 unfold Nand.fillP;simp only[d6];rw[J9,l9,hp]
 by_cases h:i<K
 ·rw[f0 (by omega),f0 h,D0,f0 h]
 ·rw[d8 (by omega),d8 h]
  by_cases h2:i<32
  ·rw[f0 h2,E6,f0 (by omega)];rfl
  ·rw[d8 h2,E6,d8 (by omega)];rfl
theorem a6a (p:List UInt8) (k i:Nat):(p.drop k).getD i 0=p.getD (k+i) 0:=by
 simp[d6]
theorem b4t (K:Nat) (p:List UInt8) (hp:p.length=32) (hK:K<28):(S.fields (Nand.fillP K p)).kind=255:=by
 show((Bt.numAt ((Nand.fillP K p).drop 16) 88 8:Nat):Int)=255;rw[Bt.numAt_eq _ 88 8 255 (λi hi=>?_) 8 (j4 8)]
 ·rfl
 ·unfold Bt.bitAt;rw[show(88+i)/8=11 from by omega,a6a,b2d K p hp (by omega),d8 (by omega),f0 (by omega),show 7-(88+i) % 8=8-1-i from by omega];rfl
theorem b1n (K:Nat) (p:List UInt8) (hp:p.length=32) (hK:28<=K) (hK2:K<=32):S.fields (Nand.fillP K p)=S.fields p:=by
 have hb:∀j,j<96->Bt.bitAt ((Nand.fillP K p).drop 16) j=Bt.bitAt (p.drop 16) j:=λj hj=>by
  unfold Bt.bitAt;rw[a6a,a6a,b2d K p hp hK2,f0 (by omega)]
 have h16:(Nand.fillP K p).take 16=p.take 16:=by
  unfold Nand.fillP;rw[List.take_append_of_le_length (by rw[l9,hp];omega),a5D,L5 (by omega)]
 unfold S.fields;simp only[h16,Bt.numAt_congr (a:=(Nand.fillP K p).drop 16) (b:=p.drop 16) (k:=0) 64 (λi hi=>hb _ (by omega)),Bt.numAt_congr (a:=(Nand.fillP K p).drop 16) (b:=p.drop 16) (k:=88) 8 (λi hi=>hb _ (by omega)),
  Bt.numAt_congr (a:=(Nand.fillP K p).drop 16) (b:=p.drop 16) (k:=64) 8 (λi hi=>hb _ (by omega)),Bt.numAt_congr (a:=(Nand.fillP K p).drop 16) (b:=p.drop 16) (k:=72) 8 (λi hi=>hb _ (by omega)),Bt.numAt_congr (a:=(Nand.fillP K p).drop 16) (b:=p.drop 16) (k:=80) 8 (λi hi=>hb _ (by omega))]
theorem b2S {N:Nand} {d b r:Int} (h:(N.blk d.toNat b.toNat).cells.length<=r.toNat):(M.look N d b r).2=2\/(M.look N d b r).2=4:=by
 have hp:N.pageAt d b r=none:=j9 h;have hr:N.refuses d b r=0\/N.refuses d b r=9\/N.refuses d b r=3\/N.refuses d b r=8:=by
  unfold Nand.refuses;split
  ·simp
  ·split
   ·simp
   ·split<;>simp
 have he:N.readE d b r=5\/N.readE d b r=9\/N.readE d b r=3\/N.readE d b r=8:=by
  unfold Nand.readE;rw[hp];rcases hr with e | e | e | e<;>rw[e]<;>simp
 unfold M.look;simp only;rcases he with e | e | e | e<;>rw[e]<;>simp
theorem b5F {N:Nand} {b r:Int} (h:∀d:Nat,(M.look N (d:Nat) b r).2≠1):R.all N b r=[]:=by
 have:(M.rowN N b r N.dies).filterMap M.maskOf=[]:=by
  refine List.filterMap_eq_nil_iff.2 λx hx=>?_;unfold M.rowN at hx;obtain⟨d,_,rfl⟩:=List.mem_map.1 hx;unfold M.maskOf;rw[d8 (h d)]
 unfold R.all M.masks;rw[this];rfl
def u8 (x:Int):UInt8:=UInt8.ofNat (x % 256).toNat
theorem b2x (x:Int):Value.int .u8 (IntKind.u8.wrap x)=bv (u8 x):=by
 have h:IntKind.u8.wrap x=x % 256:=by simp[IntKind.wrap,IntKind.bits,IntKind.signed]
 rw[h,bv,u8];congr 1;have h1:0<=x % 256/\x % 256<256:=⟨a2j _ (by decide),a0P _ (by decide)⟩;have h2:(UInt8.ofNat (x % 256).toNat).toNat=(x % 256).toNat:=by
  rw[a5B];omega
 rw[h2];omega
def e18 (k s:Int):En:=⟨k,s,1,[u8 k,u8 s,u8 (s/256),7,0,0,0,0,0,0,0,0,0,0,0,0]⟩
theorem a2P (k s:Int):FP 148 [iI k,iI s] [] (Ps (enV (e18 k s)) []):=by
 refine FE [0,0] Tryz.func148 λX F hX=>?_;refine J.qn 9 λ_=>?_;refine J.v (bv (u8 k)) rfl rfl (λhg a w he hs=>by rw[<- b2x k];exact a2t tk rfl rfl he rfl rfl rfl) ?_;refine J.qn 1 λ_=>?_;refine J.v (bv (u8 s)) rfl rfl (λhg a w he hs=>by rw[<- b2x s];exact a2t tk rfl rfl he rfl rfl rfl) ?_;refine J.qn 2 λ_=>?_;rw[show s.fdiv (2^min (Int.toNat 8) IntKind.i64.bits)=s/256 from Int.fdiv_eq_ediv_of_nonneg s (by decide:(0:Int)<=256)];refine J.v (bv (u8 (s/256))) rfl rfl (λhg a w he hs=>by rw[<- b2x (s/256)];exact a2t tk rfl rfl he rfl rfl rfl) ?_;exact J.qx []
def Dv.new (d b p:Nat) (lg:Int):Dv:=⟨Nand.new d b p,Tl.new d b p,Tb.new lg,-1,0,0,1⟩
theorem c1f (d b p:Nat) (h:J2 d b p=true) (k:Nat) (hk:k<=1000000000000000):(Nand.new d b p).Gd k 0:=by
 have h0:=Nand.Gd.new d b p h 0 (by omega);refine⟨h0.ok,?_,?_,h0.nodup,h0.few⟩
 ·show(0:Int)+(k:Int)<_;omega
 ·show(0:Int)+(k:Int)<_;omega
theorem Dv.Ok.new (d b p:Nat) (lg:Int) (h:J2 d b p=true) (k:Nat) (hk:k<=1000000000000000):(Dv.new d b p lg).Ok k 0:=
 ⟨c1f d b p h k hk,⟨rfl,rfl,rfl,by show(List.replicate b Sb.zero).length=b;simp⟩,Tb.Ok.new lg,λx hx=>by simp[Dv.new,Tb.new]at hx,by show(0:Int)<=0/\(0:Int)<=8;omega,by show(1:Int)<=1/\(1:Int)<=1099511627776;omega⟩
theorem b4X (d b p:Nat) (h:J2 d b p=true) (lg:Int):FP 147 [.agg #[iI d,iI b,iI p],iI lg] []
  (λv As=>∃n t l q,v= .tuple #[pp n,pp t,pp l,pp q]/\As=DvP q n t l (Dv.new d b p lg)):=by
 refine FE [0,0] Tryz.func147 λX F hX=>?_;refine J.qc (a9r d b p h) [] λ_=>?_;rintro v As ⟨n,rfl,rfl⟩;refine⟨_,rfl,trivial,?_⟩;refine J.qc (b2y d b p h) [] λ_=>?_;rintro v As ⟨t,rfl,rfl⟩;refine⟨_,rfl,trivial,?_⟩;refine J.qc (b2A lg) [] λ_=>?_;rintro v As ⟨l,rfl,rfl⟩;refine⟨_,rfl,trivial,?_⟩;refine J.qc (b6G n t l 1 (by decide) (Nand.new d b p) (Tl.new d b p) (Tb.new lg)) [] λ_=>?_;rintro v As ⟨q,rfl,rfl⟩;refine⟨_,rfl,trivial,?_⟩;refine J.qr [5,2,3,4] λ_=>?_;exact⟨n,t,l,q,rfl,rfl⟩
theorem Dv.Ok.fault0 {S:Dv} {k m:Nat} (h:S.Ok k m) (kd x y z n xx:Int) (hk:kd≠1):({S with N:=(S.N.fault kd x y z n xx).2}:Dv).Ok k m:=
 ⟨h.gd.fault0 kd x y z n xx hk,h.t.like (Nand.like_fault _ _ _ _ _ _ _),h.T,h.sl,h.row,h.next⟩
namespace B18
def S0:Dv:=Dv.new 3 8 2 20
def S1:Dv:=(S0.pen [e18 1 1,e18 2 2,e18 3 3]).1
def S2:Dv:=(S1.pen [e18 3 3]).1
def S3:Dv:=(S2.carry 0 2).1
def S4:Dv:={S3 with N:=(S3.N.fault 4 2 0 0 0 0).2}
def S5:Dv:=(S4.step 2).1
def S6:Dv:=S5.room.1
def S7:Dv:=(S6.torn [e18 9 9]).1
theorem h1:(S0.pen [e18 1 1,e18 2 2,e18 3 3]).2=(2,0):=by kernel_rfl
theorem h2:(S1.pen [e18 3 3]).2=(1,0):=by kernel_rfl
theorem h3:(S2.carry 0 2).2=(2,0):=by kernel_rfl
theorem h4:Tb.look S3.T.at_ 1=some ⟨1,0,0,7,4,1⟩:=by kernel_rfl
theorem h5:S3.op=1:=by kernel_rfl
theorem h6:(S4.step 2).2=(1,0):=by kernel_rfl
theorem h7:S5.leftN=2:=by kernel_rfl
theorem h8:S5.N.broken=0:=by kernel_rfl
theorem h9:S5.room.2=0:=by kernel_rfl
theorem h10:(S6.torn [e18 9 9]).2=0:=by kernel_rfl
theorem h11:S7.clear.2=0:=by kernel_rfl
def U:Nat:=10000000000
theorem G0:S0.Ok (10*U) 0:=Dv.Ok.new 3 8 2 20 rfl _ (by decide)
theorem d3:∀s∈[e18 1 1,e18 2 2,e18 3 3],s.data.length=16:=by decide
theorem d1:∀s∈[e18 3 3],s.data.length=16:=by decide
theorem d9:∀s∈[e18 9 9],s.data.length=16:=by decide
theorem G1:S1.Ok (9*U) 0:=(Dv.pen_keep (G0.less (by decide:8*Dv.fuel+9*U<=_)) d3).1
theorem G2:S2.Ok (8*U) 0:=(Dv.pen_keep (G1.less (by decide:8*Dv.fuel+8*U<=_)) d1).1
theorem G3:S3.Ok (7*U) 0:=(Dv.carry_keep (G2.less (by decide:Dv.costC+7*U<=_)) 0 2).1
theorem G4:S4.Ok (7*U) 0:=Dv.Ok.fault0 G3 4 2 0 0 0 0 (by decide)
theorem G5:S5.Ok (6*U) 0:=(Dv.step_keep (G4.less (by decide:Dv.costS+6*U<=_)) 2).1
theorem G6:S6.Ok (5*U) 0:=(Dv.room_keep (G5.less (by decide:Dv.costM+5*U<=_))).1
theorem G7:S7.Ok (4*U) 0:=(Dv.tornGo_keep 1 S6 [e18 9 9] _ (G6.less (by decide:Dv.costT*1+4*U<=_)) d9).1
end B18
end Go.Proofs.YtnffkcabeecopaaGreat
namespace Go.Proofs.YtnffkcabeecopaaGreat
open Go Go.RowKit
open B18
theorem b5b:FP 149 [] [] (Ps (.bool true) []):=by
 refine FE [] Tryz.func149 λX F hX=>?_;refine J.qp (b5a) [] λ_=>?_;exact J.qx []
theorem b4Y:FP 97 [] [] (Ps (.bool true) []):=by
 refine FE [] Tryz.func97 λX F hX=>?_;refine J.qc (b4X 3 8 2 rfl 20) [] λ_=>?_;rintro v As ⟨n,t,l,q,rfl,rfl⟩;refine⟨_,rfl,trivial,?_⟩;rw[show Dv.new 3 8 2 20=S0 from rfl];refine J.qF λ_=>?_;refine J.qp (a2P 1 1) [] λ_=>?_;refine J.qp (a2P 2 2) [] λ_=>?_;refine J.qp (a2P 3 3) [] λ_=>?_;refine J.q λbx=>?_;refine J.ca hX (by kernel_rfl) (a3L q n t l S0 (9*U) 0 (G0.less (by decide)) (.pt (bx 0) 155 (p9 [e18 1 1,e18 2 2,e18 3 3])) (some ⟨bx 0,0,none⟩) 3 3 [e18 1 1,e18 2 2,e18 3 3] (a3u _ _ _ _ _ rfl) rfl (by decide) B18.d3) [1,2,3,4,5] 0 rfl rfl rfl rfl rfl rfl (λ_=>rfl) ?_;refine cpq ⟨_,rfl,trivial,?_⟩;rw[show(S0.pen [e18 1 1,e18 2 2,e18 3 3]).1=S1 from rfl,h1];refine J.qp (a2P 3 3) [] λ_=>?_;refine J.q λby_=>?_;refine J.ca hX (by kernel_rfl) (a3L q n t l S1 (8*U) 0 (G1.less (by decide)) (.pt (by_ 0) 155 (p9 [e18 3 3])) (some ⟨by_ 0,0,none⟩) 1 1 [e18 3 3] (a3u _ _ _ _ _ rfl) rfl (by decide) B18.d1) [1,2,3,4,6] 0 rfl rfl rfl rfl rfl rfl (λ_=>rfl) ?_;refine cpq ⟨_,rfl,trivial,?_⟩;rw[show(S1.pen [e18 3 3]).1=S2 from rfl,h2];refine J.qp (a7p n t l q S2 (7*U) 0 (G2.less (by decide)) 0 2) [1,2,3,4] λ_=>?_;rw[show(S2.carry 0 2).1=S3 from rfl,h3];refine J.qp (a5J l S3.T 1) [4] λ_=>?_;rw[h4,j5,a2w];refine J.qp (a3d q n t l S3) [1] λ_=>?_;rw[h5];refine J.qp (a4j n S3.N G3.gd.ok 0 4 2 0 0 0 0) [2] λ_=>?_;rw[show(S3.N.fault 4 2 0 0 0 0).2=S4.N from rfl,show a2f q n t l S3=a2f q n t l S4 from rfl,show S3.t=S4.t from rfl,show S3.T=S4.T from rfl];refine J.qp (b3K n t l q S4 (6*U) 0 (G4.less (by decide)) (by decide) 2) [1,2,3,4] λ_=>?_;rw[show(S4.step 2).1=S5 from rfl,h6];refine J.qp (b5b) [] λ_=>?_;refine J.qp (b3L t l S5 (6*U) 0 G5) [3,4] λ_=>?_;rw[h7];refine J.qp (b1I n S5.N) [2] λ_=>?_;rw[h8];refine J.qp (a4Y n t l q S5 (5*U) 0 (G5.less (by decide)) (by decide)) [1,2,3,4] λ_=>?_;rw[show S5.room.1=S6 from rfl,h9];refine J.qp (a2P 9 9) [] λ_=>?_;refine J.q λ_=>?_;refine J.effG hX tk rfl rfl rfl (λ_=>rfl) (by(repeat' (first | exact Conj.nil | refine Conj.cons ?_ ?_ | omega | exact hq0 | (simpa using hq0) | (exactλh=>h) | exact rfl | (intro hq;have hq0:=hq;try simp only[f8,l8,d7,g7,c9]at hq) | (simp;done) | (simp;omega) | decide))) (λ_=>rfl) λbt=>⟨trivial,?_⟩;refine J.q λ_=>?_;refine J.ca hX (by kernel_rfl) (b0u n t l q S6 (4*U) 0 (.pt bt 155 (p9 [e18 9 9])) (some (bt,0)) 1 1 [e18 9 9] (a3u _ _ _ _ _ rfl) rfl (by decide) (by decide) (λh=>by cases h) B18.d9 (G6.less (by decide)) (by decide)) [1,2,3,4,8] 0 rfl rfl rfl rfl rfl rfl (λ_=>rfl) ?_;refine cpq ⟨_,rfl,trivial,?_⟩;rw[show(S6.torn [e18 9 9]).1=S7 from rfl,h10];refine J.qp (a3d q n t l S7) [1] λ_=>?_;refine J.q λ_=>?_;refine J.ca hX (by kernel_rfl) (a4Z n t l S7.N S7.t S7.T (3*U) 0 (G7.gd.less (by decide) (j4 _)) (by decide) G7.t S7.op) [2,3,4] 0 rfl rfl rfl rfl rfl rfl (λ_=>rfl) ?_;refine cpq ⟨_,rfl,trivial,?_⟩;rw[show(Dv.clearX S7.N S7.t S7.T S7.op).2.2=0 from h11];exact J.qx []
end Go.Proofs.YtnffkcabeecopaaGreat
namespace Go.Proofs.YtnffkcabeecopaaGreat
open Go Go.RowKit
theorem W9 (q n:Nat) (A:Pad) (P:Pv) (Z:Fv) (hZ:P.Z=some Z):a2V q n A P=[PlQ q n (some Z) A.f (pp A.fp) (slv A.a2 P.log.length A.c2), .pt A.fp 176 [.slice (Q5 A.a) P.L.length A.c],rdA (Q5 A.a) 7 P.L.length (x9 P.L),n7 50 17 A.a2 P.log.length A.c2 (T3 P.log)]++FvP A.f A.p n A.t A.l A.d Z:=by unfold a2V a4r;rw[hZ];rfl
theorem a1L {Z:List MSl} {M:List MPv} (h:Z.map (·.v)=M) (hM:∀v∈M,v.now.length=16/\(∀x∈v.may,x.length=16)/\(∀x∈v.ever,x.length=16)/\v.may.length<=1000/\v.ever.length<=1000):∀z∈Z,z.Fine:=λz hz=>hM z.v (by rw[<- h];exact List.mem_map.2 ⟨z,hz,rfl⟩)
theorem b4Z:FP 51 [] [] (Ps (.bool true) []):=by
 refine FE [] Tryz.func51 λX F hX=>?_;refine J.qp (b4Y) [] λ_=>?_;exact J.qx []
open B21
theorem b4W:FP 11 [] [] (Ps (.bool true) []):=by
 have G0:N0.Gd (Dv.costK+0) 0:=a7c 3 8 2 rfl _ (by decide);refine FE [] Tryz.func11 λX F hX=>?_;refine J.qc (a9r 3 8 2 rfl) [] λ_=>?_;rintro v As ⟨n,rfl,rfl⟩;refine⟨_,rfl,trivial,?_⟩;rw[show Nand.new 3 8 2=N0 from rfl];refine J.qc (a3S n N0 0 0 G0 (by decide) rfl) [1] λ_=>?_;rintro v As (⟨_,f,p,t,l,d,rfl,rfl⟩ | ⟨he,rfl,rfl⟩)
 rotate_left
 ·exact absurd m0 he
 refine⟨_,rfl,trivial,?_⟩;rw[show Fv.of (Q6 N0).1=F0 from rfl];refine J.qF λ_=>?_;refine J.qp (a8c f p n t l d F0 (K 1) 0 (ok0.less (by decide)) (by decide) 1 (d1 7) rfl) [1,2,3,4,5,6] λ_=>?_;rw[show F0.write 1 (d1 7)=F1 from rfl,v1];refine J.qp (b3W f p n t l d F1.1 (K 2) 0 (ok1.less (by decide)) (by decide) 2) [1,2,3,4,5,6] λ_=>?_;rw[show F1.1.trim 2=F2 from rfl,v2];refine J.qp (a8c f p n t l d F2.1 (K 3) 0 (ok2.less (by decide)) (by decide) 3 zd rfl) [1,2,3,4,5,6] λ_=>?_;rw[show F2.1.write 3 zd=F3 from rfl,v3];refine J.qp (a3j f p n t l d F3.1 (K 3) 0 ok3 1) [1,2,3,4,5,6] λ_=>?_;rw[show F3.1.read 1=F4 from rfl,v4,w4];refine J.q λc7=>?_;refine J.cb (a8e f p n t l d F4.1 (K 5) 0 (ok4.less (by decide)) (by decide)) [1,2,3,4,5,6] ?_;refine cpq ⟨_,rfl,trivial,?_⟩;rw[show F4.1.flush=F5 from rfl,v5];refine J.qp (b3J n F5.1.S.N (-1) 0) [3] λ_=>?_;refine J.qp (a3j f p n t l d F6 (K 5) 0 ok6 1) [1,2,3,4,5,6] λ_=>?_;rw[show F6.read 1=F7 from rfl,v7];refine J.q λc10=>?_;refine J.cb (b9n n F7.1.S.N) [3] ?_;refine cpq ⟨_,rfl,trivial,?_⟩;rw[show F7.1.S.N.onN=N8 from rfl];refine J.qc (a3S n N8 (K 6) 0 g8 (by decide) rfl) [3] λ_=>?_;rintro v As (⟨_,f',p',t',l',d',rfl,rfl⟩ | ⟨he,rfl,rfl⟩)
 rotate_left
 ·exact absurd m8 he
 refine⟨_,rfl,trivial,?_⟩;rw[show Fv.of (Q6 N8).1=F8 from rfl];refine J.qp (a3j f' p' n t' l' d' F8 (K 6) 0 ok8 1) [3,9,10,11,12,13] λ_=>?_;rw[show F8.read 1=F9 from rfl,v9,w9];refine J.q λc14=>?_;refine J.cb (c0U 2) [] ?_;rintro v As ⟨mq,mg,MZ,rfl,rfl,hM0⟩;refine⟨_,rfl,trivial,?_⟩;have ml0:MZ.length=2:=by have:=congrArg List.length hM0;rw[j7]at this;exact this
 refine J.qc (b7a mq mg MZ (by omega) (a1L hM0 (by decide)) 0 (d1 1) rfl) [15,16,17,18] λ_=>?_;rintro v As ⟨MZ1,rfl,rfl,hM1⟩;refine⟨_,rfl,trivial,?_⟩;rw[hM0]at hM1;have ml1:MZ1.length=2:=by have:=congrArg List.length hM1;rw[j7]at this;exact this
 refine J.qc (c0V mq mg MZ1 (by omega)) [15,16,17,18] λ_=>?_;rintro v As ⟨MZ2,rfl,rfl,hM2⟩;refine⟨_,rfl,trivial,?_⟩;rw[hM1]at hM2;have hM2:MZ2.map (·.v)=M1:=hM2;have ml2:MZ2.length=2:=by have:=congrArg List.length hM2;rw[j7]at this;exact this
 refine J.q λ_=>?_;refine J.turn1 [] rfl (As:=[rdA none 7 0 (x9 [])]) (λh s=>Sep.one ⟨rfl,λh=>absurd h (by decide)⟩) rfl ?_;refine J.q λ_=>?_;refine J.ca hX (by kernel_rfl) (b6E 3 8 2 rfl (rdA none 7 0 (x9 [])) none 0 0 [] (b0o _ _ _ _) rfl (by decide)) [19] 0 rfl rfl rfl rfl rfl rfl (λ_=>rfl) ?_;rintro v As ⟨q,nn,A0,rfl,hA0,rfl⟩;rw[show Pv.new 3 8 2 []=P0 from rfl]at hA0 ⊢;rw[W9 q nn A0 P0 F0 z0];refine⟨_,rfl,trivial,?_⟩;refine J.q λ_=>?_;have hst1:=a6U q nn A0 P0 hA0 F0 z0 (K 1) 0 (ok0.less (by decide)) (by decide) (by decide) (by decide) s1 rfl;rw[W9 q nn A0 P0 F0 z0]at hst1;refine J.qc (hst1) [20,21,22,23,24,25,26,27,28,29] λ_=>?_;rintro v As ⟨A1,rfl,hA1,rfl⟩;obtain⟨x1,hx1⟩:∃x,(P0.step s1).2=⟨0,x⟩:=⟨(P0.step s1).2.data,by rw[<- e1]⟩;rw[show(P0.step s1).1=P1 from rfl]at hA1 ⊢;rw[W9 q nn A1 P1 B21.Z1 z1,hx1];refine⟨_,rfl,trivial,?_⟩;refine J.q λc18=>?_;have hst2:=a6U q nn A1 P1 hA1 B21.Z1 z1 (K 2) 0 (okz1.less (by decide)) (by rw[pL1];decide) (by rw[pL1];decide) (by rw[pl1];decide) s2 rfl;rw[W9 q nn A1 P1 B21.Z1 z1]at hst2;refine J.qc (hst2) [20,21,22,23,24,25,26,27,28,29] λ_=>?_;rintro v As ⟨A2,rfl,hA2,rfl⟩;obtain⟨x2,hx2⟩:∃x,(P1.step s2).2=⟨x,d1 9⟩:=⟨(P1.step s2).2.err,by rw[<- e2]⟩;rw[show(P1.step s2).1=P2 from rfl]at hA2 ⊢;rw[W9 q nn A2 P2 B21.Z2 z2,hx2];refine⟨_,rfl,trivial,?_⟩;refine J.q λc19=>?_;refine J.cb (c1p f' p' n t' l' d' F9.1 (K 6) 0 ok9) [3,9,10,11,12,13] ?_;rintro v As ⟨aa,ac,rfl,rfl⟩;refine⟨_,rfl,trivial,?_⟩;rw[show F9.1.all=Fa from rfl,va,wa];refine J.q λ_=>?_;have hz2:P2.Z=some B21.Z2:=z2;have hlog:=c0J q nn A2 P2 (by rw[lg2];decide);rw[hz2]at hlog;refine J.qc (hlog) [20,23] λ_=>?_;rintro v As ⟨la,lc,rfl,rfl⟩;refine⟨_,rfl,trivial,?_⟩;refine J.qp (b4Z) [] λ_=>?_;refine J.qn 19 λ_=>?_;refine J.v (.bool true) rfl rfl (λhg aa w he hw=>(V6 (xs:=H3 (d1 7)) (ys:=H3 (d1 7)) rfl rfl rfl he hg rfl a2q (a0X _) (a0X _) mkD gdD).trans (by rw[eqD _ _ rfl rfl];simp)) ?_;refine J.qn 20 λ_=>?_;refine J.v (.bool true) rfl rfl (λhg aa w he hw=>(V6 (xs:=H3 (d1 7)) (ys:=H3 (d1 7)) rfl rfl rfl he hg rfl a2q (a0X _) (a0X _) mkD gdD).trans (by rw[eqD _ _ rfl rfl];simp)) ?_;refine J.qp (a3k f n t l p d (F7.1.setN Fa.1.S.N) oka.dv.gd.ok) [1,10] λ_=>?_;rw[show(F7.1.setN Fa.1.S.N).lg=3 from lgA];refine J.qp (b2P mq mg MZ2 (by omega) (a1L hM2 (by decide)) 0 (zd) rfl) [15,16,17,18] λ_=>?_;rw[hM2,q1];refine J.qp (b2P mq mg MZ2 (by omega) (a1L hM2 (by decide)) 0 (d1 1) rfl) [15,16,17,18] λ_=>?_;rw[hM2,q2];refine J.qp (b2P mq mg MZ2 (by omega) (a1L hM2 (by decide)) 0 (d1 2) rfl) [15,16,17,18] λ_=>?_;rw[hM2,q3];refine J.qn 11 λ_=>?_;refine J.v (.bool true) rfl rfl (λhg aa w he hw=>(V6 (xs:=H3 (d1 9)) (ys:=H3 (d1 9)) rfl rfl rfl he hg rfl a2q (a0X _) (a0X _) mkD gdD).trans (by rw[eqD _ _ rfl rfl];simp)) ?_;refine J.q λ_=>?_;have hrest:=c0b q nn A2 P2 hA2 B21.Z2 z2 50 0 0 (okz2.less (by decide)) okz2o (by rw[pL2];decide) (by rw[pL2];decide) (by rw[lg2];decide) B21.Z3 z3;rw[W9 q nn A2 P2 B21.Z2 z2]at hrest;refine J.qc (hrest) [20,21,22,23,24,25,26,27,28,29] λ_=>?_;rintro v As ⟨A3,rfl,_,rfl⟩;refine⟨_,rfl,trivial,?_⟩;rw[t3];refine J.qp (c1r 3 8 2) [] λ_=>?_;rw[show b4d 3 8 2=616 from rfl];refine J.qr [] λ_=>?_;refine⟨?_,rfl⟩;rw[lg2];rfl
end Go.Proofs.YtnffkcabeecopaaGreat
namespace Go.Proofs.YtnffkcabeecopaaGreat
open Go Go.RowKit
structure WAd where
 w:Nat
 q:Nat
 nn:Nat
 A:Pad
 R:RAd
 fa:Option Nat
 fc:Nat
def b5J (U:WAd) (W:Wa):Atom:= .pt U.w 41 [pp U.q,pp U.R.q,iI W.die, .bool W.wrong, .bool W.full, .bool W.stuck,slv U.fa W.fs.length U.fc,iI W.since,iI W.late]
def b5I (U:WAd) (W:Wa):Atom:=n7 34 7 U.fa W.fs.length U.fc (x9 W.fs)
def a4z (f:MSl->MSl) (i:Nat) (Z:List MSl):List MSl:=(Z.take i).map f++Z.drop i
theorem a2J {β:Type} (f:MSl->MSl) (g:MSl->β) (h:∀z,g (f z)=g z) (i:Nat) (Z:List MSl):(a4z f i Z).map g=Z.map g:=by
 unfold a4z;rw[x5,a4Q,show g ∘ f=g from funext h,<- x5,C5]
theorem b4r (f:MSl->MSl) (g:MSl->List Value) (h:∀z,g (f z)=g z) (i:Nat) (Z:List MSl):(a4z f i Z).flatMap g=Z.flatMap g:=by
 rw[R9,R9,a2J f g h]
theorem b1l (f:MSl->MSl) (i:Nat) (Z:List MSl):(a4z f i Z).length=Z.length:=by
 have:=congrArg List.length (a2J f (λ_=>()) (λ_=>rfl) i Z);simpa using this
theorem b8A (f:MSl->MSl) {i:Nat} {Z:List MSl} {z:MSl} (h:Z[i]? =some z):(a4z f i Z)[i]? =some z:=by
 have hi:=(List.getElem?_eq_some_iff.1 h).1;unfold a4z;rw[B6 (by simp;omega),J1,j7,l9,L5 (by omega),T5,R0,h]
def a4s (z:MSl):MSl:={z with v:=Mv.cut1 z.v}
theorem b9Q (R:RAd) (Z:List MSl) (hn:Z.length<=65536):FP 60 [pp R.q] (a2U R Z) (λv As=>∃Z',v= .tuple #[]/\As=a2U R Z'/\Z'.map (·.v)=Mv.cut (Z.map (·.v))):=by
 refine FE [2] Tryz.func60 λX F hX=>?_;refine J.q λ_=>?_;refine J.l (α:=Nat) (λk=>k<=Z.length) (λk=>[si 2 k,⟨0,pp R.q,2, .tt⟩]) [3] (λk=>[.pt R.o 4 (opC (a4z a4s k Z))]) (λk=>Z.length-k) (0) (j8 _) λk hI=>?_;refine J.qd (λ_ h1=>?_) λ_ h1=>?_
 ·simp only[d7,i6]at h1;obtain⟨z,hz⟩:∃z,Z[k]? =some z:=⟨_,d5 (by omega)⟩;have hput:(opC (a4z a4s k Z)).set (0+(k:Int).toNat*1) (.bool true)=opC (a4z a4s (k+1) Z):=by
   rw[show 0+(k:Int).toNat*1=k from by omega];have h2:=a7g (f:=a4s) (V:=Z) (Y:=a4z a4s k Z) rfl h1 (b8A a4s hz);have h3:a4z a4s (k+1) Z=(a4z a4s k Z).set k (a4s z):=h2.symm;rw[h3];unfold opC;rw[x8];rfl
  refine J.qn 10 λ_=>?_;refine J.s1 3 (opC (a4z a4s (k+1) Z)) ?_ hput ?_
  ·unfold opC;rw[j7,b1l];omega
  refine J.q λ_=>?_;refine J.n (k+1) (by omega) (by omega) [0,1,2,3,4,5,6,7]
 simp only[c9,i6]at h1;obtain rfl:k=Z.length:=by omega
 refine J.q λ_=>?_;refine J.f [1,2,3,4,5,6,7] ?_;refine⟨a4z a4s Z.length Z,rfl,?_,?_⟩
 ·unfold a2U a0T a0i X2;rw[b1l,b4r a4s _ (λ_=>rfl),a2J a4s (λz=>slv z.a1 z.v.may.length z.c1) (λ_=>rfl),a2J a4s (λz=>slv z.a2 z.v.ever.length z.c2) (λ_=>rfl),a2J a4s MSl.m1 (λ_=>rfl),a2J a4s MSl.m2 (λ_=>rfl)];rfl
 ·unfold a4z Mv.cut;rw[t6 (by simp),a0N (by simp),y8,a4Q,a4Q];rfl
theorem a6V (Z:List MSl) (k:Nat) (y:MSl):(opC Z).set k (.bool y.v.op)=opC (Z.set k y):=by unfold opC;rw[x8]
theorem a0r (Z:List MSl) (k:Nat) (y:MSl):(a0i Z).set k (slv y.a1 y.v.may.length y.c1)=a0i (Z.set k y):=by unfold a0i;rw[x8]
theorem a1N (Z:List MSl) (k:Nat) (y:MSl):(X2 Z).set k (slv y.a2 y.v.ever.length y.c2)=X2 (Z.set k y):=by unfold X2;rw[x8]
theorem a6W (Z:List MSl):(opC Z).length=Z.length:=j7 _
theorem a0s (Z:List MSl):(a0i Z).length=Z.length:=j7 _
theorem a1O (Z:List MSl):(X2 Z).length=Z.length:=j7 _
theorem b1H {Z:List MSl} {k:Nat} {z:MSl} (hz:Z[k]? =some z) (y:MSl):(a0T Z).take (k*16)++H3 y.v.now++(a0T Z).drop (k*16+(H3 y.v.now).length)=a0T (Z.set k y):=a5V (λz:MSl=>H3 z.v.now) 16 (λ_=>rfl) (H3 y.v.now) hz (j4 _) (y:=y) rfl
theorem a9M (R:RAd) (Z:List MSl) (hn:Z.length<=65536) (hf:∀z∈Z,z.Fine) (i:Int) (d:List UInt8) (hd:d.length=16):FP 59 [pp R.q,iI i,a4L d] (a2U R Z) (λv As=>∃Z',v= .bool (Mv.inR (Z.map (·.v)) i)/\As=a2U R Z'/\Z'.map (·.v)=Mv.write (Z.map (·.v)) i d):=by
 refine FE [2,0,0] Tryz.func59 λX F hX=>?_;refine J.q λ_=>?_
 by_cases hi:0<=i/\i<(Z.length:Int)
 ·obtain⟨k,rfl⟩:=i5 hi.1;obtain⟨z,hz⟩:∃z,Z[k]? =some z:=⟨_,d5 (by omega)⟩;obtain⟨f1,f2,f3,f4,f5⟩:=hf z (o0 hz);have hin:Mv.inR (Z.map (·.v)) (k:Int)=true:=by unfold Mv.inR;rw[j7,j3 hi.1,j3 hi.2];rfl
  have hpg:Mv.pg (Z.map (·.v)) (k:Int)=z.v:=by unfold Mv.pg;rw[i9,d6,i7,hz];rfl
  rw[y6 (show¬(k:Int)<0 by omega),y6 (show¬(k:Int)>=Z.length by omega)];refine J.qF λ_=>?_;refine J.openAt 6 k rfl rfl (by rw[i7,hz];rfl) rfl ?_;refine J.openAt 7 k rfl rfl (by rw[i7,hz];rfl) rfl ?_;refine J.pn 12 (.of [0,4,8,13,16,20,24,28,33,36,41,44,50,52,59]) [13,14] [1,8] λ_ _=>?_;have hst:=b1H hz ⟨⟨d,z.v.op,z.v.may,z.v.ever⟩,z.a1,z.c1,z.a2,z.c2⟩;refine J.sN (H3 d) 2 (a0T (Z.set k ⟨⟨d,z.v.op,z.v.may,z.v.ever⟩,z.a1,z.c1,z.a2,z.c2⟩)) ?_ ?_ ?_
  ·rw[a7J];show 0+(k:Int).toNat*16+16<=_;omega
  ·rw[show 0+(k:Int).toNat*16=k*16 from by omega];exact hst
  refine J.qn 1 λ_=>?_;refine J.s1 3 (opC (Z.set k ⟨⟨d,false,z.v.may,z.v.ever⟩,z.a1,z.c1,z.a2,z.c2⟩)) ?_ ?_ ?_
  ·rw[a6W];omega
  ·rw[show 0+(k:Int).toNat*1=k from by omega,<- a6V]
  refine J.q λ_=>?_;refine J.plan2 (.take true 0 (.take true 1 (.take true 2 (.take false 3 (.take true 4 (.take true 5 (.take true 6 (.take true 7 (.take false 8 (.take true 9 (.take true 10 (.take true 11 (.take true 12 (.take false 13 (.take true 14 (.take true 15 (.take false 16 (.take false 17 (.take true 20 (.take true 21 (.take true 22 (.take false 23 (.take true 24 (.take true 25 (.take false 26 (.take false 27 (.alt false 18 ((.alt false 19 ((.of [114,118,120,127,128,135])) (.alt false 28 ((.of [78,118,120,127,128,135])) .non))) (.alt false 28 ((.of [74,78,118,120,127,128,135])) .non)))))))))))))))))))))))))))) [9,30,31,32,33] [9] [1,2,3,4,5,6,7,8] (by rw[hX.hP];kernel_rfl) (by kernel_rfl) ?_;refine J.qn 16 λ_=>?_;refine J.vT (slv z.a1 z.v.may.length z.c1) rfl rfl (λhg aa w he hC=>A9 tk rfl rfl he rfl rfl rfl (hC rfl _ (B3 (i:=4) rfl)) (by rw[show 0+(k:Int).toNat*1=k from by omega];exact b3O hz)) ?_;refine J.qn 7 λ_=>?_;refine J.vT (slv z.a2 z.v.ever.length z.c2) rfl rfl (λhg aa w he hC=>A9 tk rfl rfl he rfl rfl rfl (hC rfl _ (B3 (i:=5) rfl)) (by rw[show 0+(k:Int).toNat*1=k from by omega];exact b7X hz)) ?_;refine J.qn 1 λ_=>?_;refine J.join (α:=(Option Nat×Nat)×(Option Nat×Nat)) (λ_=>[sv 6 (.bool false)]) (λx=>[.hp F, .pt R.q 94 [.slice (some ⟨R.n,0,none⟩) Z.length Z.length, .slice (some ⟨R.o,0,none⟩) Z.length Z.length, .slice (some ⟨R.m,0,none⟩) Z.length Z.length, .slice (some ⟨R.e,0,none⟩) Z.length Z.length], .pt R.n 30 (a0T (Z.set k ⟨⟨d,z.v.op,z.v.may,z.v.ever⟩,z.a1,z.c1,z.a2,z.c2⟩)), .pt R.o 4 (opC (Z.set k ⟨⟨d,false,z.v.may,z.v.ever⟩,z.a1,z.c1,z.a2,z.c2⟩)), .pt R.m 86 (a0i (Z.set k ⟨⟨d,false,z.v.may++[d],z.v.ever⟩,x.1.1,x.1.2,z.a2,z.c2⟩)), .pt R.e 86 (X2 (Z.set k ⟨⟨d,false,z.v.may++[d],z.v.ever++[d]⟩,x.1.1,x.1.2,x.2.1,x.2.2⟩)), .hp (HP.of ((Z.map MSl.m1).set k .emp)), .hp (HP.of ((Z.map MSl.m2).set k .emp)),n7 30 16 x.1.1 (z.v.may.length+1) x.1.2 (H2 (z.v.may++[d])),n7 30 16 x.2.1 (z.v.ever.length+1) x.2.2 (H2 (z.v.ever++[d]))]) (λhj=>?_) (λx=>?_)
  ·refine J.alts ?_ ?_
   ·skip
    refine J.qn 1 λbb=>?_;refine J.alts ?_ ?_
    ·skip
     refine J.ap 9 11 0 (Q0 z.v.may d) λa3 c3=>?_;refine J.qn 1 λbc=>?_;refine J.ap 10 12 0 (Q0 z.v.ever d) λa4 c4=>?_;refine J.qn 1 λ_=>?_;refine J.s1 4 (a0i (Z.set k ⟨⟨d,false,z.v.may++[d],z.v.ever⟩,a3,c3,z.a2,z.c2⟩)) ?_ ?_ ?_
     ·rw[a0s];omega
     ·rw[show 0+(k:Int).toNat*1=k from by omega,<- a0r];dsimp only;rw[f9];rfl
     refine J.qn 1 λ_=>?_;refine J.s1 5 (X2 (Z.set k ⟨⟨d,false,z.v.may++[d],z.v.ever++[d]⟩,a3,c3,a4,c4⟩)) ?_ ?_ ?_
     ·rw[a1O];omega
     ·rw[show 0+(k:Int).toNat*1=k from by omega,<- a1N];dsimp only;rw[f9];rfl
     exact J.goto [0,1,2,3,4,5,6,7,9,10] (hj ((a3,c3),(a4,c4))) ⟨rfl,trivial⟩ rfl rfl
    ·skip
     refine J.qn 1 λbc=>?_;refine J.ap 9 11 0 (Q0 z.v.may d) λa3 c3=>?_;refine J.ap 10 12 0 (Q0 z.v.ever d) λa4 c4=>?_;refine J.qn 1 λ_=>?_;refine J.s1 4 (a0i (Z.set k ⟨⟨d,false,z.v.may++[d],z.v.ever⟩,a3,c3,z.a2,z.c2⟩)) ?_ ?_ ?_
     ·rw[a0s];omega
     ·rw[show 0+(k:Int).toNat*1=k from by omega,<- a0r];dsimp only;rw[f9];rfl
     refine J.qn 1 λ_=>?_;refine J.s1 5 (X2 (Z.set k ⟨⟨d,false,z.v.may++[d],z.v.ever++[d]⟩,a3,c3,a4,c4⟩)) ?_ ?_ ?_
     ·rw[a1O];omega
     ·rw[show 0+(k:Int).toNat*1=k from by omega,<- a1N];dsimp only;rw[f9];rfl
     exact J.goto [0,1,2,3,4,5,6,7,9,10] (hj ((a3,c3),(a4,c4))) ⟨rfl,trivial⟩ rfl rfl
   ·skip
    refine J.qn 2 λbb=>?_;refine J.ap 9 12 0 (Q0 z.v.may d) λa3 c3=>?_;refine J.ap 10 11 0 (Q0 z.v.ever d) λa4 c4=>?_;refine J.qn 1 λ_=>?_;refine J.s1 4 (a0i (Z.set k ⟨⟨d,false,z.v.may++[d],z.v.ever⟩,a3,c3,z.a2,z.c2⟩)) ?_ ?_ ?_
    ·rw[a0s];omega
    ·rw[show 0+(k:Int).toNat*1=k from by omega,<- a0r];dsimp only;rw[f9];rfl
    refine J.qn 1 λ_=>?_;refine J.s1 5 (X2 (Z.set k ⟨⟨d,false,z.v.may++[d],z.v.ever++[d]⟩,a3,c3,a4,c4⟩)) ?_ ?_ ?_
    ·rw[a1O];omega
    ·rw[show 0+(k:Int).toNat*1=k from by omega,<- a1N];dsimp only;rw[f9];rfl
    exact J.goto [0,1,2,3,4,5,6,7,9,10] (hj ((a3,c3),(a4,c4))) ⟨rfl,trivial⟩ rfl rfl
  obtain⟨⟨a3,c3⟩,a4,c4⟩:=x;dsimp only;obtain⟨y,hy⟩:∃y:MSl,y=⟨⟨d,false,z.v.may++[d],z.v.ever++[d]⟩,a3,c3,a4,c4⟩:=⟨_,rfl⟩;rw[show a0T (Z.set k ⟨⟨d,z.v.op,z.v.may,z.v.ever⟩,z.a1,z.c1,z.a2,z.c2⟩)=a0T (Z.set k y)from by rw[hy];unfold a0T;rw[R9,R9,x8,x8],show opC (Z.set k ⟨⟨d,false,z.v.may,z.v.ever⟩,z.a1,z.c1,z.a2,z.c2⟩)=opC (Z.set k y)from by rw[hy];unfold opC;rw[x8,x8],show a0i (Z.set k ⟨⟨d,false,z.v.may++[d],z.v.ever⟩,a3,c3,z.a2,z.c2⟩)=a0i (Z.set k y)from by rw[hy];unfold a0i;rw[x8,x8],<- hy,show n7 30 16 a3 (z.v.may.length+1) c3 (H2 (z.v.may++[d]))=y.m1 from by rw[hy];unfold MSl.m1;rw[f9];rfl,show n7 30 16 a4 (z.v.ever.length+1) c4 (H2 (z.v.ever++[d]))=y.m2 from by rw[hy];unfold MSl.m2;rw[f9];rfl];refine J.closeAt (A:=y.m1) 6 8 k rfl rfl rfl ?_;refine J.closeAt (A:=y.m2) 7 9 k rfl rfl rfl ?_;rw[<- x8,<- x8];refine J.qr [1,2,3,4,5,6,7] λ_=>?_;refine⟨Z.set k y,?_,?_,?_⟩
  ·rw[hin]
  ·unfold a2U;rw[y7];rfl
  ·unfold Mv.write;rw[hin,f0 rfl,hpg,x8,i9,hy];rfl
 ·have hin:Mv.inR (Z.map (·.v)) i=false:=by
   unfold Mv.inR;rw[j7];simp;omega
  refine J.qd (λ_ h1=>?_) λ_ h1=>?_
  ·refine J.qr [1,2,3,4,5,6,7] λ_=>?_;exact⟨Z,by rw[hin],rfl,by unfold Mv.write;rw[hin];rfl⟩
  ·exfalso
   simp at h1;omega
end Go.Proofs.YtnffkcabeecopaaGreat
