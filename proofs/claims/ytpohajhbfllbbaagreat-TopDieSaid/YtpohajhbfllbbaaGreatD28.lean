/- Helpers. No condition. -/
import Derived.Test.YtpohajhbfllbbaaGreatD06
import Derived.Test.YtpohajhbfllbbaaGreatD23
import Derived.Test.YtpohajhbfllbbaaGreatD25
import Derived.Test.YtpohajhbfllbbaaGreatD26
import Derived.Test.YtpohajhbfllbbaaGreatD27
set_option maxRecDepth 20000
set_option linter.all false
namespace Go.Proofs.YtpohajhbfllbbaaGreat
open Go Go.RowKit
structure Pad where
 f:Nat
 p:Nat
 t:Nat
 l:Nat
 d:Nat
 fp:Nat
 a:Option (Nat×Nat)
 c:Nat
 a2:Option Nat
 c2:Nat
def tdC (t:Td):List Value:=[iI t.err,byC t.data 0,byC t.data 1,byC t.data 2,byC t.data 3,byC t.data 4,byC t.data 5,byC t.data 6,byC t.data 7,byC t.data 8,byC t.data 9,byC t.data 10,byC t.data 11,byC t.data 12,byC t.data 13,byC t.data 14,byC t.data 15]
def tdV (t:Td):Value:= .agg (tdC t).toArray
def y9 (l:List Td):List Value:=l.flatMap tdC
def flP (o:Option Fv) (f:Nat):Value:=match o with | some _=>pp f | none=> .pointer none
def Z5 (n:Nat) (A:Pad) (P:Pv):List Atom:=match P.Z with | some Z=>FvP A.f A.p n A.t A.l A.d Z | none=>[i5 n P.M]
def V9 (q n:Nat) (A:Pad) (P:Pv):List Atom:=[.pt q 87 [pp n,flP P.Z A.f,pp A.fp,slv A.a2 P.log.length A.c2], .pt A.fp 155 [.slice (x9 A.a) P.L.length A.c],rdA (x9 A.a) 7 P.L.length (f9 P.L),c9 40 17 A.a2 P.log.length A.c2 (y9 P.log)]++Z5 n A P
structure Pad.Ok (A:Pad) (P:Pv):Prop where
 z:A.a=none->A.c=0
 c:P.L.length<=A.c
theorem b3H (q n:Nat) (r:Value) (r2 r3:Value):FP 13 [pp q] [.pt q 87 [pp n,r,r2,r3]] (λv As=>v=pp n/\As=[.pt q 87 [pp n,r,r2,r3]]):=by
 refine FE [2] Tryz.func13 λX F hX=>?_;refine J.qF λ_=>?_;exact J.qx [1]
theorem b1o (q n:Nat) (o:Option Fv) (f:Nat) (r2 r3:Value):FP 17 [pp q] [.pt q 87 [pp n,flP o f,r2,r3]] (λv As=>v=flP o f/\As=[.pt q 87 [pp n,flP o f,r2,r3]]):=by
 refine FE [2] Tryz.func17 λX F hX=>?_;refine J.qF λ_=>?_;cases o with
 | none=>
  exact J.qx [1]
 | some Z=>
  exact J.qx [1]
theorem a8s (a:Option Nat):oad a=x9 (a.map λg=>(g,0)):=by cases a<;>rfl
theorem a2h (d b p:Nat) (h:t6 d b p=true) (k:Nat) (hk:k<4611686018427387904):(Nand.new d b p).Gd k 0:=by
 have g:=Nand.Gd.new d b p h 0 (by omega);exact⟨g.ok,by show(0:Int)+k<_;omega,by show(0:Int)+k<_;omega,g.nodup,g.few⟩
theorem b5l (D B Pg:Nat) (hg:t6 D B Pg=true) (A:Atom) (ad:Option Addr) (n c:Nat) (l:List Fl) (hA:Rd A ad 7 n (f9 l)) (hl:l.length=n) (hn:n<=15):FP 10 [.agg #[iI D,iI B,iI Pg], .slice ad n c] [A] (λv As=>∃q nn A',v=pp q/\A'.Ok (Pv.new D B Pg l)/\As=A::V9 q nn A' (Pv.new D B Pg l)):=by
 have hbd:(3<=D/\D<=6)/\(8<=B/\B<=16)/\(2<=Pg/\Pg<=8):=by simp[t6]at hg;omega
 refine FE [0,0] Tryz.func10 λX F hX=>?_;refine J.qc (a2P D B Pg hg) [] λ_=>?_;rintro v As ⟨nn,rfl,rfl⟩;refine⟨_,rfl,trivial,?_⟩;refine J.qF λ_=>?_;have hG:(Nand.new D B Pg).Gd (Dv.costK+0) 0:=a2h D B Pg hg _ (by decide);refine J.qc (R8 nn (Nand.new D B Pg) 0 0 hG (by decide) rfl) [3] λ_=>?_;have hlen:(A9 U6 (plF D B Pg l)).length=(plF D B Pg l).length:=(a1A _ _).length_eq;rintro v As (⟨he,f,p,t,ll,d,rfl,rfl⟩ | ⟨he,rfl,rfl⟩)
 ·refine⟨_,rfl,trivial,?_⟩;refine J.qc (b4G D B Pg (by omega) (by omega) (by omega) A ad n c l hA hl hn) [1] λ_=>?_;rintro v As ⟨fp,a,c',rfl,rfl⟩;refine⟨_,rfl,trivial,?_⟩;refine J.know (λh' s=>I2 (show K9 _ _ a (plF D B Pg l).length c' _ _ from s.get (i:=10) rfl)) λhcap=>?_;refine J.know (λh' s=>a2L (show K9 _ _ a (plF D B Pg l).length c' _ _ from s.get (i:=10) rfl)) λhnil=>?_;have hsl:∀n c,slv a n c= .slice (x9 (a.map λg=>(g,0))) n c:=λn c=>by cases a<;>rfl
  rw[hsl];refine J.turn1 [10] rfl (As:=[rdA (x9 (a.map λg=>(g,0))) 7 (plF D B Pg l).length (f9 (A9 U6 (plF D B Pg l)))]) (λh s=>Sep.one (by have:=C6 35 7 a (plF D B Pg l).length c' (f9 (A9 U6 (plF D B Pg l))) _ (s.get (i:=0) rfl);rw[a8s]at this;exact this)) rfl ?_;refine J.turn1 [] rfl (As:=[c9 40 17 none 0 0 (y9 [])]) (λh s=>Sep.one ⟨rfl,rfl,rfl⟩) rfl ?_;refine J.q λbq=>?_;refine J.ru hX [1,12,9,10,11,3,4,5,6,7,8] ?_;refine⟨bq 0,nn,⟨f,p,t,ll,d,fp,a.map λg=>(g,0),c',none,0⟩,rfl,⟨λe=>hnil (by cases a with | none=>rfl | some g=>cases e),by show(A9 U6 (plF D B Pg l)).length<=_;rw[hlen];exact hcap⟩,?_⟩;unfold V9 Z5;show _=A::([.pt (bq 0) 87 [pp nn,flP (if(y5 (Nand.new D B Pg)).2=0 then some (Fv.of (y5 (Nand.new D B Pg)).1)else none) _,_,_], .pt fp _ [.slice _ (A9 U6 (plF D B Pg l)).length _],rdA _ 7 (A9 U6 (plF D B Pg l)).length _,_]++(match(if(y5 (Nand.new D B Pg)).2=0 then some (Fv.of (y5 (Nand.new D B Pg)).1)else none)with | some Z=>_ | none=>_));rw[if_pos he,hlen];rfl
 ·refine⟨_,rfl,trivial,?_⟩;refine J.qc (b4G D B Pg (by omega) (by omega) (by omega) A ad n c l hA hl hn) [1] λ_=>?_;rintro v As ⟨fp,a,c',rfl,rfl⟩;refine⟨_,rfl,trivial,?_⟩;refine J.know (λh' s=>I2 (show K9 _ _ a (plF D B Pg l).length c' _ _ from s.get (i:=5) rfl)) λhcap=>?_;refine J.know (λh' s=>a2L (show K9 _ _ a (plF D B Pg l).length c' _ _ from s.get (i:=5) rfl)) λhnil=>?_;have hsl:∀n c,slv a n c= .slice (x9 (a.map λg=>(g,0))) n c:=λn c=>by cases a<;>rfl
  rw[hsl];refine J.turn1 [5] rfl (As:=[rdA (x9 (a.map λg=>(g,0))) 7 (plF D B Pg l).length (f9 (A9 U6 (plF D B Pg l)))]) (λh s=>Sep.one (by have:=C6 35 7 a (plF D B Pg l).length c' (f9 (A9 U6 (plF D B Pg l))) _ (s.get (i:=0) rfl);rw[a8s]at this;exact this)) rfl ?_;refine J.turn1 [] rfl (As:=[c9 40 17 none 0 0 (y9 [])]) (λh s=>Sep.one ⟨rfl,rfl,rfl⟩) rfl ?_;refine J.q λbq=>?_;refine J.ru hX [1,7,4,5,6,3] ?_;refine⟨bq 0,nn,⟨0,0,0,0,0,fp,a.map λg=>(g,0),c',none,0⟩,rfl,⟨λe=>hnil (by cases a with | none=>rfl | some g=>cases e),by show(A9 U6 (plF D B Pg l)).length<=_;rw[hlen];exact hcap⟩,?_⟩;unfold V9 Z5;show _=A::([.pt (bq 0) 87 [pp nn,flP (if(y5 (Nand.new D B Pg)).2=0 then some (Fv.of (y5 (Nand.new D B Pg)).1)else none) _,_,_], .pt fp _ [.slice _ (A9 U6 (plF D B Pg l)).length _],rdA _ 7 (A9 U6 (plF D B Pg l)).length _,_]++(match(if(y5 (Nand.new D B Pg)).2=0 then some (Fv.of (y5 (Nand.new D B Pg)).1)else none)with | some Z=>_ | none=>_));rw[if_neg he,hlen];rfl
def stC (s:Stp):List Value:=[iI s.fn,iI s.lpn,byC s.data 0,byC s.data 1,byC s.data 2,byC s.data 3,byC s.data 4,byC s.data 5,byC s.data 6,byC s.data 7,byC s.data 8,byC s.data 9,byC s.data 10,byC s.data 11,byC s.data 12,byC s.data 13,byC s.data 14,byC s.data 15,iI s.n,iI s.keep,iI s.f.at_,iI s.f.kind,iI s.f.x,iI s.f.y,iI s.f.z,iI s.f.n,iI s.f.xx]
def stV (s:Stp):Value:= .agg (stC s).toArray
def PlQ (q n:Nat) (o:Option Fv) (f:Nat) (r2 r3:Value):Atom:= .pt q 87 [pp n,flP o f,r2,r3]
theorem a9m (q n:Nat) (A:Pad) (P:Pv) (Z:Fv) (hZ:P.Z=some Z) (r2 r3:Value) (k m:Nat) (hG:Z.S.N.Gd (Dv.costK+k) m) (hm:m<=12):FP 96 [pp q] (PlQ q n P.Z A.f r2 r3::Z5 n A P) (λv As=>∃A':Pad,v=iI P.mounts.2/\(A'.fp=A.fp/\A'.a=A.a/\A'.c=A.c/\A'.a2=A.a2/\A'.c2=A.c2)/\((∃Y,P.mounts.1={P with Z:=some Y}/\As=PlQ q n (some Y) A'.f r2 r3::FvP A'.f A'.p n A'.t A'.l A'.d Y)\/∃M,P.mounts.1={P with Z:=none,M:=M}/\As=[PlQ q n none A'.f r2 r3,i5 n M])):=by
 have hnd:P.nd=Z.S.N:=by unfold Pv.nd;rw[hZ]
 have hms:P.mounts=if(y5 ((if Z.S.N.off then Z.S.N else Z.S.N.setCut (-1) 0).onN)).2=0 then({P with Z:=some (Fv.of (y5 ((if Z.S.N.off then Z.S.N else Z.S.N.setCut (-1) 0).onN)).1)},0)else({P with Z:=none,M:=(y5 ((if Z.S.N.off then Z.S.N else Z.S.N.setCut (-1) 0).onN)).1.N},(y5 ((if Z.S.N.off then Z.S.N else Z.S.N.setCut (-1) 0).onN)).2):=by unfold Pv.mounts;rw[hnd]
 rw[show Z5 n A P=FvP A.f A.p n A.t A.l A.d Z from by unfold Z5;rw[hZ],hZ];refine FE [2] Tryz.func96 λX F hX=>?_;refine J.qp (a0y n Z.S.N) [4] λ_=>?_;refine J.qd (λ_ h1=>?_) λ_ h1=>?_
 ·have hoff:Z.S.N.off=false:=by simpa using h1
  have e:(if Z.S.N.off=true then Z.S.N else Z.S.N.setCut (-1) 0)=Z.S.N.setCut (-1) 0:=if_neg (by rw[hoff];decide);rw[e]at hms;have hG2:(Z.S.N.setCut (-1) 0).onN.Gd (Dv.costK+k) m:=(hG.cut (-1) 0 (by decide) (by decide)).on;refine J.qp (a8v n Z.S.N (-1) 0) [4] λ_=>?_;refine J.qp (b3T n (Z.S.N.setCut (-1) 0)) [4] λ_=>?_;refine J.qc (R8 n ((Z.S.N.setCut (-1) 0)).onN k m hG2 hm rfl) [4] λ_=>?_;rintro v As (⟨he,f,p,t,ll,d,rfl,rfl⟩ | ⟨he,rfl,rfl⟩)
  ·refine⟨_,rfl,trivial,?_⟩;rw[if_pos he]at hms;refine J.qr [1,4,8,9,10,11,12] λ_=>?_;exact⟨⟨f,p,t,ll,d,A.fp,A.a,A.c,A.a2,A.c2⟩,by rw[hms],⟨rfl,rfl,rfl,rfl,rfl⟩, .inl ⟨_,by rw[hms],rfl⟩⟩
  ·refine⟨_,rfl,trivial,?_⟩;rw[if_neg he]at hms;refine J.qr [1,4] λ_=>?_;exact⟨A,by rw[hms],⟨rfl,rfl,rfl,rfl,rfl⟩, .inr ⟨_,by rw[hms],rfl⟩⟩
 ·have hoff:Z.S.N.off=true:=by simpa using h1
  have e:(if Z.S.N.off=true then Z.S.N else Z.S.N.setCut (-1) 0)=Z.S.N:=if_pos hoff;rw[e]at hms;have hG2:Z.S.N.onN.Gd (Dv.costK+k) m:=hG.on;refine J.qp (b3T n Z.S.N) [4] λ_=>?_;refine J.qc (R8 n (Z.S.N).onN k m hG2 hm rfl) [4] λ_=>?_;rintro v As (⟨he,f,p,t,ll,d,rfl,rfl⟩ | ⟨he,rfl,rfl⟩)
  ·refine⟨_,rfl,trivial,?_⟩;rw[if_pos he]at hms;refine J.qr [1,4,8,9,10,11,12] λ_=>?_;exact⟨⟨f,p,t,ll,d,A.fp,A.a,A.c,A.a2,A.c2⟩,by rw[hms],⟨rfl,rfl,rfl,rfl,rfl⟩, .inl ⟨_,by rw[hms],rfl⟩⟩
  ·refine⟨_,rfl,trivial,?_⟩;rw[if_neg he]at hms;refine J.qr [1,4] λ_=>?_;exact⟨A,by rw[hms],⟨rfl,rfl,rfl,rfl,rfl⟩, .inr ⟨_,by rw[hms],rfl⟩⟩
theorem b3G (q n:Nat) (A:Pad) (P:Pv) (Z:Fv) (hZ:P.Z=some Z) (r2 r3:Value) (k m:Nat) (hO:Z.Ok (Fv.cW*200+(Dv.costS+(Dv.costK+(1+k)))) m) (hm:m<=12) (s:Stp) (hs:s.data.length=16):FP 51 [pp q,stV s] (PlQ q n P.Z A.f r2 r3::Z5 n A P) (λv As=>∃A':Pad,v=tdV (P.does s).2/\(A'.fp=A.fp/\A'.a=A.a/\A'.c=A.c/\A'.a2=A.a2/\A'.c2=A.c2)/\((∃Y,(P.does s).1={P with Z:=some Y}/\As=PlQ q n (some Y) A'.f r2 r3::FvP A'.f A'.p n A'.t A'.l A'.d Y)\/∃M,(P.does s).1={P with Z:=none,M:=M}/\As=[PlQ q n none A'.f r2 r3,i5 n M])):=by
 have hnd:P.nd=Z.S.N:=by unfold Pv.nd;rw[hZ]
 have hdv:∀Y,Z5 n A {P with Z:=some Y}=FvP A.f A.p n A.t A.l A.d Y:=λY=>rfl;have hs1:∀b,s.fn=b->True:=λ_ _=>trivial;rw[show Z5 n A P=FvP A.f A.p n A.t A.l A.d Z from by unfold Z5;rw[hZ],hZ];refine FE [2,0] Tryz.func51 λX F hX=>?_;refine J.qd (λ_ h1=>?_) λ_ h1=>?_
 ·have e1:s.fn=1:=by simpa using h1
  have hd:P.does s=({P with Z:=some (Z.read s.lpn).1},⟨(Z.read s.lpn).2.2,(Z.read s.lpn).2.1⟩):=by unfold Pv.does;rw[if_pos e1,hZ]
  refine J.pn 7 (.take true 0 (.take true 1 (.take true 2 (.take false 3 (.take true 4 (.take false 5 (.alt false 6 ((.of [28,32,36,42,46,48])) (.alt false 10 ((.of [26,28,32,36,46,48])) .non)))))))) [12] [1,8] λ_ _=>?_;refine J.alts ?_ ?_
  ·skip
   refine J.qp (Y8 A.f A.p n A.t A.l A.d Z _ m hO s.lpn) [2,3,4,5,6,7] λ_=>?_;refine J.qr [1,2,3,4,5,6,7] λ_=>?_;refine⟨A,?_,⟨rfl,rfl,rfl,rfl,rfl⟩, .inl ⟨_,by rw[hd],rfl⟩⟩;rw[hd];rfl
  ·skip
   refine J.qn 1 λ_=>?_;refine J.qp (Y8 A.f A.p n A.t A.l A.d Z _ m hO s.lpn) [2,3,4,5,6,7] λ_=>?_;refine J.qr [1,2,3,4,5,6,7] λ_=>?_;refine⟨A,?_,⟨rfl,rfl,rfl,rfl,rfl⟩, .inl ⟨_,by rw[hd],rfl⟩⟩;rw[hd];rfl
 have e1:s.fn≠1:=by simpa using h1
 refine J.qd (λ_ h2=>?_) λ_ h2=>?_
 ·have e2:s.fn=2:=by simpa using h2
  have hd:P.does s=({P with Z:=some (Z.write s.lpn s.data).1},⟨(Z.write s.lpn s.data).2,zd⟩):=by unfold Pv.does;rw[if_neg e1,if_pos e2,hZ]
  refine J.pq (.of [0,4,8,13,16,21,24,29,34,36,43]) [10] [1,8] λ_ _=>?_;refine J.ca hX (by kernel_rfl) (a0F A.f A.p n A.t A.l A.d Z _ m (hO.less (k':=Fv.cW+(1+k)) (by omega)) hm s.lpn s.data hs) [2,3,4,5,6,7] 0 rfl rfl rfl rfl rfl rfl (λ_=>rfl) ?_;refine cpq ⟨_,rfl,stq,?_⟩;refine J.qr [1,2,3,4,5,6,7] λ_=>?_;refine⟨A,?_,⟨rfl,rfl,rfl,rfl,rfl⟩, .inl ⟨_,by rw[hd],rfl⟩⟩;rw[hd];rfl
 have e2:s.fn≠2:=by simpa using h2
 refine J.qd (λ_ h3=>?_) λ_ h3=>?_
 ·have e3:s.fn=3:=by simpa using h3
  have hd:P.does s=({P with Z:=some (Z.trim s.lpn).1},⟨(Z.trim s.lpn).2,zd⟩):=by unfold Pv.does;rw[if_neg e1,if_neg e2,if_pos e3,hZ]
  refine J.pq (.of [0,4,8,13,16,21,26,28,35]) [8] [1,8] λ_ _=>?_;refine J.ca hX (by kernel_rfl) (a8H A.f A.p n A.t A.l A.d Z _ m (hO.less (k':=Fv.cW+(1+k)) (by omega)) hm s.lpn) [2,3,4,5,6,7] 0 rfl rfl rfl rfl rfl rfl (λ_=>rfl) ?_;refine cpq ⟨_,rfl,stq,?_⟩;refine J.qr [1,2,3,4,5,6,7] λ_=>?_;refine⟨A,?_,⟨rfl,rfl,rfl,rfl,rfl⟩, .inl ⟨_,by rw[hd],rfl⟩⟩;rw[hd];rfl
 have e3:s.fn≠3:=by simpa using h3
 refine J.qd (λ_ h4=>?_) λ_ h4=>?_
 ·have e4:s.fn=4:=by simpa using h4
  have hd:P.does s=({P with Z:=some Z.flush.1},⟨Z.flush.2,zd⟩):=by unfold Pv.does;rw[if_neg e1,if_neg e2,if_neg e3,if_pos e4,hZ]
  refine J.q λ_=>?_;refine J.ca hX (by kernel_rfl) (a3i A.f A.p n A.t A.l A.d Z _ m (hO.less (k':=Fv.cW*200+k) (by omega)) hm) [2,3,4,5,6,7] 0 rfl rfl rfl rfl rfl rfl (λ_=>rfl) ?_;refine cpq ⟨_,rfl,trivial,?_⟩;refine J.qr [1,2,3,4,5,6,7] λ_=>?_;refine⟨A,?_,⟨rfl,rfl,rfl,rfl,rfl⟩, .inl ⟨_,by rw[hd],rfl⟩⟩;rw[hd];rfl
 have e4:s.fn≠4:=by simpa using h4
 refine J.qd (λ_ h5=>?_) λ_ h5=>?_
 ·have e5:s.fn=5:=by simpa using h5
  have hd:P.does s=({P with Z:=some Z.tick.1},⟨Z.tick.2,zd⟩):=by unfold Pv.does;rw[if_neg e1,if_neg e2,if_neg e3,if_neg e4,if_pos e5,hZ]
  refine J.q λ_=>?_;refine J.ca hX (by kernel_rfl) (a8I A.f A.p n A.t A.l A.d Z _ m (hO.less (k':=Dv.costS+k) (by omega)) hm) [2,3,4,5,6,7] 0 rfl rfl rfl rfl rfl rfl (λ_=>rfl) ?_;refine cpq ⟨_,rfl,trivial,?_⟩;refine J.qr [1,2,3,4,5,6,7] λ_=>?_;refine⟨A,?_,⟨rfl,rfl,rfl,rfl,rfl⟩, .inl ⟨_,by rw[hd],rfl⟩⟩;rw[hd];rfl
 have e5:s.fn≠5:=by simpa using h5
 refine J.qd (λ_ h6=>?_) λ_ h6=>?_
 ·have e6:s.fn=6:=by simpa using h6
  have hd:P.does s=(P.setN (Z.S.N.setCut s.n s.keep),⟨0,zd⟩):=by unfold Pv.does;rw[if_neg e1,if_neg e2,if_neg e3,if_neg e4,if_neg e5,if_pos e6,hnd]
  have hsn:P.setN (Z.S.N.setCut s.n s.keep)={P with Z:=some (Z.setN (Z.S.N.setCut s.n s.keep))}:=by unfold Pv.setN;rw[hZ]
  rw[hsn]at hd;refine J.p (.of [0,4,8,13,16,21,24,29,34]) [] [1,8] λ_=>?_;refine J.qp (a8v n Z.S.N s.n s.keep) [4] λ_=>?_;refine J.qr [1,2,3,4,5,6,7] λ_=>?_;refine⟨A,?_,⟨rfl,rfl,rfl,rfl,rfl⟩, .inl ⟨_,by rw[hd],rfl⟩⟩;rw[hd];rfl
 have e6:s.fn≠6:=by simpa using h6
 refine J.qd (λ_ h7=>?_) λ_ h7=>?_
 ·have e7:s.fn=7:=by simpa using h7
  have hd:P.does s=(P.mounts.1,⟨P.mounts.2,zd⟩):=by unfold Pv.does;rw[if_neg e1,if_neg e2,if_neg e3,if_neg e4,if_neg e5,if_neg e6,if_pos e7]
  have hmm:=a9m q n A P Z hZ r2 r3 _ m (hO.dv.gd.less (k':=Dv.costK+(1+k)) (by omega) (Nat.le_refl m)) hm;rw[show Z5 n A P=FvP A.f A.p n A.t A.l A.d Z from by unfold Z5;rw[hZ],hZ]at hmm;refine J.qc (hmm) [1,2,3,4,5,6,7] λ_=>?_;rintro v As ⟨A',rfl,hA',(⟨Y,hY,rfl⟩ | ⟨M,hY,rfl⟩)⟩
  ·refine⟨_,rfl,trivial,?_⟩;refine J.qr [1,2,3,4,5,6,7] λ_=>?_;refine⟨A',?_,hA', .inl ⟨Y,by rw[hd,hY],rfl⟩⟩;rw[hd];rfl
  ·refine⟨_,rfl,trivial,?_⟩;refine J.qr [1,2] λ_=>?_;refine⟨A',?_,hA', .inr ⟨M,by rw[hd,hY],rfl⟩⟩;rw[hd];rfl
 have e7:s.fn≠7:=by simpa using h7
 refine J.qd (λ_ h8=>?_) λ_ h8=>?_
 ·have e8:s.fn=8:=by simpa using h8
  obtain⟨Q,hQ⟩:∃Q,Q=Z.S.N.fault s.f.kind s.f.x s.f.y s.f.z s.f.n s.f.xx:=⟨_,rfl⟩;have hd:P.does s=({P with Z:=some (Z.setN Q.2)},if Q.1 then⟨0,zd⟩else⟨1,zd⟩):=by unfold Pv.does;rw[if_neg e1,if_neg e2,if_neg e3,if_neg e4,if_neg e5,if_neg e6,if_neg e7,if_pos e8,hnd,<- hQ];unfold Pv.setN;rw[hZ]
  refine J.p (.of [0,4,8,13,16,21,26]) [] [1,8] λ_=>?_;refine J.qp (T7 n Z.S.N hO.dv.gd.ok s.f.at_ s.f.kind s.f.x s.f.y s.f.z s.f.n s.f.xx) [4] λ_=>?_;rw[<- hQ];refine J.qd (λ_ h9=>?_) λ_ h9=>?_
  ·rw[if_pos h9]at hd;refine J.qr [1,2,3,4,5,6,7] λ_=>?_;refine⟨A,?_,⟨rfl,rfl,rfl,rfl,rfl⟩, .inl ⟨_,by rw[hd],rfl⟩⟩;rw[hd];rfl
  ·rw[if_neg (by rw[h9];decide)]at hd;refine J.qr [1,2,3,4,5,6,7] λ_=>?_;refine⟨A,?_,⟨rfl,rfl,rfl,rfl,rfl⟩, .inl ⟨_,by rw[hd],rfl⟩⟩;rw[hd];rfl
 have e8:s.fn≠8:=by simpa using h8
 have hd:P.does s=(P,⟨1,zd⟩):=by unfold Pv.does;rw[if_neg e1,if_neg e2,if_neg e3,if_neg e4,if_neg e5,if_neg e6,if_neg e7,if_neg e8]
 refine J.qr [1,2,3,4,5,6,7] λ_=>?_;refine⟨A,?_,⟨rfl,rfl,rfl,rfl,rfl⟩, .inl ⟨Z,?_,rfl⟩⟩
 ·rw[hd];rfl
 ·rw[hd];show P={P with Z:=some Z};rw[<- hZ]
theorem Dv.Ok.setN {S:Dv} {k m m':Nat} {N:Nand} (h:S.Ok k m) (hl:S.N.Like N) (hG:N.Gd k m'):({S with N:=N}:Dv).Ok k m':=⟨hG,h.t.like hl,h.T,h.sl,h.row,h.next⟩
theorem Fv.Ok.setN {Z:Fv} {k m m':Nat} {N:Nand} (h:Z.Ok k m) (hl:Z.S.N.Like N) (hG:N.Gd k m'):(Z.setN N).Ok k m':=⟨h.dv.setN hl hG,h.dat,λe he=>by have:=h.rng e he;unfold Fv.lg at this ⊢;rw[show(Z.setN N).S.N=N from rfl,a6H hl];exact this,h.nd,h.nx⟩
theorem a3a (N:Nand):∀(l:List Fl),N.Like (L4 N l)
 | []=>Nand.Like.refl N
 | f::l=>(Nand.like_fault N f.kind f.x f.y f.z f.n f.xx).trans (a3a (flN N f) l)
theorem a0O (l:List Td) (x:Td):y9 l++tdC x=y9 (l++[x]):=by unfold y9;rw[List.flatMap_append];simp
theorem a5n (q n:Nat) (A:Pad) (P:Pv) (hA:A.Ok P) (Z:Fv) (hZ:P.Z=some Z) (k m:Nat) (hO:Z.Ok (Fv.cW*200+(Dv.costS+(Dv.costK+(1+k)))) m) (hm:m+(A7 Z.S.N.ops P.L).length<=12) (hL:P.L.length<=1000) (hlg:P.log.length<=1000) (s:Stp) (hs:s.data.length=16):FP 11 [pp q,stV s] (V9 q n A P) (λv As=>∃A':Pad,v=tdV (P.step s).2/\A'.Ok (P.step s).1/\As=V9 q n A' (P.step s).1):=by
 have hnd:P.nd=Z.S.N:=by unfold Pv.nd;rw[hZ]
 obtain⟨D,hD⟩:∃D,A7 Z.S.N.ops P.L=D:=⟨_,rfl⟩;obtain⟨R,hR⟩:∃R,W9 Z.S.N.ops P.L=R:=⟨_,rfl⟩;rw[hD]at hm;have hrun:P.run=⟨R,P.log,some (Z.setN (L4 Z.S.N D)),P.M⟩:=by unfold Pv.run;rw[hnd,hD,hR];unfold Pv.setN;rw[hZ]
 have hO2:(Z.setN (L4 Z.S.N D)).Ok (Fv.cW*200+(Dv.costS+(Dv.costK+(1+k)))) (m+D.length):=hO.setN (a3a _ _) (a0H hO.dv.gd D);have hst:P.step s=({(P.run.does s).1 with log:=(P.run.does s).1.log++[(P.run.does s).2]},(P.run.does s).2):=rfl;unfold V9;rw[show Z5 n A P=FvP A.f A.p n A.t A.l A.d Z from by unfold Z5;rw[hZ],hZ];refine FE [2,0] Tryz.func11 λX F hX=>?_;refine J.qF λ_=>?_;refine J.p (.of [0,4,8,13,16,20,24,29,34]) [] [1] λ_=>?_;refine J.qc (b6g A.fp n A.a A.c P.L hA.z hA.c hL Z.S.N _ m hO.dv.gd) [2,3,7] λ_=>?_;rintro v As ⟨a',c',hz',hc',rfl,rfl⟩;refine⟨_,rfl,stq,?_⟩;rw[hR]at hc' ⊢;rw[hD];have hdo:=b3G q n A ⟨R,P.log,some (Z.setN (L4 Z.S.N D)),P.M⟩ (Z.setN (L4 Z.S.N D)) rfl (pp A.fp) (slv A.a2 P.log.length A.c2) k (m+D.length) hO2 hm s hs;rw[<- hrun]at hdo;rw[hrun]at hdo;obtain⟨W,hW⟩:∃W,(⟨R,P.log,some (Z.setN (L4 Z.S.N D)),P.M⟩:Pv).does s=W:=⟨_,rfl⟩;rw[hrun,hW]at hst;rw[hW]at hdo;obtain⟨Wp,wt⟩:=W;dsimp only at hdo hst;refine J.qc (hdo) [1,5,6,7,8,9,10] λ_=>?_;rintro v As ⟨A',rfl,⟨q1,q2,q3,q4,q5⟩,(⟨Y,hY,rfl⟩ | ⟨M,hY,rfl⟩)⟩
 ·refine⟨_,rfl,trivial,?_⟩;refine J.pq (.of [0,4,8,12,17,21,26,30,32,36,43]) [8,9,10] [1,13] λ_ _=>?_;refine J.ap 4 14 0 (a0O P.log wt) λa3 c3=>?_;refine J.qr [1,2,3,4,5,6,7,8,9,10] λ_=>?_;refine⟨⟨A'.f,A'.p,A'.t,A'.l,A'.d,A.fp,a',c',a3,c3⟩,?_,?_,?_⟩
  ·rw[hst];rfl
  ·rw[hst,hY];exact⟨hz',hc'⟩
  ·rw[hst,hY];dsimp only;rw[List.length_append];rfl
 ·refine⟨_,rfl,trivial,?_⟩;refine J.pq (.of [0,4,8,12,17,21,26,30,32,36,43]) [8,9,10] [1,13] λ_ _=>?_;refine J.ap 4 14 0 (a0O P.log wt) λa3 c3=>?_;refine J.qr [1,2,3,4,5] λ_=>?_;refine⟨⟨A'.f,A'.p,A'.t,A'.l,A'.d,A.fp,a',c',a3,c3⟩,?_,?_,?_⟩
  ·rw[hst];rfl
  ·rw[hst,hY];exact⟨hz',hc'⟩
  ·rw[hst,hY];dsimp only;rw[List.length_append];rfl
theorem a7a (l:List Td):∀u∈y9 l,u.oneCell'=true:=by
 intro u hu;simp only[y9,List.mem_flatMap]at hu;obtain⟨s,_,hu⟩:=hu;simp only[tdC,List.mem_cons,List.not_mem_nil,or_false]at hu;rcases hu with rfl | rfl | rfl | rfl | rfl | rfl | rfl | rfl | rfl | rfl | rfl | rfl | rfl | rfl | rfl | rfl | rfl<;>rfl
theorem a8X (a:Option Nat) (n cap:Nat) (l:List Td) (hl:l.length=n) (hn:n<=1000000):FP 52 [slv a n cap] [c9 40 17 a n cap (y9 l)]
  (λv As=>∃a' c',v=slv a' n c'/\As=[c9 40 17 a n cap (y9 l),c9 40 17 a' n c' (y9 l)]):=by
 refine FE [0] Tryz.func52 λX F hX=>?_;cases a with
 | none=>
  refine J.know (λh' s=>(s.get (i:=1) rfl).2) λhn0=>?_;obtain⟨rfl,rfl⟩:=hn0;have:l=[]:=List.eq_nil_of_length_eq_zero hl;subst this;refine J.qT λ_=>?_;refine J.turn1 [] rfl (As:=[c9 40 17 none 0 0 (y9 [])]) (λh s=>Sep.one ⟨rfl,rfl,rfl⟩) rfl ?_;refine J.qr [1,2] λ_=>?_;exact⟨none,0,rfl,rfl⟩
 | some g=>
  refine J.qF λ_=>?_;refine J.qn 5 λbb=>?_;refine J.closeOwn (e:=40) (size:=17) (n:=0) (cap:=0) (xs:=[]) 2 rfl rfl rfl (Nat.le_refl _) (Nat.zero_le _) rfl rfl rfl ?_;refine J.q λ_=>?_;refine J.appendR hX tk (a:=some (bb 0)) (n:=0) (cap:=0) (xs:=[]) (oo:=0) (Ay:=c9 40 17 (some g) n cap (y9 l)) 2 1 0 rfl rfl rfl rfl rfl rfl rfl rfl rfl rfl (C6 _ _ (some g) _ _ _) rfl rfl rfl rfl (a7a l) ?_ ?_ (λ_=>rfl) λa' c'=>⟨_,rfl,trivial,?_⟩
  ·simp only[maxLen];omega
  ·omega
  rw[Nat.zero_add n,List.nil_append];refine J.qr [1,2] λ_=>?_;exact⟨a',c',rfl,rfl⟩
theorem b5m (q n:Nat) (A:Pad) (P:Pv) (hl:P.log.length<=1000):FP 12 [pp q] [PlQ q n P.Z A.f (pp A.fp) (slv A.a2 P.log.length A.c2),c9 40 17 A.a2 P.log.length A.c2 (y9 P.log)]
  (λv As=>∃a' c',v=slv a' P.log.length c'/\As=[PlQ q n P.Z A.f (pp A.fp) (slv A.a2 P.log.length A.c2),c9 40 17 A.a2 P.log.length A.c2 (y9 P.log),c9 40 17 a' P.log.length c' (y9 P.log)]):=by
 refine FE [2] Tryz.func12 λX F hX=>?_;refine J.qF λ_=>?_;refine J.qc (a8X A.a2 P.log.length A.c2 P.log rfl (by omega)) [2] λ_=>?_;rintro v As ⟨a',c',rfl,rfl⟩;refine⟨_,rfl,trivial,?_⟩;refine J.qr [1,2,3] λ_=>?_;exact⟨a',c',rfl,rfl⟩
def a8O (d b p:Int):Int:=if t6 d b p then 12*d*b*p+40 else 0
theorem b5R (d b p:Int):FP 48 [.agg #[iI d,iI b,iI p]] [] (Ps (iI (a8O d b p)) []):=by
 refine FE [0] Tryz.func48 λX F hX=>?_;refine J.qp (a1H d b p) [] λ_=>?_;refine J.qd (λ_ h1=>?_) λ_ h1=>?_
 ·have hg:t6 d b p=false:=by simpa using h1
  refine J.qr [] λ_=>?_;exact⟨by unfold a8O;rw[hg];rfl,rfl⟩
 ·have hg:t6 d b p=true:=by simpa using h1
  have hbd:(3<=d/\d<=6)/\(8<=b/\b<=16)/\(2<=p/\p<=8):=by simp[t6]at hg;omega
  have m1:0<=12*d*b/\12*d*b<=1152:=by
   have h1:=Int.mul_nonneg (show 0<=12*d by omega) (show 0<=b by omega);have h2:=Int.mul_le_mul (show 12*d<=72 by omega) (show b<=16 by omega) (by omega) (by omega);omega
  have m2:0<=12*d*b*p/\12*d*b*p<=9216:=by
   have h1:=Int.mul_nonneg m1.1 (show 0<=p by omega);have h2:=Int.mul_le_mul m1.2 (show p<=8 by omega) (by omega) (by omega);omega
  refine J.qr [] λ_=>?_;exact⟨by unfold a8O;rw[hg];rfl,rfl⟩
def Fv.allG:Nat->Int->Fv->Fv×List (List UInt8)×Int
 | 0,_,Z=>(Z,[],0)
 | n+1,i,Z=>if(Z.read i).2.2≠0 then((Z.read i).1,[],(Z.read i).2.2)else((Fv.allG n (i+1) (Z.read i).1).1,(Z.read i).2.1::(Fv.allG n (i+1) (Z.read i).1).2.1,(Fv.allG n (i+1) (Z.read i).1).2.2)
theorem Fv.allG_succ (n:Nat) (i:Int) (Z:Fv):Fv.allG (n+1) i Z=if(Z.read i).2.2≠0 then((Z.read i).1,[],(Z.read i).2.2)else((Fv.allG n (i+1) (Z.read i).1).1,(Z.read i).2.1::(Fv.allG n (i+1) (Z.read i).1).2.1,(Fv.allG n (i+1) (Z.read i).1).2.2):=rfl
def Fv.all (Z:Fv):Fv×List (List UInt8)×Int:=if(Fv.allG Z.lg.toNat 0 Z).2.2≠0 then((Fv.allG Z.lg.toNat 0 Z).1,[],(Fv.allG Z.lg.toNat 0 Z).2.2)else Fv.allG Z.lg.toNat 0 Z
theorem a5N (l:List (List UInt8)) (d:List UInt8):t7 l++n6 d=t7 (l++[d]):=by unfold t7;rw[List.flatMap_append];simp
theorem b2Q (f p n t l d:Nat) (Z:Fv) (k m:Nat) (hO:Z.Ok k m):FP 18 [pp f] (FvP f p n t l d Z)
  (λv As=>∃a c,v= .tuple #[slv a Z.all.2.1.length c,iI Z.all.2.2]/\As=FvP f p n t l d Z.all.1++[c9 31 16 a Z.all.2.1.length c (t7 Z.all.2.1)]):=by
 refine FE [2] Tryz.func18 λX F hX=>?_;refine J.q λb9=>?_;refine J.cF ?_;refine J.qp (J1 f n t l p d Z hO.dv.gd.ok) [1,3] λ_=>?_;have hlb:=Fv.lg_bd (F:=Z) hO.dv.gd.ok;obtain⟨N,hN⟩:=Int.eq_ofNat_of_zero_le (show 0<=Z.lg by omega);rw[hN];have hall:Z.all=if(Fv.allG N 0 Z).2.2≠0 then((Fv.allG N 0 Z).1,[],(Fv.allG N 0 Z).2.2)else Fv.allG N 0 Z:=by unfold Fv.all;rw[hN];rfl
 refine J.q λ_=>?_;refine J.turn1 [] rfl (As:=[c9 31 16 none 0 0 (t7 [])]) (λh s=>Sep.one ⟨rfl,rfl,rfl⟩) rfl ?_;refine J.q λ_=>?_;refine J.l (α:=(Nat×Fv×List (List UInt8)×Option Nat×Nat)) (λz=>z.1<=N/\z.2.1.Ok k m/\z.2.2.1.length=z.1/\Fv.allG N 0 Z=((Fv.allG (N-z.1) z.1 z.2.1).1,z.2.2.1++(Fv.allG (N-z.1) z.1 z.2.1).2.1,(Fv.allG (N-z.1) z.1 z.2.1).2.2)) (λz=>[si 12 z.1,si 11 N,⟨0,pp f,2, .tt⟩,sv 4 (slv z.2.2.2.1 z.2.2.1.length z.2.2.2.2)]) [1,2,3,4,5,6,7] (λz=>(FvP f p n t l d z.2.1++[c9 31 16 z.2.2.2.1 z.2.2.1.length z.2.2.2.2 (t7 z.2.2.1)])) (λz=>N-z.1) ((0,Z,[],none,0)) (⟨Nat.zero_le _,hO,rfl,rfl⟩) λz hI=>?_;obtain⟨j,Y,acc,ga,ca⟩:=z;dsimp only at hI ⊢;obtain⟨hj,hY,hacc,hgo⟩:=hI;refine J.qd (λ_ h1=>?_) λ_ h1=>?_
 ·simp only[decide_eq_true_eq,Int.ofNat_lt]at h1;have hk:=Fv.read_keep hY j;rw[show N-j=(N-(j+1))+1 from by omega]at hgo;rw[Fv.allG_succ]at hgo;refine J.qp (Y8 f p n t l d Y k m hY j) [1,2,3,4,5,6] λ_=>?_;generalize Y.read j=R at hgo hk ⊢;obtain⟨Y2,dd,er⟩:=R;dsimp only at hgo hk ⊢;refine J.qd (λ_ h2=>?_) λ_ h2=>?_
  ·have he:er≠0:=by simpa using h2
   rw[if_pos he]at hgo;rw[hgo,if_pos he]at hall;refine J.turn1 [] rfl (As:=[c9 31 16 none 0 0 (t7 [])]) (λh s=>Sep.one ⟨rfl,rfl,rfl⟩) rfl ?_;refine J.qr [1,2,3,4,5,6,9] λ_=>?_;rw[hall];exact⟨none,0,rfl,rfl⟩
  ·have he:er=0:=by simpa using h2
   rw[if_neg (λh=>h he)]at hgo;refine J.qn 5 λb9=>?_;refine J.ap 7 9 0 (a5N acc dd) λa3 c3=>?_;refine J.q λ_=>?_;rw[show acc.length+1=(acc++[dd]).length from by simp];refine J.q λ_=>?_;refine J.n ((j+1,Y2,acc++[dd],a3,c3)) (⟨by dsimp only;omega,hk.1,by dsimp only;rw[List.length_append];exact congrArg (· +1) hacc,by dsimp only;rw[hgo,List.append_assoc];rfl⟩) (by dsimp only;omega) [0,1,2,3,4,5,6,7]
 simp only[decide_eq_false_iff_not,Int.ofNat_lt]at h1;obtain rfl:j=N:=by omega
 rw[Nat.sub_self,show Fv.allG 0 (j:Int) Y=(Y,[],0)from rfl,List.append_nil]at hgo;rw[hgo,if_neg (by simp)]at hall;refine J.qr [1,2,3,4,5,6,7] λ_=>?_;rw[hall];exact⟨ga,ca,rfl,rfl⟩
def UN:Nat:=Fv.cW+1
theorem b4V:UN=Dv.costM+8*Dv.fuel+1:=rfl
theorem a7h:Fv.cW*200<=UN*200:=Nat.mul_le_mul_right _ (Nat.le_succ _)
theorem b0q:FI.costW*200<=UN*200:=Nat.mul_le_mul_right _ (Nat.le_succ _)
theorem b2Z:UN*200000<=1000000000000000:=by decide+kernel
theorem Inv.slots_le {fd:Int} {S:Dv} {k m:Nat} (h:Inv fd S) (hO:S.Ok k m) (hr:0<S.rows):S.slots<=(S.N.dies:Int)-1:=by
 have hg:=hO.gd.ok.bd16;unfold Dv.slots;rcases h.rows_pos hO hr with hl | hp
 ·rw[if_pos hl];have:=(h.opn hl).mask.pos hg.1;omega
 ·split
  ·rename_i hl;have:=(h.opn hl).mask.pos hg.1;omega
  ·rcases S.pick_spec with e | ⟨p1,p2,_,_⟩
   ·omega
   ·have:=(h.msk hO (Tl.has_iff.2 ⟨p1,p2⟩)).pos hg.1;omega
theorem a4M (l:List En) (e:En):1<=(H5 l e).length/\(H5 l e).length<=l.length+1:=by
 unfold H5;rw[List.length_append,List.length_singleton];have:=List.length_filter_le (λx:En=>!(x.lpn==e.lpn)) l;omega
theorem Fv.waits_len {F:Fv} {k m D:Nat} (hO:F.Ok (Fv.cW+k) m) {e:En} (h0:(F.waits e).2=0) (h1:1<=F.S.slots) (hs:F.S.slots<=(D:Int)-1) (hl:F.L.length+1<=D):1<=(F.waits e).1.L.length/\(F.waits e).1.L.length+1<=D:=by
 have hk:=Fv.writes_keep (F:=F.ask) hO.ask;have hl:F.ask.L.length+1<=D:=hl;have h1:1<=F.ask.S.slots:=h1;have hs:F.ask.S.slots<=(D:Int)-1:=hs;unfold Fv.waits at h0 ⊢
 by_cases ho:F.ask.off=true
 ·rw[if_pos ho]at h0;cases h0
 rw[if_neg ho]at h0 ⊢
 by_cases hr:e.lpn<0\/e.lpn>=F.ask.lg
 ·rw[if_pos hr]at h0;cases h0
 rw[if_neg hr]at h0 ⊢
 by_cases hw:(F.ask.L.length:Int)>=F.ask.S.slots
 ·rw[if_pos hw]at h0 ⊢;dsimp only at h0 ⊢
  by_cases he:F.ask.writes.2≠0
  ·rw[if_pos he]at h0;exact absurd h0 he
  ·rw[if_neg he];have h3:=hk.2.2.2 (Decidable.of_not_not he) (by omega);have:=a4M F.ask.writes.1.L {e with seq:=F.ask.writes.1.nx};show 1<=(H5 _ _).length/\(H5 _ _).length+1<=D;omega
 ·rw[if_neg hw];have:=a4M F.ask.L {e with seq:=F.ask.nx};show 1<=(H5 F.ask.L _).length/\(H5 F.ask.L _).length+1<=D;omega
structure Dev (D B P:Nat) (F:Fv) (n:Nat) (c:Nat->List UInt8):Prop where
 fc:∃W,FC W (lgN D B P) F/\∀i:Nat,i<lgN D B P->cur W F.L i=c i
 ok:F.Ok (UN*n) 0
 nx:F.S.next+8000*(n:Int)<=1099000000000
 br:F.S.N.broken=0
 geo:F.S.N.dies=D/\F.S.N.blocks=B/\F.S.N.pages=P
 wt:F.L.length+1<=D
 le:n<=200000
namespace Dev
variable {D B P n : Nat} {F : Fv} {c : Nat → List UInt8}
theorem lg (h:Dev D B P F n c):F.lg=(lgN D B P:Int):=by
 obtain⟨W,hW,_⟩:=h.fc;exact hW.fi.lgn
theorem less (h:Dev D B P F n c) {k:Nat} (hk:k<=n):Dev D B P F k c:=
 ⟨h.fc,h.ok.less (Nat.mul_le_mul_left _ hk),by have:=h.nx;omega,h.br,h.geo,h.wt,by have:=h.le;omega⟩
theorem congr (h:Dev D B P F n c) {c':Nat->List UInt8} (hc:∀i,i<lgN D B P->c i=c' i):Dev D B P F n c':=by
 obtain⟨W,hW,h2⟩:=h.fc;exact⟨⟨W,hW,λi hi=>(h2 i hi).trans (hc i hi)⟩,h.ok,h.nx,h.br,h.geo,h.wt,h.le⟩
theorem like (h:Dev D B P F n c) {G:Fv} (hl:F.S.N.Like G.S.N):G.S.N.dies=D/\G.S.N.blocks=B/\G.S.N.pages=P:=
 ⟨hl.dies.trans h.geo.1,hl.blocks.trans h.geo.2.1,hl.pages.trans h.geo.2.2⟩
theorem slots (h:Dev D B P F n c):1<=F.S.slots/\F.S.slots<=(D:Int)-1:=by
 obtain⟨W,hW,_⟩:=h.fc;have hg:=h.ok.dv.gd.ok.bd16;have:=hW.fi.inv.slots_le h.ok.dv (by have:=hW.rows;omega);rw[h.geo.1]at this;exact⟨hW.slots h.ok.dv,this⟩
theorem put (h:Dev D B P F (n+1) c) {e:En} {u:Nat} (hu:e.lpn=(u:Int)) (he:FitR e/\e.role≠4/\e.lpn<(lgN D B P:Int)) (hk:(F.waits e).1.Ok (UN*n) 0):
  (F.waits e).2=0/\Dev D B P (F.waits e).1 n (λj=>if j=u then e.data else c j)/\1<=(F.waits e).1.L.length:=by
 obtain⟨W,hW,hc⟩:=h.fc;have hU:UN*(n+1)=UN*n+UN:=Nat.mul_succ _ _;have hU2:=b4V;have hnx:=h.nx;obtain⟨F',W',r1,r2,r3,_,r5,r6,r7⟩:=hW.waits (k:=UN*n) (h.ok.dv.less (by omega)) (by omega) he;have hs:=h.slots;have hlen:=Fv.waits_len (k:=UN*n) (D:=D) (e:=e) (h.ok.less (by unfold Fv.cW;omega)) (by rw[r1]) hs.1 hs.2 h.wt;rw[r1]at hk hlen ⊢;exact⟨rfl,⟨⟨W',r2,λi hi=>by
  rw[r3,hu,hc i hi]
  by_cases e:i=u
  ·rw[if_pos e,if_pos (by omega)]
  ·rw[if_neg e,if_neg (by omega)]⟩,hk,by dsimp only;omega,r6.trans h.br,h.like r7,hlen.2,by have:=h.le;omega⟩,hlen.1⟩
theorem write (h:Dev D B P F (n+1) c) {i:Nat} (h1:i<lgN D B P) {d:List UInt8} (hd:d.length=16):
  (F.write i d).2=0/\Dev D B P (F.write i d).1 n (λj=>if j=i then d else c j)/\1<=(F.write i d).1.L.length:=by
 have h200:=(Fv.lg_bd (F:=F) h.ok.dv.gd.ok).2;rw[h.lg]at h200;have hU:UN*(n+1)=UN*n+UN:=Nat.mul_succ _ _;exact h.put (e:=⟨(i:Int),0,1,d⟩) (u:=i) rfl ⟨⟨⟨Int.natCast_nonneg i,by show(i:Int)<=65535;omega⟩, .inl rfl,hd⟩,by show(1:Int)≠4;decide,by show(i:Int)<_;omega⟩ (Fv.write_keep (k:=UN*n) (h.ok.less (by unfold UN at hU ⊢;omega)) i hd).1
theorem flush (h:Dev D B P F (n+200) c):F.flush.2=0/\Dev D B P F.flush.1 n c/\F.flush.1.L=[]:=by
 obtain⟨W,hW,hc⟩:=h.fc;have hU:UN*(n+200)=UN*n+UN*200:=Nat.mul_add _ _ _;have hf:=a7h;have hf2:=b0q;have hnx:=h.nx;have hk:=(Fv.flush_keep (k:=UN*n) (m:=0) (h.ok.less (by omega))).1;obtain⟨F',W',r1,r2,_,r4,r5,r6,r7,r8⟩:=hW.flush (k:=UN*n) (h.ok.dv.less (by omega)) (by omega);have hg:=h.ok.dv.gd.ok.bd16;rw[h.geo.1]at hg;rw[r1]at hk ⊢;exact⟨rfl,⟨⟨W',r2,λi hi=>by rw[r8,hc i hi]⟩,hk,by dsimp only;omega,r5.trans h.br,h.like r6,by dsimp only;rw[r7];simp only[List.length_nil];omega,by have:=h.le;omega⟩,r7⟩
theorem new (hD:3<=D/\D<=6) (hB:8<=B/\B<=16) (hP:2<=P/\P<=8) (hlg:lgN D B P<=200) (hcap:2*lgN D B P<=(B-5)*(P*(D-2))+1) (hgm:t6 D B P=true):Dev D B P (Fv.of (Dv.new D B P (lgN D B P))) 200000 (λ_=>zeros16):=
 ⟨⟨[],FC.new hD hB hP hlg hcap,λ_ _=>rfl⟩,Fv.of_ok (Dv.Ok.new D B P _ hgm _ b2Z) b2Z,by show(1:Int)+8000*((200000:Nat):Int)<=_;omega,rfl,⟨rfl,rfl,rfl⟩,by show 0+1<=D;omega,Nat.le_refl _⟩
end Dev
namespace FC
variable {W : List (Int × En)} {lg k m : Nat} {F : Fv}
end FC
theorem Fv.all_of {F:Fv} {lg:Nat} {c:Nat->List UInt8} (hlg:F.lg=(lg:Int)) (hr:∀i:Nat,i<lg->F.read i=(F,c i,0)):F.all=(F,(List.range lg).map c,0):=by
 have:∀k i:Nat,i+k<=lg->Fv.allG k i F=(F,(List.range k).map (λj:Nat=>c (i+j)),0):=by
  intro k
  induction k with
  | zero=>intro i _;rfl
  | succ k ih=>
   intro i hi;rw[Fv.allG_succ,hr i (by omega)];dsimp only;rw[if_neg (by decide),show(i:Int)+1=((i+1:Nat):Int)from by omega,ih (i+1) (by omega),List.range_succ_eq_map,List.map_cons,List.map_map];dsimp only;refine congrArg (λx=>(F,x,(0:Int))) ?_;rw[Nat.add_zero];refine congrArg _ (List.map_congr_left λj _=>?_);show c (i+1+j)=c (i+(j+1));rw[show i+1+j=i+(j+1)from by omega]
 unfold Fv.all;rw[hlg,Int.toNat_natCast];have h0:=this lg 0 (by omega);rw[show((0:Nat):Int)=0 from rfl]at h0;rw[h0,if_neg (by simp)];refine congrArg (λx=>(F,x,(0:Int))) (List.map_congr_left λj _=>?_);rw[Nat.zero_add]
namespace Dev
variable {D B P n : Nat} {F : Fv} {c : Nat → List UInt8}
end Dev
def Fv.ticksG:Nat->Int->Fv->Fv×Int
 | 0,i,Z=>(Z.whole.1,if Z.whole.2 then i else-1)
 | f+1,i,Z=>if Z.whole.2 then(Z.whole.1,i)else if Z.whole.1.tick.2≠0 then(Z.whole.1.tick.1,-1)else Fv.ticksG f (i+1) Z.whole.1.tick.1
theorem Fv.ticksG_succ (f:Nat) (i:Int) (Z:Fv):Fv.ticksG (f+1) i Z=if Z.whole.2 then(Z.whole.1,i)else if Z.whole.1.tick.2≠0 then(Z.whole.1.tick.1,-1)else Fv.ticksG f (i+1) Z.whole.1.tick.1:=rfl
def a0z (most:Int):Nat:=(min (max most 0) 10000).toNat
def Fv.ticks (Z:Fv) (most:Int):Fv×Int:=Fv.ticksG (a0z most) 0 Z
theorem a7e (f p n t l d:Nat) (Z:Fv) (k m:Nat) (most:Int) (hO:Z.Ok (Dv.costS*a0z most+k) m) (hm:m<=12):FP 31 [pp f,iI most] (FvP f p n t l d Z)
  (Ps (iI (Z.ticks most).2) (FvP f p n t l d (Z.ticks most).1)):=by
 obtain⟨M,hM⟩:∃M,a0z most=M:=⟨_,rfl⟩;have hMM:min (max most 0) 10000=(M:Int):=by rw[<- hM];unfold a0z;omega
 have hM1:M<=10000:=by omega
 rw[show Z.ticks most=Fv.ticksG M 0 Z from by unfold Fv.ticks;rw[hM]];rw[hM]at hO;refine FE [2,0] Tryz.func31 λX F hX=>?_;refine J.qn 9 λ_=>?_;have e:(if(10000:Int)<if(0:Int)>most then 0 else most then 10000 else if(0:Int)>most then 0 else most)=(M:Int):=by
  rw[<- hMM];split<;>split<;>omega
 rw[e];refine J.q λ_=>?_;refine J.l (α:=(Nat×Fv)) (λz=>(z.1<=M/\z.2.Ok (Dv.costS*(M-z.1)+k) m/\Fv.ticksG M 0 Z=Fv.ticksG (M-z.1) z.1 z.2)\/(z.1=M+1/\Fv.ticksG M 0 Z=(z.2,-1))) (λz=>[si 11 z.1,⟨10,iI ((M:Int)+1),0, .tt⟩,⟨0,pp f,2, .tt⟩,si 1 M]) [1,2,3,4,5,6] (λz=>FvP f p n t l d z.2) (λz=>M+1-z.1) ((0,Z)) (.inl ⟨Nat.zero_le _,hO,rfl⟩) λz hI=>?_;obtain⟨j,Y⟩:=z;dsimp only at hI ⊢;refine J.qd (λ_ h1=>?_) λ_ h1=>?_
 ·simp only[decide_eq_true_eq]at h1;obtain⟨hj,hY,hgo⟩:j<=M/\Y.Ok (Dv.costS*(M-j)+k) m/\Fv.ticksG M 0 Z=Fv.ticksG (M-j) j Y:=by
   rcases hI with h | h
   ·exact h
   ·omega
  have hw:=Fv.whole_keep hY;refine J.qp (a3h f p n t l d Y _ m hY) [1,2,3,4,5,6] λ_=>?_;obtain⟨W,hW⟩:∃W,Y.whole=W:=⟨_,rfl⟩;rw[hW]at hw ⊢;obtain⟨Y1,wb⟩:=W;dsimp only at hw ⊢;refine J.qd (λ_ h2=>?_) λ_ h2=>?_
  ·have hr:Fv.ticksG (M-j) j Y=(Y1,(j:Int)):=by
    cases hc:M-j with
    | zero=>show(Y.whole.1,if Y.whole.2 then(j:Int)else-1)=_;rw[hW,if_pos h2]
    | succ c=>rw[Fv.ticksG_succ,hW,if_pos h2]
   refine J.qr [1,2,3,4,5,6] λ_=>?_;rw[hgo,hr];exact⟨rfl,rfl⟩
  refine J.qn 6 λ_=>?_;rcases Nat.lt_or_ge j M with hjM | hjM
  ·rw[show decide ((j:Int)<(M:Int))=true from decide_eq_true (by omega)];obtain⟨c,hc⟩:∃c,M-j=c+1:=⟨M-j-1,by omega⟩;have hO1:Y1.Ok (Dv.costS+(Dv.costS*c+k)) m:=hw.1.less (by rw[hc,Nat.mul_succ];omega);have htk:=Fv.tick_keep hO1;refine J.qp (a8I f p n t l d Y1 _ m hO1 hm) [1,2,3,4,5,6] λ_=>?_;have hr:Fv.ticksG (M-j) j Y=if Y1.tick.2≠0 then(Y1.tick.1,-1)else Fv.ticksG c (j+1) Y1.tick.1:=by
    rw[hc,Fv.ticksG_succ,hW,if_neg (by rw[h2];exact Bool.false_ne_true)]
   obtain⟨W,hW2⟩:∃W,Y1.tick=W:=⟨_,rfl⟩;rw[hW2]at htk hr ⊢;obtain⟨Y2,er⟩:=W;dsimp only at htk hr ⊢;refine J.qd (λ_ h3=>?_) λ_ h3=>?_
   ·have he:er≠0:=by simpa using h3
    rw[if_pos he]at hr;refine J.qr [1,2,3,4,5,6] λ_=>?_;rw[hgo,hr];exact⟨rfl,rfl⟩
   ·have he:er=0:=by simpa using h3
    rw[if_neg (λh=>h he)]at hr;refine J.q λ_=>?_;refine J.n ((j+1,Y2)) (.inl ⟨by dsimp only;omega,by dsimp only;rw[show M-(j+1)=c from by omega];exact htk.1,by dsimp only;rw[show M-(j+1)=c from by omega,hgo,hr];rfl⟩) (by dsimp only;omega) [0,1,2,3,4,5,6]
  ·obtain rfl:j=M:=by omega
   rw[show decide ((j:Int)<(j:Int))=false from decide_eq_false (by omega)];refine J.q λ_=>?_;refine J.v (iI 0) rfl rfl (λhg a w he hw=>by simp[G.on]at hg) ?_;refine J.qF λ_=>?_;refine J.q λ_=>?_;refine J.n ((j+1,Y1)) (.inr ⟨rfl,by rw[hgo,Nat.sub_self];show(Y.whole.1,if Y.whole.2 then(j:Int)else-1)=_;rw[hW,if_neg (by rw[h2];exact Bool.false_ne_true)]⟩) (by dsimp only;omega) [0,1,2,3,4,5,6]
 simp only[decide_eq_false_iff_not]at h1;obtain⟨rfl,hgo⟩:j=M+1/\Fv.ticksG M 0 Z=(Y,-1):=by
  rcases hI with h | h
  ·omega
  ·exact h
 refine J.qr [1,2,3,4,5,6] λ_=>?_;rw[hgo];exact⟨rfl,rfl⟩
def flS:Stp:=⟨4,0,zd,0,0,dF⟩
theorem Pv.step_flush (P:Pv) (Z:Fv) (hZ:P.Z=some Z) (s:Stp) (hs:s.fn=4):P.step s=(⟨W9 Z.S.N.ops P.L,P.log++[⟨(Z.setN (L4 Z.S.N (A7 Z.S.N.ops P.L))).flush.2,zd⟩],some (Z.setN (L4 Z.S.N (A7 Z.S.N.ops P.L))).flush.1,P.M⟩,⟨(Z.setN (L4 Z.S.N (A7 Z.S.N.ops P.L))).flush.2,zd⟩):=by
 have hnd:P.nd=Z.S.N:=by unfold Pv.nd;rw[hZ]
 have hrun:P.run=⟨W9 Z.S.N.ops P.L,P.log,some (Z.setN (L4 Z.S.N (A7 Z.S.N.ops P.L))),P.M⟩:=by unfold Pv.run;rw[hnd];unfold Pv.setN;rw[hZ]
 have hd:P.run.does s=({P.run with Z:=some (Z.setN (L4 Z.S.N (A7 Z.S.N.ops P.L))).flush.1},⟨(Z.setN (L4 Z.S.N (A7 Z.S.N.ops P.L))).flush.2,zd⟩):=by
  rw[hrun];unfold Pv.does;rw[if_neg (by rw[hs];decide),if_neg (by rw[hs];decide),if_neg (by rw[hs];decide),if_pos hs]
 unfold Pv.step;rw[hd,hrun]
theorem b4C (q n:Nat) (A:Pad) (P:Pv) (hA:A.Ok P) (Z:Fv) (hZ:P.Z=some Z) (most:Int) (k m:Nat) (hO:Z.Ok (Fv.cW*200+(Dv.costS+(Dv.costK+(1+(Dv.costS*a0z most+k))))) m) (hoff:Z.S.N.off=false) (hm:m+(A7 Z.S.N.ops P.L).length<=12) (hL:P.L.length<=1000) (hlg:P.log.length<=1000) (Z1:Fv) (hZ1:(P.step flS).1.Z=some Z1):FP 47 [pp q,iI most] (V9 q n A P)
  (λv As=>∃A':Pad,v= .bool (decide ((Z1.ticks most).2>=0))/\A'.Ok {(P.step flS).1 with Z:=some (Z1.ticks most).1}/\As=V9 q n A' {(P.step flS).1 with Z:=some (Z1.ticks most).1}):=by
 have hsf:=Pv.step_flush P Z hZ flS rfl;obtain⟨D,hD⟩:∃D,A7 Z.S.N.ops P.L=D:=⟨_,rfl⟩;rw[hD]at hm hsf;have hO2:(Z.setN (L4 Z.S.N D)).Ok (Fv.cW*200+(Dv.costS+(Dv.costK+(1+(Dv.costS*a0z most+k))))) (m+D.length):=hO.setN (a3a _ _) (a0H hO.dv.gd D);have hkp:=Fv.flush_keep hO2;have hz1:Z1=(Z.setN (L4 Z.S.N D)).flush.1:=by rw[hsf]at hZ1;injection hZ1 with e;exact e.symm
 rw[<- hz1]at hkp;have hst:=a5n q n A P hA Z hZ _ m hO (by rw[hD];exact hm) hL hlg flS rfl;have hone:(P.step flS).1=⟨W9 Z.S.N.ops P.L,(P.step flS).1.log,some Z1,P.M⟩:=by rw[hsf,hz1]
 have hpl:V9 q n A P=[PlQ q n (some Z) A.f (pp A.fp) (slv A.a2 P.log.length A.c2), .pt A.fp 155 [.slice (x9 A.a) P.L.length A.c],rdA (x9 A.a) 7 P.L.length (f9 P.L),c9 40 17 A.a2 P.log.length A.c2 (y9 P.log)]++FvP A.f A.p n A.t A.l A.d Z:=by unfold V9 Z5;rw[hZ];rfl
 rw[hpl]at hst ⊢;refine FE [2,0] Tryz.func47 λX F hX=>?_;refine J.qp (b3H q n (flP (some Z) A.f) (pp A.fp) (slv A.a2 P.log.length A.c2)) [1] λ_=>?_;refine J.qp (a0y n Z.S.N) [7] λ_=>?_;rw[hoff];refine J.qp (b1o q n (some Z) A.f (pp A.fp) (slv A.a2 P.log.length A.c2)) [1] λ_=>?_;refine J.qF λ_=>?_;refine J.qc (hst) [1,2,3,4,5,6,7,8,9,10] λ_=>?_;rintro v As ⟨A',rfl,hA',rfl⟩;rw[hone]at hA' ⊢;refine⟨_,rfl,trivial,?_⟩;refine J.qp (b1o q n (some Z1) A'.f (pp A'.fp) (slv A'.a2 (P.step flS).1.log.length A'.c2)) [1] λ_=>?_;refine J.qp (a7e A'.f A'.p n A'.t A'.l A'.d Z1 k (m+D.length) most (hkp.1.less (by omega)) hm) [5,6,7,8,9,10] λ_=>?_;refine J.qr [1,2,3,4,5,6,7,8,9,10] λ_=>?_;refine⟨A',rfl,?_,?_⟩
 ·rw[hone];exact⟨hA'.z,hA'.c⟩
 ·rw[hone];rfl
theorem b4x (x d:List UInt8):decide (d=x)=(x==d):=by
 by_cases h:x=d
 ·rw[h];simp
 ·rw[decide_eq_false (λe=>h e.symm),beq_eq_false_iff_ne.2 h]
theorem b0x (a:Option Nat) (n c:Nat) (l:List (List UInt8)) (hl:l.length=n) (hn:n<=1000000) (d:List UInt8) (hd:d.length=16) (hs:∀x∈l,x.length=16):FP 143 [slv a n c,a3R d] [c9 31 16 a n c (t7 l)] (λv As=>v=iI (match l.findIdx? (λx=>x==d)with | some k=>(k:Int) | none=> -1)/\As=[c9 31 16 a n c (t7 l)]):=by
 refine FE [0,0] Tryz.func143 λX F hX=>?_;refine J.q λbb=>?_;refine J.l (α:=Nat) (λk=>k<=n/\∀j,j<k->∀x,l[j]? =some x->(x==d)=false) (λk=>[si 8 k,si 7 n,sv 0 (slv a n c),⟨3,pp (bb 0),3, .tt⟩]) [] (λk=>[]) (λk=>n-k) (0) (⟨Nat.zero_le _,λj hj=>absurd hj (Nat.not_lt_zero _)⟩) λk hI=>?_;obtain⟨hk,hno⟩:=hI;refine J.qd (λ_ h1=>?_) λ_ h1=>?_
 ·simp only[decide_eq_true_eq,Int.ofNat_lt]at h1;obtain⟨x,hx⟩:∃x,l[k]? =some x:=⟨_,List.getElem?_eq_getElem (by omega)⟩;refine J.know (λh' s=>i9 (c:=(a,c)) (by omega) (s.get (i:=1) rfl)) λhg=>?_;obtain⟨g,rfl⟩:=hg;refine J.pn 4 (.of [1,4,8,12,17,20]) [] [1,2] λ_ _=>?_;have hxl:=hs x (List.mem_of_getElem? hx);refine J.vT (a3R x) rfl rfl (λhg aa w he hC=>n8 tk rfl rfl he rfl rfl rfl (hC rfl _ (i7 (i:=1) rfl)) (by rw[show 0+(k:Int).toNat*16=k*16 from by omega];exact X2 n6 16 (λ_=>rfl) l k x hx) rfl) ?_;refine J.vT (.bool (x==d)) rfl rfl (λhg aa w he hC=>(C2 (xs:=n6 d) (ys:=n6 x) rfl rfl rfl he rfl rfl U0 (L8 _) (L8 _) mkD gdD).trans (by rw[eqD _ _ hd hxl,b4x])) ?_;refine J.qd (λ_ h2=>?_) λ_ h2=>?_
  ·have hf:l.findIdx? (λx=>x==d)=some k:=by
    rw[List.findIdx?_eq_some_iff_getElem];obtain⟨g1,g2⟩:=List.getElem?_eq_some_iff.1 hx;refine⟨g1,by rw[g2];exact h2,λj hj=>?_⟩;have:=hno j hj _ (List.getElem?_eq_getElem (by omega));rw[this];exact Bool.false_ne_true
   refine J.qr [1] λ_=>?_;rw[hf];exact⟨rfl,rfl⟩
  ·refine J.q λ_=>?_;refine J.nS (k+1) (⟨by omega,λj hj y hy=>by
    rcases Nat.lt_or_ge j k with h | h
    ·exact hno j h y hy
    ·obtain rfl:j=k:=by omega
     rw[hx]at hy;injection hy with hy;rw[<- hy];exact h2⟩) (by omega) [0,1,2] rfl rfl
 simp only[decide_eq_false_iff_not,Int.ofNat_lt]at h1;have hf:l.findIdx? (λx=>x==d)=none:=by
  rw[List.findIdx?_eq_none_iff];intro x hx;obtain⟨j,hj⟩:=List.getElem?_of_mem hx;exact hno j (by have:=(List.getElem?_eq_some_iff.1 hj).1;omega) x hj
 refine J.qr [1] λ_=>?_;rw[hf];exact⟨rfl,rfl⟩
theorem b2m (l:List (List UInt8)) (d:List UInt8):decide ((match l.findIdx? (λx=>x==d)with | some k=>(k:Int) | none=> -1)>=0)=l.contains d:=by
 cases h:l.findIdx? (λx=>x==d)with
 | none=>
  rw[List.findIdx?_eq_none_iff]at h;have:l.contains d=false:=by
   rw[List.contains_eq_any_beq,List.any_eq_false];intro x hx e;have:=h x hx;rw[eq_of_beq e]at this;simp at this
  rw[this];rfl
 | some k=>
  rw[List.findIdx?_eq_some_iff_getElem]at h;obtain⟨h1,h2,_⟩:=h;have:l.contains d=true:=by
   rw[List.contains_eq_any_beq,List.any_eq_true];exact⟨_,List.getElem_mem h1,by rw[eq_of_beq h2];simp⟩
  rw[this,decide_eq_true (by dsimp only;omega)]
theorem b3g (a:Option Nat) (n c:Nat) (l:List (List UInt8)) (hl:l.length=n) (hn:n<=1000000) (d:List UInt8) (hd:d.length=16) (hs:∀x∈l,x.length=16):FP 90 [slv a n c,a3R d] [c9 31 16 a n c (t7 l)] (Ps (.bool (l.contains d)) [c9 31 16 a n c (t7 l)]):=by
 refine FE [0,0] Tryz.func90 λX F hX=>?_;refine J.qp (b0x a n c l hl hn d hd hs) [1] λ_=>?_;have hc:=b2m l d;refine J.qr [1] λ_=>?_;exact⟨by rw[<- hc],rfl⟩
theorem a4H {α:Type} (f:α->List Value) (w:Nat) (hw:∀x,(f x).length=w) (vs:List Value):∀{l:List α} {k:Nat} {x y:α},l[k]? =some x->vs.length<=w->vs++(f x).drop vs.length=f y->(l.flatMap f).take (k*w)++vs++(l.flatMap f).drop (k*w+vs.length)=(l.set k y).flatMap f
 | [],k,x,y,h,hj,e=>by simp at h
 | z::l,0,x,y,h,hj,e=>by
  simp only[List.getElem?_cons_zero,Option.some.injEq]at h;subst h;rw[Nat.zero_mul,Nat.zero_add,List.take_zero,List.nil_append,List.flatMap_cons,List.drop_append_of_le_length (by rw[hw];exact hj),<- List.append_assoc,e];rfl
 | z::l,k+1,x,y,h,hj,e=>by
  have ih:=a4H f w hw vs (l:=l) (k:=k) (x:=x) (y:=y) (by simpa using h) hj e;rw[List.flatMap_cons,show(k+1)*w=(f z).length+k*w from by rw[hw,Nat.succ_mul];omega,List.take_length_add_append,show(f z).length+k*w+vs.length=(f z).length+(k*w+vs.length)from by omega,List.drop_length_add_append,List.append_assoc,List.append_assoc,<- List.append_assoc (List.take _ _),ih];rfl
def MSl.Fine (z:MSl):Prop:=z.v.now.length=16/\(∀x∈z.v.may,x.length=16)/\(∀x∈z.v.ever,x.length=16)/\z.v.may.length<=1000/\z.v.ever.length<=1000
theorem a2v {α:Type} {l:List α} {k:Nat} {x:α} (h:l[k]? =some x):l.set k x=l:=by
 apply List.ext_getElem?;intro i;rw[List.getElem?_set];split
 ·rename_i e;subst e;split
  ·exact h.symm
  ·rename_i e2;rw[List.getElem?_eq_none (by omega)]
 ·rfl
theorem b2M (x d:List UInt8):decide (x=d)=(x==d):=by
 by_cases h:x=d
 ·rw[h];simp
 ·rw[decide_eq_false h,beq_eq_false_iff_ne.2 h]
theorem MSl.now_at {Z:List MSl} {k:Nat} {z:MSl} (hz:Z[k]? =some z):((Z.flatMap MSl.cells).drop (k*19+0)).take 16=n6 z.v.now:=by
 have h:=X2 MSl.cells 19 (λ_=>rfl) Z k z hz;have h2:((Z.flatMap MSl.cells).drop (k*19)).take 16=(((Z.flatMap MSl.cells).drop (k*19)).take 19).take 16:=by rw[List.take_take];rfl
 rw[Nat.add_zero,h2,h];rfl
theorem a7A (q g:Nat) (Z:List MSl) (hn:Z.length<=65536) (hf:∀z∈Z,z.Fine) (i:Int) (d:List UInt8) (hd:d.length=16):FP 46 [pp q,iI i,a3R d] (a5T q g Z) (Ps (.bool (Mv.may (Z.map (·.v)) i d)) (a5T q g Z)):=by
 refine FE [2,0,0] Tryz.func46 λX F hX=>?_;refine J.qp (b4Q q g Z.length hn i) [1] λ_=>?_
 by_cases hi:0<=i/\i<(Z.length:Int)
 ·have ha:Mv.adr Z.length g i=some ⟨g,i.toNat*19,none⟩:=by unfold Mv.adr;rw[if_pos hi]
  obtain⟨k,rfl⟩:=Int.eq_ofNat_of_zero_le hi.1;obtain⟨z,hz⟩:∃z,Z[k]? =some z:=⟨_,List.getElem?_eq_getElem (by omega)⟩;obtain⟨f1,f2,f3,f4,f5⟩:=hf z (List.mem_of_getElem? hz);have hin:Mv.inR (Z.map (·.v)) (k:Int)=true:=by unfold Mv.inR;rw[List.length_map,decide_eq_true hi.1,decide_eq_true hi.2];rfl
  have hpg:Mv.pg (Z.map (·.v)) (k:Int)=z.v:=by unfold Mv.pg;rw[Int.toNat_natCast,List.getD_eq_getElem?_getD,List.getElem?_map,hz];rfl
  have hmy:Mv.may (Z.map (·.v)) (k:Int) d=if z.v.op then z.v.may.contains d else z.v.now==d:=by unfold Mv.may;rw[hin,hpg,Bool.true_and]
  rw[ha,Int.toNat_natCast];refine J.qF λ_=>?_;have hcell:=λj hj=>S8 MSl.cells 19 MSl.cells_len hz j hj;refine J.qn 7 λ_=>?_;refine J.v (.bool z.v.op) rfl rfl (λhg aa w he hw=>j3 tk rfl rfl he rfl rfl rfl (hw.get (i:=2) rfl) (hcell 16 (by omega))) ?_;refine J.qd (λ_ h1=>?_) λ_ h1=>?_
  ·rw[if_pos h1]at hmy;refine J.openAt 3 k rfl rfl (by rw[List.getElem?_map,hz];rfl) rfl ?_;refine J.pn 3 (.of [0,4,8,13,17,23,24]) [5,6] [1,2,3,4,5,6] λ_ _=>?_;refine J.vT (slv z.a1 z.v.may.length z.c1) rfl rfl (λhg aa w he hC=>j3 tk rfl rfl he rfl rfl rfl (hC rfl _ (i7 (i:=2) rfl)) (hcell 17 (by omega))) ?_;refine J.qp (b3g z.a1 z.v.may.length z.c1 z.v.may rfl (by omega) d hd f2) [6] λ_=>?_;refine J.q λ_=>?_;refine J.closeAt (A:=z.m1) 3 6 k rfl rfl rfl ?_;have hsame:(Z.map MSl.m1).set k z.m1=Z.map MSl.m1:=a2v (by rw[List.getElem?_map,hz];rfl);rw[hsame];refine J.qr [1,2,3,4] λ_=>?_;rw[hmy];exact⟨rfl,rfl⟩
  ·rw[if_neg (by rw[h1];decide)]at hmy;refine J.pn 3 (.of [0,4,8,13,17,20,24]) [5,6] [1,2,3,4,5] λ_ _=>?_;refine J.vT (a3R z.v.now) rfl rfl (λhg aa w he hC=>j8 tk rfl rfl he rfl rfl rfl (hC rfl _ (i7 (i:=2) rfl)) (MSl.now_at hz) rfl) ?_;refine J.qn 1 λ_=>?_;refine J.vT (.bool (z.v.now==d)) rfl rfl (λhg aa w he hC=>(C2 (xs:=n6 z.v.now) (ys:=n6 d) rfl rfl rfl he rfl rfl U0 (L8 _) (L8 _) mkD gdD).trans (by rw[eqD _ _ f1 hd,b2M])) ?_;refine J.qr [1,2,3,4] λ_=>?_;rw[hmy];exact⟨rfl,rfl⟩
 ·have ha:Mv.adr Z.length g i=none:=by unfold Mv.adr;rw[if_neg hi]
  have hmy:Mv.may (Z.map (·.v)) i d=false:=by
   unfold Mv.may Mv.inR;rw[List.length_map];have:(decide (0<=i)&&decide (i<(Z.length:Int)))=false:=by simp;omega
   rw[this];rfl
  rw[ha];refine J.qT λ_=>?_;refine J.qr [1,2,3,4] λ_=>?_;rw[hmy];exact⟨rfl,rfl⟩
end Go.Proofs.YtpohajhbfllbbaaGreat
