/- Helpers. No condition. -/
import Derived.Test.YtmafiplddapokaaGreatT13
set_option maxRecDepth 20000
set_option linter.all false
namespace Go.Proofs.YtmafiplddapokaaGreat
section
open Go Go.RowKit
theorem a5P (L:List Fl):∀k,(A7 L).drop (k*7)=A7 (L.drop k):=by
 induction L with
 | nil=>intro k;simp[A7]
 | cons x l ih=>
  intro k;cases k with
  | zero=>simp
  | succ k=>
   have e1:A7 (x::l)=flC x++A7 l:=by simp[A7]
   rw[e1,X8,<- ih k,show(k+1)*7=(flC x).length+k*7 from by show _=7+k*7;omega,<- C2,U8 rfl]
theorem b1r (L:List Fl):∀k,(A7 L).take (k*7)=A7 (L.take k):=by
 induction L with
 | nil=>intro k;simp[A7]
 | cons x l ih=>
  intro k;cases k with
  | zero=>simp[A7]
  | succ k=>
   have e1:∀m,A7 (x::m)=flC x++A7 m:=λm=>by simp[A7]
   rw[e1,a0C,e1,<- ih k,show(k+1)*7=(flC x).length+k*7 from by show _=7+k*7;omega,T9]
theorem b2U (L:List Fl):∀u∈A7 L,u.oneCell'=true:=by
 intro u hu;unfold A7 at hu;obtain⟨x,_,hx⟩:=List.mem_flatMap.1 hu;simp only[flC,I3,V5,a5S]at hx;rcases hx with rfl | rfl | rfl | rfl | rfl | rfl | rfl<;>rfl
theorem b4f {α:Type} (p:α->Bool):∀(L:List α) (k:Nat) (x:α),k<=(L.takeWhile p).length->L[k]? =some x->(p x=true->k+1<=(L.takeWhile p).length)/\(p x=false->k=(L.takeWhile p).length)
 | [],k,x,_,h=>by simp at h
 | y::L,0,x,_,h=>by
  simp only[M5,l7]at h;subst h;rw[List.takeWhile_cons];constructor
  ·intro e;rw[d7 e,l6];omega
  ·intro e;rw[d4 (by rw[e];decide)];rfl
 | y::L,k+1,x,hk,h=>by
  rw[List.takeWhile_cons]at hk ⊢
  by_cases e:p y=true
  ·rw[d7 e]at hk ⊢;rw[l6]at hk ⊢;have:=b4f p L k x (by omega) (by simpa using h);constructor
   ·intro h1;have:=this.1 h1;omega
   ·intro h1;have:=this.2 h1;omega
  ·rw[d4 e]at hk;simp at hk
theorem c1a {α:Type} (p:α->Bool) (L:List α):(L.takeWhile p).length<=L.length:=by
 have:=congrArg List.length (List.takeWhile_append_dropWhile (p:=p) (l:=L));rw[d8]at this;omega
theorem b9A {α:Type} (p:α->Bool) (L:List α):L.take (L.takeWhile p).length=L.takeWhile p/\L.drop (L.takeWhile p).length=L.dropWhile p:=by
 have h:=List.takeWhile_append_dropWhile (p:=p) (l:=L);constructor
 ·conv=>lhs;arg 2;rw[<- h]
  exact D9 rfl
 ·conv=>lhs;arg 2;rw[<- h]
  exact U8 rfl
def b0D (p:Nat) (a:Option (Nat×Nat)) (c:Nat) (L:List Fl):List Atom:=[.pt p 218 [.slice (R6 a) L.length c],rdA (R6 a) 7 L.length (A7 L)]
theorem a9z (a:Option (Nat×Nat)) (n c k:Nat) (L:List Fl) (hl:L.length=n) (hz:a=none->c=0) (hk:k<=n) (hc:n<=c) (hn:n<=1000000):FP 195 [.slice (R6 a) k c] [rdA (R6 a) 7 n (A7 L)]
  (λv As=>∃a' c',v=slv a' k c'/\As=[rdA (R6 a) 7 n (A7 L),l9 41 7 a' k c' (A7 (L.take k))]):=by
 refine FE [0] Tryz.func195 λX F hX=>?_;cases a with
 | none=>
  have:=hz rfl;obtain rfl:k=0:=by omega
  refine J.qT λ_=>?_;refine J.turn1 [] rfl (As:=[l9 41 7 none 0 0 (A7 [])]) (λh s=>Sep.one ⟨rfl,rfl,rfl⟩) rfl ?_;refine J.qr [1,2] λ_=>?_;exact⟨none,0,rfl,rfl⟩
 | some g=>
  refine J.qF λ_=>?_;refine J.qn 5 λbb=>?_;refine J.closeOwn (e:=41) (size:=7) (n:=0) (cap:=0) (xs:=[]) 2 rfl rfl rfl (j3 _) (j8 _) rfl rfl rfl ?_;refine J.q λ_=>?_;have hRd:Rd (rdA (R6 (some g)) 7 n (A7 L)) (R6 (some g)) 7 k (A7 (L.take k)):=by
   have:=(b0T (R6 (some g)) 7 n (A7 L)).take k hk
   rwa [b1r]at this
  refine J.appendRO hX tk (a:=some (bb 0)) (n:=0) (cap:=0) (xs:=[]) (Ay:=rdA (R6 (some g)) 7 n (A7 L)) 2 1 (λe=>by cases e) rfl rfl rfl rfl rfl rfl rfl rfl rfl hRd rfl rfl rfl rfl (b2U _) ?_ ?_ (λ_=>rfl) λa' c'=>⟨_,rfl,trivial,?_⟩
  ·simp only[maxLen];omega
  ·omega
  rw[J6 k,R9];refine J.qr [1,2] λ_=>?_;exact⟨a',c',rfl,rfl⟩
def c0O (ops:Int) (f:Fl):Bool:=decide (f.at_<=ops)
def V4 (ops:Int) (L:List Fl):List Fl:=L.takeWhile (c0O ops)
def a4e (ops:Int) (L:List Fl):List Fl:=L.dropWhile (c0O ops)
theorem c2G (p:Nat) (a:Option (Nat×Nat)) (c:Nat) (L:List Fl) (hz:a=none->c=0) (hc:L.length<=c) (hn:L.length<=1000) (ops:Int):FP 136 [pp p,iI ops] (b0D p a c L)
  (λv As=>∃a' c' a2 c2,(a'=none->c'=0)/\(a4e ops L).length<=c'/\v=slv a2 (V4 ops L).length c2/\As=b0D p a' c' (a4e ops L)++[l9 41 7 a2 (V4 ops L).length c2 (A7 (V4 ops L))]):=by
 refine FE [2,0] Tryz.func136 λX F hX=>?_;refine J.qF λ_=>?_;refine J.q λ_=>?_;refine J.l (α:=Nat) (λk=>k<=(V4 ops L).length) (λk=>[si 5 k,⟨0,pp p,2, .tt⟩,si 1 ops]) [] (λk=>[]) (λk=>L.length-k) (0) (j8 _) λk hI=>?_;have hle:(V4 ops L).length<=L.length:=c1a _ _;obtain⟨htk,hdr⟩:=b9A (c0O ops) L;have htk:L.take (V4 ops L).length=V4 ops L:=htk;have hdr:L.drop (V4 ops L).length=a4e ops L:=hdr;refine J.qn 10 λ_=>?_;rcases L8 k L.length with h1 | h1
 ·obtain⟨x,hx⟩:∃x,L[k]? =some x:=⟨_,c9 h1⟩;have htw:=b4f (c0O ops) L k x hI hx;refine J.know (λh' s=>b5C (show rdP (R6 a) 7 L.length (A7 L) h' from s.get (i:=2) rfl) (by omega)) λhg=>?_;obtain⟨⟨g,o⟩,rfl⟩:=hg;rw[show decide ((k:Int)<(L.length:Int))=true from i7 (by omega)];refine J.q λ_=>?_;refine J.v (iI x.at_) rfl rfl (λhg aa w he hw=>a7r tk rfl rfl he rfl rfl rfl (b0T _ _ _ _ _ (hw.get (i:=2) rfl)) (by omega) (j:=k*7+0) (by omega) (a1U flC 7 (λ_=>rfl) hx 0 (by omega))) ?_;refine J.qd (λ_ h2=>?_) λ_ h2=>?_
  ·simp only[q9]at h2;have hk:=htw.1 h2;refine J.q λ_=>?_;refine J.n (k+1) (hk) (by omega) [0,1,2]
  ·simp only[q9]at h2;have hk:k=(V4 ops L).length:=htw.2 h2;subst hk;refine J.qn 8 λ_=>?_;refine J.v (.slice (R6 (some (g,o))) (V4 ops L).length c) rfl rfl (λhg aa w he hw=>a4m tk rfl rfl rfl he rfl rfl rfl rfl (by omega)) ?_;refine J.qc (a9z (some (g,o)) L.length c (V4 ops L).length L rfl hz hle hc (by omega)) [2] λ_=>?_;rintro v As ⟨a2,c2,rfl,rfl⟩;refine⟨_,rfl,trivial,?_⟩;refine J.qn 10 λ_=>?_;refine J.v (.slice (R6 (a3e (some (g,o)) 7 (V4 ops L).length c)) (L.length-(V4 ops L).length) (c-(V4 ops L).length)) rfl rfl (λhg aa w he hw=>a3B tk rfl rfl rfl he rfl rfl rfl rfl rfl hle) ?_;refine J.q λ_=>?_;refine J.turn1 [2] rfl (As:=[rdA (R6 (a3e (some (g,o)) 7 (V4 ops L).length c)) 7 (L.length-(V4 ops L).length) ((A7 L).drop ((V4 ops L).length*7))]) (λh s=>Sep.one (b0S (show rdP (R6 (some (g,o))) 7 L.length (A7 L) h from s.get (i:=0) rfl) hle hc)) rfl ?_;refine J.qr [1,2,3] λ_=>?_;refine⟨a3e (some (g,o)) 7 (V4 ops L).length c,c-(V4 ops L).length,a2,c2,a4E hz,by rw[<- hdr,C5];omega,rfl,?_⟩;unfold b0D;rw[<- hdr,C5,a5P,htk];rfl
 ·have hk:k=(V4 ops L).length:=by omega
  rw[show decide ((k:Int)<(L.length:Int))=false from n7 (by omega)];refine J.qn 6 λ_=>?_;refine J.v (pp 0) rfl rfl (λhg a w he hw=>by simp[G.on]at hg) ?_;refine J.qn 1 λ_=>?_;refine J.v (iI 0) rfl rfl (λhg a w he hw=>by simp[G.on]at hg) ?_;refine J.qF λ_=>?_;subst hk;refine J.qn 8 λ_=>?_;refine J.v (.slice (R6 (a)) (V4 ops L).length c) rfl rfl (λhg aa w he hw=>a4m tk rfl rfl rfl he rfl rfl rfl rfl (by omega)) ?_;refine J.qc (a9z (a) L.length c (V4 ops L).length L rfl hz hle hc (by omega)) [2] λ_=>?_;rintro v As ⟨a2,c2,rfl,rfl⟩;refine⟨_,rfl,trivial,?_⟩;refine J.qn 10 λ_=>?_;refine J.v (.slice (R6 (a3e (a) 7 (V4 ops L).length c)) (L.length-(V4 ops L).length) (c-(V4 ops L).length)) rfl rfl (λhg aa w he hw=>a3B tk rfl rfl rfl he rfl rfl rfl rfl rfl hle) ?_;refine J.q λ_=>?_;refine J.turn1 [2] rfl (As:=[rdA (R6 (a3e (a) 7 (V4 ops L).length c)) 7 (L.length-(V4 ops L).length) ((A7 L).drop ((V4 ops L).length*7))]) (λh s=>Sep.one (b0S (show rdP (R6 (a)) 7 L.length (A7 L) h from s.get (i:=0) rfl) hle hc)) rfl ?_;refine J.qr [1,2,3] λ_=>?_;refine⟨a3e (a) 7 (V4 ops L).length c,c-(V4 ops L).length,a2,c2,a4E hz,by rw[<- hdr,C5];omega,rfl,?_⟩;unfold b0D;rw[<- hdr,C5,a5P,htk];rfl
def flN (N:Nand) (f:Fl):Nand:=(N.fault f.kind f.x f.y f.z f.n f.xx).2
def a1Q (N:Nand) (l:List Fl):Nand:=l.foldl flN N
theorem b6g (N:Nand) (l:List Fl) {k:Nat} {x:Fl} (h:l[k]? =some x):a1Q N (l.take (k+1))=flN (a1Q N (l.take k)) x:=by
 unfold a1Q;rw[D2,h,K8,B8];rfl
theorem a7B {N:Nand} {k m:Nat} (h:N.Gd k m):∀(l:List Fl),(a1Q N l).Gd k (m+l.length)
 | []=>h
 | f::l=>by
  have:=a7B (h.fault f.kind f.x f.y f.z f.n f.xx) l;rw[l6,show m+(l.length+1)=m+1+l.length from by omega];exact this
theorem c2E (p n:Nat) (a:Option (Nat×Nat)) (c:Nat) (L:List Fl) (hz:a=none->c=0) (hc:L.length<=c) (hn:L.length<=1000) (N:Nand) (k m:Nat) (hG:N.Gd k m):FP 86 [pp p,pp n] (b0D p a c L++[C3 n N])
  (λv As=>∃a' c',(a'=none->c'=0)/\(a4e N.ops L).length<=c'/\v=iI (V4 N.ops L).length/\As=b0D p a' c' (a4e N.ops L)++[C3 n (a1Q N (V4 N.ops L))]):=by
 refine FE [2,4] Tryz.func86 λX F hX=>?_;refine J.qp (b4v n N) [3] λ_=>?_;refine J.qc (c2G p a c L hz hc hn N.ops) [1,2] λ_=>?_;rintro v As ⟨a',c',a2,c2,hz',hc',rfl,rfl⟩;refine⟨_,rfl,trivial,?_⟩;have hle:(V4 N.ops L).length<=L.length:=c1a _ _;obtain⟨R,hR⟩:∃R,a4e N.ops L=R:=⟨_,rfl⟩;obtain⟨D,hD⟩:∃D,V4 N.ops L=D:=⟨_,rfl⟩;rw[hR]at hc' ⊢;rw[hD]at hle ⊢;refine J.q λ_=>?_;refine J.l (α:=Nat) (λj=>j<=D.length) (λj=>[si 14 j,si 13 D.length,sv 12 (slv a2 D.length c2),sv 5 (slv a2 D.length c2),⟨1,pp n,4, .tt⟩]) [3] (λj=>[C3 n (a1Q N (D.take j))]) (λj=>D.length-j) (0) (j8 _) λj hI=>?_;refine J.qd (λ_ h1=>?_) λ_ h1=>?_
 ·simp only[d6,i6]at h1;obtain⟨x,hx⟩:∃x,D[j]? =some x:=⟨_,c9 (by omega)⟩;have hsn:=b6g N D hx;have hOk:=(a7B hG (D.take j)).ok;refine J.know (λh' s=>D7 (c:=(a2,c2)) (by omega) (s.get (i:=4) rfl)) λhg=>?_;obtain⟨g,rfl⟩:=hg;refine J.q λ_=>?_;refine J.v (flV x) rfl rfl (λhg aa w he hw=>M3 tk rfl rfl he rfl rfl rfl (hw.get (i:=4) rfl) (by rw[show 0+(j:Int).toNat*7=j*7 from by omega];exact a2j flC 7 (λ_=>rfl) D j x hx) rfl) ?_;refine J.qp (a4x n (a1Q N (D.take j)) hOk x.at_ x.kind x.x x.y x.z x.n x.xx) [3] λ_=>?_;rw[show((a1Q N (D.take j)).fault x.kind x.x x.y x.z x.n x.xx).2=a1Q N (D.take (j+1))from hsn.symm];refine J.q λ_=>?_;refine J.n (j+1) (by omega) (by omega) [0,1,2,3,4]
 simp only[c8,i6]at h1;obtain rfl:j=D.length:=by omega
 rw[x9 (j3 _)];refine J.qr [1,2,3] λ_=>?_;rw[hR,hD];exact⟨a',c',hz',hc',rfl,rfl⟩
end
section
structure Td where
 err:Int
 data:List UInt8
structure Stp where
 fn:Int
 lpn:Int
 data:List UInt8
 n:Int
 keep:Int
 f:Fl
def zd:List UInt8:=Mv.z16
structure Pv where
 L:List Fl
 log:List Td
 Z:Option Fv
 M:Nand
def Fv.setN (Z:Fv) (N:Nand):Fv:={Z with S:={Z.S with N:=N}}
namespace Pv
def nd (P:Pv):Nand:=match P.Z with | some Z=>Z.S.N | none=>P.M
def setN (P:Pv) (N:Nand):Pv:=match P.Z with | some Z=>{P with Z:=some (Z.setN N)} | none=>{P with M:=N}
def run (P:Pv):Pv:={P.setN (a1Q P.nd (V4 P.nd.ops P.L))with L:=a4e P.nd.ops P.L}
def mounts (P:Pv):Pv×Int:=
 let N1:=if P.nd.off then P.nd else P.nd.setCut (-1) 0
 let r:=O4 N1.onN
 if r.2=0 then({P with Z:=some (Fv.of r.1)},0)else({P with Z:=none,M:=r.1.N},r.2)
def does (P:Pv) (s:Stp):Pv×Td:=
 if s.fn=1 then(match P.Z with | some Z=>({P with Z:=some (Z.read s.lpn).1},⟨(Z.read s.lpn).2.2,(Z.read s.lpn).2.1⟩) | none=>(P,⟨12,zd⟩))
 else if s.fn=2 then(match P.Z with | some Z=>({P with Z:=some (Z.write s.lpn s.data).1},⟨(Z.write s.lpn s.data).2,zd⟩) | none=>(P,⟨12,zd⟩))
 else if s.fn=3 then(match P.Z with | some Z=>({P with Z:=some (Z.trim s.lpn).1},⟨(Z.trim s.lpn).2,zd⟩) | none=>(P,⟨12,zd⟩))
 else if s.fn=4 then(match P.Z with | some Z=>({P with Z:=some Z.flush.1},⟨Z.flush.2,zd⟩) | none=>(P,⟨12,zd⟩))
 else if s.fn=5 then(match P.Z with | some Z=>({P with Z:=some Z.tick.1},⟨Z.tick.2,zd⟩) | none=>(P,⟨12,zd⟩))
 else if s.fn=6 then(P.setN (P.nd.setCut s.n s.keep),⟨0,zd⟩)
 else if s.fn=7 then(P.mounts.1,⟨P.mounts.2,zd⟩)
 else if s.fn=8 then(P.setN (P.nd.fault s.f.kind s.f.x s.f.y s.f.z s.f.n s.f.xx).2,if(P.nd.fault s.f.kind s.f.x s.f.y s.f.z s.f.n s.f.xx).1 then⟨0,zd⟩else⟨1,zd⟩)
 else(P,⟨1,zd⟩)
def step (P:Pv) (s:Stp):Pv×Td:=({(P.run.does s).1 with log:=(P.run.does s).1.log++[(P.run.does s).2]},(P.run.does s).2)
def new (D B Pg:Nat) (l:List Fl):Pv:=⟨W8 a3C (plF D B Pg l),[],if(O4 (Nand.new D B Pg)).2=0 then some (Fv.of (O4 (Nand.new D B Pg)).1)else none,(O4 (Nand.new D B Pg)).1.N⟩
end Pv
end
section
structure Wa where
 P:Pv
 M:List MPv
 die:Int
 wrong:Bool
 full:Bool
 stuck:Bool
 fs:List Fl
 since:Int
 late:Int
namespace Wa
def lates (W:Wa):Int:=W.late+((W.fs.filter λf=>decide (f.at_>=W.since)).length:Int)
def ask (W:Wa) (s:Stp):Stp:=if s.fn=8 then {s with f:={s.f with x:=W.die}}else s
def skip (s:Stp):Bool:=decide (s.n>1048576)||decide (s.n< -1)
def on (W:Wa):Bool:=!W.P.nd.off&&W.P.Z.isSome
def hold (W:Wa) (s:Stp) (t:Td):List MPv×Bool:=
 if s.fn=1 then(if t.err=0 then Mv.saw W.M s.lpn t.data else W.M,(decide (t.err=0)&& !Mv.may W.M s.lpn t.data)||decide (t.err=10)||decide (t.err=11)||(decide (t.err=3)&&decide (s.lpn>=0)&&decide (s.lpn<(W.M.length:Int))))
 else if s.fn=2\/s.fn=3 then(if t.err=0 then Mv.write W.M s.lpn (if s.fn=3 then zd else s.data)else W.M,decide (t.err=0)&& !Mv.inR W.M s.lpn)
 else if s.fn=4 then(if t.err=0 then Mv.flush W.M else W.M,false)
 else(W.M,false)
def step (W:Wa) (s:Stp):Wa:=
 if W.stuck then W
 else
  let W1:Wa:=if s.fn=8 then {W with late:=W.late+1}else W
  if skip s then W1
  else
   let r:=W.P.step (W.ask s)
   let off:=r.1.nd.off
   let h:=W.hold s r.2
   let W2:Wa:={W1 with P:=r.1,M:=h.1,wrong:=W.wrong||h.2,full:=W.full||(decide (r.2.err=11)&&decide (s.fn≠7))}
   if s.fn=7 then
    let st:=decide (r.2.err=11)&& !off&&decide (W2.lates>1)
    let W3:Wa:={W2 with M:=Mv.cut W2.M,stuck:=st,wrong:=W2.wrong||(decide (r.2.err≠0)&& !off&& !st)}
    if r.2.err=0 then {W3 with since:=r.1.nd.ops,late:=0}else W3
   else {W2 with wrong:=W2.wrong||(W.on&& !off&&(decide (r.2.err=9)||decide (r.2.err=12)))}
def fx (u:Int) (f:Fl):Fl:={f with x:=u}
def dieI (die:Int) (D:Nat):Int:=(die.tmod D+D).tmod D
def fl (D:Nat) (die:Int) (l:List Fl):List Fl:=(l.take 15).map (fx (dieI die D))
def new (D B P:Nat) (die:Int) (l:List Fl):Wa:=⟨Pv.new D B P (fl D die l),Mv.new (lgN D B P),dieI die D,false,false,false,fl D die l,0,0⟩
end Wa
end
section
open Go Go.RowKit
structure Pad where
 f:Nat
 p:Nat
 t:Nat
 l:Nat
 d:Nat
 fp:Nat
 a:Option (Nat×Nat)
 c:Nat
 a2:Option Nat
 c2:Nat
def tdC (t:Td):List Value:=[iI t.err,byC t.data 0,byC t.data 1,byC t.data 2,byC t.data 3,byC t.data 4,byC t.data 5,byC t.data 6,byC t.data 7,byC t.data 8,byC t.data 9,byC t.data 10,byC t.data 11,byC t.data 12,byC t.data 13,byC t.data 14,byC t.data 15]
def tdV (t:Td):Value:= .agg (tdC t).toArray
def U0 (l:List Td):List Value:=l.flatMap tdC
def flP (o:Option Fv) (f:Nat):Value:=match o with | some _=>pp f | none=> .pointer none
def a4I (n:Nat) (A:Pad) (P:Pv):List Atom:=match P.Z with | some Z=>FvP A.f A.p n A.t A.l A.d Z | none=>[C3 n P.M]
def a3f (q n:Nat) (A:Pad) (P:Pv):List Atom:=[.pt q 142 [pp n,flP P.Z A.f,pp A.fp,slv A.a2 P.log.length A.c2], .pt A.fp 218 [.slice (R6 A.a) P.L.length A.c],rdA (R6 A.a) 7 P.L.length (A7 P.L),l9 83 17 A.a2 P.log.length A.c2 (U0 P.log)]++a4I n A P
structure Pad.Ok (A:Pad) (P:Pv):Prop where
 z:A.a=none->A.c=0
 c:P.L.length<=A.c
theorem a7u (q n:Nat) (r:Value) (r2 r3:Value):FP 71 [pp q] [.pt q 142 [pp n,r,r2,r3]] (λv As=>v=pp n/\As=[.pt q 142 [pp n,r,r2,r3]]):=by
 refine FE [2] Tryz.func71 λX F hX=>?_;refine J.qF λ_=>?_;exact J.qx [1]
theorem a4U (q n:Nat) (o:Option Fv) (f:Nat) (r2 r3:Value):FP 25 [pp q] [.pt q 142 [pp n,flP o f,r2,r3]] (λv As=>v=flP o f/\As=[.pt q 142 [pp n,flP o f,r2,r3]]):=by
 refine FE [2] Tryz.func25 λX F hX=>?_;refine J.qF λ_=>?_;cases o with
 | none=>
  exact J.qx [1]
 | some Z=>
  exact J.qx [1]
theorem b4s (a:Option Nat):oad a=R6 (a.map λg=>(g,0)):=by cases a<;>rfl
theorem b1B (d b p:Nat) (h:L4 d b p=true) (k:Nat) (hk:k<4611686018427387904):(Nand.new d b p).Gd k 0:=by
 have g:=Nand.Gd.new d b p h 0 (by omega);exact⟨g.ok,by show(0:Int)+k<_;omega,by show(0:Int)+k<_;omega,g.nodup,g.few⟩
theorem b7q (D B Pg:Nat) (hg:L4 D B Pg=true) (A:Atom) (ad:Option Addr) (n c:Nat) (l:List Fl) (hA:Rd A ad 7 n (A7 l)) (hl:l.length=n) (hn:n<=15):FP 40 [.agg #[iI D,iI B,iI Pg], .slice ad n c] [A] (λv As=>∃q nn A',v=pp q/\A'.Ok (Pv.new D B Pg l)/\As=A::a3f q nn A' (Pv.new D B Pg l)):=by
 have hbd:(3<=D/\D<=6)/\(8<=B/\B<=16)/\(2<=Pg/\Pg<=8):=by simp[L4]at hg;omega
 refine FE [0,0] Tryz.func40 λX F hX=>?_;refine J.qc (a9U D B Pg hg) [] λ_=>?_;rintro v As ⟨nn,rfl,rfl⟩;refine⟨_,rfl,trivial,?_⟩;refine J.qF λ_=>?_;have hG:(Nand.new D B Pg).Gd (Dv.costK+0) 0:=b1B D B Pg hg _ (by decide);refine J.qc (a4i nn (Nand.new D B Pg) 0 0 hG (by decide) rfl) [3] λ_=>?_;have hlen:(W8 a3C (plF D B Pg l)).length=(plF D B Pg l).length:=(a6P _ _).length_eq;rintro v As (⟨he,f,p,t,ll,d,rfl,rfl⟩ | ⟨he,rfl,rfl⟩)
 ·refine⟨_,rfl,trivial,?_⟩;refine J.qc (c0Z D B Pg (by omega) (by omega) (by omega) A ad n c l hA hl hn) [1] λ_=>?_;rintro v As ⟨fp,a,c',rfl,rfl⟩;refine⟨_,rfl,trivial,?_⟩;refine J.know (λh' s=>a0Z (show a1j _ _ a (plF D B Pg l).length c' _ _ from s.get (i:=10) rfl)) λhcap=>?_;refine J.know (λh' s=>a8k (show a1j _ _ a (plF D B Pg l).length c' _ _ from s.get (i:=10) rfl)) λhnil=>?_;have hsl:∀n c,slv a n c= .slice (R6 (a.map λg=>(g,0))) n c:=λn c=>by cases a<;>rfl
  rw[hsl];refine J.turn1 [10] rfl (As:=[rdA (R6 (a.map λg=>(g,0))) 7 (plF D B Pg l).length (A7 (W8 a3C (plF D B Pg l)))]) (λh s=>Sep.one (by have:=Y6 41 7 a (plF D B Pg l).length c' (A7 (W8 a3C (plF D B Pg l))) _ (s.get (i:=0) rfl);rw[b4s]at this;exact this)) rfl ?_;refine J.turn1 [] rfl (As:=[l9 83 17 none 0 0 (U0 [])]) (λh s=>Sep.one ⟨rfl,rfl,rfl⟩) rfl ?_;refine J.q λbq=>?_;refine J.ru hX [1,12,9,10,11,3,4,5,6,7,8] ?_;refine⟨bq 0,nn,⟨f,p,t,ll,d,fp,a.map λg=>(g,0),c',none,0⟩,rfl,⟨λe=>hnil (by cases a with | none=>rfl | some g=>cases e),by show(W8 a3C (plF D B Pg l)).length<=_;rw[hlen];exact hcap⟩,?_⟩;unfold a3f a4I;show _=A::([.pt (bq 0) 142 [pp nn,flP (if(O4 (Nand.new D B Pg)).2=0 then some (Fv.of (O4 (Nand.new D B Pg)).1)else none) _,_,_], .pt fp _ [.slice _ (W8 a3C (plF D B Pg l)).length _],rdA _ 7 (W8 a3C (plF D B Pg l)).length _,_]++(match(if(O4 (Nand.new D B Pg)).2=0 then some (Fv.of (O4 (Nand.new D B Pg)).1)else none)with | some Z=>_ | none=>_));rw[d7 he,hlen];rfl
 ·refine⟨_,rfl,trivial,?_⟩;refine J.qc (c0Z D B Pg (by omega) (by omega) (by omega) A ad n c l hA hl hn) [1] λ_=>?_;rintro v As ⟨fp,a,c',rfl,rfl⟩;refine⟨_,rfl,trivial,?_⟩;refine J.know (λh' s=>a0Z (show a1j _ _ a (plF D B Pg l).length c' _ _ from s.get (i:=5) rfl)) λhcap=>?_;refine J.know (λh' s=>a8k (show a1j _ _ a (plF D B Pg l).length c' _ _ from s.get (i:=5) rfl)) λhnil=>?_;have hsl:∀n c,slv a n c= .slice (R6 (a.map λg=>(g,0))) n c:=λn c=>by cases a<;>rfl
  rw[hsl];refine J.turn1 [5] rfl (As:=[rdA (R6 (a.map λg=>(g,0))) 7 (plF D B Pg l).length (A7 (W8 a3C (plF D B Pg l)))]) (λh s=>Sep.one (by have:=Y6 41 7 a (plF D B Pg l).length c' (A7 (W8 a3C (plF D B Pg l))) _ (s.get (i:=0) rfl);rw[b4s]at this;exact this)) rfl ?_;refine J.turn1 [] rfl (As:=[l9 83 17 none 0 0 (U0 [])]) (λh s=>Sep.one ⟨rfl,rfl,rfl⟩) rfl ?_;refine J.q λbq=>?_;refine J.ru hX [1,7,4,5,6,3] ?_;refine⟨bq 0,nn,⟨0,0,0,0,0,fp,a.map λg=>(g,0),c',none,0⟩,rfl,⟨λe=>hnil (by cases a with | none=>rfl | some g=>cases e),by show(W8 a3C (plF D B Pg l)).length<=_;rw[hlen];exact hcap⟩,?_⟩;unfold a3f a4I;show _=A::([.pt (bq 0) 142 [pp nn,flP (if(O4 (Nand.new D B Pg)).2=0 then some (Fv.of (O4 (Nand.new D B Pg)).1)else none) _,_,_], .pt fp _ [.slice _ (W8 a3C (plF D B Pg l)).length _],rdA _ 7 (W8 a3C (plF D B Pg l)).length _,_]++(match(if(O4 (Nand.new D B Pg)).2=0 then some (Fv.of (O4 (Nand.new D B Pg)).1)else none)with | some Z=>_ | none=>_));rw[d4 he,hlen];rfl
def stC (s:Stp):List Value:=[iI s.fn,iI s.lpn,byC s.data 0,byC s.data 1,byC s.data 2,byC s.data 3,byC s.data 4,byC s.data 5,byC s.data 6,byC s.data 7,byC s.data 8,byC s.data 9,byC s.data 10,byC s.data 11,byC s.data 12,byC s.data 13,byC s.data 14,byC s.data 15,iI s.n,iI s.keep,iI s.f.at_,iI s.f.kind,iI s.f.x,iI s.f.y,iI s.f.z,iI s.f.n,iI s.f.xx]
def stV (s:Stp):Value:= .agg (stC s).toArray
def PlQ (q n:Nat) (o:Option Fv) (f:Nat) (r2 r3:Value):Atom:= .pt q 142 [pp n,flP o f,r2,r3]
theorem b5s (q n:Nat) (A:Pad) (P:Pv) (Z:Fv) (hZ:P.Z=some Z) (r2 r3:Value) (k m:Nat) (hG:Z.S.N.Gd (Dv.costK+k) m) (hm:m<=1000):FP 137 [pp q] (PlQ q n P.Z A.f r2 r3::a4I n A P) (λv As=>∃A':Pad,v=iI P.mounts.2/\(A'.fp=A.fp/\A'.a=A.a/\A'.c=A.c/\A'.a2=A.a2/\A'.c2=A.c2)/\((∃Y,P.mounts.1={P with Z:=some Y}/\As=PlQ q n (some Y) A'.f r2 r3::FvP A'.f A'.p n A'.t A'.l A'.d Y)\/∃M,P.mounts.1={P with Z:=none,M:=M}/\As=[PlQ q n none A'.f r2 r3,C3 n M])):=by
 have hnd:P.nd=Z.S.N:=by unfold Pv.nd;rw[hZ]
 have hms:P.mounts=if(O4 ((if Z.S.N.off then Z.S.N else Z.S.N.setCut (-1) 0).onN)).2=0 then({P with Z:=some (Fv.of (O4 ((if Z.S.N.off then Z.S.N else Z.S.N.setCut (-1) 0).onN)).1)},0)else({P with Z:=none,M:=(O4 ((if Z.S.N.off then Z.S.N else Z.S.N.setCut (-1) 0).onN)).1.N},(O4 ((if Z.S.N.off then Z.S.N else Z.S.N.setCut (-1) 0).onN)).2):=by unfold Pv.mounts;rw[hnd]
 rw[show a4I n A P=FvP A.f A.p n A.t A.l A.d Z from by unfold a4I;rw[hZ],hZ];refine FE [2] Tryz.func137 λX F hX=>?_;refine J.qp (a3r n Z.S.N) [4] λ_=>?_;refine J.qd (λ_ h1=>?_) λ_ h1=>?_
 ·have hoff:Z.S.N.off=false:=by simpa using h1
  have e:(if Z.S.N.off=true then Z.S.N else Z.S.N.setCut (-1) 0)=Z.S.N.setCut (-1) 0:=d4 (by rw[hoff];decide);rw[e]at hms;have hG2:(Z.S.N.setCut (-1) 0).onN.Gd (Dv.costK+k) m:=(hG.cut (-1) 0 (by decide) (by decide)).on;refine J.qp (b4x n Z.S.N (-1) 0) [4] λ_=>?_;refine J.qp (c0h n (Z.S.N.setCut (-1) 0)) [4] λ_=>?_;refine J.qc (a4i n ((Z.S.N.setCut (-1) 0)).onN k m hG2 hm rfl) [4] λ_=>?_;rintro v As (⟨he,f,p,t,ll,d,rfl,rfl⟩ | ⟨he,rfl,rfl⟩)
  ·refine⟨_,rfl,trivial,?_⟩;rw[d7 he]at hms;refine J.qr [1,4,8,9,10,11,12] λ_=>?_;exact⟨⟨f,p,t,ll,d,A.fp,A.a,A.c,A.a2,A.c2⟩,by rw[hms],⟨rfl,rfl,rfl,rfl,rfl⟩, .inl ⟨_,by rw[hms],rfl⟩⟩
  ·refine⟨_,rfl,trivial,?_⟩;rw[d4 he]at hms;refine J.qr [1,4] λ_=>?_;exact⟨A,by rw[hms],⟨rfl,rfl,rfl,rfl,rfl⟩, .inr ⟨_,by rw[hms],rfl⟩⟩
 ·have hoff:Z.S.N.off=true:=by simpa using h1
  have e:(if Z.S.N.off=true then Z.S.N else Z.S.N.setCut (-1) 0)=Z.S.N:=d7 hoff;rw[e]at hms;have hG2:Z.S.N.onN.Gd (Dv.costK+k) m:=hG.on;refine J.qp (c0h n Z.S.N) [4] λ_=>?_;refine J.qc (a4i n (Z.S.N).onN k m hG2 hm rfl) [4] λ_=>?_;rintro v As (⟨he,f,p,t,ll,d,rfl,rfl⟩ | ⟨he,rfl,rfl⟩)
  ·refine⟨_,rfl,trivial,?_⟩;rw[d7 he]at hms;refine J.qr [1,4,8,9,10,11,12] λ_=>?_;exact⟨⟨f,p,t,ll,d,A.fp,A.a,A.c,A.a2,A.c2⟩,by rw[hms],⟨rfl,rfl,rfl,rfl,rfl⟩, .inl ⟨_,by rw[hms],rfl⟩⟩
  ·refine⟨_,rfl,trivial,?_⟩;rw[d4 he]at hms;refine J.qr [1,4] λ_=>?_;exact⟨A,by rw[hms],⟨rfl,rfl,rfl,rfl,rfl⟩, .inr ⟨_,by rw[hms],rfl⟩⟩
theorem b9V (q n:Nat) (A:Pad) (P:Pv) (Z:Fv) (hZ:P.Z=some Z) (r2 r3:Value) (k m:Nat) (hO:Z.Ok (Fv.cW*200+(Dv.costS+(Dv.costK+(1+k)))) m) (hm:m<=1000) (s:Stp) (hs:s.data.length=16):FP 87 [pp q,stV s] (PlQ q n P.Z A.f r2 r3::a4I n A P) (λv As=>∃A':Pad,v=tdV (P.does s).2/\(A'.fp=A.fp/\A'.a=A.a/\A'.c=A.c/\A'.a2=A.a2/\A'.c2=A.c2)/\((∃Y,(P.does s).1={P with Z:=some Y}/\As=PlQ q n (some Y) A'.f r2 r3::FvP A'.f A'.p n A'.t A'.l A'.d Y)\/∃M,(P.does s).1={P with Z:=none,M:=M}/\As=[PlQ q n none A'.f r2 r3,C3 n M])):=by
 have hnd:P.nd=Z.S.N:=by unfold Pv.nd;rw[hZ]
 have hdv:∀Y,a4I n A {P with Z:=some Y}=FvP A.f A.p n A.t A.l A.d Y:=λY=>rfl;have hs1:∀b,s.fn=b->True:=λ_ _=>trivial;rw[show a4I n A P=FvP A.f A.p n A.t A.l A.d Z from by unfold a4I;rw[hZ],hZ];refine FE [2,0] Tryz.func87 λX F hX=>?_;refine J.qd (λ_ h1=>?_) λ_ h1=>?_
 ·have e1:s.fn=1:=by simpa using h1
  have hd:P.does s=({P with Z:=some (Z.read s.lpn).1},⟨(Z.read s.lpn).2.2,(Z.read s.lpn).2.1⟩):=by unfold Pv.does;rw[d7 e1,hZ]
  refine J.pn 7 (.take true 0 (.take true 1 (.take true 2 (.take false 3 (.take true 4 (.take false 5 (.alt false 6 ((.of [28,32,36,42,46,48])) (.alt false 10 ((.of [26,28,32,36,46,48])) .non)))))))) [12] [1,8] λ_ _=>?_;refine J.alts ?_ ?_
  ·skip
   refine J.qp (a4B A.f A.p n A.t A.l A.d Z _ m hO s.lpn) [2,3,4,5,6,7] λ_=>?_;refine J.qr [1,2,3,4,5,6,7] λ_=>?_;refine⟨A,?_,⟨rfl,rfl,rfl,rfl,rfl⟩, .inl ⟨_,by rw[hd],rfl⟩⟩;rw[hd];rfl
  ·skip
   refine J.qn 1 λ_=>?_;refine J.qp (a4B A.f A.p n A.t A.l A.d Z _ m hO s.lpn) [2,3,4,5,6,7] λ_=>?_;refine J.qr [1,2,3,4,5,6,7] λ_=>?_;refine⟨A,?_,⟨rfl,rfl,rfl,rfl,rfl⟩, .inl ⟨_,by rw[hd],rfl⟩⟩;rw[hd];rfl
 have e1:s.fn≠1:=by simpa using h1
 refine J.qd (λ_ h2=>?_) λ_ h2=>?_
 ·have e2:s.fn=2:=by simpa using h2
  have hd:P.does s=({P with Z:=some (Z.write s.lpn s.data).1},⟨(Z.write s.lpn s.data).2,zd⟩):=by unfold Pv.does;rw[d4 e1,d7 e2,hZ]
  refine J.pq (.of [0,4,8,13,16,21,24,29,34,36,43]) [10] [1,8] λ_ _=>?_;refine J.ca hX (by kernel_rfl) (a8G A.f A.p n A.t A.l A.d Z _ m (hO.less (k':=Fv.cW+(1+k)) (by omega)) hm s.lpn s.data hs) [2,3,4,5,6,7] 0 rfl rfl rfl rfl rfl rfl (λ_=>rfl) ?_;refine cpq ⟨_,rfl,stq,?_⟩;refine J.qr [1,2,3,4,5,6,7] λ_=>?_;refine⟨A,?_,⟨rfl,rfl,rfl,rfl,rfl⟩, .inl ⟨_,by rw[hd],rfl⟩⟩;rw[hd];rfl
 have e2:s.fn≠2:=by simpa using h2
 refine J.qd (λ_ h3=>?_) λ_ h3=>?_
 ·have e3:s.fn=3:=by simpa using h3
  have hd:P.does s=({P with Z:=some (Z.trim s.lpn).1},⟨(Z.trim s.lpn).2,zd⟩):=by unfold Pv.does;rw[d4 e1,d4 e2,d7 e3,hZ]
  refine J.pq (.of [0,4,8,13,16,21,26,28,35]) [8] [1,8] λ_ _=>?_;refine J.ca hX (by kernel_rfl) (b4M A.f A.p n A.t A.l A.d Z _ m (hO.less (k':=Fv.cW+(1+k)) (by omega)) hm s.lpn) [2,3,4,5,6,7] 0 rfl rfl rfl rfl rfl rfl (λ_=>rfl) ?_;refine cpq ⟨_,rfl,stq,?_⟩;refine J.qr [1,2,3,4,5,6,7] λ_=>?_;refine⟨A,?_,⟨rfl,rfl,rfl,rfl,rfl⟩, .inl ⟨_,by rw[hd],rfl⟩⟩;rw[hd];rfl
 have e3:s.fn≠3:=by simpa using h3
 refine J.qd (λ_ h4=>?_) λ_ h4=>?_
 ·have e4:s.fn=4:=by simpa using h4
  have hd:P.does s=({P with Z:=some Z.flush.1},⟨Z.flush.2,zd⟩):=by unfold Pv.does;rw[d4 e1,d4 e2,d4 e3,d7 e4,hZ]
  refine J.q λ_=>?_;refine J.ca hX (by kernel_rfl) (b2G A.f A.p n A.t A.l A.d Z _ m (hO.less (k':=Fv.cW*200+k) (by omega)) hm) [2,3,4,5,6,7] 0 rfl rfl rfl rfl rfl rfl (λ_=>rfl) ?_;refine cpq ⟨_,rfl,trivial,?_⟩;refine J.qr [1,2,3,4,5,6,7] λ_=>?_;refine⟨A,?_,⟨rfl,rfl,rfl,rfl,rfl⟩, .inl ⟨_,by rw[hd],rfl⟩⟩;rw[hd];rfl
 have e4:s.fn≠4:=by simpa using h4
 refine J.qd (λ_ h5=>?_) λ_ h5=>?_
 ·have e5:s.fn=5:=by simpa using h5
  have hd:P.does s=({P with Z:=some Z.tick.1},⟨Z.tick.2,zd⟩):=by unfold Pv.does;rw[d4 e1,d4 e2,d4 e3,d4 e4,d7 e5,hZ]
  refine J.q λ_=>?_;refine J.ca hX (by kernel_rfl) (b4N A.f A.p n A.t A.l A.d Z _ m (hO.less (k':=Dv.costS+k) (by omega)) hm) [2,3,4,5,6,7] 0 rfl rfl rfl rfl rfl rfl (λ_=>rfl) ?_;refine cpq ⟨_,rfl,trivial,?_⟩;refine J.qr [1,2,3,4,5,6,7] λ_=>?_;refine⟨A,?_,⟨rfl,rfl,rfl,rfl,rfl⟩, .inl ⟨_,by rw[hd],rfl⟩⟩;rw[hd];rfl
 have e5:s.fn≠5:=by simpa using h5
 refine J.qd (λ_ h6=>?_) λ_ h6=>?_
 ·have e6:s.fn=6:=by simpa using h6
  have hd:P.does s=(P.setN (Z.S.N.setCut s.n s.keep),⟨0,zd⟩):=by unfold Pv.does;rw[d4 e1,d4 e2,d4 e3,d4 e4,d4 e5,d7 e6,hnd]
  have hsn:P.setN (Z.S.N.setCut s.n s.keep)={P with Z:=some (Z.setN (Z.S.N.setCut s.n s.keep))}:=by unfold Pv.setN;rw[hZ]
  rw[hsn]at hd;refine J.p (.of [0,4,8,13,16,21,24,29,34]) [] [1,8] λ_=>?_;refine J.qp (b4x n Z.S.N s.n s.keep) [4] λ_=>?_;refine J.qr [1,2,3,4,5,6,7] λ_=>?_;refine⟨A,?_,⟨rfl,rfl,rfl,rfl,rfl⟩, .inl ⟨_,by rw[hd],rfl⟩⟩;rw[hd];rfl
 have e6:s.fn≠6:=by simpa using h6
 refine J.qd (λ_ h7=>?_) λ_ h7=>?_
 ·have e7:s.fn=7:=by simpa using h7
  have hd:P.does s=(P.mounts.1,⟨P.mounts.2,zd⟩):=by unfold Pv.does;rw[d4 e1,d4 e2,d4 e3,d4 e4,d4 e5,d4 e6,d7 e7]
  have hmm:=b5s q n A P Z hZ r2 r3 _ m (hO.dv.gd.less (k':=Dv.costK+(1+k)) (by omega) (j3 m)) hm;rw[show a4I n A P=FvP A.f A.p n A.t A.l A.d Z from by unfold a4I;rw[hZ],hZ]at hmm;refine J.qc (hmm) [1,2,3,4,5,6,7] λ_=>?_;rintro v As ⟨A',rfl,hA',(⟨Y,hY,rfl⟩ | ⟨M,hY,rfl⟩)⟩
  ·refine⟨_,rfl,trivial,?_⟩;refine J.qr [1,2,3,4,5,6,7] λ_=>?_;refine⟨A',?_,hA', .inl ⟨Y,by rw[hd,hY],rfl⟩⟩;rw[hd];rfl
  ·refine⟨_,rfl,trivial,?_⟩;refine J.qr [1,2] λ_=>?_;refine⟨A',?_,hA', .inr ⟨M,by rw[hd,hY],rfl⟩⟩;rw[hd];rfl
 have e7:s.fn≠7:=by simpa using h7
 refine J.qd (λ_ h8=>?_) λ_ h8=>?_
 ·have e8:s.fn=8:=by simpa using h8
  obtain⟨Q,hQ⟩:∃Q,Q=Z.S.N.fault s.f.kind s.f.x s.f.y s.f.z s.f.n s.f.xx:=⟨_,rfl⟩;have hd:P.does s=({P with Z:=some (Z.setN Q.2)},if Q.1 then⟨0,zd⟩else⟨1,zd⟩):=by unfold Pv.does;rw[d4 e1,d4 e2,d4 e3,d4 e4,d4 e5,d4 e6,d4 e7,d7 e8,hnd,<- hQ];unfold Pv.setN;rw[hZ]
  refine J.p (.of [0,4,8,13,16,21,26]) [] [1,8] λ_=>?_;refine J.qp (a4x n Z.S.N hO.dv.gd.ok s.f.at_ s.f.kind s.f.x s.f.y s.f.z s.f.n s.f.xx) [4] λ_=>?_;rw[<- hQ];refine J.qd (λ_ h9=>?_) λ_ h9=>?_
  ·rw[d7 h9]at hd;refine J.qr [1,2,3,4,5,6,7] λ_=>?_;refine⟨A,?_,⟨rfl,rfl,rfl,rfl,rfl⟩, .inl ⟨_,by rw[hd],rfl⟩⟩;rw[hd];rfl
  ·rw[d4 (by rw[h9];decide)]at hd;refine J.qr [1,2,3,4,5,6,7] λ_=>?_;refine⟨A,?_,⟨rfl,rfl,rfl,rfl,rfl⟩, .inl ⟨_,by rw[hd],rfl⟩⟩;rw[hd];rfl
 have e8:s.fn≠8:=by simpa using h8
 have hd:P.does s=(P,⟨1,zd⟩):=by unfold Pv.does;rw[d4 e1,d4 e2,d4 e3,d4 e4,d4 e5,d4 e6,d4 e7,d4 e8]
 refine J.qr [1,2,3,4,5,6,7] λ_=>?_;refine⟨A,?_,⟨rfl,rfl,rfl,rfl,rfl⟩, .inl ⟨Z,?_,rfl⟩⟩
 ·rw[hd];rfl
 ·rw[hd];show P={P with Z:=some Z};rw[<- hZ]
theorem Dv.Ok.setN {S:Dv} {k m m':Nat} {N:Nand} (h:S.Ok k m) (hl:S.N.Like N) (hG:N.Gd k m'):({S with N:=N}:Dv).Ok k m':=⟨hG,h.t.like hl,h.T,h.sl,h.row,h.next⟩
theorem Fv.Ok.setN {Z:Fv} {k m m':Nat} {N:Nand} (h:Z.Ok k m) (hl:Z.S.N.Like N) (hG:N.Gd k m'):(Z.setN N).Ok k m':=⟨h.dv.setN hl hG,h.dat,λe he=>by have:=h.rng e he;unfold Fv.lg at this ⊢;rw[show(Z.setN N).S.N=N from rfl,b2u hl];exact this,h.nd,h.nx⟩
theorem a8A (N:Nand):∀(l:List Fl),N.Like (a1Q N l)
 | []=>Nand.Like.refl N
 | f::l=>(Nand.like_fault N f.kind f.x f.y f.z f.n f.xx).trans (a8A (flN N f) l)
theorem a5N (l:List Td) (x:Td):U0 l++tdC x=U0 (l++[x]):=by unfold U0;rw[K1];simp
theorem a7t (q n:Nat) (A:Pad) (P:Pv) (hA:A.Ok P) (Z:Fv) (hZ:P.Z=some Z) (k m:Nat) (hO:Z.Ok (Fv.cW*200+(Dv.costS+(Dv.costK+(1+k)))) m) (hm:m+(V4 Z.S.N.ops P.L).length<=1000) (hL:P.L.length<=1000) (hlg:P.log.length<=1000) (s:Stp) (hs:s.data.length=16):FP 41 [pp q,stV s] (a3f q n A P) (λv As=>∃A':Pad,v=tdV (P.step s).2/\A'.Ok (P.step s).1/\As=a3f q n A' (P.step s).1):=by
 have hnd:P.nd=Z.S.N:=by unfold Pv.nd;rw[hZ]
 obtain⟨D,hD⟩:∃D,V4 Z.S.N.ops P.L=D:=⟨_,rfl⟩;obtain⟨R,hR⟩:∃R,a4e Z.S.N.ops P.L=R:=⟨_,rfl⟩;rw[hD]at hm;have hrun:P.run=⟨R,P.log,some (Z.setN (a1Q Z.S.N D)),P.M⟩:=by unfold Pv.run;rw[hnd,hD,hR];unfold Pv.setN;rw[hZ]
 have hO2:(Z.setN (a1Q Z.S.N D)).Ok (Fv.cW*200+(Dv.costS+(Dv.costK+(1+k)))) (m+D.length):=hO.setN (a8A _ _) (a7B hO.dv.gd D);have hst:P.step s=({(P.run.does s).1 with log:=(P.run.does s).1.log++[(P.run.does s).2]},(P.run.does s).2):=rfl;unfold a3f;rw[show a4I n A P=FvP A.f A.p n A.t A.l A.d Z from by unfold a4I;rw[hZ],hZ];refine FE [2,0] Tryz.func41 λX F hX=>?_;refine J.qF λ_=>?_;refine J.p (.of [0,4,8,13,16,20,24,29,34]) [] [1] λ_=>?_;refine J.qc (c2E A.fp n A.a A.c P.L hA.z hA.c hL Z.S.N _ m hO.dv.gd) [2,3,7] λ_=>?_;rintro v As ⟨a',c',hz',hc',rfl,rfl⟩;refine⟨_,rfl,stq,?_⟩;rw[hR]at hc' ⊢;rw[hD];have hdo:=b9V q n A ⟨R,P.log,some (Z.setN (a1Q Z.S.N D)),P.M⟩ (Z.setN (a1Q Z.S.N D)) rfl (pp A.fp) (slv A.a2 P.log.length A.c2) k (m+D.length) hO2 hm s hs;rw[<- hrun]at hdo;rw[hrun]at hdo;obtain⟨W,hW⟩:∃W,(⟨R,P.log,some (Z.setN (a1Q Z.S.N D)),P.M⟩:Pv).does s=W:=⟨_,rfl⟩;rw[hrun,hW]at hst;rw[hW]at hdo;obtain⟨Wp,wt⟩:=W;dsimp only at hdo hst;refine J.qc (hdo) [1,5,6,7,8,9,10] λ_=>?_;rintro v As ⟨A',rfl,⟨q1,q2,q3,q4,q5⟩,(⟨Y,hY,rfl⟩ | ⟨M,hY,rfl⟩)⟩
 ·refine⟨_,rfl,trivial,?_⟩;refine J.pq (.of [0,4,8,12,17,21,26,30,32,36,43]) [8,9,10] [1,13] λ_ _=>?_;refine J.ap 4 14 0 (a5N P.log wt) λa3 c3=>?_;refine J.qr [1,2,3,4,5,6,7,8,9,10] λ_=>?_;refine⟨⟨A'.f,A'.p,A'.t,A'.l,A'.d,A.fp,a',c',a3,c3⟩,?_,?_,?_⟩
  ·rw[hst];rfl
  ·rw[hst,hY];exact⟨hz',hc'⟩
  ·rw[hst,hY];dsimp only;rw[d8];rfl
 ·refine⟨_,rfl,trivial,?_⟩;refine J.pq (.of [0,4,8,12,17,21,26,30,32,36,43]) [8,9,10] [1,13] λ_ _=>?_;refine J.ap 4 14 0 (a5N P.log wt) λa3 c3=>?_;refine J.qr [1,2,3,4,5] λ_=>?_;refine⟨⟨A'.f,A'.p,A'.t,A'.l,A'.d,A.fp,a',c',a3,c3⟩,?_,?_,?_⟩
  ·rw[hst];rfl
  ·rw[hst,hY];exact⟨hz',hc'⟩
  ·rw[hst,hY];dsimp only;rw[d8];rfl
theorem b2T (l:List Td):∀u∈U0 l,u.oneCell'=true:=by
 intro u hu;simp only[U0,K6]at hu;obtain⟨s,_,hu⟩:=hu;simp only[tdC,I3,V5,a5S]at hu;rcases hu with rfl | rfl | rfl | rfl | rfl | rfl | rfl | rfl | rfl | rfl | rfl | rfl | rfl | rfl | rfl | rfl | rfl<;>rfl
theorem b5c (a:Option Nat) (n cap:Nat) (l:List Td) (hl:l.length=n) (hn:n<=1000000):FP 88 [slv a n cap] [l9 83 17 a n cap (U0 l)]
  (λv As=>∃a' c',v=slv a' n c'/\As=[l9 83 17 a n cap (U0 l),l9 83 17 a' n c' (U0 l)]):=by
 refine FE [0] Tryz.func88 λX F hX=>?_;cases a with
 | none=>
  refine J.know (λh' s=>(s.get (i:=1) rfl).2) λhn0=>?_;obtain⟨rfl,rfl⟩:=hn0;have:l=[]:=m7 hl;subst this;refine J.qT λ_=>?_;refine J.turn1 [] rfl (As:=[l9 83 17 none 0 0 (U0 [])]) (λh s=>Sep.one ⟨rfl,rfl,rfl⟩) rfl ?_;refine J.qr [1,2] λ_=>?_;exact⟨none,0,rfl,rfl⟩
 | some g=>
  refine J.qF λ_=>?_;refine J.qn 5 λbb=>?_;refine J.closeOwn (e:=83) (size:=17) (n:=0) (cap:=0) (xs:=[]) 2 rfl rfl rfl (j3 _) (j8 _) rfl rfl rfl ?_;refine J.q λ_=>?_;refine J.appendR hX tk (a:=some (bb 0)) (n:=0) (cap:=0) (xs:=[]) (oo:=0) (Ay:=l9 83 17 (some g) n cap (U0 l)) 2 1 0 rfl rfl rfl rfl rfl rfl rfl rfl rfl rfl (Y6 _ _ (some g) _ _ _) rfl rfl rfl rfl (b2T l) ?_ ?_ (λ_=>rfl) λa' c'=>⟨_,rfl,trivial,?_⟩
  ·simp only[maxLen];omega
  ·omega
  rw[J6 n,R9];refine J.qr [1,2] λ_=>?_;exact⟨a',c',rfl,rfl⟩
theorem c1E (q n:Nat) (A:Pad) (P:Pv) (hl:P.log.length<=1000):FP 42 [pp q] [PlQ q n P.Z A.f (pp A.fp) (slv A.a2 P.log.length A.c2),l9 83 17 A.a2 P.log.length A.c2 (U0 P.log)]
  (λv As=>∃a' c',v=slv a' P.log.length c'/\As=[PlQ q n P.Z A.f (pp A.fp) (slv A.a2 P.log.length A.c2),l9 83 17 A.a2 P.log.length A.c2 (U0 P.log),l9 83 17 a' P.log.length c' (U0 P.log)]):=by
 refine FE [2] Tryz.func42 λX F hX=>?_;refine J.qF λ_=>?_;refine J.qc (b5c A.a2 P.log.length A.c2 P.log rfl (by omega)) [2] λ_=>?_;rintro v As ⟨a',c',rfl,rfl⟩;refine⟨_,rfl,trivial,?_⟩;refine J.qr [1,2,3] λ_=>?_;exact⟨a',c',rfl,rfl⟩
def b4T (d b p:Int):Int:=if L4 d b p then 12*d*b*p+40 else 0
theorem c2n (d b p:Int):FP 45 [.agg #[iI d,iI b,iI p]] [] (Ps (iI (b4T d b p)) []):=by
 refine FE [0] Tryz.func45 λX F hX=>?_;refine J.qp (a6W d b p) [] λ_=>?_;refine J.qd (λ_ h1=>?_) λ_ h1=>?_
 ·have hg:L4 d b p=false:=by simpa using h1
  refine J.qr [] λ_=>?_;exact⟨by unfold b4T;rw[hg];rfl,rfl⟩
 ·have hg:L4 d b p=true:=by simpa using h1
  have hbd:(3<=d/\d<=6)/\(8<=b/\b<=16)/\(2<=p/\p<=8):=by simp[L4]at hg;omega
  have m1:0<=12*d*b/\12*d*b<=1152:=by
   have h1:=a1D (show 0<=12*d by omega) (show 0<=b by omega);have h2:=a1E (show 12*d<=72 by omega) (show b<=16 by omega) (by omega) (by omega);omega
  have m2:0<=12*d*b*p/\12*d*b*p<=9216:=by
   have h1:=a1D m1.1 (show 0<=p by omega);have h2:=a1E m1.2 (show p<=8 by omega) (by omega) (by omega);omega
  refine J.qr [] λ_=>?_;exact⟨by unfold b4T;rw[hg];rfl,rfl⟩
def Fv.allG:Nat->Int->Fv->Fv×List (List UInt8)×Int
 | 0,_,Z=>(Z,[],0)
 | n+1,i,Z=>if(Z.read i).2.2≠0 then((Z.read i).1,[],(Z.read i).2.2)else((Fv.allG n (i+1) (Z.read i).1).1,(Z.read i).2.1::(Fv.allG n (i+1) (Z.read i).1).2.1,(Fv.allG n (i+1) (Z.read i).1).2.2)
theorem Fv.allG_succ (n:Nat) (i:Int) (Z:Fv):Fv.allG (n+1) i Z=if(Z.read i).2.2≠0 then((Z.read i).1,[],(Z.read i).2.2)else((Fv.allG n (i+1) (Z.read i).1).1,(Z.read i).2.1::(Fv.allG n (i+1) (Z.read i).1).2.1,(Fv.allG n (i+1) (Z.read i).1).2.2):=rfl
def Fv.all (Z:Fv):Fv×List (List UInt8)×Int:=if(Fv.allG Z.lg.toNat 0 Z).2.2≠0 then((Fv.allG Z.lg.toNat 0 Z).1,[],(Fv.allG Z.lg.toNat 0 Z).2.2)else Fv.allG Z.lg.toNat 0 Z
theorem b1s (l:List (List UInt8)) (d:List UInt8):H3 l++H4 d=H3 (l++[d]):=by unfold H3;rw[K1];simp
theorem b8U (f p n t l d:Nat) (Z:Fv) (k m:Nat) (hO:Z.Ok k m):FP 24 [pp f] (FvP f p n t l d Z)
  (λv As=>∃a c,v= .tuple #[slv a Z.all.2.1.length c,iI Z.all.2.2]/\As=FvP f p n t l d Z.all.1++[l9 36 16 a Z.all.2.1.length c (H3 Z.all.2.1)]):=by
 refine FE [2] Tryz.func24 λX F hX=>?_;refine J.qF λ_=>?_;refine J.qp (a3x f n t l p d Z hO.dv.gd.ok) [1,3] λ_=>?_;have hlb:=Fv.lg_bd (F:=Z) hO.dv.gd.ok;obtain⟨N,hN⟩:=f9 (show 0<=Z.lg by omega);rw[hN];have hall:Z.all=if(Fv.allG N 0 Z).2.2≠0 then((Fv.allG N 0 Z).1,[],(Fv.allG N 0 Z).2.2)else Fv.allG N 0 Z:=by unfold Fv.all;rw[hN];rfl
 refine J.q λ_=>?_;refine J.turn1 [] rfl (As:=[l9 36 16 none 0 0 (H3 [])]) (λh s=>Sep.one ⟨rfl,rfl,rfl⟩) rfl ?_;refine J.q λ_=>?_;refine J.l (α:=(Nat×Fv×List (List UInt8)×Option Nat×Nat)) (λz=>z.1<=N/\z.2.1.Ok k m/\z.2.2.1.length=z.1/\Fv.allG N 0 Z=((Fv.allG (N-z.1) z.1 z.2.1).1,z.2.2.1++(Fv.allG (N-z.1) z.1 z.2.1).2.1,(Fv.allG (N-z.1) z.1 z.2.1).2.2)) (λz=>[si 12 z.1,si 11 N,⟨0,pp f,2, .tt⟩,sv 4 (slv z.2.2.2.1 z.2.2.1.length z.2.2.2.2)]) [1,2,3,4,5,6,7] (λz=>(FvP f p n t l d z.2.1++[l9 36 16 z.2.2.2.1 z.2.2.1.length z.2.2.2.2 (H3 z.2.2.1)])) (λz=>N-z.1) ((0,Z,[],none,0)) (⟨j8 _,hO,rfl,rfl⟩) λz hI=>?_;obtain⟨j,Y,acc,ga,ca⟩:=z;dsimp only at hI ⊢;obtain⟨hj,hY,hacc,hgo⟩:=hI;refine J.qd (λ_ h1=>?_) λ_ h1=>?_
 ·simp only[d6,i6]at h1;have hk:=Fv.read_keep hY j;rw[show N-j=(N-(j+1))+1 from by omega]at hgo;rw[Fv.allG_succ]at hgo;refine J.qp (a4B f p n t l d Y k m hY j) [1,2,3,4,5,6] λ_=>?_;generalize Y.read j=R at hgo hk ⊢;obtain⟨Y2,dd,er⟩:=R;dsimp only at hgo hk ⊢;refine J.qd (λ_ h2=>?_) λ_ h2=>?_
  ·have he:er≠0:=by simpa using h2
   rw[d7 he]at hgo;rw[hgo,d7 he]at hall;refine J.turn1 [] rfl (As:=[l9 36 16 none 0 0 (H3 [])]) (λh s=>Sep.one ⟨rfl,rfl,rfl⟩) rfl ?_;refine J.qr [1,2,3,4,5,6,9] λ_=>?_;rw[hall];exact⟨none,0,rfl,rfl⟩
  ·have he:er=0:=by simpa using h2
   rw[d4 (λh=>h he)]at hgo;refine J.qn 5 λ_=>?_;refine J.ap 7 9 0 (b1s acc dd) λa3 c3=>?_;refine J.q λ_=>?_;rw[show acc.length+1=(acc++[dd]).length from by simp];refine J.q λ_=>?_;refine J.n ((j+1,Y2,acc++[dd],a3,c3)) (⟨by dsimp only;omega,hk.1,by dsimp only;rw[d8];exact congrArg (· +1) hacc,by dsimp only;rw[hgo,m9];rfl⟩) (by dsimp only;omega) [0,1,2,3,4,5,6,7]
 simp only[c8,i6]at h1;obtain rfl:j=N:=by omega
 rw[U3,show Fv.allG 0 (j:Int) Y=(Y,[],0)from rfl,l8]at hgo;rw[hgo,d4 (by simp)]at hall;refine J.qr [1,2,3,4,5,6,7] λ_=>?_;rw[hall];exact⟨ga,ca,rfl,rfl⟩
def Fv.ticksG:Nat->Int->Fv->Fv×Int
 | 0,i,Z=>(Z.whole.1,if Z.whole.2 then i else-1)
 | f+1,i,Z=>if Z.whole.2 then(Z.whole.1,i)else if Z.whole.1.tick.2≠0 then(Z.whole.1.tick.1,-1)else Fv.ticksG f (i+1) Z.whole.1.tick.1
theorem Fv.ticksG_succ (f:Nat) (i:Int) (Z:Fv):Fv.ticksG (f+1) i Z=if Z.whole.2 then(Z.whole.1,i)else if Z.whole.1.tick.2≠0 then(Z.whole.1.tick.1,-1)else Fv.ticksG f (i+1) Z.whole.1.tick.1:=rfl
def a4M (most:Int):Nat:=(min (max most 0) 10000).toNat
def Fv.ticks (Z:Fv) (most:Int):Fv×Int:=Fv.ticksG (a4M most) 0 Z
theorem b2X (f p n t l d:Nat) (Z:Fv) (k m:Nat) (most:Int) (hO:Z.Ok (Dv.costS*a4M most+k) m) (hm:m<=1000):FP 26 [pp f,iI most] (FvP f p n t l d Z)
  (Ps (iI (Z.ticks most).2) (FvP f p n t l d (Z.ticks most).1)):=by
 obtain⟨M,hM⟩:∃M,a4M most=M:=⟨_,rfl⟩;have hMM:min (max most 0) 10000=(M:Int):=by rw[<- hM];unfold a4M;omega
 have hM1:M<=10000:=by omega
 rw[show Z.ticks most=Fv.ticksG M 0 Z from by unfold Fv.ticks;rw[hM]];rw[hM]at hO;refine FE [2,0] Tryz.func26 λX F hX=>?_;refine J.qn 9 λ_=>?_;have e:(if(10000:Int)<if(0:Int)>most then 0 else most then 10000 else if(0:Int)>most then 0 else most)=(M:Int):=by
  rw[<- hMM];split<;>split<;>omega
 rw[e];refine J.q λ_=>?_;refine J.l (α:=(Nat×Fv)) (λz=>(z.1<=M/\z.2.Ok (Dv.costS*(M-z.1)+k) m/\Fv.ticksG M 0 Z=Fv.ticksG (M-z.1) z.1 z.2)\/(z.1=M+1/\Fv.ticksG M 0 Z=(z.2,-1))) (λz=>[si 11 z.1,⟨10,iI ((M:Int)+1),0, .tt⟩,⟨0,pp f,2, .tt⟩,si 1 M]) [1,2,3,4,5,6] (λz=>FvP f p n t l d z.2) (λz=>M+1-z.1) ((0,Z)) (.inl ⟨j8 _,hO,rfl⟩) λz hI=>?_;obtain⟨j,Y⟩:=z;dsimp only at hI ⊢;refine J.qd (λ_ h1=>?_) λ_ h1=>?_
 ·simp only[d6]at h1;obtain⟨hj,hY,hgo⟩:j<=M/\Y.Ok (Dv.costS*(M-j)+k) m/\Fv.ticksG M 0 Z=Fv.ticksG (M-j) j Y:=by
   rcases hI with h | h
   ·exact h
   ·omega
  have hw:=Fv.whole_keep hY;refine J.qp (b2F f p n t l d Y _ m hY) [1,2,3,4,5,6] λ_=>?_;obtain⟨W,hW⟩:∃W,Y.whole=W:=⟨_,rfl⟩;rw[hW]at hw ⊢;obtain⟨Y1,wb⟩:=W;dsimp only at hw ⊢;refine J.qd (λ_ h2=>?_) λ_ h2=>?_
  ·have hr:Fv.ticksG (M-j) j Y=(Y1,(j:Int)):=by
    cases hc:M-j with
    | zero=>show(Y.whole.1,if Y.whole.2 then(j:Int)else-1)=_;rw[hW,d7 h2]
    | succ c=>rw[Fv.ticksG_succ,hW,d7 h2]
   refine J.qr [1,2,3,4,5,6] λ_=>?_;rw[hgo,hr];exact⟨rfl,rfl⟩
  refine J.qn 6 λ_=>?_;rcases L8 j M with hjM | hjM
  ·rw[show decide ((j:Int)<(M:Int))=true from i7 (by omega)];obtain⟨c,hc⟩:∃c,M-j=c+1:=⟨M-j-1,by omega⟩;have hO1:Y1.Ok (Dv.costS+(Dv.costS*c+k)) m:=hw.1.less (by rw[hc,J7];omega);have htk:=Fv.tick_keep hO1;refine J.qp (b4N f p n t l d Y1 _ m hO1 hm) [1,2,3,4,5,6] λ_=>?_;have hr:Fv.ticksG (M-j) j Y=if Y1.tick.2≠0 then(Y1.tick.1,-1)else Fv.ticksG c (j+1) Y1.tick.1:=by
    rw[hc,Fv.ticksG_succ,hW,d4 (by rw[h2];exact l4)]
   obtain⟨W,hW2⟩:∃W,Y1.tick=W:=⟨_,rfl⟩;rw[hW2]at htk hr ⊢;obtain⟨Y2,er⟩:=W;dsimp only at htk hr ⊢;refine J.qd (λ_ h3=>?_) λ_ h3=>?_
   ·have he:er≠0:=by simpa using h3
    rw[d7 he]at hr;refine J.qr [1,2,3,4,5,6] λ_=>?_;rw[hgo,hr];exact⟨rfl,rfl⟩
   ·have he:er=0:=by simpa using h3
    rw[d4 (λh=>h he)]at hr;refine J.q λ_=>?_;refine J.n ((j+1,Y2)) (.inl ⟨by dsimp only;omega,by dsimp only;rw[show M-(j+1)=c from by omega];exact htk.1,by dsimp only;rw[show M-(j+1)=c from by omega,hgo,hr];rfl⟩) (by dsimp only;omega) [0,1,2,3,4,5,6]
  ·obtain rfl:j=M:=by omega
   rw[show decide ((j:Int)<(j:Int))=false from n7 (by omega)];refine J.q λ_=>?_;refine J.v (iI 0) rfl rfl (λhg a w he hw=>by simp[G.on]at hg) ?_;refine J.qF λ_=>?_;refine J.q λ_=>?_;refine J.n ((j+1,Y1)) (.inr ⟨rfl,by rw[hgo,U3];show(Y.whole.1,if Y.whole.2 then(j:Int)else-1)=_;rw[hW,d4 (by rw[h2];exact l4)]⟩) (by dsimp only;omega) [0,1,2,3,4,5,6]
 simp only[c8]at h1;obtain⟨rfl,hgo⟩:j=M+1/\Fv.ticksG M 0 Z=(Y,-1):=by
  rcases hI with h | h
  ·omega
  ·exact h
 refine J.qr [1,2,3,4,5,6] λ_=>?_;rw[hgo];exact⟨rfl,rfl⟩
def flS:Stp:=⟨4,0,zd,0,0,dF⟩
theorem Pv.step_flush (P:Pv) (Z:Fv) (hZ:P.Z=some Z) (s:Stp) (hs:s.fn=4):P.step s=(⟨a4e Z.S.N.ops P.L,P.log++[⟨(Z.setN (a1Q Z.S.N (V4 Z.S.N.ops P.L))).flush.2,zd⟩],some (Z.setN (a1Q Z.S.N (V4 Z.S.N.ops P.L))).flush.1,P.M⟩,⟨(Z.setN (a1Q Z.S.N (V4 Z.S.N.ops P.L))).flush.2,zd⟩):=by
 have hnd:P.nd=Z.S.N:=by unfold Pv.nd;rw[hZ]
 have hrun:P.run=⟨a4e Z.S.N.ops P.L,P.log,some (Z.setN (a1Q Z.S.N (V4 Z.S.N.ops P.L))),P.M⟩:=by unfold Pv.run;rw[hnd];unfold Pv.setN;rw[hZ]
 have hd:P.run.does s=({P.run with Z:=some (Z.setN (a1Q Z.S.N (V4 Z.S.N.ops P.L))).flush.1},⟨(Z.setN (a1Q Z.S.N (V4 Z.S.N.ops P.L))).flush.2,zd⟩):=by
  rw[hrun];unfold Pv.does;rw[d4 (by rw[hs];decide),d4 (by rw[hs];decide),d4 (by rw[hs];decide),d7 hs]
 unfold Pv.step;rw[hd,hrun]
theorem b1t (q n:Nat) (A:Pad) (P:Pv) (hA:A.Ok P) (Z:Fv) (hZ:P.Z=some Z) (most:Int) (k m:Nat) (hO:Z.Ok (Fv.cW*200+(Dv.costS+(Dv.costK+(1+(Dv.costS*a4M most+k))))) m) (hoff:Z.S.N.off=false) (hm:m+(V4 Z.S.N.ops P.L).length<=1000) (hL:P.L.length<=1000) (hlg:P.log.length<=1000) (Z1:Fv) (hZ1:(P.step flS).1.Z=some Z1):FP 23 [pp q,iI most] (a3f q n A P)
  (λv As=>∃A':Pad,v= .bool (decide ((Z1.ticks most).2>=0))/\A'.Ok {(P.step flS).1 with Z:=some (Z1.ticks most).1}/\As=a3f q n A' {(P.step flS).1 with Z:=some (Z1.ticks most).1}):=by
 have hsf:=Pv.step_flush P Z hZ flS rfl;obtain⟨D,hD⟩:∃D,V4 Z.S.N.ops P.L=D:=⟨_,rfl⟩;rw[hD]at hm hsf;have hO2:(Z.setN (a1Q Z.S.N D)).Ok (Fv.cW*200+(Dv.costS+(Dv.costK+(1+(Dv.costS*a4M most+k))))) (m+D.length):=hO.setN (a8A _ _) (a7B hO.dv.gd D);have hkp:=Fv.flush_keep hO2;have hz1:Z1=(Z.setN (a1Q Z.S.N D)).flush.1:=by rw[hsf]at hZ1;injection hZ1 with e;exact e.symm
 rw[<- hz1]at hkp;have hst:=a7t q n A P hA Z hZ _ m hO (by rw[hD];exact hm) hL hlg flS rfl;have hone:(P.step flS).1=⟨a4e Z.S.N.ops P.L,(P.step flS).1.log,some Z1,P.M⟩:=by rw[hsf,hz1]
 have hpl:a3f q n A P=[PlQ q n (some Z) A.f (pp A.fp) (slv A.a2 P.log.length A.c2), .pt A.fp 218 [.slice (R6 A.a) P.L.length A.c],rdA (R6 A.a) 7 P.L.length (A7 P.L),l9 83 17 A.a2 P.log.length A.c2 (U0 P.log)]++FvP A.f A.p n A.t A.l A.d Z:=by unfold a3f a4I;rw[hZ];rfl
 rw[hpl]at hst ⊢;refine FE [2,0] Tryz.func23 λX F hX=>?_;refine J.qp (a7u q n (flP (some Z) A.f) (pp A.fp) (slv A.a2 P.log.length A.c2)) [1] λ_=>?_;refine J.qp (a3r n Z.S.N) [7] λ_=>?_;rw[hoff];refine J.qp (a4U q n (some Z) A.f (pp A.fp) (slv A.a2 P.log.length A.c2)) [1] λ_=>?_;refine J.qF λ_=>?_;refine J.qc (hst) [1,2,3,4,5,6,7,8,9,10] λ_=>?_;rintro v As ⟨A',rfl,hA',rfl⟩;rw[hone]at hA' ⊢;refine⟨_,rfl,trivial,?_⟩;refine J.qp (a4U q n (some Z1) A'.f (pp A'.fp) (slv A'.a2 (P.step flS).1.log.length A'.c2)) [1] λ_=>?_;refine J.qp (b2X A'.f A'.p n A'.t A'.l A'.d Z1 k (m+D.length) most (hkp.1.less (by omega)) hm) [5,6,7,8,9,10] λ_=>?_;refine J.qr [1,2,3,4,5,6,7,8,9,10] λ_=>?_;refine⟨A',rfl,?_,?_⟩
 ·rw[hone];exact⟨hA'.z,hA'.c⟩
 ·rw[hone];rfl
theorem Fv.allG_keep {k m:Nat}:∀(n:Nat) (i:Int) (Z:Fv),Z.Ok k m->(Fv.allG n i Z).1.Ok k m
 | 0,_,_,h=>h
 | n+1,i,Z,h=>by
  rw[Fv.allG_succ];split
  ·exact(Fv.read_keep h i).1
  ·exact Fv.allG_keep n (i+1) _ (Fv.read_keep h i).1
theorem Fv.all_keep {Z:Fv} {k m:Nat} (h:Z.Ok k m):Z.all.1.Ok k m:=by
 unfold Fv.all;split
 ·exact Fv.allG_keep _ _ _ h
 ·exact Fv.allG_keep _ _ _ h
namespace B21
def d1 (n:UInt8):List UInt8:=n::List.replicate 15 0
def N0:Nand:=Nand.new 3 8 2
def F0:Fv:=Fv.of (O4 N0).1
def F1:Fv×Int:=F0.write 1 (d1 7)
def F2:Fv×Int:=F1.1.trim 2
def F3:Fv×Int:=F2.1.write 3 zd
def F4:Fv×List UInt8×Int:=F3.1.read 1
def F5:Fv×Int:=F4.1.flush
def F6:Fv:=F5.1.setN (F5.1.S.N.setCut (-1) 0)
def F7:Fv×List UInt8×Int:=F6.read 1
def N8:Nand:=F7.1.S.N.onN
def F8:Fv:=Fv.of (O4 N8).1
def F9:Fv×List UInt8×Int:=F8.read 1
def Fa:Fv×List (List UInt8)×Int:=F9.1.all
def P0:Pv:=Pv.new 3 8 2 []
def s1:Stp:=⟨2,0,d1 9,0,0,dF⟩
def s2:Stp:=⟨1,0,zd,0,0,dF⟩
def Z1:Fv:=((F0.setN F0.S.N).write 0 (d1 9)).1
def Z2:Fv:=((Z1.setN Z1.S.N).read 0).1
def Z3:Fv:=((Z2.setN Z2.S.N)).flush.1
theorem m0:(O4 N0).2=0:=by kernel_rfl
theorem v1:F1.2=0:=by kernel_rfl
theorem v2:F2.2=0:=by kernel_rfl
theorem v3:F3.2=3:=by kernel_rfl
theorem v4:F4.2.2=0:=by kernel_rfl
theorem w4:F4.2.1=d1 7:=by kernel_rfl
theorem v5:F5.2=0:=by kernel_rfl
theorem v7:F7.2.2=9:=by kernel_rfl
theorem m8:(O4 N8).2=0:=by kernel_rfl
theorem v9:F9.2.2=0:=by kernel_rfl
theorem w9:F9.2.1=d1 7:=by kernel_rfl
theorem va:Fa.2.1.length=3:=by kernel_rfl
theorem wa:Fa.2.2=0:=by kernel_rfl
theorem z0:P0.Z=some F0:=by kernel_rfl
theorem e1:(P0.step s1).2.err=0:=by kernel_rfl
theorem z1:(P0.step s1).1.Z=some Z1:=by kernel_rfl
def P1:Pv:=(P0.step s1).1
theorem e2:(P1.step s2).2.data=d1 9:=by kernel_rfl
theorem z2:(P1.step s2).1.Z=some Z2:=by kernel_rfl
def P2:Pv:=(P1.step s2).1
theorem z3:(P2.step flS).1.Z=some Z3:=by kernel_rfl
theorem pL1:P1.L=[]:=by kernel_rfl
theorem pl1:P1.log.length=1:=by kernel_rfl
theorem pL2:P2.L=[]:=by kernel_rfl
theorem lg2:P2.log.length=2:=by kernel_rfl
theorem t3:decide ((Z3.ticks 50).2>=0)=true:=by kernel_rfl
theorem lgA:Fa.1.lg=3:=by kernel_rfl
def M0:List MPv:=Mv.new 2
def M1:List MPv:=Mv.cut (Mv.write M0 0 (d1 1))
theorem q1:Mv.may M1 0 zd=true:=by kernel_rfl
theorem q2:Mv.may M1 0 (d1 1)=true:=by kernel_rfl
theorem q3:Mv.may M1 0 (d1 2)=false:=by kernel_rfl
def K (j:Nat):Nat:=(20-j)*10000000000000
theorem ok0:F0.Ok (K 0) 0:=Fv.of_ok (a8q (b1B 3 8 2 rfl _ (by decide))).1 (by decide)
theorem ok1:F1.1.Ok (K 1) 0:=(Fv.write_keep (ok0.less (k':=Fv.cW+(1+K 1)) (by decide)) 1 rfl).1
theorem ok2:F2.1.Ok (K 2) 0:=(Fv.trim_keep (ok1.less (k':=Fv.cW+(1+K 2)) (by decide)) 2).1
theorem ok3:F3.1.Ok (K 3) 0:=(Fv.write_keep (ok2.less (k':=Fv.cW+(1+K 3)) (by decide)) 3 rfl).1
theorem ok4:F4.1.Ok (K 4) 0:=(Fv.read_keep (ok3.less (k':=K 4) (by decide)) 1).1
theorem ok5:F5.1.Ok (K 5) 0:=(Fv.flush_keep (ok4.less (k':=Fv.cW*200+K 5) (by decide))).1
theorem ok6:F6.Ok (K 5) 0:=ok5.setN (Nand.like_cut _ _ _) (ok5.dv.gd.cut (-1) 0 (by decide) (by decide))
theorem ok7:F7.1.Ok (K 5) 0:=(Fv.read_keep ok6 1).1
theorem g8:N8.Gd (Dv.costK+K 6) 0:=(ok7.dv.gd.less (by decide) (j3 0)).on
theorem ok8:F8.Ok (K 6) 0:=Fv.of_ok (a8q g8).1 (by decide)
theorem ok9:F9.1.Ok (K 6) 0:=(Fv.read_keep ok8 1).1
theorem oka:Fa.1.Ok (K 6) 0:=Fv.all_keep ok9
theorem okz1:Z1.Ok (K 1) 0:=(Fv.write_keep ((ok0.setN (Nand.Like.refl _) ok0.dv.gd).less (k':=Fv.cW+(1+K 1)) (by decide)) 0 rfl).1
theorem okz2:Z2.Ok (K 1) 0:=(Fv.read_keep (okz1.setN (Nand.Like.refl _) okz1.dv.gd) 0).1
theorem okz2o:Z2.S.N.off=false:=by kernel_rfl
end B21
theorem Bt.numAt_congr {a b:List UInt8} {k:Nat}:∀w,(∀i,i<w->Bt.bitAt a (k+i)=Bt.bitAt b (k+i))->Bt.numAt a k w=Bt.numAt b k w
 | 0,_=>rfl
 | w+1,h=>by rw[Bt.numAt,Bt.numAt,Bt.numAt_congr w (λi hi=>h i (by omega)),h w (by omega)]
theorem b2I (K:Nat) (p:List UInt8) (hp:p.length=32) (hK:K<=32) (i:Nat):(Nand.fillP K p).getD i 0=if i<K then p.getD i 0 else if i<32 then 255 else 0:=by
 unfold Nand.fillP;simp only[d5];rw[I8,l5,hp]
 by_cases h:i<K
 ·rw[d7 (by omega),d7 h,C6,d7 h]
 ·rw[d4 (by omega),d4 h]
  by_cases h2:i<32
  ·rw[d7 h2,E7,d7 (by omega)];rfl
  ·rw[d4 h2,E7,d4 (by omega)];rfl
theorem a6x (p:List UInt8) (k i:Nat):(p.drop k).getD i 0=p.getD (k+i) 0:=by
 simp[d5]
theorem a9D (K:Nat) (p:List UInt8) (hp:p.length=32) (hK:K<28):(S.fields (Nand.fillP K p)).kind=255:=by
 show((Bt.numAt ((Nand.fillP K p).drop 16) 88 8:Nat):Int)=255;rw[Bt.numAt_eq _ 88 8 255 (λi hi=>?_) 8 (j3 8)]
 ·rfl
 ·unfold Bt.bitAt;rw[show(88+i)/8=11 from by omega,a6x,b2I K p hp (by omega),d4 (by omega),d7 (by omega),show 7-(88+i) % 8=8-1-i from by omega];rfl
theorem a6C (K:Nat) (p:List UInt8) (hp:p.length=32) (hK:28<=K) (hK2:K<=32):S.fields (Nand.fillP K p)=S.fields p:=by
 have hb:∀j,j<96->Bt.bitAt ((Nand.fillP K p).drop 16) j=Bt.bitAt (p.drop 16) j:=λj hj=>by
  unfold Bt.bitAt;rw[a6x,a6x,b2I K p hp hK2,d7 (by omega)]
 have h16:(Nand.fillP K p).take 16=p.take 16:=by
  unfold Nand.fillP;rw[List.take_append_of_le_length (by rw[l5,hp];omega),a5V,K5 (by omega)]
 unfold S.fields;simp only[h16,Bt.numAt_congr (a:=(Nand.fillP K p).drop 16) (b:=p.drop 16) (k:=0) 64 (λi hi=>hb _ (by omega)),Bt.numAt_congr (a:=(Nand.fillP K p).drop 16) (b:=p.drop 16) (k:=88) 8 (λi hi=>hb _ (by omega)),
  Bt.numAt_congr (a:=(Nand.fillP K p).drop 16) (b:=p.drop 16) (k:=64) 8 (λi hi=>hb _ (by omega)),Bt.numAt_congr (a:=(Nand.fillP K p).drop 16) (b:=p.drop 16) (k:=72) 8 (λi hi=>hb _ (by omega)),Bt.numAt_congr (a:=(Nand.fillP K p).drop 16) (b:=p.drop 16) (k:=80) 8 (λi hi=>hb _ (by omega))]
theorem a8y {N:Nand} {d b r:Int} (h:(N.blk d.toNat b.toNat).cells.length<=r.toNat):(M.look N d b r).2=2\/(M.look N d b r).2=4:=by
 have hp:N.pageAt d b r=none:=j6 h;have hr:N.refuses d b r=0\/N.refuses d b r=9\/N.refuses d b r=3\/N.refuses d b r=8:=by
  unfold Nand.refuses;split
  ·simp
  ·split
   ·simp
   ·split<;>simp
 have he:N.readE d b r=5\/N.readE d b r=9\/N.readE d b r=3\/N.readE d b r=8:=by
  unfold Nand.readE;rw[hp];rcases hr with e | e | e | e<;>rw[e]<;>simp
 unfold M.look;simp only;rcases he with e | e | e | e<;>rw[e]<;>simp
theorem b6u {N:Nand} {b r:Int} (h:∀d:Nat,(M.look N (d:Nat) b r).2≠1):R.all N b r=[]:=by
 have:(M.rowN N b r N.dies).filterMap M.maskOf=[]:=by
  refine List.filterMap_eq_nil_iff.2 λx hx=>?_;unfold M.rowN at hx;obtain⟨d,_,rfl⟩:=List.mem_map.1 hx;unfold M.maskOf;rw[d4 (h d)]
 unfold R.all M.masks;rw[this];rfl
def u8 (x:Int):UInt8:=UInt8.ofNat (x % 256).toNat
theorem b3i (x:Int):Value.int .u8 (IntKind.u8.wrap x)=bv (u8 x):=by
 have h:IntKind.u8.wrap x=x % 256:=by simp[IntKind.wrap,IntKind.bits,IntKind.signed]
 rw[h,bv,u8];congr 1;have h1:0<=x % 256/\x % 256<256:=⟨a2u _ (by decide),a0V _ (by decide)⟩;have h2:(UInt8.ofNat (x % 256).toNat).toNat=(x % 256).toNat:=by
  rw[a5T];omega
 rw[h2];omega
def e18 (k s:Int):En:=⟨k,s,1,[u8 k,u8 s,u8 (s/256),7,0,0,0,0,0,0,0,0,0,0,0,0]⟩
theorem a2Z (k s:Int):FP 139 [iI k,iI s] [] (Ps (enV (e18 k s)) []):=by
 refine FE [0,0] Tryz.func139 λX F hX=>?_;refine J.qn 9 λ_=>?_;refine J.v (bv (u8 k)) rfl rfl (λhg a w he hs=>by rw[<- b3i k];exact a2F tk rfl rfl he rfl rfl rfl) ?_;refine J.qn 1 λ_=>?_;refine J.v (bv (u8 s)) rfl rfl (λhg a w he hs=>by rw[<- b3i s];exact a2F tk rfl rfl he rfl rfl rfl) ?_;refine J.qn 2 λ_=>?_;rw[show s.fdiv (2^min (Int.toNat 8) IntKind.i64.bits)=s/256 from Int.fdiv_eq_ediv_of_nonneg s (by decide:(0:Int)<=256)];refine J.v (bv (u8 (s/256))) rfl rfl (λhg a w he hs=>by rw[<- b3i (s/256)];exact a2F tk rfl rfl he rfl rfl rfl) ?_;exact J.qx []
def Dv.new (d b p:Nat) (lg:Int):Dv:=⟨Nand.new d b p,Tl.new d b p,Tb.new lg,-1,0,0,1⟩
theorem c2b (d b p:Nat) (h:L4 d b p=true) (k:Nat) (hk:k<=1000000000000000):(Nand.new d b p).Gd k 0:=by
 have h0:=Nand.Gd.new d b p h 0 (by omega);refine⟨h0.ok,?_,?_,h0.nodup,h0.few⟩
 ·show(0:Int)+(k:Int)<_;omega
 ·show(0:Int)+(k:Int)<_;omega
theorem Dv.Ok.new (d b p:Nat) (lg:Int) (h:L4 d b p=true) (k:Nat) (hk:k<=1000000000000000):(Dv.new d b p lg).Ok k 0:=
 ⟨c2b d b p h k hk,⟨rfl,rfl,rfl,by show(List.replicate b Sb.zero).length=b;simp⟩,Tb.Ok.new lg,λx hx=>by simp[Dv.new,Tb.new]at hx,by show(0:Int)<=0/\(0:Int)<=8;omega,by show(1:Int)<=1/\(1:Int)<=1099511627776;omega⟩
theorem b5J (d b p:Nat) (h:L4 d b p=true) (lg:Int):FP 138 [.agg #[iI d,iI b,iI p],iI lg] []
  (λv As=>∃n t l q,v= .tuple #[pp n,pp t,pp l,pp q]/\As=DvP q n t l (Dv.new d b p lg)):=by
 refine FE [0,0] Tryz.func138 λX F hX=>?_;refine J.qc (a9U d b p h) [] λ_=>?_;rintro v As ⟨n,rfl,rfl⟩;refine⟨_,rfl,trivial,?_⟩;refine J.qc (b3j d b p h) [] λ_=>?_;rintro v As ⟨t,rfl,rfl⟩;refine⟨_,rfl,trivial,?_⟩;refine J.qc (b3l lg) [] λ_=>?_;rintro v As ⟨l,rfl,rfl⟩;refine⟨_,rfl,trivial,?_⟩;refine J.qc (b7s n t l 1 (by decide) (Nand.new d b p) (Tl.new d b p) (Tb.new lg)) [] λ_=>?_;rintro v As ⟨q,rfl,rfl⟩;refine⟨_,rfl,trivial,?_⟩;refine J.qr [5,2,3,4] λ_=>?_;exact⟨n,t,l,q,rfl,rfl⟩
theorem Dv.Ok.fault0 {S:Dv} {k m:Nat} (h:S.Ok k m) (kd x y z n xx:Int) (hk:kd≠1):({S with N:=(S.N.fault kd x y z n xx).2}:Dv).Ok k m:=
 ⟨h.gd.fault0 kd x y z n xx hk,h.t.like (Nand.like_fault _ _ _ _ _ _ _),h.T,h.sl,h.row,h.next⟩
namespace B18
def S0:Dv:=Dv.new 3 8 2 20
def S1:Dv:=(S0.pen [e18 1 1,e18 2 2,e18 3 3]).1
def S2:Dv:=(S1.pen [e18 3 3]).1
def S3:Dv:=(S2.carry 0 2).1
def S4:Dv:={S3 with N:=(S3.N.fault 4 2 0 0 0 0).2}
def S5:Dv:=(S4.step 2).1
def S6:Dv:=S5.room.1
def S7:Dv:=(S6.torn [e18 9 9]).1
theorem h1:(S0.pen [e18 1 1,e18 2 2,e18 3 3]).2=(2,0):=by kernel_rfl
theorem h2:(S1.pen [e18 3 3]).2=(1,0):=by kernel_rfl
theorem h3:(S2.carry 0 2).2=(2,0):=by kernel_rfl
theorem h4:Tb.look S3.T.at_ 1=some ⟨1,0,0,7,4,1⟩:=by kernel_rfl
theorem h5:S3.op=1:=by kernel_rfl
theorem h6:(S4.step 2).2=(1,0):=by kernel_rfl
theorem h7:S5.leftN=2:=by kernel_rfl
theorem h8:S5.N.broken=0:=by kernel_rfl
theorem h9:S5.room.2=0:=by kernel_rfl
theorem h10:(S6.torn [e18 9 9]).2=0:=by kernel_rfl
theorem h11:S7.clear.2=0:=by kernel_rfl
def U:Nat:=10000000000
theorem G0:S0.Ok (10*U) 0:=Dv.Ok.new 3 8 2 20 rfl _ (by decide)
theorem d3:∀s∈[e18 1 1,e18 2 2,e18 3 3],s.data.length=16:=by decide
theorem d1:∀s∈[e18 3 3],s.data.length=16:=by decide
theorem d9:∀s∈[e18 9 9],s.data.length=16:=by decide
theorem G1:S1.Ok (9*U) 0:=(Dv.pen_keep (G0.less (by decide:8*Dv.fuel+9*U<=_)) d3).1
theorem G2:S2.Ok (8*U) 0:=(Dv.pen_keep (G1.less (by decide:8*Dv.fuel+8*U<=_)) d1).1
theorem G3:S3.Ok (7*U) 0:=(Dv.carry_keep (G2.less (by decide:Dv.costC+7*U<=_)) 0 2).1
theorem G4:S4.Ok (7*U) 0:=Dv.Ok.fault0 G3 4 2 0 0 0 0 (by decide)
theorem G5:S5.Ok (6*U) 0:=(Dv.step_keep (G4.less (by decide:Dv.costS+6*U<=_)) 2).1
theorem G6:S6.Ok (5*U) 0:=(Dv.room_keep (G5.less (by decide:Dv.costM+5*U<=_))).1
theorem G7:S7.Ok (4*U) 0:=(Dv.tornGo_keep 1 S6 [e18 9 9] _ (G6.less (by decide:Dv.costT*1+4*U<=_)) d9).1
end B18
end
section
open Go Go.RowKit
open B18
theorem b5N:FP 140 [] [] (Ps (.bool true) []):=by
 refine FE [] Tryz.func140 λX F hX=>?_;refine J.qp (b5M) [] λ_=>?_;exact J.qx []
theorem b5K:FP 89 [] [] (Ps (.bool true) []):=by
 refine FE [] Tryz.func89 λX F hX=>?_;refine J.qc (b5J 3 8 2 rfl 20) [] λ_=>?_;rintro v As ⟨n,t,l,q,rfl,rfl⟩;refine⟨_,rfl,trivial,?_⟩;rw[show Dv.new 3 8 2 20=S0 from rfl];refine J.qF λ_=>?_;refine J.qp (a2Z 1 1) [] λ_=>?_;refine J.qp (a2Z 2 2) [] λ_=>?_;refine J.qp (a2Z 3 3) [] λ_=>?_;refine J.q λbx=>?_;refine J.ca hX (by kernel_rfl) (a4a q n t l S0 (9*U) 0 (G0.less (by decide)) (.pt (bx 0) 101 (n9 [e18 1 1,e18 2 2,e18 3 3])) (some ⟨bx 0,0,none⟩) 3 3 [e18 1 1,e18 2 2,e18 3 3] (a3K _ _ _ _ _ rfl) rfl (by decide) B18.d3) [1,2,3,4,5] 0 rfl rfl rfl rfl rfl rfl (λ_=>rfl) ?_;refine cpq ⟨_,rfl,trivial,?_⟩;rw[show(S0.pen [e18 1 1,e18 2 2,e18 3 3]).1=S1 from rfl,h1];refine J.qp (a2Z 3 3) [] λ_=>?_;refine J.q λby_=>?_;refine J.ca hX (by kernel_rfl) (a4a q n t l S1 (8*U) 0 (G1.less (by decide)) (.pt (by_ 0) 101 (n9 [e18 3 3])) (some ⟨by_ 0,0,none⟩) 1 1 [e18 3 3] (a3K _ _ _ _ _ rfl) rfl (by decide) B18.d1) [1,2,3,4,6] 0 rfl rfl rfl rfl rfl rfl (λ_=>rfl) ?_;refine cpq ⟨_,rfl,trivial,?_⟩;rw[show(S1.pen [e18 3 3]).1=S2 from rfl,h2];refine J.qp (a7R n t l q S2 (7*U) 0 (G2.less (by decide)) 0 2) [1,2,3,4] λ_=>?_;rw[show(S2.carry 0 2).1=S3 from rfl,h3];refine J.qp (a6d l S3.T 1) [4] λ_=>?_;rw[h4,j4,a2J];refine J.qp (a3o q n t l S3) [1] λ_=>?_;rw[h5];refine J.qp (a4x n S3.N G3.gd.ok 0 4 2 0 0 0 0) [2] λ_=>?_;rw[show(S3.N.fault 4 2 0 0 0 0).2=S4.N from rfl,show a2o q n t l S3=a2o q n t l S4 from rfl,show S3.t=S4.t from rfl,show S3.T=S4.T from rfl];refine J.qp (b4y n t l q S4 (6*U) 0 (G4.less (by decide)) (by decide) 2) [1,2,3,4] λ_=>?_;rw[show(S4.step 2).1=S5 from rfl,h6];refine J.qp (b5N) [] λ_=>?_;refine J.qp (b4z t l S5 (6*U) 0 G5) [3,4] λ_=>?_;rw[h7];refine J.qp (b2k n S5.N) [2] λ_=>?_;rw[h8];refine J.qp (a5s n t l q S5 (5*U) 0 (G5.less (by decide)) (by decide)) [1,2,3,4] λ_=>?_;rw[show S5.room.1=S6 from rfl,h9];refine J.qp (a2Z 9 9) [] λ_=>?_;refine J.q λ_=>?_;refine J.effG hX tk rfl rfl rfl (λ_=>rfl) (by(repeat' (first | exact Conj.nil | refine Conj.cons ?_ ?_ | omega | exact hq0 | (simpa using hq0) | (exactλh=>h) | exact rfl | (intro hq;have hq0:=hq;try simp only[f8,j7,d6,i4,c8]at hq) | (simp;done) | (simp;omega) | decide))) (λ_=>rfl) λbt=>⟨trivial,?_⟩;refine J.q λ_=>?_;refine J.ca hX (by kernel_rfl) (b0Z n t l q S6 (4*U) 0 (.pt bt 101 (n9 [e18 9 9])) (some (bt,0)) 1 1 [e18 9 9] (a3K _ _ _ _ _ rfl) rfl (by decide) (by decide) (λh=>by cases h) B18.d9 (G6.less (by decide)) (by decide)) [1,2,3,4,8] 0 rfl rfl rfl rfl rfl rfl (λ_=>rfl) ?_;refine cpq ⟨_,rfl,trivial,?_⟩;rw[show(S6.torn [e18 9 9]).1=S7 from rfl,h10];refine J.qp (a3o q n t l S7) [1] λ_=>?_;refine J.q λ_=>?_;refine J.ca hX (by kernel_rfl) (a5t n t l S7.N S7.t S7.T (3*U) 0 (G7.gd.less (by decide) (j3 _)) (by decide) G7.t S7.op) [2,3,4] 0 rfl rfl rfl rfl rfl rfl (λ_=>rfl) ?_;refine cpq ⟨_,rfl,trivial,?_⟩;rw[show(Dv.clearX S7.N S7.t S7.T S7.op).2.2=0 from h11];exact J.qx []
end
section
open Go Go.RowKit
theorem T5 (q n:Nat) (A:Pad) (P:Pv) (Z:Fv) (hZ:P.Z=some Z):a3f q n A P=[PlQ q n (some Z) A.f (pp A.fp) (slv A.a2 P.log.length A.c2), .pt A.fp 218 [.slice (R6 A.a) P.L.length A.c],rdA (R6 A.a) 7 P.L.length (A7 P.L),l9 83 17 A.a2 P.log.length A.c2 (U0 P.log)]++FvP A.f A.p n A.t A.l A.d Z:=by unfold a3f a4I;rw[hZ];rfl
theorem a4C {Z:List MSl} {M:List MPv} (h:Z.map (·.v)=M) (hM:∀v∈M,v.now.length=16/\(∀x∈v.may,x.length=16)/\(∀x∈v.ever,x.length=16)/\v.may.length<=1000/\v.ever.length<=1000):∀z∈Z,z.Fine:=λz hz=>hM z.v (by rw[<- h];exact List.mem_map.2 ⟨z,hz,rfl⟩)
theorem b5L:FP 43 [] [] (Ps (.bool true) []):=by
 refine FE [] Tryz.func43 λX F hX=>?_;refine J.qp (b5K) [] λ_=>?_;exact J.qx []
open B21
theorem b5I:FP 7 [] [] (Ps (.bool true) []):=by
 have G0:N0.Gd (Dv.costK+0) 0:=b1B 3 8 2 rfl _ (by decide);refine FE [] Tryz.func7 λX F hX=>?_;refine J.qc (a9U 3 8 2 rfl) [] λ_=>?_;rintro v As ⟨n,rfl,rfl⟩;refine⟨_,rfl,trivial,?_⟩;rw[show Nand.new 3 8 2=N0 from rfl];refine J.qc (a4i n N0 0 0 G0 (by decide) rfl) [1] λ_=>?_;rintro v As (⟨_,f,p,t,l,d,rfl,rfl⟩ | ⟨he,rfl,rfl⟩)
 rotate_left
 ·exact absurd m0 he
 refine⟨_,rfl,trivial,?_⟩;rw[show Fv.of (O4 N0).1=F0 from rfl];refine J.qF λ_=>?_;refine J.qp (a8G f p n t l d F0 (K 1) 0 (ok0.less (by decide)) (by decide) 1 (d1 7) rfl) [1,2,3,4,5,6] λ_=>?_;rw[show F0.write 1 (d1 7)=F1 from rfl,v1];refine J.qp (b4M f p n t l d F1.1 (K 2) 0 (ok1.less (by decide)) (by decide) 2) [1,2,3,4,5,6] λ_=>?_;rw[show F1.1.trim 2=F2 from rfl,v2];refine J.qp (a8G f p n t l d F2.1 (K 3) 0 (ok2.less (by decide)) (by decide) 3 zd rfl) [1,2,3,4,5,6] λ_=>?_;rw[show F2.1.write 3 zd=F3 from rfl,v3];refine J.qp (a4B f p n t l d F3.1 (K 3) 0 ok3 1) [1,2,3,4,5,6] λ_=>?_;rw[show F3.1.read 1=F4 from rfl,v4,w4];refine J.q λc7=>?_;refine J.cb (b2G f p n t l d F4.1 (K 5) 0 (ok4.less (by decide)) (by decide)) [1,2,3,4,5,6] ?_;refine cpq ⟨_,rfl,trivial,?_⟩;rw[show F4.1.flush=F5 from rfl,v5];refine J.qp (b4x n F5.1.S.N (-1) 0) [3] λ_=>?_;refine J.qp (a4B f p n t l d F6 (K 5) 0 ok6 1) [1,2,3,4,5,6] λ_=>?_;rw[show F6.read 1=F7 from rfl,v7];refine J.q λc10=>?_;refine J.cb (c0h n F7.1.S.N) [3] ?_;refine cpq ⟨_,rfl,trivial,?_⟩;rw[show F7.1.S.N.onN=N8 from rfl];refine J.qc (a4i n N8 (K 6) 0 g8 (by decide) rfl) [3] λ_=>?_;rintro v As (⟨_,f',p',t',l',d',rfl,rfl⟩ | ⟨he,rfl,rfl⟩)
 rotate_left
 ·exact absurd m8 he
 refine⟨_,rfl,trivial,?_⟩;rw[show Fv.of (O4 N8).1=F8 from rfl];refine J.qp (a4B f' p' n t' l' d' F8 (K 6) 0 ok8 1) [3,9,10,11,12,13] λ_=>?_;rw[show F8.read 1=F9 from rfl,v9,w9];refine J.q λc14=>?_;refine J.cb (c1P 2) [] ?_;rintro v As ⟨mq,mg,MZ,rfl,rfl,hM0⟩;refine⟨_,rfl,trivial,?_⟩;have ml0:MZ.length=2:=by have:=congrArg List.length hM0;rw[j5]at this;exact this
 refine J.qc (b7R mq mg MZ (by omega) (a4C hM0 (by decide)) 0 (d1 1) rfl) [15,16,17,18] λ_=>?_;rintro v As ⟨MZ1,rfl,rfl,hM1⟩;refine⟨_,rfl,trivial,?_⟩;rw[hM0]at hM1;have ml1:MZ1.length=2:=by have:=congrArg List.length hM1;rw[j5]at this;exact this
 refine J.qc (c1Q mq mg MZ1 (by omega)) [15,16,17,18] λ_=>?_;rintro v As ⟨MZ2,rfl,rfl,hM2⟩;refine⟨_,rfl,trivial,?_⟩;rw[hM1]at hM2;have hM2:MZ2.map (·.v)=M1:=hM2;have ml2:MZ2.length=2:=by have:=congrArg List.length hM2;rw[j5]at this;exact this
 refine J.q λ_=>?_;refine J.turn1 [] rfl (As:=[rdA none 7 0 (A7 [])]) (λh s=>Sep.one ⟨rfl,λh=>absurd h (by decide)⟩) rfl ?_;refine J.q λ_=>?_;refine J.ca hX (by kernel_rfl) (b7q 3 8 2 rfl (rdA none 7 0 (A7 [])) none 0 0 [] (b0T _ _ _ _) rfl (by decide)) [19] 0 rfl rfl rfl rfl rfl rfl (λ_=>rfl) ?_;rintro v As ⟨q,nn,A0,rfl,hA0,rfl⟩;rw[show Pv.new 3 8 2 []=P0 from rfl]at hA0 ⊢;rw[T5 q nn A0 P0 F0 z0];refine⟨_,rfl,trivial,?_⟩;refine J.q λ_=>?_;have hst1:=a7t q nn A0 P0 hA0 F0 z0 (K 1) 0 (ok0.less (by decide)) (by decide) (by decide) (by decide) s1 rfl;rw[T5 q nn A0 P0 F0 z0]at hst1;refine J.qc (hst1) [20,21,22,23,24,25,26,27,28,29] λ_=>?_;rintro v As ⟨A1,rfl,hA1,rfl⟩;obtain⟨x1,hx1⟩:∃x,(P0.step s1).2=⟨0,x⟩:=⟨(P0.step s1).2.data,by rw[<- e1]⟩;rw[show(P0.step s1).1=P1 from rfl]at hA1 ⊢;rw[T5 q nn A1 P1 B21.Z1 z1,hx1];refine⟨_,rfl,trivial,?_⟩;refine J.q λc18=>?_;have hst2:=a7t q nn A1 P1 hA1 B21.Z1 z1 (K 2) 0 (okz1.less (by decide)) (by rw[pL1];decide) (by rw[pL1];decide) (by rw[pl1];decide) s2 rfl;rw[T5 q nn A1 P1 B21.Z1 z1]at hst2;refine J.qc (hst2) [20,21,22,23,24,25,26,27,28,29] λ_=>?_;rintro v As ⟨A2,rfl,hA2,rfl⟩;obtain⟨x2,hx2⟩:∃x,(P1.step s2).2=⟨x,d1 9⟩:=⟨(P1.step s2).2.err,by rw[<- e2]⟩;rw[show(P1.step s2).1=P2 from rfl]at hA2 ⊢;rw[T5 q nn A2 P2 B21.Z2 z2,hx2];refine⟨_,rfl,trivial,?_⟩;refine J.q λc19=>?_;refine J.cb (b8U f' p' n t' l' d' F9.1 (K 6) 0 ok9) [3,9,10,11,12,13] ?_;rintro v As ⟨aa,ac,rfl,rfl⟩;refine⟨_,rfl,trivial,?_⟩;rw[show F9.1.all=Fa from rfl,va,wa];refine J.q λ_=>?_;have hz2:P2.Z=some B21.Z2:=z2;have hlog:=c1E q nn A2 P2 (by rw[lg2];decide);rw[hz2]at hlog;refine J.qc (hlog) [20,23] λ_=>?_;rintro v As ⟨la,lc,rfl,rfl⟩;refine⟨_,rfl,trivial,?_⟩;refine J.qp (b5L) [] λ_=>?_;refine J.qn 19 λ_=>?_;refine J.v (.bool true) rfl rfl (λhg aa w he hw=>(V8 (xs:=H4 (d1 7)) (ys:=H4 (d1 7)) rfl rfl rfl he hg rfl a2C (a1g _) (a1g _) mkD gdD).trans (by rw[eqD _ _ rfl rfl];simp)) ?_;refine J.qn 20 λ_=>?_;refine J.v (.bool true) rfl rfl (λhg aa w he hw=>(V8 (xs:=H4 (d1 7)) (ys:=H4 (d1 7)) rfl rfl rfl he hg rfl a2C (a1g _) (a1g _) mkD gdD).trans (by rw[eqD _ _ rfl rfl];simp)) ?_;refine J.qp (a3x f n t l p d (F7.1.setN Fa.1.S.N) oka.dv.gd.ok) [1,10] λ_=>?_;rw[show(F7.1.setN Fa.1.S.N).lg=3 from lgA];refine J.qp (b3z mq mg MZ2 (by omega) (a4C hM2 (by decide)) 0 (zd) rfl) [15,16,17,18] λ_=>?_;rw[hM2,q1];refine J.qp (b3z mq mg MZ2 (by omega) (a4C hM2 (by decide)) 0 (d1 1) rfl) [15,16,17,18] λ_=>?_;rw[hM2,q2];refine J.qp (b3z mq mg MZ2 (by omega) (a4C hM2 (by decide)) 0 (d1 2) rfl) [15,16,17,18] λ_=>?_;rw[hM2,q3];refine J.qn 11 λ_=>?_;refine J.v (.bool true) rfl rfl (λhg aa w he hw=>(V8 (xs:=H4 (d1 9)) (ys:=H4 (d1 9)) rfl rfl rfl he hg rfl a2C (a1g _) (a1g _) mkD gdD).trans (by rw[eqD _ _ rfl rfl];simp)) ?_;refine J.q λ_=>?_;have hrest:=b1t q nn A2 P2 hA2 B21.Z2 z2 50 0 0 (okz2.less (by decide)) okz2o (by rw[pL2];decide) (by rw[pL2];decide) (by rw[lg2];decide) B21.Z3 z3;rw[T5 q nn A2 P2 B21.Z2 z2]at hrest;refine J.qc (hrest) [20,21,22,23,24,25,26,27,28,29] λ_=>?_;rintro v As ⟨A3,rfl,_,rfl⟩;refine⟨_,rfl,trivial,?_⟩;rw[t3];refine J.qp (c2n 3 8 2) [] λ_=>?_;rw[show b4T 3 8 2=616 from rfl];refine J.qr [] λ_=>?_;refine⟨?_,rfl⟩;rw[lg2];rfl
end
section
open Go Go.RowKit
structure WAd where
 w:Nat
 q:Nat
 nn:Nat
 A:Pad
 R:RAd
 fa:Option Nat
 fc:Nat
def b9g (U:WAd) (W:Wa):Atom:= .pt U.w 59 [pp U.q,pp U.R.q,iI W.die, .bool W.wrong, .bool W.full, .bool W.stuck,slv U.fa W.fs.length U.fc,iI W.since,iI W.late]
def b9f (U:WAd) (W:Wa):Atom:=l9 41 7 U.fa W.fs.length U.fc (A7 W.fs)
def a4S (f:MSl->MSl) (i:Nat) (Z:List MSl):List MSl:=(Z.take i).map f++Z.drop i
theorem a2R {β:Type} (f:MSl->MSl) (g:MSl->β) (h:∀z,g (f z)=g z) (i:Nat) (Z:List MSl):(a4S f i Z).map g=Z.map g:=by
 unfold a4S;rw[s8,a1L,show g ∘ f=g from funext h,<- s8,C4]
theorem b5g (f:MSl->MSl) (g:MSl->List Value) (h:∀z,g (f z)=g z) (i:Nat) (Z:List MSl):(a4S f i Z).flatMap g=Z.flatMap g:=by
 rw[T7,T7,a2R f g h]
theorem b1M (f:MSl->MSl) (i:Nat) (Z:List MSl):(a4S f i Z).length=Z.length:=by
 have:=congrArg List.length (a2R f (λ_=>()) (λ_=>rfl) i Z);simpa using this
theorem b9t (f:MSl->MSl) {i:Nat} {Z:List MSl} {z:MSl} (h:Z[i]? =some z):(a4S f i Z)[i]? =some z:=by
 have hi:=(List.getElem?_eq_some_iff.1 h).1;unfold a4S;rw[B1 (by simp;omega),J5,j5,l5,K5 (by omega),U3,Q4,h]
def a4J (z:MSl):MSl:={z with v:=Mv.cut1 z.v}
theorem c0L (R:RAd) (Z:List MSl) (hn:Z.length<=65536):FP 75 [pp R.q] (a3G R Z) (λv As=>∃Z',v= .tuple #[]/\As=a3G R Z'/\Z'.map (·.v)=Mv.cut (Z.map (·.v))):=by
 refine FE [2] Tryz.func75 λX F hX=>?_;refine J.q λ_=>?_;refine J.l (α:=Nat) (λk=>k<=Z.length) (λk=>[si 2 k,⟨0,pp R.q,2, .tt⟩]) [3] (λk=>[.pt R.o 4 (opC (a4S a4J k Z))]) (λk=>Z.length-k) (0) (j8 _) λk hI=>?_;refine J.qd (λ_ h1=>?_) λ_ h1=>?_
 ·simp only[d6,i6]at h1;obtain⟨z,hz⟩:∃z,Z[k]? =some z:=⟨_,c9 (by omega)⟩;have hput:(opC (a4S a4J k Z)).set (0+(k:Int).toNat*1) (.bool true)=opC (a4S a4J (k+1) Z):=by
   rw[show 0+(k:Int).toNat*1=k from by omega];have h2:=a7I (f:=a4J) (V:=Z) (Y:=a4S a4J k Z) rfl h1 (b9t a4J hz);have h3:a4S a4J (k+1) Z=(a4S a4J k Z).set k (a4J z):=h2.symm;rw[h3];unfold opC;rw[A6];rfl
  refine J.qn 10 λ_=>?_;refine J.s1 3 (opC (a4S a4J (k+1) Z)) ?_ hput ?_
  ·unfold opC;rw[j5,b1M];omega
  refine J.q λ_=>?_;refine J.n (k+1) (by omega) (by omega) [0,1,2,3,4,5,6,7]
 simp only[c8,i6]at h1;obtain rfl:k=Z.length:=by omega
 refine J.q λ_=>?_;refine J.f [1,2,3,4,5,6,7] ?_;refine⟨a4S a4J Z.length Z,rfl,?_,?_⟩
 ·unfold a3G a1a a0q Y0;rw[b1M,b5g a4J _ (λ_=>rfl),a2R a4J (λz=>slv z.a1 z.v.may.length z.c1) (λ_=>rfl),a2R a4J (λz=>slv z.a2 z.v.ever.length z.c2) (λ_=>rfl),a2R a4J MSl.m1 (λ_=>rfl),a2R a4J MSl.m2 (λ_=>rfl)];rfl
 ·unfold a4S Mv.cut;rw[x9 (by simp),Y4 (by simp),l8,a1L,a1L];rfl
theorem a7v (Z:List MSl) (k:Nat) (y:MSl):(opC Z).set k (.bool y.v.op)=opC (Z.set k y):=by unfold opC;rw[A6]
theorem a0y (Z:List MSl) (k:Nat) (y:MSl):(a0q Z).set k (slv y.a1 y.v.may.length y.c1)=a0q (Z.set k y):=by unfold a0q;rw[A6]
theorem a1V (Z:List MSl) (k:Nat) (y:MSl):(Y0 Z).set k (slv y.a2 y.v.ever.length y.c2)=Y0 (Z.set k y):=by unfold Y0;rw[A6]
theorem a7w (Z:List MSl):(opC Z).length=Z.length:=j5 _
theorem a0z (Z:List MSl):(a0q Z).length=Z.length:=j5 _
theorem a1W (Z:List MSl):(Y0 Z).length=Z.length:=j5 _
theorem b2j {Z:List MSl} {k:Nat} {z:MSl} (hz:Z[k]? =some z) (y:MSl):(a1a Z).take (k*16)++H4 y.v.now++(a1a Z).drop (k*16+(H4 y.v.now).length)=a1a (Z.set k y):=a6s (λz:MSl=>H4 z.v.now) 16 (λ_=>rfl) (H4 y.v.now) hz (j3 _) (y:=y) rfl
theorem b0q (R:RAd) (Z:List MSl) (hn:Z.length<=65536) (hf:∀z∈Z,z.Fine) (i:Int) (d:List UInt8) (hd:d.length=16):FP 73 [pp R.q,iI i,a5d d] (a3G R Z) (λv As=>∃Z',v= .bool (Mv.inR (Z.map (·.v)) i)/\As=a3G R Z'/\Z'.map (·.v)=Mv.write (Z.map (·.v)) i d):=by
 refine FE [2,0,0] Tryz.func73 λX F hX=>?_;refine J.q λ_=>?_
 by_cases hi:0<=i/\i<(Z.length:Int)
 ·obtain⟨k,rfl⟩:=f9 hi.1;obtain⟨z,hz⟩:∃z,Z[k]? =some z:=⟨_,c9 (by omega)⟩;obtain⟨f1,f2,f3,f4,f5⟩:=hf z (j9 hz);have hin:Mv.inR (Z.map (·.v)) (k:Int)=true:=by unfold Mv.inR;rw[j5,i7 hi.1,i7 hi.2];rfl
  have hpg:Mv.pg (Z.map (·.v)) (k:Int)=z.v:=by unfold Mv.pg;rw[i9,d5,i5,hz];rfl
  rw[n7 (show¬(k:Int)<0 by omega),n7 (show¬(k:Int)>=Z.length by omega)];refine J.qF λ_=>?_;refine J.openAt 6 k rfl rfl (by rw[i5,hz];rfl) rfl ?_;refine J.openAt 7 k rfl rfl (by rw[i5,hz];rfl) rfl ?_;refine J.pn 12 (.of [0,4,8,13,16,20,24,28,33,36,41,44,50,52,59]) [13,14] [1,8] λ_ _=>?_;have hst:=b2j hz ⟨⟨d,z.v.op,z.v.may,z.v.ever⟩,z.a1,z.c1,z.a2,z.c2⟩;refine J.sN (H4 d) 2 (a1a (Z.set k ⟨⟨d,z.v.op,z.v.may,z.v.ever⟩,z.a1,z.c1,z.a2,z.c2⟩)) ?_ ?_ ?_
  ·rw[a8n];show 0+(k:Int).toNat*16+16<=_;omega
  ·rw[show 0+(k:Int).toNat*16=k*16 from by omega];exact hst
  refine J.qn 1 λ_=>?_;refine J.s1 3 (opC (Z.set k ⟨⟨d,false,z.v.may,z.v.ever⟩,z.a1,z.c1,z.a2,z.c2⟩)) ?_ ?_ ?_
  ·rw[a7w];omega
  ·rw[show 0+(k:Int).toNat*1=k from by omega,<- a7v]
  refine J.q λ_=>?_;refine J.plan2 (.take true 0 (.take true 1 (.take true 2 (.take false 3 (.take true 4 (.take true 5 (.take true 6 (.take true 7 (.take false 8 (.take true 9 (.take true 10 (.take true 11 (.take true 12 (.take false 13 (.take true 14 (.take true 15 (.take false 16 (.take false 17 (.take true 20 (.take true 21 (.take true 22 (.take false 23 (.take true 24 (.take true 25 (.take false 26 (.take false 27 (.alt false 18 ((.alt false 19 ((.of [114,118,120,127,128,135])) (.alt false 28 ((.of [78,118,120,127,128,135])) .non))) (.alt false 28 ((.of [74,78,118,120,127,128,135])) .non)))))))))))))))))))))))))))) [9,30,31,32,33] [9] [1,2,3,4,5,6,7,8] (by rw[hX.hP];kernel_rfl) (by kernel_rfl) ?_;refine J.qn 16 λ_=>?_;refine J.vT (slv z.a1 z.v.may.length z.c1) rfl rfl (λhg aa w he hC=>B6 tk rfl rfl he rfl rfl rfl (hC rfl _ (C0 (i:=4) rfl)) (by rw[show 0+(k:Int).toNat*1=k from by omega];exact b4C hz)) ?_;refine J.qn 7 λ_=>?_;refine J.vT (slv z.a2 z.v.ever.length z.c2) rfl rfl (λhg aa w he hC=>B6 tk rfl rfl he rfl rfl rfl (hC rfl _ (C0 (i:=5) rfl)) (by rw[show 0+(k:Int).toNat*1=k from by omega];exact b8O hz)) ?_;refine J.qn 1 λ_=>?_;refine J.join (α:=(Option Nat×Nat)×(Option Nat×Nat)) (λ_=>[sv 6 (.bool false)]) (λx=>[.hp F, .pt R.q 68 [.slice (some ⟨R.n,0,none⟩) Z.length Z.length, .slice (some ⟨R.o,0,none⟩) Z.length Z.length, .slice (some ⟨R.m,0,none⟩) Z.length Z.length, .slice (some ⟨R.e,0,none⟩) Z.length Z.length], .pt R.n 36 (a1a (Z.set k ⟨⟨d,z.v.op,z.v.may,z.v.ever⟩,z.a1,z.c1,z.a2,z.c2⟩)), .pt R.o 4 (opC (Z.set k ⟨⟨d,false,z.v.may,z.v.ever⟩,z.a1,z.c1,z.a2,z.c2⟩)), .pt R.m 60 (a0q (Z.set k ⟨⟨d,false,z.v.may++[d],z.v.ever⟩,x.1.1,x.1.2,z.a2,z.c2⟩)), .pt R.e 60 (Y0 (Z.set k ⟨⟨d,false,z.v.may++[d],z.v.ever++[d]⟩,x.1.1,x.1.2,x.2.1,x.2.2⟩)), .hp (HP.of ((Z.map MSl.m1).set k .emp)), .hp (HP.of ((Z.map MSl.m2).set k .emp)),l9 36 16 x.1.1 (z.v.may.length+1) x.1.2 (H3 (z.v.may++[d])),l9 36 16 x.2.1 (z.v.ever.length+1) x.2.2 (H3 (z.v.ever++[d]))]) (λhj=>?_) (λx=>?_)
  ·refine J.alts ?_ ?_
   ·skip
    refine J.qn 1 λbb=>?_;refine J.alts ?_ ?_
    ·skip
     refine J.ap 9 11 0 (R2 z.v.may d) λa3 c3=>?_;refine J.qn 1 λbc=>?_;refine J.ap 10 12 0 (R2 z.v.ever d) λa4 c4=>?_;refine J.qn 1 λ_=>?_;refine J.s1 4 (a0q (Z.set k ⟨⟨d,false,z.v.may++[d],z.v.ever⟩,a3,c3,z.a2,z.c2⟩)) ?_ ?_ ?_
     ·rw[a0z];omega
     ·rw[show 0+(k:Int).toNat*1=k from by omega,<- a0y];dsimp only;rw[d8];rfl
     refine J.qn 1 λ_=>?_;refine J.s1 5 (Y0 (Z.set k ⟨⟨d,false,z.v.may++[d],z.v.ever++[d]⟩,a3,c3,a4,c4⟩)) ?_ ?_ ?_
     ·rw[a1W];omega
     ·rw[show 0+(k:Int).toNat*1=k from by omega,<- a1V];dsimp only;rw[d8];rfl
     exact J.goto [0,1,2,3,4,5,6,7,9,10] (hj ((a3,c3),(a4,c4))) ⟨rfl,trivial⟩ rfl rfl
    ·skip
     refine J.qn 1 λbc=>?_;refine J.ap 9 11 0 (R2 z.v.may d) λa3 c3=>?_;refine J.ap 10 12 0 (R2 z.v.ever d) λa4 c4=>?_;refine J.qn 1 λ_=>?_;refine J.s1 4 (a0q (Z.set k ⟨⟨d,false,z.v.may++[d],z.v.ever⟩,a3,c3,z.a2,z.c2⟩)) ?_ ?_ ?_
     ·rw[a0z];omega
     ·rw[show 0+(k:Int).toNat*1=k from by omega,<- a0y];dsimp only;rw[d8];rfl
     refine J.qn 1 λ_=>?_;refine J.s1 5 (Y0 (Z.set k ⟨⟨d,false,z.v.may++[d],z.v.ever++[d]⟩,a3,c3,a4,c4⟩)) ?_ ?_ ?_
     ·rw[a1W];omega
     ·rw[show 0+(k:Int).toNat*1=k from by omega,<- a1V];dsimp only;rw[d8];rfl
     exact J.goto [0,1,2,3,4,5,6,7,9,10] (hj ((a3,c3),(a4,c4))) ⟨rfl,trivial⟩ rfl rfl
   ·skip
    refine J.qn 2 λbb=>?_;refine J.ap 9 12 0 (R2 z.v.may d) λa3 c3=>?_;refine J.ap 10 11 0 (R2 z.v.ever d) λa4 c4=>?_;refine J.qn 1 λ_=>?_;refine J.s1 4 (a0q (Z.set k ⟨⟨d,false,z.v.may++[d],z.v.ever⟩,a3,c3,z.a2,z.c2⟩)) ?_ ?_ ?_
    ·rw[a0z];omega
    ·rw[show 0+(k:Int).toNat*1=k from by omega,<- a0y];dsimp only;rw[d8];rfl
    refine J.qn 1 λ_=>?_;refine J.s1 5 (Y0 (Z.set k ⟨⟨d,false,z.v.may++[d],z.v.ever++[d]⟩,a3,c3,a4,c4⟩)) ?_ ?_ ?_
    ·rw[a1W];omega
    ·rw[show 0+(k:Int).toNat*1=k from by omega,<- a1V];dsimp only;rw[d8];rfl
    exact J.goto [0,1,2,3,4,5,6,7,9,10] (hj ((a3,c3),(a4,c4))) ⟨rfl,trivial⟩ rfl rfl
  obtain⟨⟨a3,c3⟩,a4,c4⟩:=x;dsimp only;obtain⟨y,hy⟩:∃y:MSl,y=⟨⟨d,false,z.v.may++[d],z.v.ever++[d]⟩,a3,c3,a4,c4⟩:=⟨_,rfl⟩;rw[show a1a (Z.set k ⟨⟨d,z.v.op,z.v.may,z.v.ever⟩,z.a1,z.c1,z.a2,z.c2⟩)=a1a (Z.set k y)from by rw[hy];unfold a1a;rw[T7,T7,A6,A6],show opC (Z.set k ⟨⟨d,false,z.v.may,z.v.ever⟩,z.a1,z.c1,z.a2,z.c2⟩)=opC (Z.set k y)from by rw[hy];unfold opC;rw[A6,A6],show a0q (Z.set k ⟨⟨d,false,z.v.may++[d],z.v.ever⟩,a3,c3,z.a2,z.c2⟩)=a0q (Z.set k y)from by rw[hy];unfold a0q;rw[A6,A6],<- hy,show l9 36 16 a3 (z.v.may.length+1) c3 (H3 (z.v.may++[d]))=y.m1 from by rw[hy];unfold MSl.m1;rw[d8];rfl,show l9 36 16 a4 (z.v.ever.length+1) c4 (H3 (z.v.ever++[d]))=y.m2 from by rw[hy];unfold MSl.m2;rw[d8];rfl];refine J.closeAt (A:=y.m1) 6 8 k rfl rfl rfl ?_;refine J.closeAt (A:=y.m2) 7 9 k rfl rfl rfl ?_;rw[<- A6,<- A6];refine J.qr [1,2,3,4,5,6,7] λ_=>?_;refine⟨Z.set k y,?_,?_,?_⟩
  ·rw[hin]
  ·unfold a3G;rw[A5];rfl
  ·unfold Mv.write;rw[hin,d7 rfl,hpg,A6,i9,hy];rfl
 ·have hin:Mv.inR (Z.map (·.v)) i=false:=by
   unfold Mv.inR;rw[j5];simp;omega
  refine J.qd (λ_ h1=>?_) λ_ h1=>?_
  ·refine J.qr [1,2,3,4,5,6,7] λ_=>?_;exact⟨Z,by rw[hin],rfl,by unfold Mv.write;rw[hin];rfl⟩
  ·exfalso
   simp at h1;omega
end
end Go.Proofs.YtmafiplddapokaaGreat
