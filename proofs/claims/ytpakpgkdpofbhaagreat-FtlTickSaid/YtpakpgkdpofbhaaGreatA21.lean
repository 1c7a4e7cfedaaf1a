/- Helpers. No condition. -/
import Derived.Test.YtpakpgkdpofbhaaGreatA00
import Derived.Test.YtpakpgkdpofbhaaGreatA04
import Derived.Test.YtpakpgkdpofbhaaGreatA11
import Derived.Test.YtpakpgkdpofbhaaGreatA12
import Derived.Test.YtpakpgkdpofbhaaGreatA13
import Derived.Test.YtpakpgkdpofbhaaGreatA14
import Derived.Test.YtpakpgkdpofbhaaGreatA17
import Derived.Test.YtpakpgkdpofbhaaGreatA18
set_option maxRecDepth 20000
set_option linter.all false
namespace Go.Proofs.YtpakpgkdpofbhaaGreat
open Go Go.RowKit
structure RAd where
 q:Nat
 n:Nat
 o:Nat
 m:Nat
 e:Nat
def a0Z (Z:List MSl):List Value:=Z.flatMap λz=>D2 z.v.now
def opC (Z:List MSl):List Value:=Z.map λz=>Value.bool z.v.op
def a0p (Z:List MSl):List Value:=Z.map λz=>slv z.a1 z.v.may.length z.c1
def X4 (Z:List MSl):List Value:=Z.map λz=>slv z.a2 z.v.ever.length z.c2
def a3H (R:RAd) (Z:List MSl):List Atom:=[.pt R.q 92 [.slice (some ⟨R.n,0,none⟩) Z.length Z.length, .slice (some ⟨R.o,0,none⟩) Z.length Z.length, .slice (some ⟨R.m,0,none⟩) Z.length Z.length, .slice (some ⟨R.e,0,none⟩) Z.length Z.length], .pt R.n 30 (a0Z Z), .pt R.o 4 (opC Z), .pt R.m 36 (a0p Z), .pt R.e 36 (X4 Z), .hp (HP.of (Z.map MSl.m1)), .hp (HP.of (Z.map MSl.m2))]
section
variable {Z : List MSl} {k : Nat} {z : MSl}
theorem a8p (Z:List MSl):(a0Z Z).length=Z.length*16:=by
 induction Z with
 | nil=>rfl
 | cons z Z ih=>
  unfold a0Z at ih ⊢;rw[t6,i4,ih,n8,O5];show 16+_=_;omega
theorem b4C (h:Z[k]? =some z):((a0Z Z).drop (k*16)).take 16=D2 z.v.now:=a0z (λz:MSl=>D2 z.v.now) 16 (λ_=>rfl) Z k z h
theorem b3A (h:Z[k]? =some z):(opC Z)[k]? =some (.bool z.v.op):=by unfold opC;rw[i9,h];rfl
theorem b4J (h:Z[k]? =some z):(a0p Z)[k]? =some (slv z.a1 z.v.may.length z.c1):=by unfold a0p;rw[i9,h];rfl
theorem b8X (h:Z[k]? =some z):(X4 Z)[k]? =some (slv z.a2 z.v.ever.length z.c2):=by unfold X4;rw[i9,h];rfl
theorem a4i {β:Type} (f:MSl->β) {y:MSl} (h:Z[k]? =some z) (hf:f y=f z):(Z.set k y).map f=Z.map f:=by
 rw[x5,hf];exact a1Z (by rw[i9,h];rfl)
theorem b0u (f:MSl->List Value) {y:MSl} (h:Z[k]? =some z) (hf:f y=f z):(Z.set k y).flatMap f=Z.flatMap f:=by
 rw[T3,T3,a4i f h hf]
end
theorem c0Q (a:Option Nat) (n c:Nat) (l:List (List UInt8)) (hl:l.length=n) (hn:n<=1000000) (d:List UInt8) (hd:d.length=16) (hs:∀x∈l,x.length=16):FP 247 [slv a n c,a3C d] [n9 30 16 a n c (G9 l)] (Ps (.bool (l.contains d)) [n9 30 16 a n c (G9 l)]):=by
 refine FE [0,0] Tryz.func247 λX F hX=>?_;refine J.q λbb=>?_;refine J.l (α:=Nat) (λk=>k<=n/\∀j,j<k->∀x,l[j]? =some x->(x==d)=false) (λk=>[si 5 k,sv 0 (slv a n c),⟨3,pp (bb 0),3, .tt⟩]) [] (λk=>[]) (λk=>n-k) (0) (⟨j7 _,λj hj=>absurd hj (Nat.not_lt_zero _)⟩) λk hI=>?_;obtain⟨hk,hno⟩:=hI;refine J.qd (λ_ h1=>?_) λ_ h1=>?_
 ·simp only[d7,i7]at h1;obtain⟨x,hx⟩:∃x,l[k]? =some x:=⟨_,c9 (by omega)⟩;refine J.know (λh' s=>C6 (c:=(a,c)) (by omega) (s.get (i:=1) rfl)) λhg=>?_;obtain⟨g,rfl⟩:=hg;refine J.pn 4 (.of [0,4,8,13,17,20]) [] [1,2] λ_ _=>?_;have hxl:=hs x (m6 hx);refine J.vT (a3C x) rfl rfl (λhg aa w he hC=>J4 tk rfl rfl he rfl rfl rfl (hC rfl _ (B1 (i:=1) rfl)) (by rw[show 0+(k:Int).toNat*16=k*16 from by omega];exact a0z D2 16 (λ_=>rfl) l k x hx) rfl) ?_;refine J.qn 1 λ_=>?_;refine J.vT (.bool (x==d)) rfl rfl (λhg aa w he hC=>(V6 (xs:=D2 x) (ys:=D2 d) rfl rfl rfl he rfl rfl W6 (T6 _) (T6 _) mkD gdD).trans (by rw[eqD _ _ hxl hd,a8S])) ?_;refine J.qd (λ_ h2=>?_) λ_ h2=>?_
  ·have hm:l.contains d=true:=by
    rw[List.contains_iff_mem,<- a4K h2];exact m6 hx
   refine J.qr [1] λ_=>?_;rw[hm];exact⟨rfl,rfl⟩
  ·refine J.q λ_=>?_;refine J.nS (k+1) (⟨by omega,λj hj y hy=>by
    rcases O6 j k with h | h
    ·exact hno j h y hy
    ·obtain rfl:j=k:=by omega
     rw[hx]at hy;injection hy with hy;rw[<- hy];exact h2⟩) (by omega) [0,1,2] rfl rfl
 simp only[d6,i7]at h1;have hm:l.contains d=false:=by
  rw[Bool.eq_false_iff];intro hc;rw[List.contains_iff_mem]at hc;obtain⟨j,hj⟩:=List.getElem?_of_mem hc;have:=hno j (by have:=(List.getElem?_eq_some_iff.1 hj).1;omega) d hj;rw[beq_self_eq_true]at this;cases this
 refine J.qr [1] λ_=>?_;rw[hm];exact⟨rfl,rfl⟩
theorem b2Q (R:RAd) (Z:List MSl) (hn:Z.length<=65536) (hf:∀z∈Z,z.Fine) (i:Int) (d:List UInt8) (hd:d.length=16):FP 179 [pp R.q,iI i,a3C d] (a3H R Z) (Ps (.bool (Mv.may (Z.map (·.v)) i d)) (a3H R Z)):=by
 refine FE [2,0,0] Tryz.func179 λX F hX=>?_;refine J.q λ_=>?_
 by_cases hi:0<=i/\i<(Z.length:Int)
 ·obtain⟨k,rfl⟩:=i5 hi.1;obtain⟨z,hz⟩:∃z,Z[k]? =some z:=⟨_,c9 (by omega)⟩;obtain⟨f1,f2,f3,f4,f5⟩:=hf z (m6 hz);have hin:Mv.inR (Z.map (·.v)) (k:Int)=true:=by unfold Mv.inR;rw[j8,j3 hi.1,j3 hi.2];rfl
  have hpg:Mv.pg (Z.map (·.v)) (k:Int)=z.v:=by unfold Mv.pg;rw[j4,f8,i9,hz];rfl
  have hmy:Mv.may (Z.map (·.v)) (k:Int) d=if z.v.op then z.v.may.contains d else z.v.now==d:=by unfold Mv.may;rw[hin,hpg,s7]
  rw[r9 (show¬(k:Int)<0 by omega),r9 (show¬(k:Int)>=Z.length by omega)];refine J.qF λ_=>?_;refine J.qn 10 λ_=>?_;refine J.v (.bool z.v.op) rfl rfl (λhg aa w he hw=>B3 tk rfl rfl he rfl rfl rfl (hw.get (i:=3) rfl) (by rw[show 0+(k:Int).toNat*1=k from by omega];exact b3A hz)) ?_;refine J.qd (λ_ h1=>?_) λ_ h1=>?_
  ·rw[g7 h1]at hmy;refine J.openAt 6 k rfl rfl (by rw[i9,hz];rfl) rfl ?_;refine J.pn 6 (.of [0,4,8,13,16,20,25,29,34,36]) [9] [1,2,3,4,5,6,8,9] λ_ _=>?_;refine J.vT (slv z.a1 z.v.may.length z.c1) rfl rfl (λhg aa w he hC=>B3 tk rfl rfl he rfl rfl rfl (hC rfl _ (B1 (i:=4) rfl)) (by rw[show 0+(k:Int).toNat*1=k from by omega];exact b4J hz)) ?_;refine J.qp (c0Q z.a1 z.v.may.length z.c1 z.v.may rfl (by omega) d hd f2) [9] λ_=>?_;refine J.q λ_=>?_;refine J.closeAt (A:=z.m1) 6 9 k rfl rfl rfl ?_;have hsame:(Z.map MSl.m1).set k z.m1=Z.map MSl.m1:=a1Z (by rw[i9,hz];rfl);rw[hsame];refine J.qr [1,2,3,4,5,6,7] λ_=>?_;rw[hmy];exact⟨rfl,rfl⟩
  ·rw[f9 (by rw[h1];decide)]at hmy;refine J.pn 6 (.of [0,4,8,13,16,20,25,29,32,36]) [9] [1,2,3,4,5,8] λ_ _=>?_;refine J.vT (a3C z.v.now) rfl rfl (λhg aa w he hC=>H2 tk rfl rfl he rfl rfl rfl (hC rfl _ (B1 (i:=2) rfl)) (by rw[show 0+(k:Int).toNat*16=k*16 from by omega];exact b4C hz) rfl) ?_;refine J.qn 1 λ_=>?_;refine J.vT (.bool (z.v.now==d)) rfl rfl (λhg aa w he hC=>(V6 (xs:=D2 z.v.now) (ys:=D2 d) rfl rfl rfl he rfl rfl W6 (T6 _) (T6 _) mkD gdD).trans (by rw[eqD _ _ f1 hd,a8S])) ?_;refine J.qr [1,2,3,4,5,6,7] λ_=>?_;rw[hmy];exact⟨rfl,rfl⟩
 ·have hmy:Mv.may (Z.map (·.v)) i d=false:=by
   unfold Mv.may Mv.inR;rw[j8];have:(decide (0<=i)&&decide (i<(Z.length:Int)))=false:=by simp;omega
   rw[this];rfl
  refine J.qd (λ_ h1=>?_) λ_ h1=>?_
  ·refine J.qr [1,2,3,4,5,6,7] λ_=>?_;rw[hmy];exact⟨rfl,rfl⟩
  ·exfalso
   simp at h1;omega
end Go.Proofs.YtpakpgkdpofbhaaGreat
namespace Go.Proofs.YtpakpgkdpofbhaaGreat
structure Wa where
 P:Pv
 M:List MPv
 die:Int
 wrong:Bool
 full:Bool
 stuck:Bool
 fs:List Fl
 since:Int
 late:Int
namespace Wa
def lates (W:Wa):Int:=W.late+((W.fs.filter λf=>decide (f.at_>=W.since)).length:Int)
def ask (W:Wa) (s:Stp):Stp:=if s.fn=8 then {s with f:={s.f with x:=W.die}}else s
def skip (s:Stp):Bool:=decide (s.n>1048576)||decide (s.n< -1)
def on (W:Wa):Bool:=!W.P.nd.off&&W.P.Z.isSome
def hold (W:Wa) (s:Stp) (t:Td):List MPv×Bool:=
 if s.fn=1 then(if t.err=0 then Mv.saw W.M s.lpn t.data else W.M,(decide (t.err=0)&& !Mv.may W.M s.lpn t.data)||decide (t.err=10)||decide (t.err=11)||(decide (t.err=3)&&decide (s.lpn>=0)&&decide (s.lpn<(W.M.length:Int))))
 else if s.fn=2\/s.fn=3 then(if t.err=0 then Mv.write W.M s.lpn (if s.fn=3 then zd else s.data)else W.M,decide (t.err=0)&& !Mv.inR W.M s.lpn)
 else if s.fn=4 then(if t.err=0 then Mv.flush W.M else W.M,false)
 else(W.M,false)
def step (W:Wa) (s:Stp):Wa:=
 if W.stuck then W
 else
  let W1:Wa:=if s.fn=8 then {W with late:=W.late+1}else W
  if skip s then W1
  else
   let r:=W.P.step (W.ask s)
   let off:=r.1.nd.off
   let h:=W.hold s r.2
   let W2:Wa:={W1 with P:=r.1,M:=h.1,wrong:=W.wrong||h.2,full:=W.full||(decide (r.2.err=11)&&decide (s.fn≠7))}
   if s.fn=7 then
    let st:=decide (r.2.err=11)&& !off&&decide (W2.lates>1)
    let W3:Wa:={W2 with M:=Mv.cut W2.M,stuck:=st,wrong:=W2.wrong||(decide (r.2.err≠0)&& !off&& !st)}
    if r.2.err=0 then {W3 with since:=r.1.nd.ops,late:=0}else W3
   else {W2 with wrong:=W2.wrong||(W.on&& !off&&(decide (r.2.err=9)||decide (r.2.err=12)))}
def fx (u:Int) (f:Fl):Fl:={f with x:=u}
def dieI (die:Int) (D:Nat):Int:=(die.tmod D+D).tmod D
def fl (D:Nat) (die:Int) (l:List Fl):List Fl:=(l.take 15).map (fx (dieI die D))
def new (D B P:Nat) (die:Int) (l:List Fl):Wa:=⟨Pv.new D B P (fl D die l),Mv.new (lgN D B P),dieI die D,false,false,false,fl D die l,0,0⟩
end Wa
end Go.Proofs.YtpakpgkdpofbhaaGreat
namespace Go.Proofs.YtpakpgkdpofbhaaGreat
open Go Go.RowKit
structure WAd where
 w:Nat
 q:Nat
 nn:Nat
 A:Pad
 R:RAd
 fa:Option Nat
 fc:Nat
def b9p (U:WAd) (W:Wa):Atom:= .pt U.w 77 [pp U.q,pp U.R.q,iI W.die, .bool W.wrong, .bool W.full, .bool W.stuck,slv U.fa W.fs.length U.fc,iI W.since,iI W.late]
def b9o (U:WAd) (W:Wa):Atom:=n9 57 7 U.fa W.fs.length U.fc (y8 W.fs)
def a4S (f:MSl->MSl) (i:Nat) (Z:List MSl):List MSl:=(Z.take i).map f++Z.drop i
theorem a2O {β:Type} (f:MSl->MSl) (g:MSl->β) (h:∀z,g (f z)=g z) (i:Nat) (Z:List MSl):(a4S f i Z).map g=Z.map g:=by
 unfold a4S;rw[x8,a1L,show g ∘ f=g from funext h,<- x8,C5]
theorem b5j (f:MSl->MSl) (g:MSl->List Value) (h:∀z,g (f z)=g z) (i:Nat) (Z:List MSl):(a4S f i Z).flatMap g=Z.flatMap g:=by
 rw[T3,T3,a2O f g h]
theorem b1U (f:MSl->MSl) (i:Nat) (Z:List MSl):(a4S f i Z).length=Z.length:=by
 have:=congrArg List.length (a2O f (λ_=>()) (λ_=>rfl) i Z);simpa using this
theorem b9D (f:MSl->MSl) {i:Nat} {Z:List MSl} {z:MSl} (h:Z[i]? =some z):(a4S f i Z)[i]? =some z:=by
 have hi:=(List.getElem?_eq_some_iff.1 h).1;unfold a4S;rw[B5 (by simp;omega),J3,j8,m9,L8 (by omega),T9,P6,h]
def a4M (z:MSl):MSl:={z with v:=Mv.cut1 z.v}
theorem c0S (R:RAd) (Z:List MSl) (hn:Z.length<=65536):FP 113 [pp R.q] (a3H R Z) (λv As=>∃Z',v= .tuple #[]/\As=a3H R Z'/\Z'.map (·.v)=Mv.cut (Z.map (·.v))):=by
 refine FE [2] Tryz.func113 λX F hX=>?_;refine J.q λ_=>?_;refine J.l (α:=Nat) (λk=>k<=Z.length) (λk=>[si 2 k,⟨0,pp R.q,2, .tt⟩]) [3] (λk=>[.pt R.o 4 (opC (a4S a4M k Z))]) (λk=>Z.length-k) (0) (j7 _) λk hI=>?_;refine J.qd (λ_ h1=>?_) λ_ h1=>?_
 ·simp only[d7,i7]at h1;obtain⟨z,hz⟩:∃z,Z[k]? =some z:=⟨_,c9 (by omega)⟩;have hput:(opC (a4S a4M k Z)).set (0+(k:Int).toNat*1) (.bool true)=opC (a4S a4M (k+1) Z):=by
   rw[show 0+(k:Int).toNat*1=k from by omega];have h2:=a7J (f:=a4M) (V:=Z) (Y:=a4S a4M k Z) rfl h1 (b9D a4M hz);have h3:a4S a4M (k+1) Z=(a4S a4M k Z).set k (a4M z):=h2.symm;rw[h3];unfold opC;rw[x5];rfl
  refine J.qn 10 λ_=>?_;refine J.s1 3 (opC (a4S a4M (k+1) Z)) ?_ hput ?_
  ·unfold opC;rw[j8,b1U];omega
  refine J.q λ_=>?_;refine J.n (k+1) (by omega) (by omega) [0,1,2,3,4,5,6,7]
 simp only[d6,i7]at h1;obtain rfl:k=Z.length:=by omega
 refine J.q λ_=>?_;refine J.f [1,2,3,4,5,6,7] ?_;refine⟨a4S a4M Z.length Z,rfl,?_,?_⟩
 ·unfold a3H a0Z a0p X4;rw[b1U,b5j a4M _ (λ_=>rfl),a2O a4M (λz=>slv z.a1 z.v.may.length z.c1) (λ_=>rfl),a2O a4M (λz=>slv z.a2 z.v.ever.length z.c2) (λ_=>rfl),a2O a4M MSl.m1 (λ_=>rfl),a2O a4M MSl.m2 (λ_=>rfl)];rfl
 ·unfold a4S Mv.cut;rw[t7 (by simp),a0T (by simp),A4,a1L,a1L];rfl
theorem a7z (Z:List MSl) (k:Nat) (y:MSl):(opC Z).set k (.bool y.v.op)=opC (Z.set k y):=by unfold opC;rw[x5]
theorem a0x (Z:List MSl) (k:Nat) (y:MSl):(a0p Z).set k (slv y.a1 y.v.may.length y.c1)=a0p (Z.set k y):=by unfold a0p;rw[x5]
theorem a1U (Z:List MSl) (k:Nat) (y:MSl):(X4 Z).set k (slv y.a2 y.v.ever.length y.c2)=X4 (Z.set k y):=by unfold X4;rw[x5]
theorem a7A (Z:List MSl):(opC Z).length=Z.length:=j8 _
theorem a0y (Z:List MSl):(a0p Z).length=Z.length:=j8 _
theorem a1V (Z:List MSl):(X4 Z).length=Z.length:=j8 _
theorem b2p {Z:List MSl} {k:Nat} {z:MSl} (hz:Z[k]? =some z) (y:MSl):(a0Z Z).take (k*16)++D2 y.v.now++(a0Z Z).drop (k*16+(D2 y.v.now).length)=a0Z (Z.set k y):=a6v (λz:MSl=>D2 z.v.now) 16 (λ_=>rfl) (D2 y.v.now) hz (j6 _) (y:=y) rfl
theorem b0w (R:RAd) (Z:List MSl) (hn:Z.length<=65536) (hf:∀z∈Z,z.Fine) (i:Int) (d:List UInt8) (hd:d.length=16):FP 111 [pp R.q,iI i,a3C d] (a3H R Z) (λv As=>∃Z',v= .bool (Mv.inR (Z.map (·.v)) i)/\As=a3H R Z'/\Z'.map (·.v)=Mv.write (Z.map (·.v)) i d):=by
 refine FE [2,0,0] Tryz.func111 λX F hX=>?_;refine J.q λ_=>?_
 by_cases hi:0<=i/\i<(Z.length:Int)
 ·obtain⟨k,rfl⟩:=i5 hi.1;obtain⟨z,hz⟩:∃z,Z[k]? =some z:=⟨_,c9 (by omega)⟩;obtain⟨f1,f2,f3,f4,f5⟩:=hf z (m6 hz);have hin:Mv.inR (Z.map (·.v)) (k:Int)=true:=by unfold Mv.inR;rw[j8,j3 hi.1,j3 hi.2];rfl
  have hpg:Mv.pg (Z.map (·.v)) (k:Int)=z.v:=by unfold Mv.pg;rw[j4,f8,i9,hz];rfl
  rw[r9 (show¬(k:Int)<0 by omega),r9 (show¬(k:Int)>=Z.length by omega)];refine J.qF λ_=>?_;refine J.openAt 6 k rfl rfl (by rw[i9,hz];rfl) rfl ?_;refine J.openAt 7 k rfl rfl (by rw[i9,hz];rfl) rfl ?_;refine J.pn 12 (.of [0,4,8,13,16,20,24,28,33,36,41,44,50,52,59]) [13,14] [1,8] λ_ _=>?_;have hst:=b2p hz ⟨⟨d,z.v.op,z.v.may,z.v.ever⟩,z.a1,z.c1,z.a2,z.c2⟩;refine J.sN (D2 d) 2 (a0Z (Z.set k ⟨⟨d,z.v.op,z.v.may,z.v.ever⟩,z.a1,z.c1,z.a2,z.c2⟩)) ?_ ?_ ?_
  ·rw[a8p];show 0+(k:Int).toNat*16+16<=_;omega
  ·rw[show 0+(k:Int).toNat*16=k*16 from by omega];exact hst
  refine J.qn 1 λ_=>?_;refine J.s1 3 (opC (Z.set k ⟨⟨d,false,z.v.may,z.v.ever⟩,z.a1,z.c1,z.a2,z.c2⟩)) ?_ ?_ ?_
  ·rw[a7A];omega
  ·rw[show 0+(k:Int).toNat*1=k from by omega,<- a7z]
  refine J.q λ_=>?_;refine J.plan2 (.take true 0 (.take true 1 (.take true 2 (.take false 3 (.take true 4 (.take true 5 (.take true 6 (.take true 7 (.take false 8 (.take true 9 (.take true 10 (.take true 11 (.take true 12 (.take false 13 (.take true 14 (.take true 15 (.take false 16 (.take false 17 (.take true 20 (.take true 21 (.take true 22 (.take false 23 (.take true 24 (.take true 25 (.take false 26 (.take false 27 (.alt false 18 ((.alt false 19 ((.of [114,118,120,127,128,135])) (.alt false 28 ((.of [78,118,120,127,128,135])) .non))) (.alt false 28 ((.of [74,78,118,120,127,128,135])) .non)))))))))))))))))))))))))))) [9,30,31,32,33] [9] [1,2,3,4,5,6,7,8] (by rw[hX.hP];kernel_rfl) (by kernel_rfl) ?_;refine J.qn 16 λ_=>?_;refine J.vT (slv z.a1 z.v.may.length z.c1) rfl rfl (λhg aa w he hC=>B3 tk rfl rfl he rfl rfl rfl (hC rfl _ (B1 (i:=4) rfl)) (by rw[show 0+(k:Int).toNat*1=k from by omega];exact b4J hz)) ?_;refine J.qn 7 λ_=>?_;refine J.vT (slv z.a2 z.v.ever.length z.c2) rfl rfl (λhg aa w he hC=>B3 tk rfl rfl he rfl rfl rfl (hC rfl _ (B1 (i:=5) rfl)) (by rw[show 0+(k:Int).toNat*1=k from by omega];exact b8X hz)) ?_;refine J.qn 1 λ_=>?_;refine J.join (α:=(Option Nat×Nat)×(Option Nat×Nat)) (λ_=>[sv 6 (.bool false)]) (λx=>[.hp F, .pt R.q 92 [.slice (some ⟨R.n,0,none⟩) Z.length Z.length, .slice (some ⟨R.o,0,none⟩) Z.length Z.length, .slice (some ⟨R.m,0,none⟩) Z.length Z.length, .slice (some ⟨R.e,0,none⟩) Z.length Z.length], .pt R.n 30 (a0Z (Z.set k ⟨⟨d,z.v.op,z.v.may,z.v.ever⟩,z.a1,z.c1,z.a2,z.c2⟩)), .pt R.o 4 (opC (Z.set k ⟨⟨d,false,z.v.may,z.v.ever⟩,z.a1,z.c1,z.a2,z.c2⟩)), .pt R.m 36 (a0p (Z.set k ⟨⟨d,false,z.v.may++[d],z.v.ever⟩,x.1.1,x.1.2,z.a2,z.c2⟩)), .pt R.e 36 (X4 (Z.set k ⟨⟨d,false,z.v.may++[d],z.v.ever++[d]⟩,x.1.1,x.1.2,x.2.1,x.2.2⟩)), .hp (HP.of ((Z.map MSl.m1).set k .emp)), .hp (HP.of ((Z.map MSl.m2).set k .emp)),n9 30 16 x.1.1 (z.v.may.length+1) x.1.2 (G9 (z.v.may++[d])),n9 30 16 x.2.1 (z.v.ever.length+1) x.2.2 (G9 (z.v.ever++[d]))]) (λhj=>?_) (λx=>?_)
  ·refine J.alts ?_ ?_
   ·skip
    refine J.qn 1 λbb=>?_;refine J.alts ?_ ?_
    ·skip
     refine J.ap 9 11 0 (Q4 z.v.may d) λa3 c3=>?_;refine J.qn 1 λbc=>?_;refine J.ap 10 12 0 (Q4 z.v.ever d) λa4 c4=>?_;refine J.qn 1 λ_=>?_;refine J.s1 4 (a0p (Z.set k ⟨⟨d,false,z.v.may++[d],z.v.ever⟩,a3,c3,z.a2,z.c2⟩)) ?_ ?_ ?_
     ·rw[a0y];omega
     ·rw[show 0+(k:Int).toNat*1=k from by omega,<- a0x];dsimp only;rw[i4];rfl
     refine J.qn 1 λ_=>?_;refine J.s1 5 (X4 (Z.set k ⟨⟨d,false,z.v.may++[d],z.v.ever++[d]⟩,a3,c3,a4,c4⟩)) ?_ ?_ ?_
     ·rw[a1V];omega
     ·rw[show 0+(k:Int).toNat*1=k from by omega,<- a1U];dsimp only;rw[i4];rfl
     exact J.goto [0,1,2,3,4,5,6,7,9,10] (hj ((a3,c3),(a4,c4))) ⟨rfl,trivial⟩ rfl rfl
    ·skip
     refine J.qn 1 λbc=>?_;refine J.ap 9 11 0 (Q4 z.v.may d) λa3 c3=>?_;refine J.ap 10 12 0 (Q4 z.v.ever d) λa4 c4=>?_;refine J.qn 1 λ_=>?_;refine J.s1 4 (a0p (Z.set k ⟨⟨d,false,z.v.may++[d],z.v.ever⟩,a3,c3,z.a2,z.c2⟩)) ?_ ?_ ?_
     ·rw[a0y];omega
     ·rw[show 0+(k:Int).toNat*1=k from by omega,<- a0x];dsimp only;rw[i4];rfl
     refine J.qn 1 λ_=>?_;refine J.s1 5 (X4 (Z.set k ⟨⟨d,false,z.v.may++[d],z.v.ever++[d]⟩,a3,c3,a4,c4⟩)) ?_ ?_ ?_
     ·rw[a1V];omega
     ·rw[show 0+(k:Int).toNat*1=k from by omega,<- a1U];dsimp only;rw[i4];rfl
     exact J.goto [0,1,2,3,4,5,6,7,9,10] (hj ((a3,c3),(a4,c4))) ⟨rfl,trivial⟩ rfl rfl
   ·skip
    refine J.qn 2 λbb=>?_;refine J.ap 9 12 0 (Q4 z.v.may d) λa3 c3=>?_;refine J.ap 10 11 0 (Q4 z.v.ever d) λa4 c4=>?_;refine J.qn 1 λ_=>?_;refine J.s1 4 (a0p (Z.set k ⟨⟨d,false,z.v.may++[d],z.v.ever⟩,a3,c3,z.a2,z.c2⟩)) ?_ ?_ ?_
    ·rw[a0y];omega
    ·rw[show 0+(k:Int).toNat*1=k from by omega,<- a0x];dsimp only;rw[i4];rfl
    refine J.qn 1 λ_=>?_;refine J.s1 5 (X4 (Z.set k ⟨⟨d,false,z.v.may++[d],z.v.ever++[d]⟩,a3,c3,a4,c4⟩)) ?_ ?_ ?_
    ·rw[a1V];omega
    ·rw[show 0+(k:Int).toNat*1=k from by omega,<- a1U];dsimp only;rw[i4];rfl
    exact J.goto [0,1,2,3,4,5,6,7,9,10] (hj ((a3,c3),(a4,c4))) ⟨rfl,trivial⟩ rfl rfl
  obtain⟨⟨a3,c3⟩,a4,c4⟩:=x;dsimp only;obtain⟨y,hy⟩:∃y:MSl,y=⟨⟨d,false,z.v.may++[d],z.v.ever++[d]⟩,a3,c3,a4,c4⟩:=⟨_,rfl⟩;rw[show a0Z (Z.set k ⟨⟨d,z.v.op,z.v.may,z.v.ever⟩,z.a1,z.c1,z.a2,z.c2⟩)=a0Z (Z.set k y)from by rw[hy];unfold a0Z;rw[T3,T3,x5,x5],show opC (Z.set k ⟨⟨d,false,z.v.may,z.v.ever⟩,z.a1,z.c1,z.a2,z.c2⟩)=opC (Z.set k y)from by rw[hy];unfold opC;rw[x5,x5],show a0p (Z.set k ⟨⟨d,false,z.v.may++[d],z.v.ever⟩,a3,c3,z.a2,z.c2⟩)=a0p (Z.set k y)from by rw[hy];unfold a0p;rw[x5,x5],<- hy,show n9 30 16 a3 (z.v.may.length+1) c3 (G9 (z.v.may++[d]))=y.m1 from by rw[hy];unfold MSl.m1;rw[i4];rfl,show n9 30 16 a4 (z.v.ever.length+1) c4 (G9 (z.v.ever++[d]))=y.m2 from by rw[hy];unfold MSl.m2;rw[i4];rfl];refine J.closeAt (A:=y.m1) 6 8 k rfl rfl rfl ?_;refine J.closeAt (A:=y.m2) 7 9 k rfl rfl rfl ?_;rw[<- x5,<- x5];refine J.qr [1,2,3,4,5,6,7] λ_=>?_;refine⟨Z.set k y,?_,?_,?_⟩
  ·rw[hin]
  ·unfold a3H;rw[s9];rfl
  ·unfold Mv.write;rw[hin,g7 rfl,hpg,x5,j4,hy];rfl
 ·have hin:Mv.inR (Z.map (·.v)) i=false:=by
   unfold Mv.inR;rw[j8];simp;omega
  refine J.qd (λ_ h1=>?_) λ_ h1=>?_
  ·refine J.qr [1,2,3,4,5,6,7] λ_=>?_;exact⟨Z,by rw[hin],rfl,by unfold Mv.write;rw[hin];rfl⟩
  ·exfalso
   simp at h1;omega
theorem b2e {α:Type} (m:Nat) (x:α):(List.replicate m [x]).flatten=List.replicate m x:=by
 induction m with
 | zero=>rfl
 | succ m ih=>rw[U1,List.flatten_cons,ih];rfl
theorem b1u (g:Int) (m:Nat) (hm:min (max g 0) 65536=(m:Int)):FP 109 [iI g] [] (λv As=>∃R Z,v=pp R.q/\As=a3H R Z/\Z.map (·.v)=Mv.new g):=by
 have hm1:m<=65536:=by omega
 refine FE [0] Tryz.func109 λX F hX=>?_;refine J.q λ_=>?_;have hmm:(if(if(65536:Int)<g then 65536 else g)>0 then(if(65536:Int)<g then 65536 else g)else 0)=(m:Int):=by split<;>(split<;>omega)
 rw[hmm];refine J.join (α:=Nat×Nat×Nat×Nat×Nat) (λx=>[⟨4,pp x.2.2.2.2,6, .tt⟩,si 3 m]) (λx=>[.hp F, .pt x.1 30 (List.replicate m [Value.int .u8 0,Value.int .u8 0,Value.int .u8 0,Value.int .u8 0,Value.int .u8 0,Value.int .u8 0,Value.int .u8 0,Value.int .u8 0,Value.int .u8 0,Value.int .u8 0,Value.int .u8 0,Value.int .u8 0,Value.int .u8 0,Value.int .u8 0,Value.int .u8 0,Value.int .u8 0]).flatten, .pt x.2.1 4 (List.replicate m [Value.bool false]).flatten, .pt x.2.2.1 36 (List.replicate m [Value.slice none 0 0]).flatten, .pt x.2.2.2.1 36 (List.replicate m [Value.slice none 0 0]).flatten, .pt x.2.2.2.2 92 [.slice (some ⟨x.1,0,none⟩) m m, .slice (some ⟨x.2.1,0,none⟩) m m, .slice (some ⟨x.2.2.1,0,none⟩) m m, .slice (some ⟨x.2.2.2.1,0,none⟩) m m]]) (λhj=>?_) (λx=>?_)
 ·refine J.plan (.take true 0 (.take true 2 (.take true 4 (.take true 6 (.alt false 1 ((.alt false 3 ((.alt false 5 ((.of [30,32,39,40])) (.alt false 7 ((.of [22,32,39,40])) .non))) (.alt false 5 ((.alt false 3 ((.of [30,32,39,40])) (.alt false 7 ((.of [14,32,39,40])) .non))) (.alt false 7 ((.alt false 3 ((.of [22,32,39,40])) (.alt false 5 ((.of [14,32,39,40])) .non))) .non)))) (.alt false 3 ((.alt false 1 ((.alt false 5 ((.of [30,32,39,40])) (.alt false 7 ((.of [22,32,39,40])) .non))) (.alt false 5 ((.alt false 1 ((.of [30,32,39,40])) (.alt false 7 ((.of [6,32,39,40])) .non))) (.alt false 7 ((.alt false 1 ((.of [22,32,39,40])) (.alt false 5 ((.of [6,32,39,40])) .non))) .non)))) (.alt false 5 ((.alt false 1 ((.alt false 3 ((.of [30,32,39,40])) (.alt false 7 ((.of [14,32,39,40])) .non))) (.alt false 3 ((.alt false 1 ((.of [30,32,39,40])) (.alt false 7 ((.of [6,32,39,40])) .non))) (.alt false 7 ((.alt false 1 ((.of [14,32,39,40])) (.alt false 3 ((.of [6,32,39,40])) .non))) .non)))) (.alt false 7 ((.alt false 1 ((.alt false 3 ((.of [22,32,39,40])) (.alt false 5 ((.of [14,32,39,40])) .non))) (.alt false 3 ((.alt false 1 ((.of [22,32,39,40])) (.alt false 5 ((.of [6,32,39,40])) .non))) (.alt false 5 ((.alt false 1 ((.of [14,32,39,40])) (.alt false 3 ((.of [6,32,39,40])) .non))) .non)))) .non)))))))) [8,9,10] [] (by rw[hX.hP];kernel_rfl) (by kernel_rfl) ?_;refine J.q λ_=>?_;refine J.alts ?_ ?_
  ·skip
   refine J.mk 2 λgn=>?_;refine J.qn 1 λ_=>?_;refine J.alts ?_ ?_
   ·skip
    refine J.mk 3 λgo=>?_;refine J.qn 1 λ_=>?_;refine J.alts ?_ ?_
    ·skip
     refine J.mk 4 λgm=>?_;refine J.qn 1 λ_=>?_;refine J.mk 5 λge=>?_;refine J.qn 4 λbq=>?_;exact J.goto [0,1,2,3,4,5] (hj (gn,go,gm,ge,bq 0)) ⟨rfl,rfl,trivial⟩ rfl rfl
    ·skip
     refine J.mk 4 λge=>?_;refine J.qn 1 λ_=>?_;refine J.mk 5 λgm=>?_;refine J.qn 4 λbq=>?_;exact J.goto [0,1,2,4,3,5] (hj (gn,go,gm,ge,bq 0)) ⟨rfl,rfl,trivial⟩ rfl rfl
   ·skip
    refine J.alts ?_ ?_
    ·skip
     refine J.mk 3 λgm=>?_;refine J.qn 1 λ_=>?_;refine J.alts ?_ ?_
     ·skip
      refine J.mk 4 λgo=>?_;refine J.qn 1 λ_=>?_;refine J.mk 5 λge=>?_;refine J.qn 4 λbq=>?_;exact J.goto [0,1,3,2,4,5] (hj (gn,go,gm,ge,bq 0)) ⟨rfl,rfl,trivial⟩ rfl rfl
     ·skip
      refine J.mk 4 λge=>?_;refine J.qn 1 λ_=>?_;refine J.mk 5 λgo=>?_;refine J.qn 4 λbq=>?_;exact J.goto [0,1,4,2,3,5] (hj (gn,go,gm,ge,bq 0)) ⟨rfl,rfl,trivial⟩ rfl rfl
    ·skip
     refine J.mk 3 λge=>?_;refine J.qn 1 λ_=>?_;refine J.alts ?_ ?_
     ·skip
      refine J.mk 4 λgo=>?_;refine J.qn 1 λ_=>?_;refine J.mk 5 λgm=>?_;refine J.qn 4 λbq=>?_;exact J.goto [0,1,3,4,2,5] (hj (gn,go,gm,ge,bq 0)) ⟨rfl,rfl,trivial⟩ rfl rfl
     ·skip
      refine J.mk 4 λgm=>?_;refine J.qn 1 λ_=>?_;refine J.mk 5 λgo=>?_;refine J.qn 4 λbq=>?_;exact J.goto [0,1,4,3,2,5] (hj (gn,go,gm,ge,bq 0)) ⟨rfl,rfl,trivial⟩ rfl rfl
  ·skip
   refine J.alts ?_ ?_
   ·skip
    refine J.mk 2 λgo=>?_;refine J.qn 1 λ_=>?_;refine J.alts ?_ ?_
    ·skip
     refine J.mk 3 λgn=>?_;refine J.qn 1 λ_=>?_;refine J.alts ?_ ?_
     ·skip
      refine J.mk 4 λgm=>?_;refine J.qn 1 λ_=>?_;refine J.mk 5 λge=>?_;refine J.qn 4 λbq=>?_;exact J.goto [0,2,1,3,4,5] (hj (gn,go,gm,ge,bq 0)) ⟨rfl,rfl,trivial⟩ rfl rfl
     ·skip
      refine J.mk 4 λge=>?_;refine J.qn 1 λ_=>?_;refine J.mk 5 λgm=>?_;refine J.qn 4 λbq=>?_;exact J.goto [0,2,1,4,3,5] (hj (gn,go,gm,ge,bq 0)) ⟨rfl,rfl,trivial⟩ rfl rfl
    ·skip
     refine J.alts ?_ ?_
     ·skip
      refine J.mk 3 λgm=>?_;refine J.qn 1 λ_=>?_;refine J.alts ?_ ?_
      ·skip
       refine J.mk 4 λgn=>?_;refine J.qn 1 λ_=>?_;refine J.mk 5 λge=>?_;refine J.qn 4 λbq=>?_;exact J.goto [0,3,1,2,4,5] (hj (gn,go,gm,ge,bq 0)) ⟨rfl,rfl,trivial⟩ rfl rfl
      ·skip
       refine J.mk 4 λge=>?_;refine J.qn 1 λ_=>?_;refine J.mk 5 λgn=>?_;refine J.qn 4 λbq=>?_;exact J.goto [0,4,1,2,3,5] (hj (gn,go,gm,ge,bq 0)) ⟨rfl,rfl,trivial⟩ rfl rfl
     ·skip
      refine J.mk 3 λge=>?_;refine J.qn 1 λ_=>?_;refine J.alts ?_ ?_
      ·skip
       refine J.mk 4 λgn=>?_;refine J.qn 1 λ_=>?_;refine J.mk 5 λgm=>?_;refine J.qn 4 λbq=>?_;exact J.goto [0,3,1,4,2,5] (hj (gn,go,gm,ge,bq 0)) ⟨rfl,rfl,trivial⟩ rfl rfl
      ·skip
       refine J.mk 4 λgm=>?_;refine J.qn 1 λ_=>?_;refine J.mk 5 λgn=>?_;refine J.qn 4 λbq=>?_;exact J.goto [0,4,1,3,2,5] (hj (gn,go,gm,ge,bq 0)) ⟨rfl,rfl,trivial⟩ rfl rfl
   ·skip
    refine J.alts ?_ ?_
    ·skip
     refine J.mk 2 λgm=>?_;refine J.qn 1 λ_=>?_;refine J.alts ?_ ?_
     ·skip
      refine J.mk 3 λgn=>?_;refine J.qn 1 λ_=>?_;refine J.alts ?_ ?_
      ·skip
       refine J.mk 4 λgo=>?_;refine J.qn 1 λ_=>?_;refine J.mk 5 λge=>?_;refine J.qn 4 λbq=>?_;exact J.goto [0,2,3,1,4,5] (hj (gn,go,gm,ge,bq 0)) ⟨rfl,rfl,trivial⟩ rfl rfl
      ·skip
       refine J.mk 4 λge=>?_;refine J.qn 1 λ_=>?_;refine J.mk 5 λgo=>?_;refine J.qn 4 λbq=>?_;exact J.goto [0,2,4,1,3,5] (hj (gn,go,gm,ge,bq 0)) ⟨rfl,rfl,trivial⟩ rfl rfl
     ·skip
      refine J.alts ?_ ?_
      ·skip
       refine J.mk 3 λgo=>?_;refine J.qn 1 λ_=>?_;refine J.alts ?_ ?_
       ·skip
        refine J.mk 4 λgn=>?_;refine J.qn 1 λ_=>?_;refine J.mk 5 λge=>?_;refine J.qn 4 λbq=>?_;exact J.goto [0,3,2,1,4,5] (hj (gn,go,gm,ge,bq 0)) ⟨rfl,rfl,trivial⟩ rfl rfl
       ·skip
        refine J.mk 4 λge=>?_;refine J.qn 1 λ_=>?_;refine J.mk 5 λgn=>?_;refine J.qn 4 λbq=>?_;exact J.goto [0,4,2,1,3,5] (hj (gn,go,gm,ge,bq 0)) ⟨rfl,rfl,trivial⟩ rfl rfl
      ·skip
       refine J.mk 3 λge=>?_;refine J.qn 1 λ_=>?_;refine J.alts ?_ ?_
       ·skip
        refine J.mk 4 λgn=>?_;refine J.qn 1 λ_=>?_;refine J.mk 5 λgo=>?_;refine J.qn 4 λbq=>?_;exact J.goto [0,3,4,1,2,5] (hj (gn,go,gm,ge,bq 0)) ⟨rfl,rfl,trivial⟩ rfl rfl
       ·skip
        refine J.mk 4 λgo=>?_;refine J.qn 1 λ_=>?_;refine J.mk 5 λgn=>?_;refine J.qn 4 λbq=>?_;exact J.goto [0,4,3,1,2,5] (hj (gn,go,gm,ge,bq 0)) ⟨rfl,rfl,trivial⟩ rfl rfl
    ·skip
     refine J.mk 2 λge=>?_;refine J.qn 1 λ_=>?_;refine J.alts ?_ ?_
     ·skip
      refine J.mk 3 λgn=>?_;refine J.qn 1 λ_=>?_;refine J.alts ?_ ?_
      ·skip
       refine J.mk 4 λgo=>?_;refine J.qn 1 λ_=>?_;refine J.mk 5 λgm=>?_;refine J.qn 4 λbq=>?_;exact J.goto [0,2,3,4,1,5] (hj (gn,go,gm,ge,bq 0)) ⟨rfl,rfl,trivial⟩ rfl rfl
      ·skip
       refine J.mk 4 λgm=>?_;refine J.qn 1 λ_=>?_;refine J.mk 5 λgo=>?_;refine J.qn 4 λbq=>?_;exact J.goto [0,2,4,3,1,5] (hj (gn,go,gm,ge,bq 0)) ⟨rfl,rfl,trivial⟩ rfl rfl
     ·skip
      refine J.alts ?_ ?_
      ·skip
       refine J.mk 3 λgo=>?_;refine J.qn 1 λ_=>?_;refine J.alts ?_ ?_
       ·skip
        refine J.mk 4 λgn=>?_;refine J.qn 1 λ_=>?_;refine J.mk 5 λgm=>?_;refine J.qn 4 λbq=>?_;exact J.goto [0,3,2,4,1,5] (hj (gn,go,gm,ge,bq 0)) ⟨rfl,rfl,trivial⟩ rfl rfl
       ·skip
        refine J.mk 4 λgm=>?_;refine J.qn 1 λ_=>?_;refine J.mk 5 λgn=>?_;refine J.qn 4 λbq=>?_;exact J.goto [0,4,2,3,1,5] (hj (gn,go,gm,ge,bq 0)) ⟨rfl,rfl,trivial⟩ rfl rfl
      ·skip
       refine J.mk 3 λgm=>?_;refine J.qn 1 λ_=>?_;refine J.alts ?_ ?_
       ·skip
        refine J.mk 4 λgn=>?_;refine J.qn 1 λ_=>?_;refine J.mk 5 λgo=>?_;refine J.qn 4 λbq=>?_;exact J.goto [0,3,4,2,1,5] (hj (gn,go,gm,ge,bq 0)) ⟨rfl,rfl,trivial⟩ rfl rfl
       ·skip
        refine J.mk 4 λgo=>?_;refine J.qn 1 λ_=>?_;refine J.mk 5 λgn=>?_;refine J.qn 4 λbq=>?_;exact J.goto [0,4,3,2,1,5] (hj (gn,go,gm,ge,bq 0)) ⟨rfl,rfl,trivial⟩ rfl rfl
 obtain⟨gn,go,gm,ge,bq⟩:=x;dsimp only;rw[show(List.replicate m [Value.int .u8 0,Value.int .u8 0,Value.int .u8 0,Value.int .u8 0,Value.int .u8 0,Value.int .u8 0,Value.int .u8 0,Value.int .u8 0,Value.int .u8 0,Value.int .u8 0,Value.int .u8 0,Value.int .u8 0,Value.int .u8 0,Value.int .u8 0,Value.int .u8 0,Value.int .u8 0]).flatten=a0Z (List.replicate m MSl.none0)from by unfold a0Z;rw[T3,K9];rfl,show(List.replicate m [Value.bool false]).flatten=opC (List.replicate m MSl.none0)from by unfold opC;rw[K9,b2e];rfl];rw[show(List.replicate m [Value.slice none 0 0]).flatten=a0p (List.replicate m MSl.none0)from by unfold a0p;rw[K9,b2e];rfl];refine J.turn1 [] rfl (As:=[.hp (HP.of ((List.replicate m MSl.none0).map MSl.m1)), .hp (HP.of ((List.replicate m MSl.none0).map MSl.m2))]) (λh s=>MSl.hps m h) rfl ?_;refine J.q λ_=>?_;refine J.lo (α:=(Nat×List MSl)) (λz=>z.1<=m/\z.2.length=m/\z.2.map (·.v)=List.replicate z.1 Mv.page0++List.replicate (m-z.1) MSl.none0.v) (λz=>[si 5 z.1,⟨4,pp bq,6, .tt⟩,si 3 m]) [1,2,3,4,6,7] (λz=>[.pt gn 30 (a0Z z.2), .pt go 4 (opC z.2), .pt gm 36 (a0p z.2), .pt ge 36 (X4 z.2), .hp (HP.of (z.2.map MSl.m1)), .hp (HP.of (z.2.map MSl.m2))]) (λz=>m-z.1) ((0,List.replicate m MSl.none0)) (⟨j7 _,H6,by simp⟩) rfl ?_ (λ_=>rfl) λz hI=>?_
 ·dsimp only;rw[show X4 (List.replicate m MSl.none0)=a0p (List.replicate m MSl.none0)from by unfold X4 a0p;rw[K9,K9];rfl];rfl
 obtain⟨k,Z⟩:=z;dsimp only at hI ⊢;obtain⟨hk,hZl,hZ⟩:=hI;refine J.qd (λ_ h1=>?_) λ_ h1=>?_
 ·simp only[d7,i7]at h1;obtain⟨z,hz⟩:∃z,Z[k]? =some z:=⟨_,c9 (by omega)⟩;refine J.openAt 6 k rfl rfl (by rw[i9,hz];rfl) rfl ?_;refine J.openAt 7 k rfl rfl (by rw[i9,hz];rfl) rfl ?_;refine J.pn 12 (.take true 0 (.take true 1 (.take true 2 (.take false 3 (.take true 4 (.take true 5 (.take true 6 (.take true 7 (.take false 8 (.take true 9 (.take true 10 (.take true 12 (.alt false 11 ((.take true 14 (.alt false 13 ((.of [62,64,71])) (.alt false 15 ((.of [54,64,71])) .non)))) (.alt false 13 ((.of [46,56,62,64,71])) .non)))))))))))))) [16,17] [5] λ_ _=>?_;refine J.join (α:=Nat×Nat) (λ_=>[si 5 k,⟨4,pp bq,6, .tt⟩,si 3 m]) (λx=>[.hp F, .pt gn 30 (a0Z Z), .pt go 4 (opC Z), .pt gm 36 (a0p (Z.set k ⟨⟨z.v.now,z.v.op,[Mv.z16],z.v.ever⟩,some x.1,1,z.a2,z.c2⟩)), .pt ge 36 (X4 (Z.set k ⟨⟨z.v.now,z.v.op,[Mv.z16],[Mv.z16]⟩,some x.1,1,some x.2,1⟩)), .pt bq 92 [.slice (some ⟨gn,0,none⟩) m m, .slice (some ⟨go,0,none⟩) m m, .slice (some ⟨gm,0,none⟩) m m, .slice (some ⟨ge,0,none⟩) m m], .hp (HP.of ((Z.map MSl.m1).set k .emp)), .hp (HP.of ((Z.map MSl.m2).set k .emp)),n9 30 16 (some x.1) 1 1 (G9 [Mv.z16]),n9 30 16 (some x.2) 1 1 (G9 [Mv.z16])]) (λhj=>?_) (λx=>?_)
  ·refine J.alts ?_ ?_
   ·skip
    refine J.qn 1 λba=>?_;refine J.cO 30 16 1 1 (G9 [Mv.z16]) 10 ?_;refine J.qn 1 λ_=>?_;refine J.alts ?_ ?_
    ·skip
     refine J.qn 1 λbb=>?_;refine J.cO 30 16 1 1 (G9 [Mv.z16]) 11 ?_;refine J.s1 3 (a0p (Z.set k ⟨⟨z.v.now,z.v.op,[Mv.z16],z.v.ever⟩,some (ba 0),1,z.a2,z.c2⟩)) ?_ ?_ ?_
     ·rw[a0y];omega
     ·rw[show 0+(k:Int).toNat*1=k from by omega,<- a0x];rfl
     refine J.qn 1 λ_=>?_;refine J.s1 4 (X4 (Z.set k ⟨⟨z.v.now,z.v.op,[Mv.z16],[Mv.z16]⟩,some (ba 0),1,some (bb 0),1⟩)) ?_ ?_ ?_
     ·rw[a1V];omega
     ·rw[show 0+(k:Int).toNat*1=k from by omega,<- a1U];rfl
     exact J.goto [0,1,2,3,4,5,6,7,10,11] (hj ((ba 0),(bb 0))) ⟨rfl,rfl,rfl,trivial⟩ rfl rfl
    ·skip
     refine J.s1 3 (a0p (Z.set k ⟨⟨z.v.now,z.v.op,[Mv.z16],z.v.ever⟩,some (ba 0),1,z.a2,z.c2⟩)) ?_ ?_ ?_
     ·rw[a0y];omega
     ·rw[show 0+(k:Int).toNat*1=k from by omega,<- a0x];rfl
     refine J.qn 1 λbb=>?_;refine J.cO 30 16 1 1 (G9 [Mv.z16]) 11 ?_;refine J.qn 1 λ_=>?_;refine J.s1 4 (X4 (Z.set k ⟨⟨z.v.now,z.v.op,[Mv.z16],[Mv.z16]⟩,some (ba 0),1,some (bb 0),1⟩)) ?_ ?_ ?_
     ·rw[a1V];omega
     ·rw[show 0+(k:Int).toNat*1=k from by omega,<- a1U];rfl
     exact J.goto [0,1,2,3,4,5,6,7,10,11] (hj ((ba 0),(bb 0))) ⟨rfl,rfl,rfl,trivial⟩ rfl rfl
   ·skip
    refine J.qn 1 λbb=>?_;refine J.cO 30 16 1 1 (G9 [Mv.z16]) 10 ?_;refine J.qn 1 λba=>?_;refine J.cO 30 16 1 1 (G9 [Mv.z16]) 11 ?_;refine J.qn 1 λ_=>?_;refine J.s1 3 (a0p (Z.set k ⟨⟨z.v.now,z.v.op,[Mv.z16],z.v.ever⟩,some (ba 0),1,z.a2,z.c2⟩)) ?_ ?_ ?_
    ·rw[a0y];omega
    ·rw[show 0+(k:Int).toNat*1=k from by omega,<- a0x];rfl
    refine J.qn 1 λ_=>?_;refine J.s1 4 (X4 (Z.set k ⟨⟨z.v.now,z.v.op,[Mv.z16],[Mv.z16]⟩,some (ba 0),1,some (bb 0),1⟩)) ?_ ?_ ?_
    ·rw[a1V];omega
    ·rw[show 0+(k:Int).toNat*1=k from by omega,<- a1U];rfl
    exact J.goto [0,1,2,3,4,5,6,7,11,10] (hj ((ba 0),(bb 0))) ⟨rfl,rfl,rfl,trivial⟩ rfl rfl
  obtain⟨ga,gb⟩:=x;dsimp only;obtain⟨y,hy⟩:∃y:MSl,y=⟨⟨z.v.now,z.v.op,[Mv.z16],[Mv.z16]⟩,some ga,1,some gb,1⟩:=⟨_,rfl⟩;rw[<- hy,show a0p (Z.set k ⟨⟨z.v.now,z.v.op,[Mv.z16],z.v.ever⟩,some ga,1,z.a2,z.c2⟩)=a0p (Z.set k y)from by rw[hy];unfold a0p;rw[x5,x5],show a0Z Z=a0Z (Z.set k y)from(b0u (λz=>D2 z.v.now) hz (by rw[hy])).symm,show opC Z=opC (Z.set k y)from(a4i (λz=>Value.bool z.v.op) hz (by rw[hy])).symm,show n9 30 16 (some ga) 1 1 (G9 [Mv.z16])=y.m1 from by rw[hy];rfl,show n9 30 16 (some gb) 1 1 (G9 [Mv.z16])=y.m2 from by rw[hy];rfl];refine J.closeAt (A:=y.m1) 6 8 k rfl rfl rfl ?_;refine J.closeAt (A:=y.m2) 7 9 k rfl rfl rfl ?_;rw[<- x5,<- x5];have hzv:z.v=MSl.none0.v:=by
   have h2:(Z.map (·.v))[k]? =some z.v:=by rw[i9,hz];rfl
   rw[hZ,B5 (by simp),H6,D0,g7 (by omega)]at h2;injection h2 with h2;exact h2.symm
  have hyv:y.v=Mv.page0:=by rw[hy];show(⟨z.v.now,z.v.op,[Mv.z16],[Mv.z16]⟩:MPv)=_;rw[hzv];rfl
  have hZ2:(Z.set k y).map (·.v)=List.replicate (k+1) Mv.page0++List.replicate (m-(k+1)) MSl.none0.v:=by
   rw[x5,hZ,hyv,show m-k=(m-(k+1))+1 from by omega,U1 (n:=m-(k+1)),O3 _ _ (by simp),H6,T9,Z6,a4I (n:=k),o0];rfl
  refine J.q λ_=>?_;refine J.n ((k+1,Z.set k y)) (⟨by dsimp only;omega,by dsimp only;rw[s9];exact hZl,hZ2⟩) (by dsimp only;omega) [0,1,2,3,4,5,6,7]
 simp only[d6,i7]at h1;obtain rfl:k=m:=by omega
 refine J.qr [5,1,2,3,4,6,7] λ_=>?_;refine⟨⟨bq,gn,go,gm,ge⟩,Z,rfl,?_,?_⟩
 ·rw[<- hZl];rfl
 ·rw[hZ,T9];unfold Mv.new;rw[hm];simp
theorem b6n (R:RAd) (Z:List MSl) (hn:Z.length<=65536):FP 112 [pp R.q] (a3H R Z) (λv As=>∃Z',v= .tuple #[]/\As=a3H R Z'/\Z'.map (·.v)=Mv.flush (Z.map (·.v))):=by
 refine FE [2] Tryz.func112 λX F hX=>?_;refine J.q λ_=>?_;refine J.l (α:=(Nat×List MSl)) (λz=>z.1<=Z.length/\z.2.length=Z.length/\z.2.map (·.v)=((Z.map (·.v)).take z.1).map Mv.fl1++(Z.map (·.v)).drop z.1) (λz=>[si 2 z.1,⟨0,pp R.q,2, .tt⟩]) [2,3,4,5,6,7] (λz=>[.pt R.n 30 (a0Z z.2), .pt R.o 4 (opC z.2), .pt R.m 36 (a0p z.2), .pt R.e 36 (X4 z.2), .hp (HP.of (z.2.map MSl.m1)), .hp (HP.of (z.2.map MSl.m2))]) (λz=>Z.length-z.1) ((0,Z)) (⟨j7 _,rfl,rfl⟩) λz hI=>?_;obtain⟨k,Y⟩:=z;dsimp only at hI ⊢;obtain⟨hk,hYl,hY⟩:=hI;refine J.qd (λ_ h1=>?_) λ_ h1=>?_
 ·simp only[d7,i7]at h1;obtain⟨z,hz⟩:∃z,Y[k]? =some z:=⟨_,c9 (by omega)⟩;have hupd:∀y:MSl,y.v=Mv.fl1 z.v->(Y.set k y).map (·.v)=((Z.map (·.v)).take (k+1)).map Mv.fl1++(Z.map (·.v)).drop (k+1):=λy hy=>by
   rw[x5,hy];exact a7J hY (by simpa using h1) (by rw[i9,hz];rfl)
  refine J.qn 11 λ_=>?_;refine J.v (.bool z.v.op) rfl rfl (λhg aa w he hw=>B3 tk rfl rfl he rfl rfl rfl (hw.get (i:=3) rfl) (by rw[show 0+(k:Int).toNat*1=k from by omega];exact b3A hz)) ?_;refine J.qd (λ_ h2=>?_) λ_ h2=>?_
  ·have ho:z.v.op=false:=by simpa using h2
   refine J.openAt 6 k rfl rfl (by rw[i9,hz];rfl) rfl ?_;refine J.pn 11 (.of [0,4,8,13,16,20,24,28,33,36,40,45,50,52,59]) [13,14] [1,2] λ_ _=>?_;refine J.vT (a3C z.v.now) rfl rfl (λhg aa w he hC=>H2 tk rfl rfl he rfl rfl rfl (hC rfl _ (B1 (i:=2) rfl)) (by rw[show 0+(k:Int).toNat*16=k*16 from by omega];exact b4C hz) rfl) ?_;refine J.qn 1 λbb=>?_;refine J.cO 30 16 1 1 (G9 [z.v.now]) 9 ?_;refine J.qn 1 λ_=>?_;refine J.s1 4 (a0p (Y.set k ⟨⟨z.v.now,z.v.op,[z.v.now],z.v.ever⟩,some (bb 0),1,z.a2,z.c2⟩)) ?_ ?_ ?_
   ·rw[a0y];omega
   ·rw[show 0+(k:Int).toNat*1=k from by omega,<- a0x];rfl
   obtain⟨y,hy⟩:∃y:MSl,y=⟨⟨z.v.now,z.v.op,[z.v.now],z.v.ever⟩,some (bb 0),1,z.a2,z.c2⟩:=⟨_,rfl⟩;rw[<- hy,show n9 30 16 (some (bb 0)) 1 1 (G9 [z.v.now])=y.m1 from by rw[hy];rfl];refine J.closeAt (A:=y.m1) 6 9 k rfl rfl rfl ?_;rw[<- x5,<- MSl.map_m2 (y:=y) hz (MSl.m2_of (by rw[hy]) (by rw[hy]) (by rw[hy])),show a0Z Y=a0Z (Y.set k y)from(b0u (λz=>D2 z.v.now) hz (by rw[hy])).symm,show opC Y=opC (Y.set k y)from(a4i (λz=>Value.bool z.v.op) hz (by rw[hy])).symm,show X4 Y=X4 (Y.set k y)from(a4i (λz=>slv z.a2 z.v.ever.length z.c2) hz (by rw[hy])).symm];refine J.q λ_=>?_;refine J.n ((k+1,Y.set k y)) (⟨by dsimp only;omega,by dsimp only;rw[s9];exact hYl,hupd y (by rw[hy];unfold Mv.fl1;rw[ho];rfl)⟩) (by dsimp only;omega) [0,1,2,3,4,5,6,7]
  ·have ho:z.v.op=true:=by simpa using h2
   refine J.q λ_=>?_;refine J.n ((k+1,Y)) (⟨by dsimp only;omega,hYl,by have:=hupd z (by unfold Mv.fl1;rw[ho];rfl);rwa [a1Z hz]at this⟩) (by dsimp only;omega) [0,1,2,3,4,5,6,7]
 simp only[d6,i7]at h1;obtain rfl:k=Z.length:=by omega
 refine J.q λ_=>?_;refine J.f [1,2,3,4,5,6,7] ?_;refine⟨Y,rfl,?_,?_⟩
 ·unfold a3H;rw[hYl];rfl
 ·rw[hY,t7 (by simp),a0T (by simp),A4];rfl
theorem c0R (R:RAd) (Z:List MSl) (hn:Z.length<=65536) (hf:∀z∈Z,z.Fine) (i:Int) (d:List UInt8) (hd:d.length=16):FP 110 [pp R.q,iI i,a3C d] (a3H R Z) (λv As=>∃Z',v= .bool (Mv.may (Z.map (·.v)) i d)/\As=a3H R Z'/\Z'.map (·.v)=Mv.saw (Z.map (·.v)) i d):=by
 refine FE [2,0,0] Tryz.func110 λX F hX=>?_;refine J.qp (b2Q R Z hn hf i d hd) [1,2,3,4,5,6,7] λ_=>?_;refine J.qd (λ_ h1=>?_) λ_ h1=>?_
 ·have hm:Mv.may (Z.map (·.v)) i d=false:=by simpa using h1
  refine J.qr [1,2,3,4,5,6,7] λ_=>?_;exact⟨Z,by rw[hm],rfl,by unfold Mv.saw;rw[hm];rfl⟩
 have hm:Mv.may (Z.map (·.v)) i d=true:=by simpa using h1
 have hin:Mv.inR (Z.map (·.v)) i=true:=by
  unfold Mv.may at hm;exact(Bool.and_eq_true_iff.1 hm).1
 have hi:0<=i/\i<(Z.length:Int):=by
  unfold Mv.inR at hin;rw[j8]at hin;simpa using hin
 obtain⟨k,rfl⟩:=i5 hi.1;obtain⟨z,hz⟩:∃z,Z[k]? =some z:=⟨_,c9 (by omega)⟩;have hpg:Mv.pg (Z.map (·.v)) (k:Int)=z.v:=by unfold Mv.pg;rw[j4,f8,i9,hz];rfl
 have hsv:∀y:MSl,y.v=Mv.seen z.v d->(Z.set k y).map (·.v)=Mv.saw (Z.map (·.v)) (k:Int) d:=λy hy=>by
  unfold Mv.saw;rw[hm,g7 rfl,hpg,x5,j4,hy]
 refine J.qn 10 λ_=>?_;refine J.v (.bool z.v.op) rfl rfl (λhg aa w he hw=>B3 tk rfl rfl he rfl rfl rfl (hw.get (i:=3) rfl) (by rw[show 0+(k:Int).toNat*1=k from by omega];exact b3A hz)) ?_;refine J.qd (λ_ h2=>?_) λ_ h2=>?_
 ·refine J.openAt 6 k rfl rfl (by rw[i9,hz];rfl) rfl ?_;refine J.p (.take true 0 (.take true 1 (.take true 2 (.take false 3 (.take true 4 (.take true 5 (.take true 6 (.take true 7 (.take false 8 (.take true 9 (.take true 10 (.take true 11 (.take true 12 (.take false 13 (.take true 14 (.take false 15 (.take false 16 (.take true 18 (.alt false 17 ((.of [78,80,86,88,95])) (.alt false 19 ((.take true 20 (.alt false 17 ((.of [86,88,95])) (.alt false 21 ((.of [70,88,95])) .non)))) .non)))))))))))))))))))) [22,23] [1,8] λ_=>?_;have hst:=b2p hz ⟨⟨d,z.v.op,z.v.may,z.v.ever⟩,z.a1,z.c1,z.a2,z.c2⟩;refine J.qn 18 λ_=>?_;refine J.join (α:=Nat) (λ_=>[sv 6 (.bool false)]) (λx=>[.hp F, .pt R.q 92 [.slice (some ⟨R.n,0,none⟩) Z.length Z.length, .slice (some ⟨R.o,0,none⟩) Z.length Z.length, .slice (some ⟨R.m,0,none⟩) Z.length Z.length, .slice (some ⟨R.e,0,none⟩) Z.length Z.length], .pt R.n 30 (a0Z (Z.set k ⟨⟨d,z.v.op,z.v.may,z.v.ever⟩,z.a1,z.c1,z.a2,z.c2⟩)), .pt R.o 4 (opC (Z.set k ⟨⟨d,false,z.v.may,z.v.ever⟩,z.a1,z.c1,z.a2,z.c2⟩)), .pt R.m 36 (a0p (Z.set k ⟨⟨d,false,[d],z.v.ever⟩,some x,1,z.a2,z.c2⟩)), .pt R.e 36 (X4 Z), .hp (HP.of ((Z.map MSl.m1).set k .emp)), .hp (HP.of (Z.map MSl.m2)),n9 30 16 (some x) 1 1 (G9 [d])]) (λhj=>?_) (λx=>?_)
  ·refine J.alts ?_ ?_
   ·skip
    refine J.qn 1 λbb=>?_;refine J.cO 30 16 1 1 (G9 [d]) 10 ?_;refine J.sN (D2 d) 2 (a0Z (Z.set k ⟨⟨d,z.v.op,z.v.may,z.v.ever⟩,z.a1,z.c1,z.a2,z.c2⟩)) ?_ ?_ ?_
    ·rw[a8p];show 0+(k:Int).toNat*16+16<=_;omega
    ·rw[show 0+(k:Int).toNat*16=k*16 from by omega];exact hst
    refine J.qn 1 λ_=>?_;refine J.s1 3 (opC (Z.set k ⟨⟨d,false,z.v.may,z.v.ever⟩,z.a1,z.c1,z.a2,z.c2⟩)) ?_ ?_ ?_
    ·rw[a7A];omega
    ·rw[show 0+(k:Int).toNat*1=k from by omega,<- a7z]
    refine J.qn 1 λ_=>?_;refine J.s1 4 (a0p (Z.set k ⟨⟨d,false,[d],z.v.ever⟩,some (bb 0),1,z.a2,z.c2⟩)) ?_ ?_ ?_
    ·rw[a0y];omega
    ·rw[show 0+(k:Int).toNat*1=k from by omega,<- a0x];rfl
    exact J.goto [0,1,2,3,4,5,6,7,10] (hj (bb 0)) ⟨rfl,trivial⟩ rfl rfl
   ·skip
    refine J.sN (D2 d) 2 (a0Z (Z.set k ⟨⟨d,z.v.op,z.v.may,z.v.ever⟩,z.a1,z.c1,z.a2,z.c2⟩)) ?_ ?_ ?_
    ·rw[a8p];show 0+(k:Int).toNat*16+16<=_;omega
    ·rw[show 0+(k:Int).toNat*16=k*16 from by omega];exact hst
    refine J.qn 1 λ_=>?_;refine J.alts ?_ ?_
    ·skip
     refine J.qn 1 λbb=>?_;refine J.cO 30 16 1 1 (G9 [d]) 10 ?_;refine J.s1 3 (opC (Z.set k ⟨⟨d,false,z.v.may,z.v.ever⟩,z.a1,z.c1,z.a2,z.c2⟩)) ?_ ?_ ?_
     ·rw[a7A];omega
     ·rw[show 0+(k:Int).toNat*1=k from by omega,<- a7z]
     refine J.qn 1 λ_=>?_;refine J.s1 4 (a0p (Z.set k ⟨⟨d,false,[d],z.v.ever⟩,some (bb 0),1,z.a2,z.c2⟩)) ?_ ?_ ?_
     ·rw[a0y];omega
     ·rw[show 0+(k:Int).toNat*1=k from by omega,<- a0x];rfl
     exact J.goto [0,1,2,3,4,5,6,7,10] (hj (bb 0)) ⟨rfl,trivial⟩ rfl rfl
    ·skip
     refine J.s1 3 (opC (Z.set k ⟨⟨d,false,z.v.may,z.v.ever⟩,z.a1,z.c1,z.a2,z.c2⟩)) ?_ ?_ ?_
     ·rw[a7A];omega
     ·rw[show 0+(k:Int).toNat*1=k from by omega,<- a7z]
     refine J.qn 1 λbb=>?_;refine J.cO 30 16 1 1 (G9 [d]) 10 ?_;refine J.qn 1 λ_=>?_;refine J.s1 4 (a0p (Z.set k ⟨⟨d,false,[d],z.v.ever⟩,some (bb 0),1,z.a2,z.c2⟩)) ?_ ?_ ?_
     ·rw[a0y];omega
     ·rw[show 0+(k:Int).toNat*1=k from by omega,<- a0x];rfl
     exact J.goto [0,1,2,3,4,5,6,7,10] (hj (bb 0)) ⟨rfl,trivial⟩ rfl rfl
  obtain⟨y,hy⟩:∃y:MSl,y=⟨⟨d,false,[d],z.v.ever⟩,some x,1,z.a2,z.c2⟩:=⟨_,rfl⟩;rw[show a0Z (Z.set k ⟨⟨d,z.v.op,z.v.may,z.v.ever⟩,z.a1,z.c1,z.a2,z.c2⟩)=a0Z (Z.set k y)from by rw[hy];unfold a0Z;rw[T3,T3,x5,x5],show opC (Z.set k ⟨⟨d,false,z.v.may,z.v.ever⟩,z.a1,z.c1,z.a2,z.c2⟩)=opC (Z.set k y)from by rw[hy];unfold opC;rw[x5,x5],<- hy,show X4 Z=X4 (Z.set k y)from(a4i (λz=>slv z.a2 z.v.ever.length z.c2) hz (by rw[hy])).symm,show n9 30 16 (some x) 1 1 (G9 [d])=y.m1 from by rw[hy];rfl];refine J.closeAt (A:=y.m1) 6 8 k rfl rfl rfl ?_;rw[<- x5,<- MSl.map_m2 (y:=y) hz (MSl.m2_of (by rw[hy]) (by rw[hy]) (by rw[hy]))];refine J.qr [1,2,3,4,5,6,7] λ_=>?_;exact⟨Z.set k y,by rw[hm],by unfold a3H;rw[s9];rfl,hsv y (by rw[hy];unfold Mv.seen;rw[h2];rfl)⟩
 ·refine J.qr [1,2,3,4,5,6,7] λ_=>?_;exact⟨Z,by rw[hm],rfl,by have:=hsv z (by unfold Mv.seen;rw[h2];rfl);rwa [a1Z hz]at this⟩
def b3g (U:WAd) (W:Wa) (Zl:List MSl):List Atom:=b9p U W::b9o U W::(a3H U.R Zl++a3h U.q U.nn U.A W.P)
def a9g (U:WAd) (W:Wa) (Zl:List MSl) (Z:Fv):List Atom:=[b9p U W,b9o U W]++a3H U.R Zl++([PlQ U.q U.nn (some Z) U.A.f (pp U.A.fp) (slv U.A.a2 W.P.log.length U.A.c2), .pt U.A.fp 247 [.slice (R0 U.A.a) W.P.L.length U.A.c],rdA (R0 U.A.a) 7 W.P.L.length (y8 W.P.L),n9 61 17 U.A.a2 W.P.log.length U.A.c2 (T7 W.P.log)]++FvP U.A.f U.A.p U.nn U.A.t U.A.l U.A.d Z)
theorem a1Q {W:Wa} {Z:Fv} (hZ:W.P.Z=some Z) (U:WAd) (Zl:List MSl):b3g U W Zl=a9g U W Zl Z:=by
 unfold b3g a9g;rw[X1 U.q U.nn U.A W.P Z hZ];rfl
theorem c1x (g0 g1 g2 die:Int) (A:Atom) (ad:Option Addr) (n c:Nat) (l:List Fl) (hA:Rd A ad 7 n (y8 l)) (hl:l.length=n):
  FP 58 [.agg #[iI g0,iI g1,iI g2],iI die, .slice ad n c] [A] (λv As=>∃(D B P:Nat) (U:WAd) (Zl:List MSl),v=pp U.w/\(3<=D/\D<=6)/\(8<=B/\B<=16)/\(2<=P/\P<=8)/\U.A.Ok (Wa.new D B P die l).P/\Zl.map (·.v)=(Wa.new D B P die l).M/\As=A::b3g U (Wa.new D B P die l) Zl):=by
 refine FE [0,0,0] Tryz.func58 λX F hX=>?_;refine J.q λbb=>?_;refine J.cb (b8m g0 g1 g2) [] ?_;rintro v As ⟨D,B,P,rfl,hD,hB,hP,rfl⟩;refine⟨_,rfl,trivial,?_⟩;have hgm:J9 D B P=true:=by simp[J9];omega
 have hgb:=b1j hD hB hP;have ht1:=a6G die D (by omega);have ht2:=b6W die D (by omega);refine J.pq (.of [0,4,9,12,16,21,24,28,33,36,41,46,50,52,58,60]) [15] [2] λ_ _=>?_;obtain⟨u,hu⟩:∃u,(die.tmod D+D).tmod D=u:=⟨_,rfl⟩;rw[hu];refine J.qp (b3S D B P hgm) [] λ_=>?_;refine J.qc (b1u (lgN D B P) (lgN D B P) (by omega)) [] λ_=>?_;rintro v As ⟨R,Zl,rfl,rfl,hZl⟩;refine⟨_,rfl,stq,?_⟩;refine J.q λbw=>?_;refine J.turn1 [] rfl (As:=[n9 57 7 none 0 0 (y8 [])]) (λh s=>Sep.one ⟨rfl,rfl,rfl⟩) rfl ?_;refine J.q λ_=>?_;refine J.l (α:=(Nat×Option Nat×Nat)) (λz=>z.1<=n/\z.1<=15) (λz=>[si 9 z.1,sv 8 (slv z.2.1 z.1 z.2.2),⟨7,pp (bw 0),11, .tt⟩,sv 2 (.slice ad n c),⟨3,pp (bb 0),3, .tt⟩]) [11] (λz=>[n9 57 7 z.2.1 z.1 z.2.2 (y8 ((l.take z.1).map (Wa.fx u)))]) (λz=>15-z.1) ((0,none,0)) (⟨j7 _,j7 _⟩) λz hI=>?_;obtain⟨k,ga,ca⟩:=z;dsimp only at hI ⊢;obtain⟨hk1,hk2⟩:=hI;refine J.qd (λ_ h1=>?_) λ_ h1=>?_
 ·simp only[i3,d7,i7]at h1;obtain⟨h1,h2⟩:=h1;have h2:k<15:=by omega
  obtain⟨x,hx⟩:∃x,l[k]? =some x:=⟨_,c9 (by omega)⟩;refine J.know (p:=∃g o,ad=some ⟨g,o,none⟩) (λh' s=>Rd.addr (hA _ (s.get (i:=1) rfl)) (by omega)) λhk2=>?_;obtain⟨g,o,rfl⟩:=hk2;refine J.q λ_=>?_;refine J.v (flV x) rfl rfl (λhg a w he hw=>?_) ?_
  ·exact a2B tk rfl rfl he rfl rfl rfl (hA _ (hw.get (i:=1) rfl)) (by omega) (j:=k*7) (by omega) (by have:=Y0 l [] k _ hx;rwa [A4]at this) rfl
  refine J.q λ_=>?_;refine J.ap 11 13 0 (a5M ((l.take k).map (Wa.fx u)) (Wa.fx u x)) λa3 c3=>?_;rw[show(l.take k).map (Wa.fx u)++[Wa.fx u x]=(l.take (k+1)).map (Wa.fx u)from by rw[C7,hx];simp];refine J.q λ_=>?_;refine J.n ((k+1,a3,c3)) (⟨by dsimp only;omega,by dsimp only;omega⟩) (by dsimp only;omega) [0,1,2,3,4,5,6,7,8,9,10,11]
 have hk3:l.take k=l.take 15:=by
  simp only[Bool.and_eq_false_iff,d6,i7]at h1;rcases O6 k n with h | h
  ·have:k=15:=by omega
   rw[this]
  ·rw[t7 (by omega),t7 (by omega)]
 have hfl:(l.take 15).map (Wa.fx u)=Wa.fl D die l:=by unfold Wa.fl Wa.dieI;rw[hu]
 rw[hk3,hfl];have hkl:k=(Wa.fl D die l).length:=by rw[<- hfl,j8,<- hk3,m9];omega
 clear hk3 hk1 h1;subst hkl;obtain⟨fs,hfs⟩:∃fs,Wa.fl D die l=fs:=⟨_,rfl⟩;rw[hfs]at hk2 ⊢;have hz:(Pv.new D B P fs).Z=some (Fv.of (Dv.new D B P (lgN D B P))):=by
  show(if(O0 (Nand.new D B P)).2=0 then some (Fv.of (O0 (Nand.new D B P)).1)else none)=_;rw[a6l (Dv.Ok.new D B P (lgN D B P) hgm 0 (by decide))];rfl
 refine J.qc (b7y D B P hgm (n9 57 7 ga fs.length ca (y8 fs)) (oad ga) fs.length ca fs (X8 _ _ _ _ _ _) rfl hk2) [11] λ_=>?_;rintro _ As ⟨q,nn,A0,rfl,hA0,rfl⟩;rw[X1 q nn A0 _ _ hz];refine⟨_,rfl,stq,?_⟩;refine J.qr [1,10,11,3,4,5,6,7,8,9,12,13,14,15,16,17,18,19,20,21] λ_=>?_;refine⟨D,B,P,⟨bw 0,q,nn,A0,R,ga,ca⟩,Zl,rfl,hD,hB,hP,?_,hZl,?_⟩
 ·show A0.Ok (Pv.new D B P (Wa.fl D die l));rw[hfs];exact hA0
 ·have hw:Wa.new D B P die l=⟨Pv.new D B P fs,Mv.new (lgN D B P),u,false,false,false,fs,0,0⟩:=by unfold Wa.new;rw[hfs];unfold Wa.dieI;rw[hu]
  rw[hw];unfold b3g b9p b9o;dsimp only;rw[X1 q nn A0 _ _ hz];rfl
namespace Dev
variable {D B P n : Nat} {F : Fv} {c : Nat → List UInt8}
theorem ask (h:Dev D B P F n c):F.ask=F:=by
 obtain⟨W,hW,_⟩:=h.fc;exact hW.fi.ask
theorem foff (h:Dev D B P F n c):F.off=false:=by
 obtain⟨W,hW,_⟩:=h.fc;exact hW.fi.off
theorem readI (h:Dev D B P F n c) (i:Int):F.read i=if i<0\/i>=(lgN D B P:Int)then(F,zeros16,3)else(F,c i.toNat,0):=by
 by_cases hi:i<0\/i>=(lgN D B P:Int)
 ·obtain⟨W,hW,_⟩:=h.fc;rw[hW.fi.read,g7 hi,g7 hi]
 ·have:=h.read (i:=i.toNat) (by omega);rw[Q7 (by omega)]at this;rw[f9 hi,this]
theorem waits_out (h:Dev D B P F n c) {e:En} (hi:e.lpn<0\/e.lpn>=(lgN D B P:Int)):F.waits e=(F,3):=by
 unfold Fv.waits;rw[h.ask,h.foff,f9 l9,h.lg,g7 hi]
theorem writeI (h:Dev D B P F (n+1) c) (i:Int) {d:List UInt8} (hd:d.length=16):(F.write i d).2=(if i<0\/i>=(lgN D B P:Int)then 3 else 0)/\∃c',Dev D B P (F.write i d).1 n c':=by
 by_cases hi:i<0\/i>=(lgN D B P:Int)
 ·rw[show F.write i d=(F,3)from h.waits_out (e:=⟨i,0,1,d⟩) hi,g7 hi];exact⟨rfl,c,h.less (by omega)⟩
 ·obtain⟨w1,w2,_⟩:=h.write (i:=i.toNat) (by omega) hd;rw[Q7 (by omega)]at w1 w2;rw[f9 hi];exact⟨w1,_,w2⟩
theorem trimI (h:Dev D B P F (n+1) c) (i:Int):(F.trim i).2=(if i<0\/i>=(lgN D B P:Int)then 3 else 0)/\∃c',Dev D B P (F.trim i).1 n c':=by
 by_cases hi:i<0\/i>=(lgN D B P:Int)
 ·rw[show F.trim i=(F,3)from h.waits_out (e:=⟨i,0,2,zeros16⟩) hi,g7 hi];exact⟨rfl,c,h.less (by omega)⟩
 ·obtain⟨w1,w2,_⟩:=h.trim (i:=i.toNat) (by omega);rw[Q7 (by omega)]at w1 w2;rw[f9 hi];exact⟨w1,_,w2⟩
end Dev
theorem Mv.write_len (M:List MPv) (i:Int) (d:List UInt8):(Mv.write M i d).length=M.length:=by unfold Mv.write;split<;>simp
theorem Mv.saw_len (M:List MPv) (i:Int) (d:List UInt8):(Mv.saw M i d).length=M.length:=by unfold Mv.saw;split<;>simp
theorem Mv.flush_len (M:List MPv):(Mv.flush M).length=M.length:=by unfold Mv.flush;simp
theorem Mv.cut_len (M:List MPv):(Mv.cut M).length=M.length:=by unfold Mv.cut;simp
def Mv.Fine (M:List MPv) (b:Nat):Prop:=∀v∈M,v.now.length=16/\(∀x∈v.may,x.length=16)/\(∀x∈v.ever,x.length=16)/\v.may.length<=b/\v.ever.length<=b
theorem Mv.Fine.more {M:List MPv} {b c:Nat} (h:Mv.Fine M b) (hb:b<=c):Mv.Fine M c:=λv hv=>by
 obtain⟨f1,f2,f3,f4,f5⟩:=h v hv;exact⟨f1,f2,f3,by omega,by omega⟩
theorem Mv.Fine.set {M:List MPv} {b:Nat} (h:Mv.Fine M b) {k:Nat} {v:MPv} (hv:v.now.length=16/\(∀x∈v.may,x.length=16)/\(∀x∈v.ever,x.length=16)/\v.may.length<=b/\v.ever.length<=b):Mv.Fine (M.set k v) b:=λx hx=>by
 rcases List.mem_or_eq_of_mem_set hx with h' | h'
 ·exact h x h'
 ·rw[h'];exact hv
theorem Mv.Fine.pg {M:List MPv} {b:Nat} (h:Mv.Fine M b) (hb:1<=b) (i:Int):(Mv.pg M i).now.length=16/\(∀x∈(Mv.pg M i).may,x.length=16)/\(∀x∈(Mv.pg M i).ever,x.length=16)/\(Mv.pg M i).may.length<=b/\(Mv.pg M i).ever.length<=b:=by
 unfold Mv.pg;rw[f8];cases hx:M[i.toNat]? with
 | none=>exact⟨rfl,by decide,by decide,hb,hb⟩
 | some v=>exact h v (m6 hx)
theorem Mv.Fine.write {M:List MPv} {b:Nat} (h:Mv.Fine M b) (hb:1<=b) (i:Int) {d:List UInt8} (hd:d.length=16):Mv.Fine (Mv.write M i d) (b+1):=by
 unfold Mv.write;split
 ·obtain⟨f1,f2,f3,f4,f5⟩:=h.pg hb i;refine(h.more (by omega)).set ⟨hd,λx hx=>?_,λx hx=>?_,?_,?_⟩
  ·rcases List.mem_append.1 hx with h' | h'
   ·exact f2 x h'
   ·rw[List.mem_singleton.1 h'];exact hd
  ·rcases List.mem_append.1 hx with h' | h'
   ·exact f3 x h'
   ·rw[List.mem_singleton.1 h'];exact hd
  ·show((Mv.pg M i).may++[d]).length<=_;rw[i4,L7];omega
  ·show((Mv.pg M i).ever++[d]).length<=_;rw[i4,L7];omega
 ·exact h.more (by omega)
theorem Mv.Fine.saw {M:List MPv} {b:Nat} (h:Mv.Fine M b) (hb:1<=b) (i:Int) {d:List UInt8} (hd:d.length=16):Mv.Fine (Mv.saw M i d) b:=by
 unfold Mv.saw;split
 ·obtain⟨f1,f2,f3,f4,f5⟩:=h.pg hb i;refine h.set ?_;unfold Mv.seen;split
  ·exact⟨hd,λx hx=>by rw[List.mem_singleton.1 hx];exact hd,f3,hb,f5⟩
  ·exact⟨f1,f2,f3,f4,f5⟩
 ·exact h
theorem Mv.Fine.flush {M:List MPv} {b:Nat} (h:Mv.Fine M b) (hb:1<=b):Mv.Fine (Mv.flush M) b:=λv hv=>by
 unfold Mv.flush at hv;obtain⟨x,hx,rfl⟩:=List.mem_map.1 hv;obtain⟨f1,f2,f3,f4,f5⟩:=h x hx;show(if x.op then x else {x with may:=[x.now]}).now.length=16/\(∀y∈(if x.op then x else {x with may:=[x.now]}).may,y.length=16)/\(∀y∈(if x.op then x else {x with may:=[x.now]}).ever,y.length=16)/\(if x.op then x else {x with may:=[x.now]}).may.length<=b/\(if x.op then x else {x with may:=[x.now]}).ever.length<=b;split
 ·exact⟨f1,f2,f3,f4,f5⟩
 ·exact⟨f1,λy hy=>by rw[List.mem_singleton.1 hy];exact f1,f3,hb,f5⟩
theorem Mv.Fine.cut {M:List MPv} {b:Nat} (h:Mv.Fine M b):Mv.Fine (Mv.cut M) b:=λv hv=>by
 unfold Mv.cut at hv;obtain⟨x,hx,rfl⟩:=List.mem_map.1 hv;exact h x hx
namespace Wa
variable {W : Wa} {s : Stp}
theorem hold_len (W:Wa) (s:Stp) (t:Td):(W.hold s t).1.length=W.M.length:=by
 unfold hold
 repeat' split
 all_goals first | rfl | exact Mv.saw_len _ _ _ | exact Mv.write_len _ _ _ | exact Mv.flush_len _
theorem hold_fine {b:Nat} (h:Mv.Fine W.M b) (hb:1<=b) (hd:s.data.length=16) {t:Td} (ht:t.data.length=16):Mv.Fine (W.hold s t).1 (b+1):=by
 have hz:(if s.fn=3 then zd else s.data).length=16:=by split;(· rfl);exact hd
 unfold hold
 repeat' split
 all_goals first | exact h.more (a7q _) | exact(h.saw hb _ ht).more (a7q _) | exact h.write hb _ hz | exact h.write hb _ (show zd.length=16 from rfl) | exact h.write hb _ hd | exact(h.flush hb).more (a7q _)
end Wa
theorem Pv.run_none {P:Pv} {Z:Fv} (hZ:P.Z=some Z) (hL:P.L=[]):P.run=P:=by
 have hnd:P.nd=Z.S.N:=by unfold Pv.nd;rw[hZ]
 cases P;dsimp only at hZ hL;subst hZ hL;rfl
theorem b4U {W:List (Int×En)} {L:List En} (hW:WOk W) (hL:∀e∈L,e.data.length=16) (i:Int):(cur W L i).length=16:=by
 unfold cur;split
 ·rename_i e he;exact hL e (List.mem_of_find?_eq_some he)
 ·split
  ·rename_i e he;exact(hW i e he).2.len
  ·rfl
theorem Dev.read_len {D B P n:Nat} {F:Fv} {c:Nat->List UInt8} (h:Dev D B P F n c) (i:Int):(F.read i).2.1.length=16:=by
 obtain⟨W,hW,hc⟩:=h.fc;rw[hW.fi.read];split
 ·rfl
 ·exact b4U hW.fi.wok h.ok.dat i
structure Wt (D B P:Nat) (W:Wa) (Z:Fv) (n b:Nat):Prop where
 z:W.P.Z=some Z
 dev:∃c,Dev D B P Z n c
 none:W.P.L=[]
 stuck:W.stuck=false
 len:W.M.length=lgN D B P
 fine:Mv.Fine W.M b
 log:W.P.log.length<=b
 b1:1<=b
 late:W.late=0
namespace Wt
variable {D B P n b : Nat} {W : Wa} {Z : Fv}
theorem does (h:Wt D B P W Z (n+605) b) {s:Stp} (h6:s.fn≠6) (h8:s.fn≠8) (hd:s.data.length=16):
  ∃Z' t c,W.P.does s=({W.P with Z:=some Z'},t)/\Dev D B P Z' n c/\t.data.length=16/\(s.fn=7->t.err=0):=by
 obtain⟨c,hD⟩:=h.dev;have hnd:W.P.nd=Z.S.N:=by unfold Pv.nd;rw[h.z]
 unfold Pv.does
 by_cases h1:s.fn=1
 ·rw[g7 h1,h.z];dsimp only;have hr:=hD.readI s.lpn;refine⟨Z,⟨(Z.read s.lpn).2.2,(Z.read s.lpn).2.1⟩,c,by rw[hr];split<;>rfl,hD.less (by omega),?_,λh7=>by omega⟩;exact hD.read_len s.lpn
 rw[f9 h1]
 by_cases h2:s.fn=2
 ·rw[g7 h2,h.z];obtain⟨_,c',w⟩:=(hD.less (k:=n+1) (by omega)).writeI s.lpn hd;exact⟨_,_,c',rfl,w,rfl,λh7=>by omega⟩
 rw[f9 h2]
 by_cases h3:s.fn=3
 ·rw[g7 h3,h.z];obtain⟨_,c',w⟩:=(hD.less (k:=n+1) (by omega)).trimI s.lpn;exact⟨_,_,c',rfl,w,rfl,λh7=>by omega⟩
 rw[f9 h3]
 by_cases h4:s.fn=4
 ·rw[g7 h4,h.z];obtain⟨_,w,_⟩:=(hD.less (k:=n+200) (by omega)).flush;exact⟨_,_,c,rfl,w,rfl,λh7=>by omega⟩
 rw[f9 h4]
 by_cases h5:s.fn=5
 ·rw[g7 h5,h.z];obtain⟨_,w,_⟩:=(hD.less (k:=n+2) (by omega)).tick;exact⟨_,_,c,rfl,w,rfl,λh7=>by omega⟩
 rw[f9 h5,f9 h6]
 by_cases h7:s.fn=7
 ·rw[g7 h7];obtain⟨w0,c',w,_⟩:=(hD.less (k:=n+403) (by omega)).again;have hm:W.P.mounts=({W.P with Z:=some (Fv.of (O0 Z.S.N.cyc).1)},0):=by
   unfold Pv.mounts;dsimp only;rw[hnd,hD.off,f9 l9,show(Z.S.N.setCut (-1) 0).onN=Z.S.N.cyc from rfl,g7 w0]
  rw[hm];exact⟨_,_,c',rfl,w,rfl,λ_=>rfl⟩
 rw[f9 h7,f9 h8];refine⟨Z,⟨1,zd⟩,c,?_,hD.less (by omega),rfl,λh=>absurd h h7⟩;rw[<- h.z]
theorem step (h:Wt D B P W Z (n+605) b) {s:Stp} (h6:s.fn≠6) (h8:s.fn≠8) (hd:s.data.length=16):∃Z',Wt D B P (W.step s) Z' n (b+1):=by
 obtain⟨Z',t,c,e1,e2,e3,e4⟩:=h.does h6 h8 hd;have hst:W.P.step s=({W.P with Z:=some Z',log:=W.P.log++[t]},t):=by
  unfold Pv.step;rw[Pv.run_none h.z h.none,e1]
 have hask:W.ask s=s:=by unfold Wa.ask;rw[f9 h8]
 have hb1:=h.b1;have hlog:(W.P.log++[t]).length<=b+1:=by rw[i4,L7];have:=h.log;omega
 unfold Wa.step;rw[h.stuck,f9 l9,f9 h8];dsimp only
 by_cases hsk:Wa.skip s=true
 ·rw[g7 hsk];obtain⟨c0,hD⟩:=h.dev;exact⟨Z,⟨h.z,⟨c0,hD.less (by omega)⟩,h.none,h.stuck,h.len,h.fine.more (by omega),by have:=h.log;omega,by omega,h.late⟩⟩
 rw[f9 hsk,hask,hst];dsimp only;have hM:=(Wa.hold_len W s t).trans h.len;have hF:=Wa.hold_fine h.fine hb1 hd e3;have hoff:({W.P with Z:=some Z',log:=W.P.log++[t]}:Pv).nd.off=false:=e2.off
 by_cases h7:s.fn=7
 ·have h0:=e4 h7;rw[g7 h7,g7 h0];refine⟨Z',⟨rfl,⟨c,e2⟩,h.none,?_,(Mv.cut_len _).trans hM,hF.cut,hlog,by omega,rfl⟩⟩;dsimp only;rw[h0];rfl
 ·rw[f9 h7];exact⟨Z',⟨rfl,⟨c,e2⟩,h.none,h.stuck,hM,hF,hlog,by omega,h.late⟩⟩
end Wt
theorem Dev.c_len {D B P n:Nat} {F:Fv} {c:Nat->List UInt8} (h:Dev D B P F n c) {i:Nat} (hi:i<lgN D B P):(c i).length=16:=by
 obtain⟨W,hW,hc⟩:=h.fc;rw[<- hc i hi];exact b4U hW.fi.wok h.ok.dat i
namespace Wt
variable {D B P n b : Nat} {W : Wa} {Z : Fv}
theorem new (die:Int) (hD:3<=D/\D<=6) (hB:8<=B/\B<=16) (hP:2<=P/\P<=8) (hlg:1<=lgN D B P/\lgN D B P<=200/\2*lgN D B P<=(B-5)*(P*(D-2))+1) (hgm:J9 D B P=true):Wt D B P (Wa.new D B P die []) (Fv.of (Dv.new D B P (lgN D B P))) 200000 1:=by
 refine⟨?_,⟨_,Dev.new hD hB hP hlg.2.1 hlg.2.2 hgm⟩,rfl,rfl,?_,λv hv=>?_,j7 _,j6 _,rfl⟩
 ·show(if(O0 (Nand.new D B P)).2=0 then some (Fv.of (O0 (Nand.new D B P)).1)else Option.none)=_;rw[a6l (Dv.Ok.new D B P (lgN D B P) hgm 0 (by decide))];rfl
 ·show(Mv.new (lgN D B P)).length=_;unfold Mv.new;rw[H6];omega
 ·obtain rfl:v=Mv.page0:=List.eq_of_mem_replicate hv;exact⟨rfl,by decide,by decide,by decide,by decide⟩
theorem less (h:Wt D B P W Z n b) {k c:Nat} (hk:k<=n) (hb:b<=c):Wt D B P W Z k c:=by
 obtain⟨d,hD⟩:=h.dev;exact⟨h.z,⟨d,hD.less hk⟩,h.none,h.stuck,h.len,h.fine.more hb,D4 h.log hb,D4 h.b1 hb,h.late⟩
theorem pre (h:Wt D B P W Z (n+605) b) {s:Stp} (h6:s.fn≠6) (h8:s.fn≠8) (hd:s.data.length=16):∃Z2,(W.P.step s).1.Z=some Z2/\Z2.S.N.off=false/\(s.fn=7->(W.P.step s).2.err=0)/\(W.P.step s).2.data.length=16:=by
 obtain⟨Z',t,c,e1,e2,e3,e4⟩:=h.does h6 h8 hd;have hst:W.P.step s=({W.P with Z:=some Z',log:=W.P.log++[t]},t):=by
  unfold Pv.step;rw[Pv.run_none h.z h.none,e1]
 rw[hst];exact⟨Z',rfl,e2.off,e4,e3⟩
end Wt
namespace Wa
variable {W : Wa} {s : Stp}
def step1 (W:Wa) (s:Stp):Wa:=
 if skip s then W
 else
  let r:=W.P.step s
  let off:=r.1.nd.off
  let h:=W.hold s r.2
  let W2:Wa:={W with P:=r.1,M:=h.1,wrong:=W.wrong||h.2,full:=W.full||(decide (r.2.err=11)&&decide (s.fn≠7))}
  if s.fn=7 then
   let st:=decide (r.2.err=11)&& !off&&decide (W2.lates>1)
   let W3:Wa:={W2 with M:=Mv.cut W2.M,stuck:=st,wrong:=W2.wrong||(decide (r.2.err≠0)&& !off&& !st)}
   if r.2.err=0 then {W3 with since:=r.1.nd.ops,late:=0}else W3
  else {W2 with wrong:=W2.wrong||(W.on&& !off&&(decide (r.2.err=9)||decide (r.2.err=12)))}
def noted (W:Wa) (s:Stp):Wa:=if s.fn=8 then {W with late:=W.late+1}else W
theorem ask_fn (W:Wa) (s:Stp):(W.ask s).fn=s.fn:=by unfold ask;split<;>rfl
theorem ask_skip (W:Wa) (s:Stp):skip (W.ask s)=skip s:=by unfold ask skip;split<;>rfl
theorem step_eq (hst:W.stuck=false):W.step s=(W.noted s).step1 (W.ask s):=by
 by_cases h8:s.fn=8
 ·have hn:W.noted s={W with late:=W.late+1}:=by unfold noted;rw[g7 h8]
  have h3:∀t,W.hold (W.ask s) t=W.hold s t:=λt=>by
   unfold hold;rw[ask_fn,h8];rfl
  have h4:({W with late:=W.late+1}:Wa).hold (W.ask s)=W.hold s:=funext h3;rw[hn];unfold step1;rw[ask_skip,ask_fn,h4];unfold step;rw[f9 (show¬W.stuck=true by rw[hst];decide),g7 h8];dsimp only;rw[f9 (show¬s.fn=7 by omega),f9 (show¬s.fn=7 by omega)];rfl
 ·have hn:W.noted s=W:=by unfold noted;rw[f9 h8]
  have ha:W.ask s=s:=by unfold ask;rw[f9 h8]
  rw[hn,ha];unfold step;rw[f9 (show¬W.stuck=true by rw[hst];decide),f9 h8,ha];rfl
theorem step_skip (h:skip s=true):W.step1 s=W:=by
 unfold step1;rw[g7 h]
theorem step_mount (hst:W.stuck=false) (h7:s.fn=7) (h:skip s=false) (he:(W.P.step s).2.err=0):W.step1 s={W with P:=(W.P.step s).1,M:=Mv.cut W.M,stuck:=false,since:=(W.P.step s).1.nd.ops,late:=0}:=by
 unfold step1;simp only[h,h7,he];unfold hold;simp[h7,he]
theorem step_else (hst:W.stuck=false) (h7:s.fn≠7) (h:skip s=false) (hon:W.on=true) (hoff:(W.P.step s).1.nd.off=false):W.step1 s={W with P:=(W.P.step s).1,M:=(W.hold s (W.P.step s).2).1,wrong:=(W.wrong||(W.hold s (W.P.step s).2).2)||(decide ((W.P.step s).2.err=9)||decide ((W.P.step s).2.err=12)),full:=W.full||decide ((W.P.step s).2.err=11)}:=by
 unfold step1;simp[h,h7,hon,hoff]
variable {t : Td}
theorem hold1_0 (h1:s.fn=1) (he:t.err=0):W.hold s t=(Mv.saw W.M s.lpn t.data,!Mv.may W.M s.lpn t.data):=by unfold hold;simp[h1,he]
theorem hold1_e (h1:s.fn=1) (he:t.err≠0):W.hold s t=(W.M,(decide (t.err=10)||decide (t.err=11))||(decide (t.err=3)&&decide (s.lpn>=0)&&decide (s.lpn<(W.M.length:Int)))):=by unfold hold;simp[h1,he]
theorem hold2_0 (h2:s.fn=2) (he:t.err=0):W.hold s t=(Mv.write W.M s.lpn s.data,!Mv.inR W.M s.lpn):=by unfold hold;simp[h2,he]
theorem hold3_0 (h3:s.fn=3) (he:t.err=0):W.hold s t=(Mv.write W.M s.lpn zd,!Mv.inR W.M s.lpn):=by unfold hold;simp[h3,he]
theorem hold2_e (h1:s.fn=2\/s.fn=3) (he:t.err≠0):W.hold s t=(W.M,false):=by
 unfold hold;rcases h1 with h | h<;>simp[h,he]
theorem hold4_0 (h4:s.fn=4) (he:t.err=0):W.hold s t=(Mv.flush W.M,false):=by unfold hold;simp[h4,he]
theorem hold4_e (h4:s.fn=4) (he:t.err≠0):W.hold s t=(W.M,false):=by unfold hold;simp[h4,he]
theorem hold_x (h1:s.fn≠1) (h2:s.fn≠2) (h3:s.fn≠3) (h4:s.fn≠4):W.hold s t=(W.M,false):=by unfold hold;simp[h1,h2,h3,h4]
end Wa
theorem a9i {R:RAd} {Z:List MSl} {n:Nat} (h:Z.length=n):a3H R Z=[.pt R.q 92 [.slice (some ⟨R.n,0,none⟩) n n, .slice (some ⟨R.o,0,none⟩) n n, .slice (some ⟨R.m,0,none⟩) n n, .slice (some ⟨R.e,0,none⟩) n n], .pt R.n 30 (a0Z Z), .pt R.o 4 (opC Z), .pt R.m 36 (a0p Z), .pt R.e 36 (X4 Z), .hp (HP.of (Z.map MSl.m1)), .hp (HP.of (Z.map MSl.m2))]:=by subst h;rfl
set_option maxHeartbeats 1000000 in
theorem b9y (U:WAd) (W:Wa) (Zl:List MSl) (hA:U.A.Ok W.P) (Z Z2:Fv) (hZ:W.P.Z=some Z) (k m:Nat) (hO:Z.Ok (Fv.cW*200+(Dv.costS+(Dv.costK+(1+k)))) m) (hm:m+(V0 Z.S.N.ops W.P.L).length<=1000) (hL:W.P.L.length<=1000) (hlg:W.P.log.length<=1000) (s0:Stp) (hs:s0.data.length=16) (hst:W.stuck=false) (hla:0<=W.late/\W.late<=1000000) (hoff:Z.S.N.off=false) (hZ2:(W.P.step (W.ask s0)).1.Z=some Z2) (hoff2:Z2.S.N.off=false) (hmt:s0.fn=7->(W.P.step (W.ask s0)).2.err=0) (htd:(W.P.step (W.ask s0)).2.data.length=16) (hM:Zl.map (·.v)=W.M) (hf:∀z∈Zl,z.Fine) (hn:Zl.length<=65536):
  FP 59 [pp U.w,stV s0] (b3g U W Zl) (λv As=>∃(A':Pad) (Zl':List MSl),v= .tuple #[]/\A'.Ok (W.step s0).P/\Zl'.map (·.v)=(W.step s0).M/\As=b3g {U with A:=A'} (W.step s0) Zl'):=by
 obtain⟨s,hs1⟩:∃s,W.ask s0=s:=⟨_,rfl⟩;rw[hs1]at hZ2 hmt htd;have hsd:s.data.length=16:=by rw[<- hs1];unfold Wa.ask;split<;>exact hs
 have hf1:s.fn=s0.fn:=by rw[<- hs1];exact Wa.ask_fn W s0
 have hmt:s.fn=7->(W.P.step s).2.err=0:=λe=>hmt (by rw[<- hf1];exact e);have hstep:W.step s0=(W.noted s0).step1 s:=by rw[<- hs1];exact Wa.step_eq hst
 obtain⟨late,hl1⟩:∃x,(W.noted s0).late=x:=⟨_,rfl⟩;have hnoted:W.noted s0={W with late:=late}:=by rw[<- hl1];unfold Wa.noted;split<;>rfl
 rw[hstep,hnoted];have hA8:s0.fn=8->s={s0 with f:={s0.f with x:=W.die}}/\late=W.late+1:=λh8=>⟨by rw[<- hs1];unfold Wa.ask;rw[g7 h8],by rw[<- hl1];unfold Wa.noted;rw[g7 h8]⟩;have hB8:s0.fn≠8->s=s0/\late=W.late:=λh8=>⟨by rw[<- hs1];unfold Wa.ask;rw[f9 h8],by rw[<- hl1];unfold Wa.noted;rw[f9 h8]⟩;clear hs1 hl1 hstep hnoted;have hon:W.on=true:=by unfold Wa.on Pv.nd;rw[hZ];simp[hoff]
 have hnd:(W.P.step s).1.nd=Z2.S.N:=by unfold Pv.nd;rw[hZ2]
 have hoff3:(W.P.step s).1.nd.off=false:=by rw[hnd];exact hoff2
 have hps:=a7x U.q U.nn U.A W.P hA Z hZ k m hO hm hL hlg s hsd;rw[X1 U.q U.nn U.A W.P Z hZ]at hps;have hW0:b3g U W Zl=[b9p U W,b9o U W]++a3H U.R Zl++([PlQ U.q U.nn (some Z) U.A.f (pp U.A.fp) (slv U.A.a2 W.P.log.length U.A.c2), .pt U.A.fp 247 [.slice (R0 U.A.a) W.P.L.length U.A.c],rdA (R0 U.A.a) 7 W.P.L.length (y8 W.P.L),n9 61 17 U.A.a2 W.P.log.length U.A.c2 (T7 W.P.log)]++FvP U.A.f U.A.p U.nn U.A.t U.A.l U.A.d Z):=by
  unfold b3g;rw[X1 U.q U.nn U.A W.P Z hZ];rfl
 obtain⟨w,q,nn,A,R,fa,fc⟩:=U;obtain⟨P,M,die,wrong,full,stuck,fs,since,late0⟩:=W;dsimp only at*;subst hst;rw[hW0];unfold b9p b9o;dsimp only;refine FE [2,0] Tryz.func59 λX F hX=>?_;refine J.q λbz=>?_;refine J.cF ?_;refine J.q λ_=>?_;refine J.join (α:=Unit) (λ_=>[⟨3,pp (bz 0),21, .tt⟩,⟨0,pp w,2, .tt⟩]) (λ_=> .hp F::(a9g ⟨w,q,nn,A,R,fa,fc⟩ ⟨P,M,die,wrong,full,false,fs,since,late⟩ Zl Z++[.pt (bz 0) 64 (stC s)])) (λhj=>?_) (λ_=>?_)
 ·refine J.qd (λ_ h8=>?_) λ_ h8=>?_
  ·obtain⟨rfl,rfl⟩:=hA8 (beq_iff_eq.1 h8);refine J.qn 21 λ_=>?_;exact J.goto [0,1,2,3,4,5,6,7,8,9,10,11,12,13,14,15,16,17,18,19,20] (hj ()) ⟨rfl,rfl,trivial⟩ rfl rfl
  ·obtain⟨rfl,rfl⟩:=hB8 (beq_eq_false_iff_ne.1 h8);refine J.qn 1 λ_=>?_;exact J.goto [0,1,2,3,4,5,6,7,8,9,10,11,12,13,14,15,16,17,18,19,20] (hj ()) ⟨rfl,rfl,trivial⟩ rfl rfl
 unfold a9g;dsimp only;clear hA8 hB8 hf1 hs;have hs:=hsd;refine J.qd (λ_ hk=>?_) λ_ hk=>?_
 ·have hsk:Wa.skip s=true:=hk;refine J.qr [1,2,3,4,5,6,7,8,9,10,11,12,13,14,15,16,17,18,19] λ_=>?_;rw[Wa.step_skip hsk];exact⟨A,Zl,rfl,hA,hM,by rw[a1Q (Z:=Z) hZ];rfl⟩
 have hsk:Wa.skip s=false:=hk;have hse:=λh7=>Wa.step_else (W:=⟨P,M,die,wrong,full,false,fs,since,late⟩) (s:=s) rfl h7 hsk hon hoff3;have hsm:=λh7=>Wa.step_mount (W:=⟨P,M,die,wrong,full,false,fs,since,late⟩) (s:=s) rfl h7 hsk (hmt h7);obtain⟨P2,td,hPt⟩:∃P2 td,P.step s=(P2,td):=⟨_,_,rfl⟩;dsimp only at hse hsm;rw[hPt]at hps hZ2 hmt htd hoff3 hnd hse hsm;dsimp only at hps hZ2 hmt htd hoff3 hnd hse hsm;refine J.qc (a7y q nn (flP (some Z) A.f) (pp A.fp) (slv A.a2 P.log.length A.c2)) [10] λ_=>?_;rintro _ As ⟨rfl,rfl⟩;refine⟨_,rfl,trivial,?_⟩;refine J.qc (a3t nn Z.S.N) [16] λ_=>?_;rintro _ As ⟨rfl,rfl⟩;refine⟨_,rfl,trivial,?_⟩;rw[hoff];refine J.qc (b1b q nn (some Z) A.f (pp A.fp) (slv A.a2 P.log.length A.c2)) [10] λ_=>?_;rintro _ As ⟨rfl,rfl⟩;refine⟨_,rfl,trivial,?_⟩;refine J.pn 5 (.take true 0 (.take true 1 (.take true 2 (.take false 3 (.take false 4 (.alt false 5 ((.of [26,31])) (.alt false 6 ((.of [22,31])) .non))))))) [7] [1,20] λ_ _=>?_;refine J.join (α:={A':Pad//A'.Ok P2}×Nat) (λx=>[⟨5,pp x.2,22, .tt⟩,sv 4 (.bool true),⟨3,pp (bz 0),21, .tt⟩,⟨0,pp w,2, .tt⟩]) (λx=> .hp F::(a9g ⟨w,q,nn,x.1.1,R,fa,fc⟩ ⟨P2,M,die,wrong,full,false,fs,since,late⟩ Zl Z2++[.pt (bz 0) 64 (stC s), .pt x.2 61 (tdC td)])) (λhj=>?_) (λx=>?_)
 ·refine J.alts ?_ ?_
  ·skip
   refine J.qc (hps) [10,11,12,13,14,15,16,17,18,19] λ_=>?_;rintro _ As ⟨A',rfl,hA',rfl⟩;rw[X1 q nn A' P2 Z2 hZ2];refine⟨_,rfl,stq,?_⟩;refine J.qn 2 λbt=>?_;exact J.goto [0,1,2,3,4,5,6,7,8,9,10,11,12,13,14,15,16,17,18,19,20,21] (hj (⟨A',hA'⟩,bt 0)) ⟨rfl,rfl,rfl,rfl,trivial⟩ rfl rfl
  ·skip
   refine J.qn 1 λbt=>?_;refine J.qc (hps) [10,11,12,13,14,15,16,17,18,19] λ_=>?_;rintro _ As ⟨A',rfl,hA',rfl⟩;rw[X1 q nn A' P2 Z2 hZ2];refine⟨_,rfl,stq,?_⟩;refine J.qn 1 λ_=>?_;exact J.goto [0,1,2,3,4,5,6,7,8,9,10,11,12,13,14,15,16,17,18,19,20,21] (hj (⟨A',hA'⟩,bt 0)) ⟨rfl,rfl,rfl,rfl,trivial⟩ rfl rfl
 obtain⟨⟨A',hA'⟩,bt⟩:=x;unfold a9g;dsimp only;refine J.qc (a7y q nn (flP (some Z2) A'.f) (pp A'.fp) (slv A'.a2 P2.log.length A'.c2)) [10] λ_=>?_;rintro _ As ⟨rfl,rfl⟩;refine⟨_,rfl,trivial,?_⟩;refine J.qc (a3t nn Z2.S.N) [16] λ_=>?_;rintro _ As ⟨rfl,rfl⟩;refine⟨_,rfl,trivial,?_⟩;rw[hoff2];obtain⟨e,dt⟩:=td;dsimp only at htd hmt hse hsm;refine J.qn 9 λ_=>?_;refine J.join (α:={x:List MSl×Bool//x.1.map (·.v)=(Wa.hold ⟨P,M,die,wrong,full,false,fs,since,late⟩ s ⟨e,dt⟩).1/\x.2=(Wa.hold ⟨P,M,die,wrong,full,false,fs,since,late⟩ s ⟨e,dt⟩).2}) (λx=>[sv 6 (.bool false),⟨5,pp bt,22, .tt⟩,sv 4 (.bool true),⟨3,pp (bz 0),21, .tt⟩,⟨0,pp w,2, .tt⟩]) (λx=> .hp F::(a9g ⟨w,q,nn,A',R,fa,fc⟩ ⟨P2,M,die,x.1.2||wrong,full,false,fs,since,late⟩ x.1.1 Z2++[.pt (bz 0) 64 (stC s), .pt bt 61 (tdC ⟨e,dt⟩)])) (λhj=>?_) (λx=>?_)
 ·refine J.qd (λ_ f1=>?_) λ_ f1=>?_
  ·have f1:s.fn=1:=beq_iff_eq.1 f1
   by_cases e0:e=0
   ·subst e0;have hh:=Wa.hold1_0 (W:=⟨P,M,die,wrong,full,false,fs,since,late⟩) (t:=⟨0,dt⟩) f1 rfl;refine J.p (.of [0,5,8,12,16,20,24,29,32,37,40,45,50,52,56,60,64,69,72,76,80,84,89,92,96,100,104,109,112,116,120,125,128,132,136,140,145,148,152,156,161,164,168,173,176,180,184,188]) [] [1,3,20,21] λ_=>?_;refine J.qc (c0R R Zl hn hf s.lpn dt htd) [3,4,5,6,7,8,9] λ_=>?_;rintro _ As ⟨Zl',rfl,rfl,hZl'⟩;have hzl:Zl'.length=Zl.length:=by have:=congrArg List.length hZl';rw[Mv.saw_len]at this;simpa using this
    rw[a9i hzl];refine⟨_,rfl,stq,?_⟩;rw[hM]at hZl' ⊢;refine J.q λ_=>?_;refine J.vT (.slice (some ⟨R.n,0,none⟩) Zl.length Zl.length) rfl rfl (λhg aa w he hC=>B3 tk rfl rfl he hg rfl rfl (hC rfl _ (B1 (i:=3) rfl)) rfl) ?_;refine J.q λ_=>?_;dsimp only;refine J.qd (λ_ hw=>?_) λ_ hw=>?_
    ·have hw:(!Mv.may M s.lpn dt)=true:=by simpa using hw
     refine J.qn 5 λ_=>?_;exact J.goto [0,1,2,3,4,5,6,7,8,9,10,11,12,13,14,15,16,17,18,19,20,21] (hj ⟨(Zl',true),by rw[hh];exact hZl',by rw[hh];exact hw.symm⟩) ⟨rfl,rfl,rfl,rfl,rfl,trivial⟩ rfl (by unfold a9g;dsimp only;rw[a9i hzl];rfl)
    ·have hw:(!Mv.may M s.lpn dt)=false:=by simpa using hw
     refine J.qn 2 λ_=>?_;exact J.goto [0,1,2,3,4,5,6,7,8,9,10,11,12,13,14,15,16,17,18,19,20,21] (hj ⟨(Zl',false),by rw[hh];exact hZl',by rw[hh];exact hw.symm⟩) ⟨rfl,rfl,rfl,rfl,rfl,trivial⟩ rfl (by unfold a9g;dsimp only;rw[a9i hzl];rfl)
   ·have hh:=Wa.hold1_e (W:=⟨P,M,die,wrong,full,false,fs,since,late⟩) (t:=⟨e,dt⟩) f1 e0;refine J.pn 3 (.of [0,5,8,12,16,20,24,29,32,37,40,45,50,52,56,60,64,69,72,76,80,84,89,92,96,100,104,109,112,116,120,125,128,132,136,140,145,148,152,156,161,164,168,173,176,180,184,188]) [] [1,3,20,21] λ_ _=>?_;dsimp only;rw[beq_eq_false_iff_ne.2 e0];refine J.q λ_=>?_;refine J.gcase hX rfl rfl rfl stq (λhb=>by simp at hb) (λhb=>?_);refine J.q λ_=>?_;refine J.vT (.bool true) rfl rfl (λhg aa w he hC=>by simp[G.on]at hg) ?_;refine J.r hX tk 400 (λ_=>rfl) (λ_=>?_) (λ_=>by(repeat' (first | exact Conj.nil | refine Conj.cons ?_ ?_ | exact rfl | assumption | (rw[i6];assumption) | exact Bool.and_eq_true_iff.2 ⟨by first | assumption | (rw[i6];assumption),by assumption⟩ | intro hq | (simp;done) | (simp;omega) | decide)));refine J.vT (.slice (some ⟨R.n,0,none⟩) Zl.length Zl.length) rfl rfl (λhg aa w he hC=>B3 tk rfl rfl he hg rfl rfl (hC rfl _ (B1 (i:=3) rfl)) rfl) ?_;refine J.r hX tk 400 (λ_=>rfl) (λ_=>?_) (λ_=>by(repeat' (first | exact Conj.nil | refine Conj.cons ?_ ?_ | exact rfl | assumption | (rw[i6];assumption) | exact Bool.and_eq_true_iff.2 ⟨by first | assumption | (rw[i6];assumption),by assumption⟩ | intro hq | (simp;done) | (simp;omega) | decide)));dsimp only;refine J.qd (λ_ hw=>?_) λ_ hw=>?_
    ·have hw:((decide (e=10)||decide (e=11))||(decide (e=3)&&decide (s.lpn>=0)&&decide (s.lpn<(M.length:Int))))=true:=by
      rw[<- hM,j8];simpa using hw
     refine J.qn 5 λ_=>?_;exact J.goto [0,1,2,3,4,5,6,7,8,9,10,11,12,13,14,15,16,17,18,19,20,21] (hj ⟨(Zl,true),by rw[hh];exact hM,by rw[hh];exact hw.symm⟩) ⟨rfl,rfl,rfl,rfl,rfl,trivial⟩ rfl rfl
    ·have hw:((decide (e=10)||decide (e=11))||(decide (e=3)&&decide (s.lpn>=0)&&decide (s.lpn<(M.length:Int))))=false:=by
      rw[<- hM,j8];simpa using hw
     refine J.qn 2 λ_=>?_;exact J.goto [0,1,2,3,4,5,6,7,8,9,10,11,12,13,14,15,16,17,18,19,20,21] (hj ⟨(Zl,false),by rw[hh];exact hM,by rw[hh];exact hw.symm⟩) ⟨rfl,rfl,rfl,rfl,rfl,trivial⟩ rfl rfl
  ·have f1:s.fn≠1:=beq_eq_false_iff_ne.1 f1;refine J.q λ_=>?_
   by_cases f2:s.fn=2
   ·rw[beq_iff_eq.2 f2];refine J.qT λ_=>?_;refine J.qT λ_=>?_;refine J.q λb7=>?_;rw[show(s.fn==3)=false from beq_eq_false_iff_ne.2 (by omega)];refine J.qF λ_=>?_;refine J.q λ_=>?_
    by_cases e0:e=0
    ·subst e0;have hh:=Wa.hold2_0 (W:=⟨P,M,die,wrong,full,false,fs,since,late⟩) (t:=⟨0,dt⟩) f2 rfl;refine J.plan (.of [0,5,8,12,16,20,24,29,32,37,41,46,48,52]) [] [1,20,21,22] (by rw[hX.hP];kernel_rfl) (by kernel_rfl) ?_;refine J.qc (b0w R Zl hn hf s.lpn s.data hs) [3,4,5,6,7,8,9] λ_=>?_;rintro _ As ⟨Zl',rfl,rfl,hZl'⟩;refine⟨_,rfl,stq,?_⟩;rw[hM]at hZl' ⊢;refine J.q λ_=>?_;dsimp only;refine J.qd (λ_ hw=>?_) λ_ hw=>?_
     ·have hw:(!Mv.inR M s.lpn)=true:=by simpa using hw
      refine J.qn 5 λ_=>?_;exact J.goto [0,1,2,3,4,5,6,7,8,9,10,11,12,13,14,15,16,17,18,19,20,21] (hj ⟨(Zl',true),by rw[hh];exact hZl',by rw[hh];exact hw.symm⟩) ⟨rfl,rfl,rfl,rfl,rfl,trivial⟩ rfl rfl
     ·have hw:(!Mv.inR M s.lpn)=false:=by simpa using hw
      refine J.qn 2 λ_=>?_;exact J.goto [0,1,2,3,4,5,6,7,8,9,10,11,12,13,14,15,16,17,18,19,20,21] (hj ⟨(Zl',false),by rw[hh];exact hZl',by rw[hh];exact hw.symm⟩) ⟨rfl,rfl,rfl,rfl,rfl,trivial⟩ rfl rfl
    ·have hh:=Wa.hold2_e (W:=⟨P,M,die,wrong,full,false,fs,since,late⟩) (t:=⟨e,dt⟩) (.inl f2) e0;refine J.plan (.of [0,5,8,12,16,20,24,29,32,37,41,46,48,52]) [] [1,20,21,22] (by rw[hX.hP];kernel_rfl) (by kernel_rfl) ?_;refine J.qn 3 λ_=>?_;dsimp only;rw[beq_eq_false_iff_ne.2 e0];refine J.q λ_=>?_;refine J.gcase hX rfl rfl rfl stq (λhb=>by simp at hb) (λhb=>?_);refine J.q λ_=>?_;refine J.vT (.bool true) rfl rfl (λhg aa w he hC=>by simp[G.on]at hg) ?_;refine J.qF λ_=>?_;refine J.qn 2 λ_=>?_;exact J.goto [0,1,2,3,4,5,6,7,8,9,10,11,12,13,14,15,16,17,18,19,20,21] (hj ⟨(Zl,false),by rw[hh];exact hM,by rw[hh]⟩) ⟨rfl,rfl,rfl,rfl,rfl,trivial⟩ rfl rfl
   rw[beq_eq_false_iff_ne.2 f2];refine J.qF λ_=>?_;refine J.q λ_=>?_
   by_cases f3:s.fn=3
   ·rw[beq_iff_eq.2 f3];refine J.qT λ_=>?_;refine J.q λb7=>?_;rw[show(s.fn==3)=true from beq_iff_eq.2 f3];refine J.qT λ_=>?_;refine J.q λ_=>?_
    by_cases e0:e=0
    ·subst e0;have hh:=Wa.hold3_0 (W:=⟨P,M,die,wrong,full,false,fs,since,late⟩) (t:=⟨0,dt⟩) f3 rfl;refine J.plan (.of [0,5,8,12,16,20,24,29,32,37,41,46,48,52]) [] [1,20,21,22] (by rw[hX.hP];kernel_rfl) (by kernel_rfl) ?_;refine J.qc (b0w R Zl hn hf s.lpn zd rfl) [3,4,5,6,7,8,9] λ_=>?_;rintro _ As ⟨Zl',rfl,rfl,hZl'⟩;refine⟨_,rfl,stq,?_⟩;rw[hM]at hZl' ⊢;refine J.q λ_=>?_;dsimp only;refine J.qd (λ_ hw=>?_) λ_ hw=>?_
     ·have hw:(!Mv.inR M s.lpn)=true:=by simpa using hw
      refine J.qn 5 λ_=>?_;exact J.goto [0,1,2,3,4,5,6,7,8,9,10,11,12,13,14,15,16,17,18,19,20,21] (hj ⟨(Zl',true),by rw[hh];exact hZl',by rw[hh];exact hw.symm⟩) ⟨rfl,rfl,rfl,rfl,rfl,trivial⟩ rfl rfl
     ·have hw:(!Mv.inR M s.lpn)=false:=by simpa using hw
      refine J.qn 2 λ_=>?_;exact J.goto [0,1,2,3,4,5,6,7,8,9,10,11,12,13,14,15,16,17,18,19,20,21] (hj ⟨(Zl',false),by rw[hh];exact hZl',by rw[hh];exact hw.symm⟩) ⟨rfl,rfl,rfl,rfl,rfl,trivial⟩ rfl rfl
    ·have hh:=Wa.hold2_e (W:=⟨P,M,die,wrong,full,false,fs,since,late⟩) (t:=⟨e,dt⟩) (.inr f3) e0;refine J.plan (.of [0,5,8,12,16,20,24,29,32,37,41,46,48,52]) [] [1,20,21,22] (by rw[hX.hP];kernel_rfl) (by kernel_rfl) ?_;refine J.qn 3 λ_=>?_;dsimp only;rw[beq_eq_false_iff_ne.2 e0];refine J.q λ_=>?_;refine J.gcase hX rfl rfl rfl stq (λhb=>by simp at hb) (λhb=>?_);refine J.q λ_=>?_;refine J.vT (.bool true) rfl rfl (λhg aa w he hC=>by simp[G.on]at hg) ?_;refine J.qF λ_=>?_;refine J.qn 2 λ_=>?_;exact J.goto [0,1,2,3,4,5,6,7,8,9,10,11,12,13,14,15,16,17,18,19,20,21] (hj ⟨(Zl,false),by rw[hh];exact hM,by rw[hh]⟩) ⟨rfl,rfl,rfl,rfl,rfl,trivial⟩ rfl rfl
   rw[beq_eq_false_iff_ne.2 f3];refine J.qF λ_=>?_;refine J.q λ_=>?_
   by_cases f4:s.fn=4
   ·rw[beq_iff_eq.2 f4];refine J.qT λ_=>?_;refine J.q λ_=>?_
    by_cases e0:e=0
    ·subst e0;have hh:=Wa.hold4_0 (W:=⟨P,M,die,wrong,full,false,fs,since,late⟩) (t:=⟨0,dt⟩) f4 rfl;refine J.qT λ_=>?_;refine J.qc (b6n R Zl hn) [3,4,5,6,7,8,9] λ_=>?_;rintro _ As ⟨Zl',rfl,rfl,hZl'⟩;refine⟨_,rfl,stq,?_⟩;rw[hM]at hZl';refine J.qn 2 λ_=>?_;exact J.goto [0,1,2,3,4,5,6,7,8,9,10,11,12,13,14,15,16,17,18,19,20,21] (hj ⟨(Zl',false),by rw[hh];exact hZl',by rw[hh]⟩) ⟨rfl,rfl,rfl,rfl,rfl,trivial⟩ rfl rfl
    ·have hh:=Wa.hold4_e (W:=⟨P,M,die,wrong,full,false,fs,since,late⟩) (t:=⟨e,dt⟩) f4 e0;dsimp only;rw[beq_eq_false_iff_ne.2 e0];refine J.qF λ_=>?_;refine J.qn 2 λ_=>?_;exact J.goto [0,1,2,3,4,5,6,7,8,9,10,11,12,13,14,15,16,17,18,19,20,21] (hj ⟨(Zl,false),by rw[hh];exact hM,by rw[hh]⟩) ⟨rfl,rfl,rfl,rfl,rfl,trivial⟩ rfl rfl
   have hh:=Wa.hold_x (W:=⟨P,M,die,wrong,full,false,fs,since,late⟩) (t:=⟨e,dt⟩) f1 f2 f3 f4;rw[beq_eq_false_iff_ne.2 f4];refine J.qF λ_=>?_;refine J.qn 2 λ_=>?_;exact J.goto [0,1,2,3,4,5,6,7,8,9,10,11,12,13,14,15,16,17,18,19,20,21] (hj ⟨(Zl,false),by rw[hh];exact hM,by rw[hh]⟩) ⟨rfl,rfl,rfl,rfl,rfl,trivial⟩ rfl rfl
 obtain⟨⟨Zl',wr⟩,hx1,hx2⟩:=x;dsimp only at hx1 hx2 ⊢;unfold a9g;dsimp only
 by_cases f7:s.fn=7
 ·obtain rfl:e=0:=hmt f7;rw[Wa.hold_x (by omega) (by omega) (by omega) (by omega)]at hx1 hx2;dsimp only at hx1 hx2;subst hx2;have hzl:Zl'.length<=65536:=by rw[<- hM]at hx1;have:=congrArg List.length hx1;rw[j8,j8]at this;omega
  refine J.qF λ_=>?_;refine J.q λ_=>?_;rw[beq_iff_eq.2 f7];refine J.qT λ_=>?_;refine J.qc (c0S R Zl' hzl) [3,4,5,6,7,8,9] λ_=>?_;rintro _ As ⟨Zl3,rfl,rfl,hZ3⟩;refine⟨_,rfl,trivial,?_⟩;rw[hx1]at hZ3;refine J.q λ_=>?_;refine J.gcase hX rfl rfl rfl trivial (λhb=>by simp at hb) (λhb=>?_);refine J.q λ_=>?_;refine J.v (.bool true) rfl rfl (λhg aa w he hw=>by simp[G.on]at hg) ?_;refine J.qF λ_=>?_;refine J.qT λ_=>?_;refine J.qc (a7y q nn (flP (some Z2) A'.f) (pp A'.fp) (slv A'.a2 P2.log.length A'.c2)) [10] λ_=>?_;rintro _ As ⟨rfl,rfl⟩;refine⟨_,rfl,trivial,?_⟩;refine J.qc (b4D nn Z2.S.N) [16] λ_=>?_;rintro _ As ⟨rfl,rfl⟩;refine⟨_,rfl,trivial,?_⟩;refine J.q λ_=>?_;refine J.f [1,2,3,4,5,6,7,8,9,10,11,12,13,14,15,16,17,18,19] ?_;rw[hsm f7];refine⟨A',Zl3,rfl,hA',hZ3,?_⟩;rw[a1Q (Z:=Z2) hZ2,hnd];rfl
 ·refine J.q λ_=>?_;rw[show(s.fn !=7)=true from bne_iff_ne.2 f7]
  by_cases e11:e=11
  ·rw[beq_iff_eq.2 e11];refine J.qT λ_=>?_;refine J.q λ_=>?_;rw[beq_eq_false_iff_ne.2 f7];refine J.qF λ_=>?_;refine J.qd (λ_ hq=>?_) λ_ hq=>?_
   ·have hq:(decide (e=9)||decide (e=12))=true:=by simpa using hq
    refine J.q λ_=>?_;refine J.f [1,2,3,4,5,6,7,8,9,10,11,12,13,14,15,16,17,18,19] ?_;rw[hse f7];refine⟨A',Zl',rfl,hA',hx1,?_⟩;rw[<- hx2,a1Q (Z:=Z2) hZ2,show((wrong||wr)||(decide (e=9)||decide (e=12)))=true from by rw[hq];simp,show(full||decide (e=11))=true from by simp[e11]];rfl
   ·have hq:(decide (e=9)||decide (e=12))=false:=by simpa using hq
    refine J.q λ_=>?_;refine J.f [1,2,3,4,5,6,7,8,9,10,11,12,13,14,15,16,17,18,19] ?_;rw[hse f7];refine⟨A',Zl',rfl,hA',hx1,?_⟩;rw[<- hx2,a1Q (Z:=Z2) hZ2,show((wrong||wr)||(decide (e=9)||decide (e=12)))=(wr||wrong)from by rw[hq,a2t,Bool.or_comm],show(full||decide (e=11))=true from by simp[e11]];rfl
  ·rw[beq_eq_false_iff_ne.2 e11];refine J.qF λ_=>?_;refine J.q λ_=>?_;rw[beq_eq_false_iff_ne.2 f7];refine J.qF λ_=>?_;refine J.qd (λ_ hq=>?_) λ_ hq=>?_
   ·have hq:(decide (e=9)||decide (e=12))=true:=by simpa using hq
    refine J.q λ_=>?_;refine J.f [1,2,3,4,5,6,7,8,9,10,11,12,13,14,15,16,17,18,19] ?_;rw[hse f7];refine⟨A',Zl',rfl,hA',hx1,?_⟩;rw[<- hx2,a1Q (Z:=Z2) hZ2,show((wrong||wr)||(decide (e=9)||decide (e=12)))=true from by rw[hq];simp,show(full||decide (e=11))=full from by simp[e11]];rfl
   ·have hq:(decide (e=9)||decide (e=12))=false:=by simpa using hq
    refine J.q λ_=>?_;refine J.f [1,2,3,4,5,6,7,8,9,10,11,12,13,14,15,16,17,18,19] ?_;rw[hse f7];refine⟨A',Zl',rfl,hA',hx1,?_⟩;rw[<- hx2,a1Q (Z:=Z2) hZ2,show((wrong||wr)||(decide (e=9)||decide (e=12)))=(wr||wrong)from by rw[hq,a2t,Bool.or_comm],show(full||decide (e=11))=full from by simp[e11]];rfl
theorem b5a:Fv.cW*200+(Dv.costS+(Dv.costK+(1+0)))<=UN*605:=by
 have h1:=a3g;have h2:=a9h;have h3:Dv.costS<=UN*2:=by
  have:Dv.costC<=Dv.costM:=by unfold Dv.costM Dv.costR;omega
  have:=b3h;unfold Dv.costS;omega
 have h4:=b9q;omega
end Go.Proofs.YtpakpgkdpofbhaaGreat
