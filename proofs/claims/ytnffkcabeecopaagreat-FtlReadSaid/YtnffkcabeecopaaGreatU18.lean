/- Helpers. No condition. -/
import Derived.Test.YtnffkcabeecopaaGreatU13
import Derived.Test.YtnffkcabeecopaaGreatU16
import Derived.Test.YtnffkcabeecopaaGreatU17
set_option maxRecDepth 20000
set_option linter.all false
namespace Go.Proofs.YtnffkcabeecopaaGreat
open Go Go.RowKit
structure RAd where
 q:Nat
 n:Nat
 o:Nat
 m:Nat
 e:Nat
def I3 (Z:List MSl):List Value:=Z.flatMap λz=>i9 z.v.now
def opC (Z:List MSl):List Value:=Z.map λz=>Value.bool z.v.op
def D1 (Z:List MSl):List Value:=Z.map λz=>slv z.a1 z.v.may.length z.c1
def A6 (Z:List MSl):List Value:=Z.map λz=>slv z.a2 z.v.ever.length z.c2
def U0 (R:RAd) (Z:List MSl):List Atom:=[.pt R.q 94 [.slice (some ⟨R.n,0,none⟩) Z.length Z.length, .slice (some ⟨R.o,0,none⟩) Z.length Z.length, .slice (some ⟨R.m,0,none⟩) Z.length Z.length, .slice (some ⟨R.e,0,none⟩) Z.length Z.length], .pt R.n 30 (I3 Z), .pt R.o 4 (opC Z), .pt R.m 86 (D1 Z), .pt R.e 86 (A6 Z), .hp (HP.of (Z.map MSl.m1)), .hp (HP.of (Z.map MSl.m2))]
section
variable {Z : List MSl} {k : Nat} {z : MSl}
theorem a3h (Z:List MSl):(I3 Z).length=Z.length*16:=by
 induction Z with
 | nil=>rfl
 | cons z Z ih=>
  unfold I3 at ih ⊢;rw[List.flatMap_cons,List.length_append,ih,List.length_cons,Nat.succ_mul];show 16+_=_;omega
theorem a9e (h:Z[k]? =some z):((I3 Z).drop (k*16)).take 16=i9 z.v.now:=C7 (λz:MSl=>i9 z.v.now) 16 (λ_=>rfl) Z k z h
theorem a8g (h:Z[k]? =some z):(opC Z)[k]? =some (.bool z.v.op):=by unfold opC;rw[List.getElem?_map,h];rfl
theorem a9i (h:Z[k]? =some z):(D1 Z)[k]? =some (slv z.a1 z.v.may.length z.c1):=by unfold D1;rw[List.getElem?_map,h];rfl
theorem b3y (h:Z[k]? =some z):(A6 Z)[k]? =some (slv z.a2 z.v.ever.length z.c2):=by unfold A6;rw[List.getElem?_map,h];rfl
theorem Y3 {β:Type} (f:MSl->β) {y:MSl} (h:Z[k]? =some z) (hf:f y=f z):(Z.set k y).map f=Z.map f:=by
 rw[List.map_set,hf];exact M5 (by rw[List.getElem?_map,h];rfl)
theorem a5c (f:MSl->List Value) {y:MSl} (h:Z[k]? =some z) (hf:f y=f z):(Z.set k y).flatMap f=Z.flatMap f:=by
 rw[List.flatMap_def,List.flatMap_def,Y3 f h hf]
end
theorem b5m (a:Option Nat) (n c:Nat) (l:List (List UInt8)) (hl:l.length=n) (hn:n<=1000000) (d:List UInt8) (hd:d.length=16) (hs:∀x∈l,x.length=16):FP 151 [slv a n c,Z4 d] [c8 30 16 a n c (i7 l)] (Ps (.bool (l.contains d)) [c8 30 16 a n c (i7 l)]):=by
 refine FE [0,0] Tryz.func151 λX F hX=>?_;refine J.q λbb=>?_;refine J.l (α:=Nat) (λk=>k<=n/\∀j,j<k->∀x,l[j]? =some x->(x==d)=false) (λk=>[si 5 k,sv 0 (slv a n c),⟨3,pp (bb 0),3, .tt⟩]) [] (λk=>[]) (λk=>n-k) (0) (⟨Nat.zero_le _,λj hj=>absurd hj (Nat.not_lt_zero _)⟩) λk hI=>?_;obtain⟨hk,hno⟩:=hI;refine J.qd (λ_ h1=>?_) λ_ h1=>?_
 ·simp only[decide_eq_true_eq,Int.ofNat_lt]at h1;obtain⟨x,hx⟩:∃x,l[k]? =some x:=⟨_,List.getElem?_eq_getElem (by omega)⟩;refine J.know (λh' s=>g7 (c:=(a,c)) (by omega) (s.get (i:=1) rfl)) λhg=>?_;obtain⟨g,rfl⟩:=hg;refine J.pn 4 (.of [0,4,8,13,17,20]) [] [1,2] λ_ _=>?_;have hxl:=hs x (List.mem_of_getElem? hx);refine J.vT (Z4 x) rfl rfl (λhg aa w he hC=>m7 tk rfl rfl he rfl rfl rfl (hC rfl _ (d7 (i:=1) rfl)) (by rw[show 0+(k:Int).toNat*16=k*16 from by omega];exact C7 i9 16 (λ_=>rfl) l k x hx) rfl) ?_;refine J.qn 1 λ_=>?_;refine J.vT (.bool (x==d)) rfl rfl (λhg aa w he hC=>(y7 (xs:=i9 x) (ys:=i9 d) rfl rfl rfl he rfl rfl Q2 (I4 _) (I4 _) mkD gdD).trans (by rw[eqD _ _ hxl hd,a3G])) ?_;refine J.qd (λ_ h2=>?_) λ_ h2=>?_
  ·have hm:l.contains d=true:=by
    rw[List.contains_iff_mem,<- eq_of_beq h2];exact List.mem_of_getElem? hx
   refine J.qr [1] λ_=>?_;rw[hm];exact⟨rfl,rfl⟩
  ·refine J.q λ_=>?_;refine J.nS (k+1) (⟨by omega,λj hj y hy=>by
    rcases Nat.lt_or_ge j k with h | h
    ·exact hno j h y hy
    ·obtain rfl:j=k:=by omega
     rw[hx]at hy;injection hy with hy;rw[<- hy];exact h2⟩) (by omega) [0,1,2] rfl rfl
 simp only[decide_eq_false_iff_not,Int.ofNat_lt]at h1;have hm:l.contains d=false:=by
  rw[Bool.eq_false_iff];intro hc;rw[List.contains_iff_mem]at hc;obtain⟨j,hj⟩:=List.getElem?_of_mem hc;have:=hno j (by have:=(List.getElem?_eq_some_iff.1 hj).1;omega) d hj;rw[beq_self_eq_true]at this;cases this
 refine J.qr [1] λ_=>?_;rw[hm];exact⟨rfl,rfl⟩
theorem a7q (R:RAd) (Z:List MSl) (hn:Z.length<=65536) (hf:∀z∈Z,z.Fine) (i:Int) (d:List UInt8) (hd:d.length=16):FP 101 [pp R.q,iI i,Z4 d] (U0 R Z) (Ps (.bool (Mv.may (Z.map (·.v)) i d)) (U0 R Z)):=by
 refine FE [2,0,0] Tryz.func101 λX F hX=>?_;refine J.q λ_=>?_
 by_cases hi:0<=i/\i<(Z.length:Int)
 ·obtain⟨k,rfl⟩:=Int.eq_ofNat_of_zero_le hi.1;obtain⟨z,hz⟩:∃z,Z[k]? =some z:=⟨_,List.getElem?_eq_getElem (by omega)⟩;obtain⟨f1,f2,f3,f4,f5⟩:=hf z (List.mem_of_getElem? hz);have hin:Mv.inR (Z.map (·.v)) (k:Int)=true:=by unfold Mv.inR;rw[List.length_map,decide_eq_true hi.1,decide_eq_true hi.2];rfl
  have hpg:Mv.pg (Z.map (·.v)) (k:Int)=z.v:=by unfold Mv.pg;rw[Int.toNat_natCast,List.getD_eq_getElem?_getD,List.getElem?_map,hz];rfl
  have hmy:Mv.may (Z.map (·.v)) (k:Int) d=if z.v.op then z.v.may.contains d else z.v.now==d:=by unfold Mv.may;rw[hin,hpg,Bool.true_and]
  rw[decide_eq_false (show¬(k:Int)<0 by omega),decide_eq_false (show¬(k:Int)>=Z.length by omega)];refine J.qF λ_=>?_;refine J.qn 10 λ_=>?_;refine J.v (.bool z.v.op) rfl rfl (λhg aa w he hw=>f8 tk rfl rfl he rfl rfl rfl (hw.get (i:=3) rfl) (by rw[show 0+(k:Int).toNat*1=k from by omega];exact a8g hz)) ?_;refine J.qd (λ_ h1=>?_) λ_ h1=>?_
  ·rw[if_pos h1]at hmy;refine J.openAt 6 k rfl rfl (by rw[List.getElem?_map,hz];rfl) rfl ?_;refine J.pn 6 (.of [0,4,8,13,16,20,25,29,34,36]) [9] [1,2,3,4,5,6,8,9] λ_ _=>?_;refine J.vT (slv z.a1 z.v.may.length z.c1) rfl rfl (λhg aa w he hC=>f8 tk rfl rfl he rfl rfl rfl (hC rfl _ (d7 (i:=4) rfl)) (by rw[show 0+(k:Int).toNat*1=k from by omega];exact a9i hz)) ?_;refine J.qp (b5m z.a1 z.v.may.length z.c1 z.v.may rfl (by omega) d hd f2) [9] λ_=>?_;refine J.q λ_=>?_;refine J.closeAt (A:=z.m1) 6 9 k rfl rfl rfl ?_;have hsame:(Z.map MSl.m1).set k z.m1=Z.map MSl.m1:=M5 (by rw[List.getElem?_map,hz];rfl);rw[hsame];refine J.qr [1,2,3,4,5,6,7] λ_=>?_;rw[hmy];exact⟨rfl,rfl⟩
  ·rw[if_neg (by rw[h1];decide)]at hmy;refine J.pn 6 (.of [0,4,8,13,16,20,25,29,32,36]) [9] [1,2,3,4,5,8] λ_ _=>?_;refine J.vT (Z4 z.v.now) rfl rfl (λhg aa w he hC=>j3 tk rfl rfl he rfl rfl rfl (hC rfl _ (d7 (i:=2) rfl)) (by rw[show 0+(k:Int).toNat*16=k*16 from by omega];exact a9e hz) rfl) ?_;refine J.qn 1 λ_=>?_;refine J.vT (.bool (z.v.now==d)) rfl rfl (λhg aa w he hC=>(y7 (xs:=i9 z.v.now) (ys:=i9 d) rfl rfl rfl he rfl rfl Q2 (I4 _) (I4 _) mkD gdD).trans (by rw[eqD _ _ f1 hd,a3G])) ?_;refine J.qr [1,2,3,4,5,6,7] λ_=>?_;rw[hmy];exact⟨rfl,rfl⟩
 ·have hmy:Mv.may (Z.map (·.v)) i d=false:=by
   unfold Mv.may Mv.inR;rw[List.length_map];have:(decide (0<=i)&&decide (i<(Z.length:Int)))=false:=by simp;omega
   rw[this];rfl
  refine J.qd (λ_ h1=>?_) λ_ h1=>?_
  ·refine J.qr [1,2,3,4,5,6,7] λ_=>?_;rw[hmy];exact⟨rfl,rfl⟩
  ·exfalso
   simp at h1;omega
end Go.Proofs.YtnffkcabeecopaaGreat
namespace Go.Proofs.YtnffkcabeecopaaGreat
structure Wa where
 P:Pv
 M:List MPv
 die:Int
 wrong:Bool
 full:Bool
 stuck:Bool
 fs:List Fl
 since:Int
 late:Int
namespace Wa
def lates (W:Wa):Int:=W.late+((W.fs.filter λf=>decide (f.at_>=W.since)).length:Int)
def ask (W:Wa) (s:Stp):Stp:=if s.fn=8 then {s with f:={s.f with x:=W.die}}else s
def skip (s:Stp):Bool:=decide (s.n>1048576)||decide (s.n< -1)
def on (W:Wa):Bool:=!W.P.nd.off&&W.P.Z.isSome
def hold (W:Wa) (s:Stp) (t:Td):List MPv×Bool:=
 if s.fn=1 then(if t.err=0 then Mv.saw W.M s.lpn t.data else W.M,(decide (t.err=0)&& !Mv.may W.M s.lpn t.data)||decide (t.err=10)||decide (t.err=11)||(decide (t.err=3)&&decide (s.lpn>=0)&&decide (s.lpn<(W.M.length:Int))))
 else if s.fn=2\/s.fn=3 then(if t.err=0 then Mv.write W.M s.lpn (if s.fn=3 then zd else s.data)else W.M,decide (t.err=0)&& !Mv.inR W.M s.lpn)
 else if s.fn=4 then(if t.err=0 then Mv.flush W.M else W.M,false)
 else(W.M,false)
def step (W:Wa) (s:Stp):Wa:=
 if W.stuck then W
 else
  let W1:Wa:=if s.fn=8 then {W with late:=W.late+1}else W
  if skip s then W1
  else
   let r:=W.P.step (W.ask s)
   let off:=r.1.nd.off
   let h:=W.hold s r.2
   let W2:Wa:={W1 with P:=r.1,M:=h.1,wrong:=W.wrong||h.2,full:=W.full||(decide (r.2.err=11)&&decide (s.fn≠7))}
   if s.fn=7 then
    let st:=decide (r.2.err=11)&& !off&&decide (W2.lates>1)
    let W3:Wa:={W2 with M:=Mv.cut W2.M,stuck:=st,wrong:=W2.wrong||(decide (r.2.err≠0)&& !off&& !st)}
    if r.2.err=0 then {W3 with since:=r.1.nd.ops,late:=0}else W3
   else {W2 with wrong:=W2.wrong||(W.on&& !off&&(decide (r.2.err=9)||decide (r.2.err=12)))}
def fx (u:Int) (f:Fl):Fl:={f with x:=u}
def dieI (die:Int) (D:Nat):Int:=(die.tmod D+D).tmod D
def fl (D:Nat) (die:Int) (l:List Fl):List Fl:=(l.take 15).map (fx (dieI die D))
def new (D B P:Nat) (die:Int) (l:List Fl):Wa:=⟨Pv.new D B P (fl D die l),Mv.new (lgN D B P),dieI die D,false,false,false,fl D die l,0,0⟩
end Wa
end Go.Proofs.YtnffkcabeecopaaGreat
namespace Go.Proofs.YtnffkcabeecopaaGreat
open Go Go.RowKit
structure WAd where
 w:Nat
 q:Nat
 nn:Nat
 A:Pad
 R:RAd
 fa:Option Nat
 fc:Nat
def b1g (U:WAd) (W:Wa):Atom:= .pt U.w 41 [pp U.q,pp U.R.q,iI W.die, .bool W.wrong, .bool W.full, .bool W.stuck,slv U.fa W.fs.length U.fc,iI W.since,iI W.late]
def b1f (U:WAd) (W:Wa):Atom:=c8 34 7 U.fa W.fs.length U.fc (d5 W.fs)
def a0p (f:MSl->MSl) (i:Nat) (Z:List MSl):List MSl:=(Z.take i).map f++Z.drop i
theorem R6 {β:Type} (f:MSl->MSl) (g:MSl->β) (h:∀z,g (f z)=g z) (i:Nat) (Z:List MSl):(a0p f i Z).map g=Z.map g:=by
 unfold a0p;rw[List.map_append,List.map_map,show g ∘ f=g from funext h,<- List.map_append,List.take_append_drop]
theorem a9R (f:MSl->MSl) (g:MSl->List Value) (h:∀z,g (f z)=g z) (i:Nat) (Z:List MSl):(a0p f i Z).flatMap g=Z.flatMap g:=by
 rw[List.flatMap_def,List.flatMap_def,R6 f g h]
theorem a6s (f:MSl->MSl) (i:Nat) (Z:List MSl):(a0p f i Z).length=Z.length:=by
 have:=congrArg List.length (R6 f (λ_=>()) (λ_=>rfl) i Z);simpa using this
theorem b4f (f:MSl->MSl) {i:Nat} {Z:List MSl} {z:MSl} (h:Z[i]? =some z):(a0p f i Z)[i]? =some z:=by
 have hi:=(List.getElem?_eq_some_iff.1 h).1;unfold a0p;rw[List.getElem?_append_right (by simp;omega),List.getElem?_drop,List.length_map,List.length_take,Nat.min_eq_left (by omega),Nat.sub_self,Nat.add_zero,h]
def a0l (z:MSl):MSl:={z with v:=Mv.cut1 z.v}
theorem b5n (R:RAd) (Z:List MSl) (hn:Z.length<=65536):FP 60 [pp R.q] (U0 R Z) (λv As=>∃Z',v= .tuple #[]/\As=U0 R Z'/\Z'.map (·.v)=Mv.cut (Z.map (·.v))):=by
 refine FE [2] Tryz.func60 λX F hX=>?_;refine J.q λ_=>?_;refine J.l (α:=Nat) (λk=>k<=Z.length) (λk=>[si 2 k,⟨0,pp R.q,2, .tt⟩]) [3] (λk=>[.pt R.o 4 (opC (a0p a0l k Z))]) (λk=>Z.length-k) (0) (Nat.zero_le _) λk hI=>?_;refine J.qd (λ_ h1=>?_) λ_ h1=>?_
 ·simp only[decide_eq_true_eq,Int.ofNat_lt]at h1;obtain⟨z,hz⟩:∃z,Z[k]? =some z:=⟨_,List.getElem?_eq_getElem (by omega)⟩;have hput:(opC (a0p a0l k Z)).set (0+(k:Int).toNat*1) (.bool true)=opC (a0p a0l (k+1) Z):=by
   rw[show 0+(k:Int).toNat*1=k from by omega];have h2:=a2A (f:=a0l) (V:=Z) (Y:=a0p a0l k Z) rfl h1 (b4f a0l hz);have h3:a0p a0l (k+1) Z=(a0p a0l k Z).set k (a0l z):=h2.symm;rw[h3];unfold opC;rw[List.map_set];rfl
  refine J.qn 10 λ_=>?_;refine J.s1 3 (opC (a0p a0l (k+1) Z)) ?_ hput ?_
  ·unfold opC;rw[List.length_map,a6s];omega
  refine J.q λ_=>?_;refine J.n (k+1) (by omega) (by omega) [0,1,2,3,4,5,6,7]
 simp only[decide_eq_false_iff_not,Int.ofNat_lt]at h1;obtain rfl:k=Z.length:=by omega
 refine J.q λ_=>?_;refine J.f [1,2,3,4,5,6,7] ?_;refine⟨a0p a0l Z.length Z,rfl,?_,?_⟩
 ·unfold U0 I3 D1 A6;rw[a6s,a9R a0l _ (λ_=>rfl),R6 a0l (λz=>slv z.a1 z.v.may.length z.c1) (λ_=>rfl),R6 a0l (λz=>slv z.a2 z.v.ever.length z.c2) (λ_=>rfl),R6 a0l MSl.m1 (λ_=>rfl),R6 a0l MSl.m2 (λ_=>rfl)];rfl
 ·unfold a0p Mv.cut;rw[List.take_of_length_le (by simp),List.drop_eq_nil_of_le (by simp),List.append_nil,List.map_map,List.map_map];rfl
theorem a2p (Z:List MSl) (k:Nat) (y:MSl):(opC Z).set k (.bool y.v.op)=opC (Z.set k y):=by unfold opC;rw[List.map_set]
theorem E6 (Z:List MSl) (k:Nat) (y:MSl):(D1 Z).set k (slv y.a1 y.v.may.length y.c1)=D1 (Z.set k y):=by unfold D1;rw[List.map_set]
theorem L9 (Z:List MSl) (k:Nat) (y:MSl):(A6 Z).set k (slv y.a2 y.v.ever.length y.c2)=A6 (Z.set k y):=by unfold A6;rw[List.map_set]
theorem a2q (Z:List MSl):(opC Z).length=Z.length:=List.length_map _
theorem E7 (Z:List MSl):(D1 Z).length=Z.length:=List.length_map _
theorem M2 (Z:List MSl):(A6 Z).length=Z.length:=List.length_map _
theorem a6S {Z:List MSl} {k:Nat} {z:MSl} (hz:Z[k]? =some z) (y:MSl):(I3 Z).take (k*16)++i9 y.v.now++(I3 Z).drop (k*16+(i9 y.v.now).length)=I3 (Z.set k y):=a1x (λz:MSl=>i9 z.v.now) 16 (λ_=>rfl) (i9 y.v.now) hz (Nat.le_refl _) (y:=y) rfl
theorem a5e (R:RAd) (Z:List MSl) (hn:Z.length<=65536) (hf:∀z∈Z,z.Fine) (i:Int) (d:List UInt8) (hd:d.length=16):FP 59 [pp R.q,iI i,Z4 d] (U0 R Z) (λv As=>∃Z',v= .bool (Mv.inR (Z.map (·.v)) i)/\As=U0 R Z'/\Z'.map (·.v)=Mv.write (Z.map (·.v)) i d):=by
 refine FE [2,0,0] Tryz.func59 λX F hX=>?_;refine J.q λ_=>?_
 by_cases hi:0<=i/\i<(Z.length:Int)
 ·obtain⟨k,rfl⟩:=Int.eq_ofNat_of_zero_le hi.1;obtain⟨z,hz⟩:∃z,Z[k]? =some z:=⟨_,List.getElem?_eq_getElem (by omega)⟩;obtain⟨f1,f2,f3,f4,f5⟩:=hf z (List.mem_of_getElem? hz);have hin:Mv.inR (Z.map (·.v)) (k:Int)=true:=by unfold Mv.inR;rw[List.length_map,decide_eq_true hi.1,decide_eq_true hi.2];rfl
  have hpg:Mv.pg (Z.map (·.v)) (k:Int)=z.v:=by unfold Mv.pg;rw[Int.toNat_natCast,List.getD_eq_getElem?_getD,List.getElem?_map,hz];rfl
  rw[decide_eq_false (show¬(k:Int)<0 by omega),decide_eq_false (show¬(k:Int)>=Z.length by omega)];refine J.qF λ_=>?_;refine J.openAt 6 k rfl rfl (by rw[List.getElem?_map,hz];rfl) rfl ?_;refine J.openAt 7 k rfl rfl (by rw[List.getElem?_map,hz];rfl) rfl ?_;refine J.pn 12 (.of [0,4,8,13,16,20,24,28,33,36,41,44,50,52,59]) [13,14] [1,8] λ_ _=>?_;have hst:=a6S hz ⟨⟨d,z.v.op,z.v.may,z.v.ever⟩,z.a1,z.c1,z.a2,z.c2⟩;refine J.sN (i9 d) 2 (I3 (Z.set k ⟨⟨d,z.v.op,z.v.may,z.v.ever⟩,z.a1,z.c1,z.a2,z.c2⟩)) ?_ ?_ ?_
  ·rw[a3h];show 0+(k:Int).toNat*16+16<=_;omega
  ·rw[show 0+(k:Int).toNat*16=k*16 from by omega];exact hst
  refine J.qn 1 λ_=>?_;refine J.s1 3 (opC (Z.set k ⟨⟨d,false,z.v.may,z.v.ever⟩,z.a1,z.c1,z.a2,z.c2⟩)) ?_ ?_ ?_
  ·rw[a2q];omega
  ·rw[show 0+(k:Int).toNat*1=k from by omega,<- a2p]
  refine J.q λ_=>?_;refine J.plan2 (.take true 0 (.take true 1 (.take true 2 (.take false 3 (.take true 4 (.take true 5 (.take true 6 (.take true 7 (.take false 8 (.take true 9 (.take true 10 (.take true 11 (.take true 12 (.take false 13 (.take true 14 (.take true 15 (.take false 16 (.take false 17 (.take true 20 (.take true 21 (.take true 22 (.take false 23 (.take true 24 (.take true 25 (.take false 26 (.take false 27 (.alt false 18 ((.alt false 19 ((.of [114,118,120,127,128,135])) (.alt false 28 ((.of [78,118,120,127,128,135])) .non))) (.alt false 28 ((.of [74,78,118,120,127,128,135])) .non)))))))))))))))))))))))))))) [9,30,31,32,33] [9] [1,2,3,4,5,6,7,8] (by rw[hX.hP];kernel_rfl) (by kernel_rfl) ?_;refine J.qn 16 λ_=>?_;refine J.vT (slv z.a1 z.v.may.length z.c1) rfl rfl (λhg aa w he hC=>f8 tk rfl rfl he rfl rfl rfl (hC rfl _ (d7 (i:=4) rfl)) (by rw[show 0+(k:Int).toNat*1=k from by omega];exact a9i hz)) ?_;refine J.qn 7 λ_=>?_;refine J.vT (slv z.a2 z.v.ever.length z.c2) rfl rfl (λhg aa w he hC=>f8 tk rfl rfl he rfl rfl rfl (hC rfl _ (d7 (i:=5) rfl)) (by rw[show 0+(k:Int).toNat*1=k from by omega];exact b3y hz)) ?_;refine J.qn 1 λ_=>?_;refine J.join (α:=(Option Nat×Nat)×(Option Nat×Nat)) (λ_=>[sv 6 (.bool false)]) (λx=>[.hp F, .pt R.q 94 [.slice (some ⟨R.n,0,none⟩) Z.length Z.length, .slice (some ⟨R.o,0,none⟩) Z.length Z.length, .slice (some ⟨R.m,0,none⟩) Z.length Z.length, .slice (some ⟨R.e,0,none⟩) Z.length Z.length], .pt R.n 30 (I3 (Z.set k ⟨⟨d,z.v.op,z.v.may,z.v.ever⟩,z.a1,z.c1,z.a2,z.c2⟩)), .pt R.o 4 (opC (Z.set k ⟨⟨d,false,z.v.may,z.v.ever⟩,z.a1,z.c1,z.a2,z.c2⟩)), .pt R.m 86 (D1 (Z.set k ⟨⟨d,false,z.v.may++[d],z.v.ever⟩,x.1.1,x.1.2,z.a2,z.c2⟩)), .pt R.e 86 (A6 (Z.set k ⟨⟨d,false,z.v.may++[d],z.v.ever++[d]⟩,x.1.1,x.1.2,x.2.1,x.2.2⟩)), .hp (HP.of ((Z.map MSl.m1).set k .emp)), .hp (HP.of ((Z.map MSl.m2).set k .emp)),c8 30 16 x.1.1 (z.v.may.length+1) x.1.2 (i7 (z.v.may++[d])),c8 30 16 x.2.1 (z.v.ever.length+1) x.2.2 (i7 (z.v.ever++[d]))]) (λhj=>?_) (λx=>?_)
  ·refine J.alts ?_ ?_
   ·skip
    refine J.qn 1 λbb=>?_;refine J.alts ?_ ?_
    ·skip
     refine J.ap 9 11 0 (t6 z.v.may d) λa3 c3=>?_;refine J.qn 1 λbc=>?_;refine J.ap 10 12 0 (t6 z.v.ever d) λa4 c4=>?_;refine J.qn 1 λ_=>?_;refine J.s1 4 (D1 (Z.set k ⟨⟨d,false,z.v.may++[d],z.v.ever⟩,a3,c3,z.a2,z.c2⟩)) ?_ ?_ ?_
     ·rw[E7];omega
     ·rw[show 0+(k:Int).toNat*1=k from by omega,<- E6];dsimp only;rw[List.length_append];rfl
     refine J.qn 1 λ_=>?_;refine J.s1 5 (A6 (Z.set k ⟨⟨d,false,z.v.may++[d],z.v.ever++[d]⟩,a3,c3,a4,c4⟩)) ?_ ?_ ?_
     ·rw[M2];omega
     ·rw[show 0+(k:Int).toNat*1=k from by omega,<- L9];dsimp only;rw[List.length_append];rfl
     exact J.goto [0,1,2,3,4,5,6,7,9,10] (hj ((a3,c3),(a4,c4))) ⟨rfl,trivial⟩ rfl rfl
    ·skip
     refine J.qn 1 λbc=>?_;refine J.ap 9 11 0 (t6 z.v.may d) λa3 c3=>?_;refine J.ap 10 12 0 (t6 z.v.ever d) λa4 c4=>?_;refine J.qn 1 λ_=>?_;refine J.s1 4 (D1 (Z.set k ⟨⟨d,false,z.v.may++[d],z.v.ever⟩,a3,c3,z.a2,z.c2⟩)) ?_ ?_ ?_
     ·rw[E7];omega
     ·rw[show 0+(k:Int).toNat*1=k from by omega,<- E6];dsimp only;rw[List.length_append];rfl
     refine J.qn 1 λ_=>?_;refine J.s1 5 (A6 (Z.set k ⟨⟨d,false,z.v.may++[d],z.v.ever++[d]⟩,a3,c3,a4,c4⟩)) ?_ ?_ ?_
     ·rw[M2];omega
     ·rw[show 0+(k:Int).toNat*1=k from by omega,<- L9];dsimp only;rw[List.length_append];rfl
     exact J.goto [0,1,2,3,4,5,6,7,9,10] (hj ((a3,c3),(a4,c4))) ⟨rfl,trivial⟩ rfl rfl
   ·skip
    refine J.qn 2 λbb=>?_;refine J.ap 9 12 0 (t6 z.v.may d) λa3 c3=>?_;refine J.ap 10 11 0 (t6 z.v.ever d) λa4 c4=>?_;refine J.qn 1 λ_=>?_;refine J.s1 4 (D1 (Z.set k ⟨⟨d,false,z.v.may++[d],z.v.ever⟩,a3,c3,z.a2,z.c2⟩)) ?_ ?_ ?_
    ·rw[E7];omega
    ·rw[show 0+(k:Int).toNat*1=k from by omega,<- E6];dsimp only;rw[List.length_append];rfl
    refine J.qn 1 λ_=>?_;refine J.s1 5 (A6 (Z.set k ⟨⟨d,false,z.v.may++[d],z.v.ever++[d]⟩,a3,c3,a4,c4⟩)) ?_ ?_ ?_
    ·rw[M2];omega
    ·rw[show 0+(k:Int).toNat*1=k from by omega,<- L9];dsimp only;rw[List.length_append];rfl
    exact J.goto [0,1,2,3,4,5,6,7,9,10] (hj ((a3,c3),(a4,c4))) ⟨rfl,trivial⟩ rfl rfl
  obtain⟨⟨a3,c3⟩,a4,c4⟩:=x;dsimp only;obtain⟨y,hy⟩:∃y:MSl,y=⟨⟨d,false,z.v.may++[d],z.v.ever++[d]⟩,a3,c3,a4,c4⟩:=⟨_,rfl⟩;rw[show I3 (Z.set k ⟨⟨d,z.v.op,z.v.may,z.v.ever⟩,z.a1,z.c1,z.a2,z.c2⟩)=I3 (Z.set k y)from by rw[hy];unfold I3;rw[List.flatMap_def,List.flatMap_def,List.map_set,List.map_set],show opC (Z.set k ⟨⟨d,false,z.v.may,z.v.ever⟩,z.a1,z.c1,z.a2,z.c2⟩)=opC (Z.set k y)from by rw[hy];unfold opC;rw[List.map_set,List.map_set],show D1 (Z.set k ⟨⟨d,false,z.v.may++[d],z.v.ever⟩,a3,c3,z.a2,z.c2⟩)=D1 (Z.set k y)from by rw[hy];unfold D1;rw[List.map_set,List.map_set],<- hy,show c8 30 16 a3 (z.v.may.length+1) c3 (i7 (z.v.may++[d]))=y.m1 from by rw[hy];unfold MSl.m1;rw[List.length_append];rfl,show c8 30 16 a4 (z.v.ever.length+1) c4 (i7 (z.v.ever++[d]))=y.m2 from by rw[hy];unfold MSl.m2;rw[List.length_append];rfl];refine J.closeAt (A:=y.m1) 6 8 k rfl rfl rfl ?_;refine J.closeAt (A:=y.m2) 7 9 k rfl rfl rfl ?_;rw[<- List.map_set,<- List.map_set];refine J.qr [1,2,3,4,5,6,7] λ_=>?_;refine⟨Z.set k y,?_,?_,?_⟩
  ·rw[hin]
  ·unfold U0;rw[List.length_set];rfl
  ·unfold Mv.write;rw[hin,if_pos rfl,hpg,List.map_set,Int.toNat_natCast,hy];rfl
 ·have hin:Mv.inR (Z.map (·.v)) i=false:=by
   unfold Mv.inR;rw[List.length_map];simp;omega
  refine J.qd (λ_ h1=>?_) λ_ h1=>?_
  ·refine J.qr [1,2,3,4,5,6,7] λ_=>?_;exact⟨Z,by rw[hin],rfl,by unfold Mv.write;rw[hin];rfl⟩
  ·exfalso
   simp at h1;omega
theorem a6D {α:Type} (m:Nat) (x:α):(List.replicate m [x]).flatten=List.replicate m x:=by
 induction m with
 | zero=>rfl
 | succ m ih=>rw[List.replicate_succ,List.flatten_cons,ih];rfl
theorem a5W (g:Int) (m:Nat) (hm:min (max g 0) 65536=(m:Int)):FP 55 [iI g] [] (λv As=>∃R Z,v=pp R.q/\As=U0 R Z/\Z.map (·.v)=Mv.new g):=by
 have hm1:m<=65536:=by omega
 refine FE [0] Tryz.func55 λX F hX=>?_;refine J.q λ_=>?_;have hmm:(if(if(65536:Int)<g then 65536 else g)>0 then(if(65536:Int)<g then 65536 else g)else 0)=(m:Int):=by split<;>(split<;>omega)
 rw[hmm];refine J.join (α:=Nat×Nat×Nat×Nat×Nat) (λx=>[⟨4,pp x.2.2.2.2,6, .tt⟩,si 3 m]) (λx=>[.hp F, .pt x.1 30 (List.replicate m [Value.int .u8 0,Value.int .u8 0,Value.int .u8 0,Value.int .u8 0,Value.int .u8 0,Value.int .u8 0,Value.int .u8 0,Value.int .u8 0,Value.int .u8 0,Value.int .u8 0,Value.int .u8 0,Value.int .u8 0,Value.int .u8 0,Value.int .u8 0,Value.int .u8 0,Value.int .u8 0]).flatten, .pt x.2.1 4 (List.replicate m [Value.bool false]).flatten, .pt x.2.2.1 86 (List.replicate m [Value.slice none 0 0]).flatten, .pt x.2.2.2.1 86 (List.replicate m [Value.slice none 0 0]).flatten, .pt x.2.2.2.2 94 [.slice (some ⟨x.1,0,none⟩) m m, .slice (some ⟨x.2.1,0,none⟩) m m, .slice (some ⟨x.2.2.1,0,none⟩) m m, .slice (some ⟨x.2.2.2.1,0,none⟩) m m]]) (λhj=>?_) (λx=>?_)
 ·refine J.plan (.take true 0 (.take true 2 (.take true 4 (.take true 6 (.alt false 1 ((.alt false 3 ((.alt false 5 ((.of [30,32,39,40])) (.alt false 7 ((.of [22,32,39,40])) .non))) (.alt false 5 ((.alt false 3 ((.of [30,32,39,40])) (.alt false 7 ((.of [14,32,39,40])) .non))) (.alt false 7 ((.alt false 3 ((.of [22,32,39,40])) (.alt false 5 ((.of [14,32,39,40])) .non))) .non)))) (.alt false 3 ((.alt false 1 ((.alt false 5 ((.of [30,32,39,40])) (.alt false 7 ((.of [22,32,39,40])) .non))) (.alt false 5 ((.alt false 1 ((.of [30,32,39,40])) (.alt false 7 ((.of [6,32,39,40])) .non))) (.alt false 7 ((.alt false 1 ((.of [22,32,39,40])) (.alt false 5 ((.of [6,32,39,40])) .non))) .non)))) (.alt false 5 ((.alt false 1 ((.alt false 3 ((.of [30,32,39,40])) (.alt false 7 ((.of [14,32,39,40])) .non))) (.alt false 3 ((.alt false 1 ((.of [30,32,39,40])) (.alt false 7 ((.of [6,32,39,40])) .non))) (.alt false 7 ((.alt false 1 ((.of [14,32,39,40])) (.alt false 3 ((.of [6,32,39,40])) .non))) .non)))) (.alt false 7 ((.alt false 1 ((.alt false 3 ((.of [22,32,39,40])) (.alt false 5 ((.of [14,32,39,40])) .non))) (.alt false 3 ((.alt false 1 ((.of [22,32,39,40])) (.alt false 5 ((.of [6,32,39,40])) .non))) (.alt false 5 ((.alt false 1 ((.of [14,32,39,40])) (.alt false 3 ((.of [6,32,39,40])) .non))) .non)))) .non)))))))) [8,9,10] [] (by rw[hX.hP];kernel_rfl) (by kernel_rfl) ?_;refine J.q λ_=>?_;refine J.alts ?_ ?_
  ·skip
   refine J.mk 2 λgn=>?_;refine J.qn 1 λ_=>?_;refine J.alts ?_ ?_
   ·skip
    refine J.mk 3 λgo=>?_;refine J.qn 1 λ_=>?_;refine J.alts ?_ ?_
    ·skip
     refine J.mk 4 λgm=>?_;refine J.qn 1 λ_=>?_;refine J.mk 5 λge=>?_;refine J.qn 4 λbq=>?_;exact J.goto [0,1,2,3,4,5] (hj (gn,go,gm,ge,bq 0)) ⟨rfl,rfl,trivial⟩ rfl rfl
    ·skip
     refine J.mk 4 λge=>?_;refine J.qn 1 λ_=>?_;refine J.mk 5 λgm=>?_;refine J.qn 4 λbq=>?_;exact J.goto [0,1,2,4,3,5] (hj (gn,go,gm,ge,bq 0)) ⟨rfl,rfl,trivial⟩ rfl rfl
   ·skip
    refine J.alts ?_ ?_
    ·skip
     refine J.mk 3 λgm=>?_;refine J.qn 1 λ_=>?_;refine J.alts ?_ ?_
     ·skip
      refine J.mk 4 λgo=>?_;refine J.qn 1 λ_=>?_;refine J.mk 5 λge=>?_;refine J.qn 4 λbq=>?_;exact J.goto [0,1,3,2,4,5] (hj (gn,go,gm,ge,bq 0)) ⟨rfl,rfl,trivial⟩ rfl rfl
     ·skip
      refine J.mk 4 λge=>?_;refine J.qn 1 λ_=>?_;refine J.mk 5 λgo=>?_;refine J.qn 4 λbq=>?_;exact J.goto [0,1,4,2,3,5] (hj (gn,go,gm,ge,bq 0)) ⟨rfl,rfl,trivial⟩ rfl rfl
    ·skip
     refine J.mk 3 λge=>?_;refine J.qn 1 λ_=>?_;refine J.alts ?_ ?_
     ·skip
      refine J.mk 4 λgo=>?_;refine J.qn 1 λ_=>?_;refine J.mk 5 λgm=>?_;refine J.qn 4 λbq=>?_;exact J.goto [0,1,3,4,2,5] (hj (gn,go,gm,ge,bq 0)) ⟨rfl,rfl,trivial⟩ rfl rfl
     ·skip
      refine J.mk 4 λgm=>?_;refine J.qn 1 λ_=>?_;refine J.mk 5 λgo=>?_;refine J.qn 4 λbq=>?_;exact J.goto [0,1,4,3,2,5] (hj (gn,go,gm,ge,bq 0)) ⟨rfl,rfl,trivial⟩ rfl rfl
  ·skip
   refine J.alts ?_ ?_
   ·skip
    refine J.mk 2 λgo=>?_;refine J.qn 1 λ_=>?_;refine J.alts ?_ ?_
    ·skip
     refine J.mk 3 λgn=>?_;refine J.qn 1 λ_=>?_;refine J.alts ?_ ?_
     ·skip
      refine J.mk 4 λgm=>?_;refine J.qn 1 λ_=>?_;refine J.mk 5 λge=>?_;refine J.qn 4 λbq=>?_;exact J.goto [0,2,1,3,4,5] (hj (gn,go,gm,ge,bq 0)) ⟨rfl,rfl,trivial⟩ rfl rfl
     ·skip
      refine J.mk 4 λge=>?_;refine J.qn 1 λ_=>?_;refine J.mk 5 λgm=>?_;refine J.qn 4 λbq=>?_;exact J.goto [0,2,1,4,3,5] (hj (gn,go,gm,ge,bq 0)) ⟨rfl,rfl,trivial⟩ rfl rfl
    ·skip
     refine J.alts ?_ ?_
     ·skip
      refine J.mk 3 λgm=>?_;refine J.qn 1 λ_=>?_;refine J.alts ?_ ?_
      ·skip
       refine J.mk 4 λgn=>?_;refine J.qn 1 λ_=>?_;refine J.mk 5 λge=>?_;refine J.qn 4 λbq=>?_;exact J.goto [0,3,1,2,4,5] (hj (gn,go,gm,ge,bq 0)) ⟨rfl,rfl,trivial⟩ rfl rfl
      ·skip
       refine J.mk 4 λge=>?_;refine J.qn 1 λ_=>?_;refine J.mk 5 λgn=>?_;refine J.qn 4 λbq=>?_;exact J.goto [0,4,1,2,3,5] (hj (gn,go,gm,ge,bq 0)) ⟨rfl,rfl,trivial⟩ rfl rfl
     ·skip
      refine J.mk 3 λge=>?_;refine J.qn 1 λ_=>?_;refine J.alts ?_ ?_
      ·skip
       refine J.mk 4 λgn=>?_;refine J.qn 1 λ_=>?_;refine J.mk 5 λgm=>?_;refine J.qn 4 λbq=>?_;exact J.goto [0,3,1,4,2,5] (hj (gn,go,gm,ge,bq 0)) ⟨rfl,rfl,trivial⟩ rfl rfl
      ·skip
       refine J.mk 4 λgm=>?_;refine J.qn 1 λ_=>?_;refine J.mk 5 λgn=>?_;refine J.qn 4 λbq=>?_;exact J.goto [0,4,1,3,2,5] (hj (gn,go,gm,ge,bq 0)) ⟨rfl,rfl,trivial⟩ rfl rfl
   ·skip
    refine J.alts ?_ ?_
    ·skip
     refine J.mk 2 λgm=>?_;refine J.qn 1 λ_=>?_;refine J.alts ?_ ?_
     ·skip
      refine J.mk 3 λgn=>?_;refine J.qn 1 λ_=>?_;refine J.alts ?_ ?_
      ·skip
       refine J.mk 4 λgo=>?_;refine J.qn 1 λ_=>?_;refine J.mk 5 λge=>?_;refine J.qn 4 λbq=>?_;exact J.goto [0,2,3,1,4,5] (hj (gn,go,gm,ge,bq 0)) ⟨rfl,rfl,trivial⟩ rfl rfl
      ·skip
       refine J.mk 4 λge=>?_;refine J.qn 1 λ_=>?_;refine J.mk 5 λgo=>?_;refine J.qn 4 λbq=>?_;exact J.goto [0,2,4,1,3,5] (hj (gn,go,gm,ge,bq 0)) ⟨rfl,rfl,trivial⟩ rfl rfl
     ·skip
      refine J.alts ?_ ?_
      ·skip
       refine J.mk 3 λgo=>?_;refine J.qn 1 λ_=>?_;refine J.alts ?_ ?_
       ·skip
        refine J.mk 4 λgn=>?_;refine J.qn 1 λ_=>?_;refine J.mk 5 λge=>?_;refine J.qn 4 λbq=>?_;exact J.goto [0,3,2,1,4,5] (hj (gn,go,gm,ge,bq 0)) ⟨rfl,rfl,trivial⟩ rfl rfl
       ·skip
        refine J.mk 4 λge=>?_;refine J.qn 1 λ_=>?_;refine J.mk 5 λgn=>?_;refine J.qn 4 λbq=>?_;exact J.goto [0,4,2,1,3,5] (hj (gn,go,gm,ge,bq 0)) ⟨rfl,rfl,trivial⟩ rfl rfl
      ·skip
       refine J.mk 3 λge=>?_;refine J.qn 1 λ_=>?_;refine J.alts ?_ ?_
       ·skip
        refine J.mk 4 λgn=>?_;refine J.qn 1 λ_=>?_;refine J.mk 5 λgo=>?_;refine J.qn 4 λbq=>?_;exact J.goto [0,3,4,1,2,5] (hj (gn,go,gm,ge,bq 0)) ⟨rfl,rfl,trivial⟩ rfl rfl
       ·skip
        refine J.mk 4 λgo=>?_;refine J.qn 1 λ_=>?_;refine J.mk 5 λgn=>?_;refine J.qn 4 λbq=>?_;exact J.goto [0,4,3,1,2,5] (hj (gn,go,gm,ge,bq 0)) ⟨rfl,rfl,trivial⟩ rfl rfl
    ·skip
     refine J.mk 2 λge=>?_;refine J.qn 1 λ_=>?_;refine J.alts ?_ ?_
     ·skip
      refine J.mk 3 λgn=>?_;refine J.qn 1 λ_=>?_;refine J.alts ?_ ?_
      ·skip
       refine J.mk 4 λgo=>?_;refine J.qn 1 λ_=>?_;refine J.mk 5 λgm=>?_;refine J.qn 4 λbq=>?_;exact J.goto [0,2,3,4,1,5] (hj (gn,go,gm,ge,bq 0)) ⟨rfl,rfl,trivial⟩ rfl rfl
      ·skip
       refine J.mk 4 λgm=>?_;refine J.qn 1 λ_=>?_;refine J.mk 5 λgo=>?_;refine J.qn 4 λbq=>?_;exact J.goto [0,2,4,3,1,5] (hj (gn,go,gm,ge,bq 0)) ⟨rfl,rfl,trivial⟩ rfl rfl
     ·skip
      refine J.alts ?_ ?_
      ·skip
       refine J.mk 3 λgo=>?_;refine J.qn 1 λ_=>?_;refine J.alts ?_ ?_
       ·skip
        refine J.mk 4 λgn=>?_;refine J.qn 1 λ_=>?_;refine J.mk 5 λgm=>?_;refine J.qn 4 λbq=>?_;exact J.goto [0,3,2,4,1,5] (hj (gn,go,gm,ge,bq 0)) ⟨rfl,rfl,trivial⟩ rfl rfl
       ·skip
        refine J.mk 4 λgm=>?_;refine J.qn 1 λ_=>?_;refine J.mk 5 λgn=>?_;refine J.qn 4 λbq=>?_;exact J.goto [0,4,2,3,1,5] (hj (gn,go,gm,ge,bq 0)) ⟨rfl,rfl,trivial⟩ rfl rfl
      ·skip
       refine J.mk 3 λgm=>?_;refine J.qn 1 λ_=>?_;refine J.alts ?_ ?_
       ·skip
        refine J.mk 4 λgn=>?_;refine J.qn 1 λ_=>?_;refine J.mk 5 λgo=>?_;refine J.qn 4 λbq=>?_;exact J.goto [0,3,4,2,1,5] (hj (gn,go,gm,ge,bq 0)) ⟨rfl,rfl,trivial⟩ rfl rfl
       ·skip
        refine J.mk 4 λgo=>?_;refine J.qn 1 λ_=>?_;refine J.mk 5 λgn=>?_;refine J.qn 4 λbq=>?_;exact J.goto [0,4,3,2,1,5] (hj (gn,go,gm,ge,bq 0)) ⟨rfl,rfl,trivial⟩ rfl rfl
 obtain⟨gn,go,gm,ge,bq⟩:=x;dsimp only;rw[show(List.replicate m [Value.int .u8 0,Value.int .u8 0,Value.int .u8 0,Value.int .u8 0,Value.int .u8 0,Value.int .u8 0,Value.int .u8 0,Value.int .u8 0,Value.int .u8 0,Value.int .u8 0,Value.int .u8 0,Value.int .u8 0,Value.int .u8 0,Value.int .u8 0,Value.int .u8 0,Value.int .u8 0]).flatten=I3 (List.replicate m MSl.none0)from by unfold I3;rw[List.flatMap_def,List.map_replicate];rfl,show(List.replicate m [Value.bool false]).flatten=opC (List.replicate m MSl.none0)from by unfold opC;rw[List.map_replicate,a6D];rfl];rw[show(List.replicate m [Value.slice none 0 0]).flatten=D1 (List.replicate m MSl.none0)from by unfold D1;rw[List.map_replicate,a6D];rfl];refine J.turn1 [] rfl (As:=[.hp (HP.of ((List.replicate m MSl.none0).map MSl.m1)), .hp (HP.of ((List.replicate m MSl.none0).map MSl.m2))]) (λh s=>MSl.hps m h) rfl ?_;refine J.q λ_=>?_;refine J.lo (α:=(Nat×List MSl)) (λz=>z.1<=m/\z.2.length=m/\z.2.map (·.v)=List.replicate z.1 Mv.page0++List.replicate (m-z.1) MSl.none0.v) (λz=>[si 5 z.1,⟨4,pp bq,6, .tt⟩,si 3 m]) [1,2,3,4,6,7] (λz=>[.pt gn 30 (I3 z.2), .pt go 4 (opC z.2), .pt gm 86 (D1 z.2), .pt ge 86 (A6 z.2), .hp (HP.of (z.2.map MSl.m1)), .hp (HP.of (z.2.map MSl.m2))]) (λz=>m-z.1) ((0,List.replicate m MSl.none0)) (⟨Nat.zero_le _,List.length_replicate,by simp⟩) rfl ?_ (λ_=>rfl) λz hI=>?_
 ·dsimp only;rw[show A6 (List.replicate m MSl.none0)=D1 (List.replicate m MSl.none0)from by unfold A6 D1;rw[List.map_replicate,List.map_replicate];rfl];rfl
 obtain⟨k,Z⟩:=z;dsimp only at hI ⊢;obtain⟨hk,hZl,hZ⟩:=hI;refine J.qd (λ_ h1=>?_) λ_ h1=>?_
 ·simp only[decide_eq_true_eq,Int.ofNat_lt]at h1;obtain⟨z,hz⟩:∃z,Z[k]? =some z:=⟨_,List.getElem?_eq_getElem (by omega)⟩;refine J.openAt 6 k rfl rfl (by rw[List.getElem?_map,hz];rfl) rfl ?_;refine J.openAt 7 k rfl rfl (by rw[List.getElem?_map,hz];rfl) rfl ?_;refine J.pn 12 (.take true 0 (.take true 1 (.take true 2 (.take false 3 (.take true 4 (.take true 5 (.take true 6 (.take true 7 (.take false 8 (.take true 9 (.take true 10 (.take true 12 (.alt false 11 ((.take true 14 (.alt false 13 ((.of [62,64,71])) (.alt false 15 ((.of [54,64,71])) .non)))) (.alt false 13 ((.of [46,56,62,64,71])) .non)))))))))))))) [16,17] [5] λ_ _=>?_;refine J.join (α:=Nat×Nat) (λ_=>[si 5 k,⟨4,pp bq,6, .tt⟩,si 3 m]) (λx=>[.hp F, .pt gn 30 (I3 Z), .pt go 4 (opC Z), .pt gm 86 (D1 (Z.set k ⟨⟨z.v.now,z.v.op,[Mv.z16],z.v.ever⟩,some x.1,1,z.a2,z.c2⟩)), .pt ge 86 (A6 (Z.set k ⟨⟨z.v.now,z.v.op,[Mv.z16],[Mv.z16]⟩,some x.1,1,some x.2,1⟩)), .pt bq 94 [.slice (some ⟨gn,0,none⟩) m m, .slice (some ⟨go,0,none⟩) m m, .slice (some ⟨gm,0,none⟩) m m, .slice (some ⟨ge,0,none⟩) m m], .hp (HP.of ((Z.map MSl.m1).set k .emp)), .hp (HP.of ((Z.map MSl.m2).set k .emp)),c8 30 16 (some x.1) 1 1 (i7 [Mv.z16]),c8 30 16 (some x.2) 1 1 (i7 [Mv.z16])]) (λhj=>?_) (λx=>?_)
  ·refine J.alts ?_ ?_
   ·skip
    refine J.qn 1 λba=>?_;refine J.cO 30 16 1 1 (i7 [Mv.z16]) 10 ?_;refine J.qn 1 λ_=>?_;refine J.alts ?_ ?_
    ·skip
     refine J.qn 1 λbb=>?_;refine J.cO 30 16 1 1 (i7 [Mv.z16]) 11 ?_;refine J.s1 3 (D1 (Z.set k ⟨⟨z.v.now,z.v.op,[Mv.z16],z.v.ever⟩,some (ba 0),1,z.a2,z.c2⟩)) ?_ ?_ ?_
     ·rw[E7];omega
     ·rw[show 0+(k:Int).toNat*1=k from by omega,<- E6];rfl
     refine J.qn 1 λ_=>?_;refine J.s1 4 (A6 (Z.set k ⟨⟨z.v.now,z.v.op,[Mv.z16],[Mv.z16]⟩,some (ba 0),1,some (bb 0),1⟩)) ?_ ?_ ?_
     ·rw[M2];omega
     ·rw[show 0+(k:Int).toNat*1=k from by omega,<- L9];rfl
     exact J.goto [0,1,2,3,4,5,6,7,10,11] (hj ((ba 0),(bb 0))) ⟨rfl,rfl,rfl,trivial⟩ rfl rfl
    ·skip
     refine J.s1 3 (D1 (Z.set k ⟨⟨z.v.now,z.v.op,[Mv.z16],z.v.ever⟩,some (ba 0),1,z.a2,z.c2⟩)) ?_ ?_ ?_
     ·rw[E7];omega
     ·rw[show 0+(k:Int).toNat*1=k from by omega,<- E6];rfl
     refine J.qn 1 λbb=>?_;refine J.cO 30 16 1 1 (i7 [Mv.z16]) 11 ?_;refine J.qn 1 λ_=>?_;refine J.s1 4 (A6 (Z.set k ⟨⟨z.v.now,z.v.op,[Mv.z16],[Mv.z16]⟩,some (ba 0),1,some (bb 0),1⟩)) ?_ ?_ ?_
     ·rw[M2];omega
     ·rw[show 0+(k:Int).toNat*1=k from by omega,<- L9];rfl
     exact J.goto [0,1,2,3,4,5,6,7,10,11] (hj ((ba 0),(bb 0))) ⟨rfl,rfl,rfl,trivial⟩ rfl rfl
   ·skip
    refine J.qn 1 λbb=>?_;refine J.cO 30 16 1 1 (i7 [Mv.z16]) 10 ?_;refine J.qn 1 λba=>?_;refine J.cO 30 16 1 1 (i7 [Mv.z16]) 11 ?_;refine J.qn 1 λ_=>?_;refine J.s1 3 (D1 (Z.set k ⟨⟨z.v.now,z.v.op,[Mv.z16],z.v.ever⟩,some (ba 0),1,z.a2,z.c2⟩)) ?_ ?_ ?_
    ·rw[E7];omega
    ·rw[show 0+(k:Int).toNat*1=k from by omega,<- E6];rfl
    refine J.qn 1 λ_=>?_;refine J.s1 4 (A6 (Z.set k ⟨⟨z.v.now,z.v.op,[Mv.z16],[Mv.z16]⟩,some (ba 0),1,some (bb 0),1⟩)) ?_ ?_ ?_
    ·rw[M2];omega
    ·rw[show 0+(k:Int).toNat*1=k from by omega,<- L9];rfl
    exact J.goto [0,1,2,3,4,5,6,7,11,10] (hj ((ba 0),(bb 0))) ⟨rfl,rfl,rfl,trivial⟩ rfl rfl
  obtain⟨ga,gb⟩:=x;dsimp only;obtain⟨y,hy⟩:∃y:MSl,y=⟨⟨z.v.now,z.v.op,[Mv.z16],[Mv.z16]⟩,some ga,1,some gb,1⟩:=⟨_,rfl⟩;rw[<- hy,show D1 (Z.set k ⟨⟨z.v.now,z.v.op,[Mv.z16],z.v.ever⟩,some ga,1,z.a2,z.c2⟩)=D1 (Z.set k y)from by rw[hy];unfold D1;rw[List.map_set,List.map_set],show I3 Z=I3 (Z.set k y)from(a5c (λz=>i9 z.v.now) hz (by rw[hy])).symm,show opC Z=opC (Z.set k y)from(Y3 (λz=>Value.bool z.v.op) hz (by rw[hy])).symm,show c8 30 16 (some ga) 1 1 (i7 [Mv.z16])=y.m1 from by rw[hy];rfl,show c8 30 16 (some gb) 1 1 (i7 [Mv.z16])=y.m2 from by rw[hy];rfl];refine J.closeAt (A:=y.m1) 6 8 k rfl rfl rfl ?_;refine J.closeAt (A:=y.m2) 7 9 k rfl rfl rfl ?_;rw[<- List.map_set,<- List.map_set];have hzv:z.v=MSl.none0.v:=by
   have h2:(Z.map (·.v))[k]? =some z.v:=by rw[List.getElem?_map,hz];rfl
   rw[hZ,List.getElem?_append_right (by simp),List.length_replicate,List.getElem?_replicate,if_pos (by omega)]at h2;injection h2 with h2;exact h2.symm
  have hyv:y.v=Mv.page0:=by rw[hy];show(⟨z.v.now,z.v.op,[Mv.z16],[Mv.z16]⟩:MPv)=_;rw[hzv];rfl
  have hZ2:(Z.set k y).map (·.v)=List.replicate (k+1) Mv.page0++List.replicate (m-(k+1)) MSl.none0.v:=by
   rw[List.map_set,hZ,hyv,show m-k=(m-(k+1))+1 from by omega,List.replicate_succ (n:=m-(k+1)),List.set_append_right _ _ (by simp),List.length_replicate,Nat.sub_self,List.set_cons_zero,List.replicate_succ' (n:=k),List.append_assoc];rfl
  refine J.q λ_=>?_;refine J.n ((k+1,Z.set k y)) (⟨by dsimp only;omega,by dsimp only;rw[List.length_set];exact hZl,hZ2⟩) (by dsimp only;omega) [0,1,2,3,4,5,6,7]
 simp only[decide_eq_false_iff_not,Int.ofNat_lt]at h1;obtain rfl:k=m:=by omega
 refine J.qr [5,1,2,3,4,6,7] λ_=>?_;refine⟨⟨bq,gn,go,gm,ge⟩,Z,rfl,?_,?_⟩
 ·rw[<- hZl];rfl
 ·rw[hZ,Nat.sub_self];unfold Mv.new;rw[hm];simp
theorem b0S (R:RAd) (Z:List MSl) (hn:Z.length<=65536):FP 26 [pp R.q] (U0 R Z) (λv As=>∃Z',v= .tuple #[]/\As=U0 R Z'/\Z'.map (·.v)=Mv.flush (Z.map (·.v))):=by
 refine FE [2] Tryz.func26 λX F hX=>?_;refine J.q λ_=>?_;refine J.l (α:=(Nat×List MSl)) (λz=>z.1<=Z.length/\z.2.length=Z.length/\z.2.map (·.v)=((Z.map (·.v)).take z.1).map Mv.fl1++(Z.map (·.v)).drop z.1) (λz=>[si 2 z.1,⟨0,pp R.q,2, .tt⟩]) [2,3,4,5,6,7] (λz=>[.pt R.n 30 (I3 z.2), .pt R.o 4 (opC z.2), .pt R.m 86 (D1 z.2), .pt R.e 86 (A6 z.2), .hp (HP.of (z.2.map MSl.m1)), .hp (HP.of (z.2.map MSl.m2))]) (λz=>Z.length-z.1) ((0,Z)) (⟨Nat.zero_le _,rfl,rfl⟩) λz hI=>?_;obtain⟨k,Y⟩:=z;dsimp only at hI ⊢;obtain⟨hk,hYl,hY⟩:=hI;refine J.qd (λ_ h1=>?_) λ_ h1=>?_
 ·simp only[decide_eq_true_eq,Int.ofNat_lt]at h1;obtain⟨z,hz⟩:∃z,Y[k]? =some z:=⟨_,List.getElem?_eq_getElem (by omega)⟩;have hupd:∀y:MSl,y.v=Mv.fl1 z.v->(Y.set k y).map (·.v)=((Z.map (·.v)).take (k+1)).map Mv.fl1++(Z.map (·.v)).drop (k+1):=λy hy=>by
   rw[List.map_set,hy];exact a2A hY (by simpa using h1) (by rw[List.getElem?_map,hz];rfl)
  refine J.qn 11 λ_=>?_;refine J.v (.bool z.v.op) rfl rfl (λhg aa w he hw=>f8 tk rfl rfl he rfl rfl rfl (hw.get (i:=3) rfl) (by rw[show 0+(k:Int).toNat*1=k from by omega];exact a8g hz)) ?_;refine J.qd (λ_ h2=>?_) λ_ h2=>?_
  ·have ho:z.v.op=false:=by simpa using h2
   refine J.openAt 6 k rfl rfl (by rw[List.getElem?_map,hz];rfl) rfl ?_;refine J.pn 11 (.of [0,4,8,13,16,20,24,28,33,36,40,45,50,52,59]) [13,14] [1,2] λ_ _=>?_;refine J.vT (Z4 z.v.now) rfl rfl (λhg aa w he hC=>j3 tk rfl rfl he rfl rfl rfl (hC rfl _ (d7 (i:=2) rfl)) (by rw[show 0+(k:Int).toNat*16=k*16 from by omega];exact a9e hz) rfl) ?_;refine J.qn 1 λbb=>?_;refine J.cO 30 16 1 1 (i7 [z.v.now]) 9 ?_;refine J.qn 1 λ_=>?_;refine J.s1 4 (D1 (Y.set k ⟨⟨z.v.now,z.v.op,[z.v.now],z.v.ever⟩,some (bb 0),1,z.a2,z.c2⟩)) ?_ ?_ ?_
   ·rw[E7];omega
   ·rw[show 0+(k:Int).toNat*1=k from by omega,<- E6];rfl
   obtain⟨y,hy⟩:∃y:MSl,y=⟨⟨z.v.now,z.v.op,[z.v.now],z.v.ever⟩,some (bb 0),1,z.a2,z.c2⟩:=⟨_,rfl⟩;rw[<- hy,show c8 30 16 (some (bb 0)) 1 1 (i7 [z.v.now])=y.m1 from by rw[hy];rfl];refine J.closeAt (A:=y.m1) 6 9 k rfl rfl rfl ?_;rw[<- List.map_set,<- MSl.map_m2 (y:=y) hz (MSl.m2_of (by rw[hy]) (by rw[hy]) (by rw[hy])),show I3 Y=I3 (Y.set k y)from(a5c (λz=>i9 z.v.now) hz (by rw[hy])).symm,show opC Y=opC (Y.set k y)from(Y3 (λz=>Value.bool z.v.op) hz (by rw[hy])).symm,show A6 Y=A6 (Y.set k y)from(Y3 (λz=>slv z.a2 z.v.ever.length z.c2) hz (by rw[hy])).symm];refine J.q λ_=>?_;refine J.n ((k+1,Y.set k y)) (⟨by dsimp only;omega,by dsimp only;rw[List.length_set];exact hYl,hupd y (by rw[hy];unfold Mv.fl1;rw[ho];rfl)⟩) (by dsimp only;omega) [0,1,2,3,4,5,6,7]
  ·have ho:z.v.op=true:=by simpa using h2
   refine J.q λ_=>?_;refine J.n ((k+1,Y)) (⟨by dsimp only;omega,hYl,by have:=hupd z (by unfold Mv.fl1;rw[ho];rfl);rwa [M5 hz]at this⟩) (by dsimp only;omega) [0,1,2,3,4,5,6,7]
 simp only[decide_eq_false_iff_not,Int.ofNat_lt]at h1;obtain rfl:k=Z.length:=by omega
 refine J.q λ_=>?_;refine J.f [1,2,3,4,5,6,7] ?_;refine⟨Y,rfl,?_,?_⟩
 ·unfold U0;rw[hYl];rfl
 ·rw[hY,List.take_of_length_le (by simp),List.drop_eq_nil_of_le (by simp),List.append_nil];rfl
theorem a9y (R:RAd) (Z:List MSl) (hn:Z.length<=65536) (hf:∀z∈Z,z.Fine) (i:Int) (d:List UInt8) (hd:d.length=16):FP 58 [pp R.q,iI i,Z4 d] (U0 R Z) (λv As=>∃Z',v= .bool (Mv.may (Z.map (·.v)) i d)/\As=U0 R Z'/\Z'.map (·.v)=Mv.saw (Z.map (·.v)) i d):=by
 refine FE [2,0,0] Tryz.func58 λX F hX=>?_;refine J.qp (a7q R Z hn hf i d hd) [1,2,3,4,5,6,7] λ_=>?_;refine J.qd (λ_ h1=>?_) λ_ h1=>?_
 ·have hm:Mv.may (Z.map (·.v)) i d=false:=by simpa using h1
  refine J.qr [1,2,3,4,5,6,7] λ_=>?_;exact⟨Z,by rw[hm],rfl,by unfold Mv.saw;rw[hm];rfl⟩
 have hm:Mv.may (Z.map (·.v)) i d=true:=by simpa using h1
 have hin:Mv.inR (Z.map (·.v)) i=true:=by
  unfold Mv.may at hm;exact(Bool.and_eq_true_iff.1 hm).1
 have hi:0<=i/\i<(Z.length:Int):=by
  unfold Mv.inR at hin;rw[List.length_map]at hin;simpa using hin
 obtain⟨k,rfl⟩:=Int.eq_ofNat_of_zero_le hi.1;obtain⟨z,hz⟩:∃z,Z[k]? =some z:=⟨_,List.getElem?_eq_getElem (by omega)⟩;have hpg:Mv.pg (Z.map (·.v)) (k:Int)=z.v:=by unfold Mv.pg;rw[Int.toNat_natCast,List.getD_eq_getElem?_getD,List.getElem?_map,hz];rfl
 have hsv:∀y:MSl,y.v=Mv.seen z.v d->(Z.set k y).map (·.v)=Mv.saw (Z.map (·.v)) (k:Int) d:=λy hy=>by
  unfold Mv.saw;rw[hm,if_pos rfl,hpg,List.map_set,Int.toNat_natCast,hy]
 refine J.qn 10 λ_=>?_;refine J.v (.bool z.v.op) rfl rfl (λhg aa w he hw=>f8 tk rfl rfl he rfl rfl rfl (hw.get (i:=3) rfl) (by rw[show 0+(k:Int).toNat*1=k from by omega];exact a8g hz)) ?_;refine J.qd (λ_ h2=>?_) λ_ h2=>?_
 ·refine J.openAt 6 k rfl rfl (by rw[List.getElem?_map,hz];rfl) rfl ?_;refine J.p (.take true 0 (.take true 1 (.take true 2 (.take false 3 (.take true 4 (.take true 5 (.take true 6 (.take true 7 (.take false 8 (.take true 9 (.take true 10 (.take true 11 (.take true 12 (.take false 13 (.take true 14 (.take false 15 (.take false 16 (.take true 18 (.alt false 17 ((.of [78,80,86,88,95])) (.alt false 19 ((.take true 20 (.alt false 17 ((.of [86,88,95])) (.alt false 21 ((.of [70,88,95])) .non)))) .non)))))))))))))))))))) [22,23] [1,8] λ_=>?_;have hst:=a6S hz ⟨⟨d,z.v.op,z.v.may,z.v.ever⟩,z.a1,z.c1,z.a2,z.c2⟩;refine J.qn 18 λ_=>?_;refine J.join (α:=Nat) (λ_=>[sv 6 (.bool false)]) (λx=>[.hp F, .pt R.q 94 [.slice (some ⟨R.n,0,none⟩) Z.length Z.length, .slice (some ⟨R.o,0,none⟩) Z.length Z.length, .slice (some ⟨R.m,0,none⟩) Z.length Z.length, .slice (some ⟨R.e,0,none⟩) Z.length Z.length], .pt R.n 30 (I3 (Z.set k ⟨⟨d,z.v.op,z.v.may,z.v.ever⟩,z.a1,z.c1,z.a2,z.c2⟩)), .pt R.o 4 (opC (Z.set k ⟨⟨d,false,z.v.may,z.v.ever⟩,z.a1,z.c1,z.a2,z.c2⟩)), .pt R.m 86 (D1 (Z.set k ⟨⟨d,false,[d],z.v.ever⟩,some x,1,z.a2,z.c2⟩)), .pt R.e 86 (A6 Z), .hp (HP.of ((Z.map MSl.m1).set k .emp)), .hp (HP.of (Z.map MSl.m2)),c8 30 16 (some x) 1 1 (i7 [d])]) (λhj=>?_) (λx=>?_)
  ·refine J.alts ?_ ?_
   ·skip
    refine J.qn 1 λbb=>?_;refine J.cO 30 16 1 1 (i7 [d]) 10 ?_;refine J.sN (i9 d) 2 (I3 (Z.set k ⟨⟨d,z.v.op,z.v.may,z.v.ever⟩,z.a1,z.c1,z.a2,z.c2⟩)) ?_ ?_ ?_
    ·rw[a3h];show 0+(k:Int).toNat*16+16<=_;omega
    ·rw[show 0+(k:Int).toNat*16=k*16 from by omega];exact hst
    refine J.qn 1 λ_=>?_;refine J.s1 3 (opC (Z.set k ⟨⟨d,false,z.v.may,z.v.ever⟩,z.a1,z.c1,z.a2,z.c2⟩)) ?_ ?_ ?_
    ·rw[a2q];omega
    ·rw[show 0+(k:Int).toNat*1=k from by omega,<- a2p]
    refine J.qn 1 λ_=>?_;refine J.s1 4 (D1 (Z.set k ⟨⟨d,false,[d],z.v.ever⟩,some (bb 0),1,z.a2,z.c2⟩)) ?_ ?_ ?_
    ·rw[E7];omega
    ·rw[show 0+(k:Int).toNat*1=k from by omega,<- E6];rfl
    exact J.goto [0,1,2,3,4,5,6,7,10] (hj (bb 0)) ⟨rfl,trivial⟩ rfl rfl
   ·skip
    refine J.sN (i9 d) 2 (I3 (Z.set k ⟨⟨d,z.v.op,z.v.may,z.v.ever⟩,z.a1,z.c1,z.a2,z.c2⟩)) ?_ ?_ ?_
    ·rw[a3h];show 0+(k:Int).toNat*16+16<=_;omega
    ·rw[show 0+(k:Int).toNat*16=k*16 from by omega];exact hst
    refine J.qn 1 λ_=>?_;refine J.alts ?_ ?_
    ·skip
     refine J.qn 1 λbb=>?_;refine J.cO 30 16 1 1 (i7 [d]) 10 ?_;refine J.s1 3 (opC (Z.set k ⟨⟨d,false,z.v.may,z.v.ever⟩,z.a1,z.c1,z.a2,z.c2⟩)) ?_ ?_ ?_
     ·rw[a2q];omega
     ·rw[show 0+(k:Int).toNat*1=k from by omega,<- a2p]
     refine J.qn 1 λ_=>?_;refine J.s1 4 (D1 (Z.set k ⟨⟨d,false,[d],z.v.ever⟩,some (bb 0),1,z.a2,z.c2⟩)) ?_ ?_ ?_
     ·rw[E7];omega
     ·rw[show 0+(k:Int).toNat*1=k from by omega,<- E6];rfl
     exact J.goto [0,1,2,3,4,5,6,7,10] (hj (bb 0)) ⟨rfl,trivial⟩ rfl rfl
    ·skip
     refine J.s1 3 (opC (Z.set k ⟨⟨d,false,z.v.may,z.v.ever⟩,z.a1,z.c1,z.a2,z.c2⟩)) ?_ ?_ ?_
     ·rw[a2q];omega
     ·rw[show 0+(k:Int).toNat*1=k from by omega,<- a2p]
     refine J.qn 1 λbb=>?_;refine J.cO 30 16 1 1 (i7 [d]) 10 ?_;refine J.qn 1 λ_=>?_;refine J.s1 4 (D1 (Z.set k ⟨⟨d,false,[d],z.v.ever⟩,some (bb 0),1,z.a2,z.c2⟩)) ?_ ?_ ?_
     ·rw[E7];omega
     ·rw[show 0+(k:Int).toNat*1=k from by omega,<- E6];rfl
     exact J.goto [0,1,2,3,4,5,6,7,10] (hj (bb 0)) ⟨rfl,trivial⟩ rfl rfl
  obtain⟨y,hy⟩:∃y:MSl,y=⟨⟨d,false,[d],z.v.ever⟩,some x,1,z.a2,z.c2⟩:=⟨_,rfl⟩;rw[show I3 (Z.set k ⟨⟨d,z.v.op,z.v.may,z.v.ever⟩,z.a1,z.c1,z.a2,z.c2⟩)=I3 (Z.set k y)from by rw[hy];unfold I3;rw[List.flatMap_def,List.flatMap_def,List.map_set,List.map_set],show opC (Z.set k ⟨⟨d,false,z.v.may,z.v.ever⟩,z.a1,z.c1,z.a2,z.c2⟩)=opC (Z.set k y)from by rw[hy];unfold opC;rw[List.map_set,List.map_set],<- hy,show A6 Z=A6 (Z.set k y)from(Y3 (λz=>slv z.a2 z.v.ever.length z.c2) hz (by rw[hy])).symm,show c8 30 16 (some x) 1 1 (i7 [d])=y.m1 from by rw[hy];rfl];refine J.closeAt (A:=y.m1) 6 8 k rfl rfl rfl ?_;rw[<- List.map_set,<- MSl.map_m2 (y:=y) hz (MSl.m2_of (by rw[hy]) (by rw[hy]) (by rw[hy]))];refine J.qr [1,2,3,4,5,6,7] λ_=>?_;exact⟨Z.set k y,by rw[hm],by unfold U0;rw[List.length_set];rfl,hsv y (by rw[hy];unfold Mv.seen;rw[h2];rfl)⟩
 ·refine J.qr [1,2,3,4,5,6,7] λ_=>?_;exact⟨Z,by rw[hm],rfl,by have:=hsv z (by unfold Mv.seen;rw[h2];rfl);rwa [M5 hz]at this⟩
def a7F (U:WAd) (W:Wa) (Zl:List MSl):List Atom:=b1g U W::b1f U W::(U0 U.R Zl++I5 U.q U.nn U.A W.P)
def a1e (U:WAd) (W:Wa) (Zl:List MSl) (Z:Fv):List Atom:=[b1g U W,b1f U W]++U0 U.R Zl++([PlQ U.q U.nn (some Z) U.A.f (pp U.A.fp) (slv U.A.a2 W.P.log.length U.A.c2), .pt U.A.fp 176 [.slice (p9 U.A.a) W.P.L.length U.A.c],rdA (p9 U.A.a) 7 W.P.L.length (d5 W.P.L),c8 50 17 U.A.a2 W.P.log.length U.A.c2 (s5 W.P.log)]++FvP U.A.f U.A.p U.nn U.A.t U.A.l U.A.d Z)
theorem L8 {W:Wa} {Z:Fv} (hZ:W.P.Z=some Z) (U:WAd) (Zl:List MSl):a7F U W Zl=a1e U W Zl Z:=by
 unfold a7F a1e;rw[v6 U.q U.nn U.A W.P Z hZ];rfl
theorem b5V (g0 g1 g2 die:Int) (A:Atom) (ad:Option Addr) (n c:Nat) (l:List Fl) (hA:Rd A ad 7 n (d5 l)) (hl:l.length=n):
  FP 12 [.agg #[iI g0,iI g1,iI g2],iI die, .slice ad n c] [A] (λv As=>∃(D B P:Nat) (U:WAd) (Zl:List MSl),v=pp U.w/\(3<=D/\D<=6)/\(8<=B/\B<=16)/\(2<=P/\P<=8)/\U.A.Ok (Wa.new D B P die l).P/\Zl.map (·.v)=(Wa.new D B P die l).M/\As=A::a7F U (Wa.new D B P die l) Zl):=by
 refine FE [0,0,0] Tryz.func12 λX F hX=>?_;refine J.q λbb=>?_;refine J.cb (b2M g0 g1 g2) [] ?_;rintro v As ⟨D,B,P,rfl,hD,hB,hP,rfl⟩;refine⟨_,rfl,trivial,?_⟩;have hgm:l9 D B P=true:=by simp[l9];omega
 have hgb:=a9l hD hB hP;have ht1:=a4q die D (by omega);have ht2:=b1B die D (by omega);refine J.pq (.of [0,4,9,12,16,21,24,28,33,36,41,46,50,52,58,60]) [15] [2] λ_ _=>?_;obtain⟨u,hu⟩:∃u,(die.tmod D+D).tmod D=u:=⟨_,rfl⟩;rw[hu];refine J.qp (a8x D B P hgm) [] λ_=>?_;refine J.qc (a5W (lgN D B P) (lgN D B P) (by omega)) [] λ_=>?_;rintro v As ⟨R,Zl,rfl,rfl,hZl⟩;refine⟨_,rfl,stq,?_⟩;refine J.q λbw=>?_;refine J.turn1 [] rfl (As:=[c8 34 7 none 0 0 (d5 [])]) (λh s=>Sep.one ⟨rfl,rfl,rfl⟩) rfl ?_;refine J.q λ_=>?_;refine J.l (α:=(Nat×Option Nat×Nat)) (λz=>z.1<=n/\z.1<=15) (λz=>[si 9 z.1,sv 8 (slv z.2.1 z.1 z.2.2),⟨7,pp (bw 0),11, .tt⟩,sv 2 (.slice ad n c),⟨3,pp (bb 0),3, .tt⟩]) [11] (λz=>[c8 34 7 z.2.1 z.1 z.2.2 (d5 ((l.take z.1).map (Wa.fx u)))]) (λz=>15-z.1) ((0,none,0)) (⟨Nat.zero_le _,Nat.zero_le _⟩) λz hI=>?_;obtain⟨k,ga,ca⟩:=z;dsimp only at hI ⊢;obtain⟨hk1,hk2⟩:=hI;refine J.qd (λ_ h1=>?_) λ_ h1=>?_
 ·simp only[Bool.and_eq_true,decide_eq_true_eq,Int.ofNat_lt]at h1;obtain⟨h1,h2⟩:=h1;have h2:k<15:=by omega
  obtain⟨x,hx⟩:∃x,l[k]? =some x:=⟨_,List.getElem?_eq_getElem (by omega)⟩;refine J.know (p:=∃g o,ad=some ⟨g,o,none⟩) (λh' s=>Rd.addr (hA _ (s.get (i:=1) rfl)) (by omega)) λhk2=>?_;obtain⟨g,o,rfl⟩:=hk2;refine J.q λ_=>?_;refine J.v (flV x) rfl rfl (λhg a w he hw=>?_) ?_
  ·exact J4 tk rfl rfl he rfl rfl rfl (hA _ (hw.get (i:=1) rfl)) (by omega) (j:=k*7) (by omega) (by have:=B3 l [] k _ hx;rwa [List.append_nil]at this) rfl
  refine J.q λ_=>?_;refine J.ap 11 13 0 (a1b ((l.take k).map (Wa.fx u)) (Wa.fx u x)) λa3 c3=>?_;rw[show(l.take k).map (Wa.fx u)++[Wa.fx u x]=(l.take (k+1)).map (Wa.fx u)from by rw[List.take_add_one,hx];simp];refine J.q λ_=>?_;refine J.n ((k+1,a3,c3)) (⟨by dsimp only;omega,by dsimp only;omega⟩) (by dsimp only;omega) [0,1,2,3,4,5,6,7,8,9,10,11]
 have hk3:l.take k=l.take 15:=by
  simp only[Bool.and_eq_false_iff,decide_eq_false_iff_not,Int.ofNat_lt]at h1;rcases Nat.lt_or_ge k n with h | h
  ·have:k=15:=by omega
   rw[this]
  ·rw[List.take_of_length_le (by omega),List.take_of_length_le (by omega)]
 have hfl:(l.take 15).map (Wa.fx u)=Wa.fl D die l:=by unfold Wa.fl Wa.dieI;rw[hu]
 rw[hk3,hfl];have hkl:k=(Wa.fl D die l).length:=by rw[<- hfl,List.length_map,<- hk3,List.length_take];omega
 clear hk3 hk1 h1;subst hkl;obtain⟨fs,hfs⟩:∃fs,Wa.fl D die l=fs:=⟨_,rfl⟩;rw[hfs]at hk2 ⊢;have hz:(Pv.new D B P fs).Z=some (Fv.of (Dv.new D B P (lgN D B P))):=by
  show(if(p5 (Nand.new D B P)).2=0 then some (Fv.of (p5 (Nand.new D B P)).1)else none)=_;rw[a1q (Dv.Ok.new D B P (lgN D B P) hgm 0 (by decide))];rfl
 refine J.qc (a7W D B P hgm (c8 34 7 ga fs.length ca (d5 fs)) (oad ga) fs.length ca fs (B6 _ _ _ _ _ _) rfl hk2) [11] λ_=>?_;rintro _ As ⟨q,nn,A0,rfl,hA0,rfl⟩;rw[v6 q nn A0 _ _ hz];refine⟨_,rfl,stq,?_⟩;refine J.qr [1,10,11,3,4,5,6,7,8,9,12,13,14,15,16,17,18,19,20,21] λ_=>?_;refine⟨D,B,P,⟨bw 0,q,nn,A0,R,ga,ca⟩,Zl,rfl,hD,hB,hP,?_,hZl,?_⟩
 ·show A0.Ok (Pv.new D B P (Wa.fl D die l));rw[hfs];exact hA0
 ·have hw:Wa.new D B P die l=⟨Pv.new D B P fs,Mv.new (lgN D B P),u,false,false,false,fs,0,0⟩:=by unfold Wa.new;rw[hfs];unfold Wa.dieI;rw[hu]
  rw[hw];unfold a7F b1g b1f;dsimp only;rw[v6 q nn A0 _ _ hz];rfl
namespace Fv
variable {F : Fv}
end Fv
namespace Dev
variable {D B P n : Nat} {F : Fv} {c : Nat → List UInt8}
end Dev
theorem Mv.write_len (M:List MPv) (i:Int) (d:List UInt8):(Mv.write M i d).length=M.length:=by unfold Mv.write;split<;>simp
theorem Mv.saw_len (M:List MPv) (i:Int) (d:List UInt8):(Mv.saw M i d).length=M.length:=by unfold Mv.saw;split<;>simp
theorem Mv.flush_len (M:List MPv):(Mv.flush M).length=M.length:=by unfold Mv.flush;simp
def Mv.Fine (M:List MPv) (b:Nat):Prop:=∀v∈M,v.now.length=16/\(∀x∈v.may,x.length=16)/\(∀x∈v.ever,x.length=16)/\v.may.length<=b/\v.ever.length<=b
theorem Mv.Fine.more {M:List MPv} {b c:Nat} (h:Mv.Fine M b) (hb:b<=c):Mv.Fine M c:=λv hv=>by
 obtain⟨f1,f2,f3,f4,f5⟩:=h v hv;exact⟨f1,f2,f3,by omega,by omega⟩
theorem Mv.Fine.set {M:List MPv} {b:Nat} (h:Mv.Fine M b) {k:Nat} {v:MPv} (hv:v.now.length=16/\(∀x∈v.may,x.length=16)/\(∀x∈v.ever,x.length=16)/\v.may.length<=b/\v.ever.length<=b):Mv.Fine (M.set k v) b:=λx hx=>by
 rcases List.mem_or_eq_of_mem_set hx with h' | h'
 ·exact h x h'
 ·rw[h'];exact hv
theorem Mv.Fine.pg {M:List MPv} {b:Nat} (h:Mv.Fine M b) (hb:1<=b) (i:Int):(Mv.pg M i).now.length=16/\(∀x∈(Mv.pg M i).may,x.length=16)/\(∀x∈(Mv.pg M i).ever,x.length=16)/\(Mv.pg M i).may.length<=b/\(Mv.pg M i).ever.length<=b:=by
 unfold Mv.pg;rw[List.getD_eq_getElem?_getD];cases hx:M[i.toNat]? with
 | none=>exact⟨rfl,by decide,by decide,hb,hb⟩
 | some v=>exact h v (List.mem_of_getElem? hx)
theorem Mv.Fine.write {M:List MPv} {b:Nat} (h:Mv.Fine M b) (hb:1<=b) (i:Int) {d:List UInt8} (hd:d.length=16):Mv.Fine (Mv.write M i d) (b+1):=by
 unfold Mv.write;split
 ·obtain⟨f1,f2,f3,f4,f5⟩:=h.pg hb i;refine(h.more (by omega)).set ⟨hd,λx hx=>?_,λx hx=>?_,?_,?_⟩
  ·rcases List.mem_append.1 hx with h' | h'
   ·exact f2 x h'
   ·rw[List.mem_singleton.1 h'];exact hd
  ·rcases List.mem_append.1 hx with h' | h'
   ·exact f3 x h'
   ·rw[List.mem_singleton.1 h'];exact hd
  ·show((Mv.pg M i).may++[d]).length<=_;rw[List.length_append,List.length_singleton];omega
  ·show((Mv.pg M i).ever++[d]).length<=_;rw[List.length_append,List.length_singleton];omega
 ·exact h.more (by omega)
theorem Mv.Fine.saw {M:List MPv} {b:Nat} (h:Mv.Fine M b) (hb:1<=b) (i:Int) {d:List UInt8} (hd:d.length=16):Mv.Fine (Mv.saw M i d) b:=by
 unfold Mv.saw;split
 ·obtain⟨f1,f2,f3,f4,f5⟩:=h.pg hb i;refine h.set ?_;unfold Mv.seen;split
  ·exact⟨hd,λx hx=>by rw[List.mem_singleton.1 hx];exact hd,f3,hb,f5⟩
  ·exact⟨f1,f2,f3,f4,f5⟩
 ·exact h
theorem Mv.Fine.flush {M:List MPv} {b:Nat} (h:Mv.Fine M b) (hb:1<=b):Mv.Fine (Mv.flush M) b:=λv hv=>by
 unfold Mv.flush at hv;obtain⟨x,hx,rfl⟩:=List.mem_map.1 hv;obtain⟨f1,f2,f3,f4,f5⟩:=h x hx;show(if x.op then x else {x with may:=[x.now]}).now.length=16/\(∀y∈(if x.op then x else {x with may:=[x.now]}).may,y.length=16)/\(∀y∈(if x.op then x else {x with may:=[x.now]}).ever,y.length=16)/\(if x.op then x else {x with may:=[x.now]}).may.length<=b/\(if x.op then x else {x with may:=[x.now]}).ever.length<=b;split
 ·exact⟨f1,f2,f3,f4,f5⟩
 ·exact⟨f1,λy hy=>by rw[List.mem_singleton.1 hy];exact f1,f3,hb,f5⟩
namespace Wa
variable {W : Wa} {s : Stp}
theorem hold_len (W:Wa) (s:Stp) (t:Td):(W.hold s t).1.length=W.M.length:=by
 unfold hold
 repeat' split
 all_goals first | rfl | exact Mv.saw_len _ _ _ | exact Mv.write_len _ _ _ | exact Mv.flush_len _
theorem hold_fine {b:Nat} (h:Mv.Fine W.M b) (hb:1<=b) (hd:s.data.length=16) {t:Td} (ht:t.data.length=16):Mv.Fine (W.hold s t).1 (b+1):=by
 have hz:(if s.fn=3 then zd else s.data).length=16:=by split;(· rfl);exact hd
 unfold hold
 repeat' split
 all_goals first | exact h.more (Nat.le_succ _) | exact(h.saw hb _ ht).more (Nat.le_succ _) | exact h.write hb _ hz | exact h.write hb _ (show zd.length=16 from rfl) | exact h.write hb _ hd | exact(h.flush hb).more (Nat.le_succ _)
end Wa
theorem b5w {W:List (Int×En)} {L:List En} (hW:WOk W) (hL:∀e∈L,e.data.length=16) (i:Int):(cur W L i).length=16:=by
 unfold cur;split
 ·rename_i e he;exact hL e (List.mem_of_find?_eq_some he)
 ·split
  ·rename_i e he;exact(hW i e he).2.len
  ·rfl
namespace Wt
variable {D B P n b : Nat} {W : Wa} {Z : Fv}
end Wt
namespace Wt
variable {D B P n b : Nat} {W : Wa} {Z : Fv}
end Wt
theorem Mv.pg_of {M:List MPv} {k:Nat} {v:MPv} (h:M[k]? =some v):Mv.pg M (k:Int)=v:=by
 unfold Mv.pg;rw[Int.toNat_natCast,List.getD_eq_getElem?_getD,h];rfl
theorem Mv.pg_mem {M:List MPv} {k:Nat} (h:k<M.length):M[k]? =some (Mv.pg M (k:Int)):=by
 rw[Mv.pg_of (List.getElem?_eq_getElem h)];exact List.getElem?_eq_getElem h
theorem Mv.inR_of {M:List MPv} {k:Nat} (h:k<M.length):Mv.inR M (k:Int)=true:=by
 unfold Mv.inR;rw[decide_eq_true (by omega),decide_eq_true (by omega)];rfl
def Mv.Calm (M:List MPv):Prop:=∀(k:Nat) (v:MPv),M[k]? =some v->v.op=false
theorem Mv.Calm.saw {M:List MPv} (h:Mv.Calm M) (i:Int) (d:List UInt8):Mv.saw M i d=M:=by
 unfold Mv.saw;split
 ·rename_i hm;have hr:Mv.inR M i=true:=by unfold Mv.may at hm;rw[Bool.and_eq_true]at hm;exact hm.1
  unfold Mv.inR at hr;simp only[Bool.and_eq_true,decide_eq_true_eq]at hr;obtain⟨k,rfl⟩:∃k:Nat,i=(k:Int):=⟨i.toNat,by omega⟩;have hk:k<M.length:=by omega
  have hv:=Mv.pg_mem hk;have ho:=h k _ hv;have hs:Mv.seen (Mv.pg M (k:Int)) d=Mv.pg M (k:Int):=by unfold Mv.seen;rw[ho,if_neg Bool.false_ne_true]
  rw[hs,Int.toNat_natCast];apply List.ext_getElem?;intro j
  by_cases e:k=j
  ·subst e;rw[List.getElem?_set_self hk,hv]
  ·rw[List.getElem?_set_ne e]
 ·rfl
theorem Mv.Calm.may {M:List MPv} (h:Mv.Calm M) {k:Nat} (hk:k<M.length) {d:List UInt8} (hd:(Mv.pg M (k:Int)).now=d):Mv.may M (k:Int) d=true:=by
 unfold Mv.may;rw[Mv.inR_of hk,h k _ (Mv.pg_mem hk),if_neg Bool.false_ne_true,hd];simp
theorem Mv.Calm.write {M:List MPv} (h:Mv.Calm M) {k:Nat} (hk:k<M.length) (d:List UInt8):Mv.Calm (Mv.write M (k:Int) d)/\∀j:Nat,j<M.length->(Mv.pg (Mv.write M (k:Int) d) (j:Int)).now=if j=k then d else(Mv.pg M (j:Int)).now:=by
 unfold Mv.write;rw[Mv.inR_of hk,if_pos rfl,Int.toNat_natCast];refine⟨λj v hv=>?_,λj hj=>?_⟩
 ·by_cases e:k=j
  ·subst e;rw[List.getElem?_set_self hk]at hv;injection hv with hv;rw[<- hv];rfl
  ·rw[List.getElem?_set_ne e]at hv;exact h j v hv
 ·by_cases e:k=j
  ·subst e;rw[if_pos rfl,Mv.pg_of (List.getElem?_set_self hk)];rfl
  ·rw[if_neg (λx=>e x.symm),Mv.pg_of (v:=Mv.pg M (j:Int)) (by rw[List.getElem?_set_ne e];exact Mv.pg_mem hj)]
theorem Mv.Calm.flush {M:List MPv} (h:Mv.Calm M):Mv.Calm (Mv.flush M)/\∀j:Nat,j<M.length->(Mv.pg (Mv.flush M) (j:Int)).now=(Mv.pg M (j:Int)).now:=by
 unfold Mv.flush;refine⟨λj v hv=>?_,λj hj=>?_⟩
 ·rw[List.getElem?_map]at hv;cases hx:M[j]? with
  | none=>rw[hx]at hv;cases hv
  | some x=>
   rw[hx]at hv;have hv:(if x.op then x else {x with may:=[x.now]})=v:=by injection hv
   have:=h j x hx;rw[<- hv,if_neg (λe=>by rw[this]at e;cases e)];exact this
 ·have hx:=Mv.pg_mem hj;have ho:=h j _ hx;rw[Mv.pg_of (v:={Mv.pg M (j:Int)with may:=[(Mv.pg M (j:Int)).now]})];rw[List.getElem?_map,hx];exact congrArg some (if_neg (λe=>by rw[ho]at e;cases e))
theorem Mv.Calm.new (n:Int):Mv.Calm (Mv.new n):=λk v hv=>by
 have:=List.eq_of_mem_replicate (List.mem_of_getElem? hv);rw[this];rfl
theorem Mv.new_now (n:Nat) (hn:n<=65536) (k:Nat):(Mv.pg (Mv.new n) (k:Int)).now=zeros16:=by
 unfold Mv.pg Mv.new;rw[Int.toNat_natCast,List.getD_eq_getElem?_getD,List.getElem?_replicate];split<;>rfl
namespace Wa
variable {W : Wa} {s : Stp}
def step1 (W:Wa) (s:Stp):Wa:=
 if skip s then W
 else
  let r:=W.P.step s
  let off:=r.1.nd.off
  let h:=W.hold s r.2
  let W2:Wa:={W with P:=r.1,M:=h.1,wrong:=W.wrong||h.2,full:=W.full||(decide (r.2.err=11)&&decide (s.fn≠7))}
  if s.fn=7 then
   let st:=decide (r.2.err=11)&& !off&&decide (W2.lates>1)
   let W3:Wa:={W2 with M:=Mv.cut W2.M,stuck:=st,wrong:=W2.wrong||(decide (r.2.err≠0)&& !off&& !st)}
   if r.2.err=0 then {W3 with since:=r.1.nd.ops,late:=0}else W3
  else {W2 with wrong:=W2.wrong||(W.on&& !off&&(decide (r.2.err=9)||decide (r.2.err=12)))}
def noted (W:Wa) (s:Stp):Wa:=if s.fn=8 then {W with late:=W.late+1}else W
theorem ask_fn (W:Wa) (s:Stp):(W.ask s).fn=s.fn:=by unfold ask;split<;>rfl
theorem ask_skip (W:Wa) (s:Stp):skip (W.ask s)=skip s:=by unfold ask skip;split<;>rfl
theorem step_eq (hst:W.stuck=false):W.step s=(W.noted s).step1 (W.ask s):=by
 by_cases h8:s.fn=8
 ·have hn:W.noted s={W with late:=W.late+1}:=by unfold noted;rw[if_pos h8]
  have h3:∀t,W.hold (W.ask s) t=W.hold s t:=λt=>by
   unfold hold;rw[ask_fn,h8];rfl
  have h4:({W with late:=W.late+1}:Wa).hold (W.ask s)=W.hold s:=funext h3;rw[hn];unfold step1;rw[ask_skip,ask_fn,h4];unfold step;rw[if_neg (show¬W.stuck=true by rw[hst];decide),if_pos h8];dsimp only;rw[if_neg (show¬s.fn=7 by omega),if_neg (show¬s.fn=7 by omega)];rfl
 ·have hn:W.noted s=W:=by unfold noted;rw[if_neg h8]
  have ha:W.ask s=s:=by unfold ask;rw[if_neg h8]
  rw[hn,ha];unfold step;rw[if_neg (show¬W.stuck=true by rw[hst];decide),if_neg h8,ha];rfl
theorem step_skip (h:skip s=true):W.step1 s=W:=by
 unfold step1;rw[if_pos h]
theorem step_mount (hst:W.stuck=false) (h7:s.fn=7) (h:skip s=false) (he:(W.P.step s).2.err=0):W.step1 s={W with P:=(W.P.step s).1,M:=Mv.cut W.M,stuck:=false,since:=(W.P.step s).1.nd.ops,late:=0}:=by
 unfold step1;simp only[h,h7,he];unfold hold;simp[h7,he]
theorem step_else (hst:W.stuck=false) (h7:s.fn≠7) (h:skip s=false) (hon:W.on=true) (hoff:(W.P.step s).1.nd.off=false):W.step1 s={W with P:=(W.P.step s).1,M:=(W.hold s (W.P.step s).2).1,wrong:=(W.wrong||(W.hold s (W.P.step s).2).2)||(decide ((W.P.step s).2.err=9)||decide ((W.P.step s).2.err=12)),full:=W.full||decide ((W.P.step s).2.err=11)}:=by
 unfold step1;simp[h,h7,hon,hoff]
variable {t : Td}
theorem hold1_0 (h1:s.fn=1) (he:t.err=0):W.hold s t=(Mv.saw W.M s.lpn t.data,!Mv.may W.M s.lpn t.data):=by unfold hold;simp[h1,he]
theorem hold1_e (h1:s.fn=1) (he:t.err≠0):W.hold s t=(W.M,(decide (t.err=10)||decide (t.err=11))||(decide (t.err=3)&&decide (s.lpn>=0)&&decide (s.lpn<(W.M.length:Int)))):=by unfold hold;simp[h1,he]
theorem hold2_0 (h2:s.fn=2) (he:t.err=0):W.hold s t=(Mv.write W.M s.lpn s.data,!Mv.inR W.M s.lpn):=by unfold hold;simp[h2,he]
theorem hold3_0 (h3:s.fn=3) (he:t.err=0):W.hold s t=(Mv.write W.M s.lpn zd,!Mv.inR W.M s.lpn):=by unfold hold;simp[h3,he]
theorem hold2_e (h1:s.fn=2\/s.fn=3) (he:t.err≠0):W.hold s t=(W.M,false):=by
 unfold hold;rcases h1 with h | h<;>simp[h,he]
theorem hold4_0 (h4:s.fn=4) (he:t.err=0):W.hold s t=(Mv.flush W.M,false):=by unfold hold;simp[h4,he]
theorem hold4_e (h4:s.fn=4) (he:t.err≠0):W.hold s t=(W.M,false):=by unfold hold;simp[h4,he]
theorem hold_x (h1:s.fn≠1) (h2:s.fn≠2) (h3:s.fn≠3) (h4:s.fn≠4):W.hold s t=(W.M,false):=by unfold hold;simp[h1,h2,h3,h4]
end Wa
theorem DevF.faults {d D B P n:Nat} {c:Nat->List UInt8}:∀(l:List Fl) {F:Fv} {m:Nat},DevF d D B P F n m c->(∀f∈l,f.x=(d:Int))->DevF d D B P (F.setN (D7 F.S.N l)) n (m+l.length) c
 | [],_,_,h,_=>h
 | f::l,F,m,h,hl=>by
  have h1:=h.faulted f.kind f.y f.z f.n f.xx;rw[<- hl f (List.mem_cons_self ..)]at h1;have h2:=DevF.faults (d:=d) l (by rw[hl f (List.mem_cons_self ..)]at h1;exact h1) (λg hg=>hl g (List.mem_cons_of_mem _ hg));rw[List.length_cons,show m+(l.length+1)=m+1+l.length from by omega];have e:F.setN (D7 F.S.N (f::l))=({F with S:={F.S with N:=(F.S.N.fault f.kind (d:Int) f.y f.z f.n f.xx).2}}:Fv).setN (D7 (F.S.N.fault f.kind (d:Int) f.y f.z f.n f.xx).2 l):=by
   rw[<- hl f (List.mem_cons_self ..)];rfl
  rw[e];exact h2
theorem DevF.c_len {fd:Int} {D B P n m:Nat} {F:Fv} {c:Nat->List UInt8} (h:DevF fd D B P F n m c) {i:Nat} (hi:i<lgN D B P):(c i).length=16:=by
 obtain⟨W,hW,hc⟩:=h.fi;rw[<- hc i hi];exact b5w hW.wok h.ok.dat i
structure WtF (D B P:Nat) (W:Wa) (Z:Fv) (n m b:Nat):Prop where
 z:W.P.Z=some Z
 die:∃d:Nat,W.die=(d:Int)/\d<D
 dev:∃c,DevF W.die D B P Z n m c/\∀i:Nat,i<lgN D B P->(Mv.pg W.M (i:Int)).now=c i
 calm:Mv.Calm W.M
 pl:∀f∈W.P.L,f.x=W.die
 few:m+W.P.L.length<=b+15
 stuck:W.stuck=false
 wrong:W.wrong=false
 len:W.M.length=lgN D B P
 fine:Mv.Fine W.M b
 log:W.P.log.length<=b
 late:0<=W.late/\W.late<=b
 b1:1<=b
namespace WtF
variable {D B P n m b : Nat} {W : Wa} {Z : Fv}
theorem less (h:WtF D B P W Z n m b) {k c:Nat} (hk:k<=n) (hb:b<=c):WtF D B P W Z k m c:=by
 obtain⟨d,hD,hM⟩:=h.dev;exact⟨h.z,h.die,⟨d,hD.less hk,hM⟩,h.calm,h.pl,by have:=h.few;omega,h.stuck,h.wrong,h.len,h.fine.more hb,Nat.le_trans h.log hb,by have:=h.late;omega,Nat.le_trans h.b1 hb⟩
theorem does (h:WtF D B P W Z (n+605) m b) {s:Stp} (h6:s.fn≠6) (h7:s.fn≠7) (h8:s.fn=8->s.f.x=W.die) (hd:s.data.length=16):
  ∃Z' t m' c,W.P.run.does s=({W.P with Z:=some Z',L:=C6 Z.S.N.ops W.P.L},t)/\DevF W.die D B P Z' n m' c/\m'+(C6 Z.S.N.ops W.P.L).length<=m+W.P.L.length+1/\t.data.length=16/\t.err≠9/\t.err≠12/\(W.hold s t).2=false/\Mv.Calm (W.hold s t).1/\∀i:Nat,i<lgN D B P->(Mv.pg (W.hold s t).1 (i:Int)).now=c i:=by
 obtain⟨c,hD,hM⟩:=h.dev;obtain⟨d,hd0,hdl⟩:=h.die;have hnd:W.P.nd=Z.S.N:=by unfold Pv.nd;rw[h.z]
 have hrun:W.P.run={W.P with Z:=some (Z.setN (D7 Z.S.N (s6 Z.S.N.ops W.P.L))),L:=C6 Z.S.N.ops W.P.L}:=by
  unfold Pv.run Pv.setN;rw[h.z,hnd]
 have hlen:(s6 Z.S.N.ops W.P.L).length+(C6 Z.S.N.ops W.P.L).length=W.P.L.length:=by
  unfold s6 C6;rw[<- List.length_append,List.takeWhile_append_dropWhile]
 have hdm:∀f∈s6 Z.S.N.ops W.P.L,f.x=(d:Int):=λf hf=>by
  rw[<- hd0];exact h.pl f ((List.takeWhile_sublist _).subset hf)
 have hD1:DevF W.die D B P (Z.setN (D7 Z.S.N (s6 Z.S.N.ops W.P.L))) (n+605) (m+(s6 Z.S.N.ops W.P.L).length) c:=by
  rw[hd0]at hD ⊢;exact hD.faults _ hdm
 generalize hZ1:Z.setN (D7 Z.S.N (s6 Z.S.N.ops W.P.L))=Z1 at hrun hD1;generalize hm1:m+(s6 Z.S.N.ops W.P.L).length=m1 at hD1;have hb2:m1+(C6 Z.S.N.ops W.P.L).length=m+W.P.L.length:=by omega
 rw[hrun];unfold Pv.does;have hMl:=h.len
 by_cases h1:s.fn=1
 ·rw[if_pos h1];dsimp only;have hr:=hD1.read s.lpn
  by_cases hi:s.lpn<0\/s.lpn>=(lgN D B P:Int)
  ·rw[if_pos hi]at hr;rw[hr];refine⟨Z1,_,m1,c,rfl,hD1.less (by omega),by omega,rfl,(show(3:Int)≠9 by decide),(show(3:Int)≠12 by decide),?_,?_,?_⟩
   ·rw[Wa.hold1_e h1 (show(3:Int)≠0 by decide)];have:¬(s.lpn>=0/\s.lpn<(W.M.length:Int)):=by omega
    dsimp only;simp only[Bool.or_eq_false_iff,Bool.and_eq_false_iff,decide_eq_false_iff_not];omega
   ·rw[Wa.hold1_e h1 (show(3:Int)≠0 by decide)];exact h.calm
   ·rw[Wa.hold1_e h1 (show(3:Int)≠0 by decide)];exact hM
  ·rw[if_neg hi]at hr;rw[hr];obtain⟨k,hk⟩:∃k:Nat,s.lpn=(k:Int):=⟨s.lpn.toNat,by omega⟩;have hkl:k<lgN D B P:=by omega
   have hh:=Wa.hold1_0 (W:=W) (t:=⟨0,c s.lpn.toNat⟩) h1 rfl;rw[h.calm.saw,hk,Int.toNat_natCast,h.calm.may (by omega) (hM k hkl)]at hh;rw[hk,Int.toNat_natCast];refine⟨Z1,_,m1,c,rfl,hD1.less (by omega),by omega,hD1.c_len hkl,(show(0:Int)≠9 by decide),(show(0:Int)≠12 by decide),?_,?_,?_⟩
   ·rw[hh];rfl
   ·rw[hh];exact h.calm
   ·rw[hh];exact hM
 rw[if_neg h1]
 by_cases h2:s.fn=2
 ·rw[if_pos h2];obtain⟨er,c',w1,w2,w3⟩:=(hD1.less (k:=n+1) (by omega)).write s.lpn hd;dsimp only;rw[w1];rcases w3 with⟨rfl,q,rfl⟩ | ⟨q,rfl⟩
  ·obtain⟨k,hk⟩:∃k:Nat,s.lpn=(k:Int):=⟨s.lpn.toNat,by omega⟩;have hkl:k<lgN D B P:=by omega
   have hh:=Wa.hold2_0 (W:=W) (t:=⟨0,zd⟩) h2 rfl;rw[hk,Mv.inR_of (by omega)]at hh;obtain⟨g1,g2⟩:=h.calm.write (k:=k) (by omega) s.data;refine⟨_,_,m1,_,rfl,w2,by omega,rfl,(show(0:Int)≠9 by decide),(show(0:Int)≠12 by decide),?_,?_,λi hi=>?_⟩
   ·rw[hh];rfl
   ·rw[hh];exact g1
   ·rw[hh,g2 i (by omega),hM i hi,hk,Int.toNat_natCast]
  ·have e0:er≠0/\er≠9/\er≠12:=by omega
   have hh:=Wa.hold2_e (W:=W) (s:=s) (t:=⟨er,zd⟩) (.inl h2) e0.1;exact⟨_,_,m1,_,rfl,w2,by omega,rfl,e0.2.1,e0.2.2,by rw[hh],by rw[hh];exact h.calm,by rw[hh];exact hM⟩
 rw[if_neg h2]
 by_cases h3:s.fn=3
 ·rw[if_pos h3];obtain⟨er,c',w1,w2,w3⟩:=(hD1.less (k:=n+1) (by omega)).trim s.lpn;dsimp only;rw[w1];rcases w3 with⟨rfl,q,rfl⟩ | ⟨q,rfl⟩
  ·obtain⟨k,hk⟩:∃k:Nat,s.lpn=(k:Int):=⟨s.lpn.toNat,by omega⟩;have hkl:k<lgN D B P:=by omega
   have hh:=Wa.hold3_0 (W:=W) (t:=⟨0,zd⟩) h3 rfl;rw[hk,Mv.inR_of (by omega)]at hh;obtain⟨g1,g2⟩:=h.calm.write (k:=k) (by omega) zd;refine⟨_,_,m1,_,rfl,w2,by omega,rfl,(show(0:Int)≠9 by decide),(show(0:Int)≠12 by decide),?_,?_,λi hi=>?_⟩
   ·rw[hh];rfl
   ·rw[hh];exact g1
   ·rw[hh,g2 i (by omega),hM i hi,hk,Int.toNat_natCast];rfl
  ·have e0:er≠0/\er≠9/\er≠12:=by omega
   have hh:=Wa.hold2_e (W:=W) (s:=s) (t:=⟨er,zd⟩) (.inr h3) e0.1;exact⟨_,_,m1,_,rfl,w2,by omega,rfl,e0.2.1,e0.2.2,by rw[hh],by rw[hh];exact h.calm,by rw[hh];exact hM⟩
 rw[if_neg h3]
 by_cases h4:s.fn=4
 ·rw[if_pos h4];obtain⟨er,w1,w2,w3⟩:=(hD1.less (k:=n+200) (by omega)).flush;dsimp only;rw[w1]
  by_cases e0:er=0
  ·subst e0;have hh:=Wa.hold4_0 (W:=W) (s:=s) (t:=⟨0,zd⟩) h4 rfl;obtain⟨g1,g2⟩:=h.calm.flush;exact⟨_,_,m1,c,rfl,w2,by omega,rfl,(show(0:Int)≠9 by decide),(show(0:Int)≠12 by decide),by rw[hh],by rw[hh];exact g1,λi hi=>by rw[hh,g2 i (by omega),hM i hi]⟩
  ·have hh:=Wa.hold4_e (W:=W) (s:=s) (t:=⟨er,zd⟩) h4 e0;exact⟨_,_,m1,c,rfl,w2,by omega,rfl,by show er≠9;omega,by show er≠12;omega,by rw[hh],by rw[hh];exact h.calm,by rw[hh];exact hM⟩
 rw[if_neg h4];have hx:=λt=>Wa.hold_x (W:=W) (s:=s) (t:=t) h1 h2 h3 h4
 by_cases h5:s.fn=5
 ·rw[if_pos h5];obtain⟨er,w1,w2,w3⟩:=(hD1.less (k:=n+2) (by omega)).tick;dsimp only;rw[w1];exact⟨_,_,m1,c,rfl,w2,by omega,rfl,by show er≠9;omega,by show er≠12;omega,by rw[hx],by rw[hx];exact h.calm,by rw[hx];exact hM⟩
 rw[if_neg h5,if_neg h6,if_neg h7]
 by_cases h8':s.fn=8
 ·rw[if_pos h8'];have hf:=(hD1.less (k:=n) (by omega));rw[hd0]at hf;have hf2:=hf.faulted s.f.kind s.f.y s.f.z s.f.n s.f.xx;rw[<- hd0,<- h8 h8']at hf2;refine⟨_,_,m1+1,c,rfl,by rw[<- h8 h8'];exact hf2,by omega,by split<;>rfl,by split<;>decide,by split<;>decide,by rw[hx],by rw[hx];exact h.calm,by rw[hx];exact hM⟩
 rw[if_neg h8'];exact⟨Z1,_,m1,c,rfl,hD1.less (by omega),by omega,rfl,(show(1:Int)≠9 by decide),(show(1:Int)≠12 by decide),by rw[hx],by rw[hx];exact h.calm,by rw[hx];exact hM⟩
theorem ask_f (h:W.stuck=false) {s:Stp} (h8:s.fn=8):(W.ask s).f.x=W.die:=by unfold Wa.ask;rw[if_pos h8]
theorem pre (h:WtF D B P W Z (n+605) m b) {s:Stp} (h6:s.fn≠6) (h7:s.fn≠7) (hd:s.data.length=16):∃Z2,(W.P.step (W.ask s)).1.Z=some Z2/\Z2.S.N.off=false/\(W.P.step (W.ask s)).2.data.length=16:=by
 obtain⟨Z',t,m',c,e1,e2,_,e3,_⟩:=h.does (s:=W.ask s) (by rw[Wa.ask_fn];exact h6) (by rw[Wa.ask_fn];exact h7) (λh8=>ask_f h.stuck (by rw[Wa.ask_fn]at h8;exact h8)) (by unfold Wa.ask;split<;>exact hd);have hst:W.P.step (W.ask s)=({W.P with Z:=some Z',L:=C6 Z.S.N.ops W.P.L,log:=W.P.log++[t]},t):=by
  unfold Pv.step;rw[e1]
 rw[hst];exact⟨Z',rfl,e2.off,e3⟩
theorem step (h:WtF D B P W Z (n+605) m b) {s:Stp} (h6:s.fn≠6) (h7:s.fn≠7) (hd:s.data.length=16):∃Z' m',WtF D B P (W.step s) Z' n m' (b+1):=by
 have hf1:(W.ask s).fn=s.fn:=Wa.ask_fn W s;obtain⟨Z',t,m',c,e1,e2,e2',e3,e4,e5,e6,e7,e8⟩:=h.does (s:=W.ask s) (by rw[hf1];exact h6) (by rw[hf1];exact h7) (λh8=>ask_f h.stuck (by rw[hf1]at h8;exact h8)) (by unfold Wa.ask;split<;>exact hd);have hst:W.P.step (W.ask s)=({W.P with Z:=some Z',L:=C6 Z.S.N.ops W.P.L,log:=W.P.log++[t]},t):=by
  unfold Pv.step;rw[e1]
 have hb1:=h.b1;have hfew:=h.few;have hlate:=h.late;have hlog:(W.P.log++[t]).length<=b+1:=by rw[List.length_append,List.length_singleton];have:=h.log;omega
 have hnl:0<=(W.noted s).late/\(W.noted s).late<=(b+1:Nat):=by unfold Wa.noted;split<;>(try dsimp only)<;>omega
 have hnP:(W.noted s).P=W.P:=by unfold Wa.noted;split<;>rfl
 have hnM:(W.noted s).M=W.M:=by unfold Wa.noted;split<;>rfl
 have hnd:(W.noted s).die=W.die:=by unfold Wa.noted;split<;>rfl
 have hnw:(W.noted s).wrong=false:=by unfold Wa.noted;split<;>exact h.wrong
 have hns:(W.noted s).stuck=false:=by unfold Wa.noted;split<;>exact h.stuck
 have hnh:∀t,(W.noted s).hold (W.ask s) t=W.hold (W.ask s) t:=λt=>by unfold Wa.noted;split<;>rfl
 have hpl:∀f∈C6 Z.S.N.ops W.P.L,f.x=W.die:=λf hf=>h.pl f ((List.dropWhile_sublist _).subset hf);rw[Wa.step_eq h.stuck];generalize W.noted s=V at*;unfold Wa.step1
 by_cases hsk:Wa.skip (W.ask s)=true
 ·rw[if_pos hsk];obtain⟨c0,hD,hM⟩:=h.dev;exact⟨Z,m,⟨by rw[hnP];exact h.z,by rw[hnd];exact h.die,⟨c0,by rw[hnd];exact hD.less (by omega),by rw[hnM];exact hM⟩,by rw[hnM];exact h.calm,by rw[hnP,hnd];exact h.pl,by rw[hnP];omega,hns,hnw,by rw[hnM];exact h.len,by rw[hnM];exact h.fine.more (by omega),by rw[hnP];have:=h.log;omega,hnl,by omega⟩⟩
 rw[if_neg hsk,hnP,hst];dsimp only;have hM:=(Wa.hold_len W (W.ask s) t).trans h.len;have hF:=Wa.hold_fine (s:=W.ask s) h.fine hb1 (by unfold Wa.ask;split<;>exact hd) e3;rw[hf1,if_neg h7,hnh,e6,hnw];refine⟨Z',m',⟨rfl,by dsimp only;rw[hnd];exact h.die,⟨c,by dsimp only;rw[hnd];exact e2,e8⟩,e7,by dsimp only;rw[hnd];exact hpl,by dsimp only;omega,hns,?_,hM,hF,hlog,hnl,by omega⟩⟩;dsimp only;rw[decide_eq_false e4,decide_eq_false e5];simp
theorem new (die:Int) (fs:List Fl) (hD:3<=D/\D<=6) (hB:8<=B/\B<=16) (hP:2<=P/\P<=8) (hlg:1<=lgN D B P/\lgN D B P<=200/\2*lgN D B P<=(B-5)*(P*(D-2))+1) (hgm:l9 D B P=true):WtF D B P (Wa.new D B P die fs) (Fv.of (Dv.new D B P (lgN D B P))) 54500 0 1:=by
 have hz:(Wa.new D B P die fs).P.Z=some (Fv.of (Dv.new D B P (lgN D B P))):=by
  show(if(p5 (Nand.new D B P)).2=0 then some (Fv.of (p5 (Nand.new D B P)).1)else Option.none)=_;rw[a1q (Dv.Ok.new D B P (lgN D B P) hgm 0 (by decide))];rfl
 have hL:(Wa.new D B P die fs).P.L=x5 P5 (plF D B P (Wa.fl D die fs)):=rfl;have hfx:∀f∈Wa.fl D die fs,f.x=Wa.dieI die D:=λf hf=>by
  obtain⟨g,_,rfl⟩:=List.mem_map.1 hf;rfl
 have hpm:List.Perm (x5 P5 (plF D B P (Wa.fl D die fs))) (plF D B P (Wa.fl D die fs)):=Q3 _ _;have hd:0<=Wa.dieI die D/\Wa.dieI die D<D:=by
  unfold Wa.dieI;have:=a4q die D (by omega);have:=b1B die D (by omega);omega
 refine⟨hz,⟨(Wa.dieI die D).toNat,?_,by omega⟩,⟨_,DevF.new _ hD hB hP hlg.2.1 hgm,λi hi=>Mv.new_now _ (by omega) i⟩,Mv.Calm.new _,λf hf=>?_,?_,rfl,rfl,?_,λv hv=>?_,Nat.zero_le _,⟨Int.le_refl _,by show(0:Int)<=((1:Nat):Int);decide⟩,Nat.le_refl _⟩
 ·show Wa.dieI die D=_;omega
 ·rw[hL]at hf;exact hfx f (List.mem_filter.1 (hpm.mem_iff.1 hf)).1
 ·rw[hL,hpm.length_eq];have:=a7Y D B P (Wa.fl D die fs);have:(Wa.fl D die fs).length<=15:=by unfold Wa.fl;rw[List.length_map,List.length_take];omega
  omega
 ·show(Mv.new (lgN D B P)).length=_;unfold Mv.new;rw[List.length_replicate];omega
 ·obtain rfl:v=Mv.page0:=List.eq_of_mem_replicate hv;exact⟨rfl,by decide,by decide,by decide,by decide⟩
end WtF
end Go.Proofs.YtnffkcabeecopaaGreat
