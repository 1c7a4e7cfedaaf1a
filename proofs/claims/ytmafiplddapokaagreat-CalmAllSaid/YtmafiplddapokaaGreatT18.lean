/- Helpers. No condition. -/
import Derived.Test.YtmafiplddapokaaGreatT17
set_option maxRecDepth 20000
set_option linter.all false
namespace Go.Proofs.YtmafiplddapokaaGreat
open Go Go.RowKit
def b3b (U:WAd) (W:Wa) (Zl:List MSl):List Atom:=b9g U W::b9f U W::(a3G U.R Zl++a3f U.q U.nn U.A W.P)
def a9d (U:WAd) (W:Wa) (Zl:List MSl) (Z:Fv):List Atom:=[b9g U W,b9f U W]++a3G U.R Zl++([PlQ U.q U.nn (some Z) U.A.f (pp U.A.fp) (slv U.A.a2 W.P.log.length U.A.c2), .pt U.A.fp 218 [.slice (R6 U.A.a) W.P.L.length U.A.c],rdA (R6 U.A.a) 7 W.P.L.length (A7 W.P.L),l9 83 17 U.A.a2 W.P.log.length U.A.c2 (U0 W.P.log)]++FvP U.A.f U.A.p U.nn U.A.t U.A.l U.A.d Z)
theorem Z4 {W:Wa} {Z:Fv} (hZ:W.P.Z=some Z) (U:WAd) (Zl:List MSl):b3b U W Zl=a9d U W Zl Z:=by
 unfold b3b a9d;rw[T5 U.q U.nn U.A W.P Z hZ];rfl
theorem c1p (g0 g1 g2 die:Int) (A:Atom) (ad:Option Addr) (n c:Nat) (l:List Fl) (hA:Rd A ad 7 n (A7 l)) (hl:l.length=n):
  FP 21 [.agg #[iI g0,iI g1,iI g2],iI die, .slice ad n c] [A] (λv As=>∃(D B P:Nat) (U:WAd) (Zl:List MSl),v=pp U.w/\(3<=D/\D<=6)/\(8<=B/\B<=16)/\(2<=P/\P<=8)/\U.A.Ok (Wa.new D B P die l).P/\Zl.map (·.v)=(Wa.new D B P die l).M/\As=A::b3b U (Wa.new D B P die l) Zl):=by
 refine FE [0,0,0] Tryz.func21 λX F hX=>?_;refine J.q λbb=>?_;refine J.cb (c1U g0 g1 g2) [] ?_;rintro v As ⟨D,B,P,rfl,hD,hB,hP,rfl⟩;refine⟨_,rfl,trivial,?_⟩;have hgm:L4 D B P=true:=by simp[L4];omega
 have hgb:=b4H hD hB hP;have ht1:=b1P die D (by omega);have ht2:=b9C die D (by omega);refine J.pq (.of [0,4,9,12,16,21,24,28,33,36,41,46,50,52,58,60]) [15] [2] λ_ _=>?_;obtain⟨u,hu⟩:∃u,(die.tmod D+D).tmod D=u:=⟨_,rfl⟩;rw[hu];refine J.qp (b3M D B P hgm) [] λ_=>?_;refine J.qc (b1l (lgN D B P) (lgN D B P) (by omega)) [] λ_=>?_;rintro v As ⟨R,Zl,rfl,rfl,hZl⟩;refine⟨_,rfl,stq,?_⟩;refine J.q λbw=>?_;refine J.turn1 [] rfl (As:=[l9 41 7 none 0 0 (A7 [])]) (λh s=>Sep.one ⟨rfl,rfl,rfl⟩) rfl ?_;refine J.q λ_=>?_;refine J.l (α:=(Nat×Option Nat×Nat)) (λz=>z.1<=n/\z.1<=15) (λz=>[si 9 z.1,sv 8 (slv z.2.1 z.1 z.2.2),⟨7,pp (bw 0),11, .tt⟩,sv 2 (.slice ad n c),⟨3,pp (bb 0),3, .tt⟩]) [11] (λz=>[l9 41 7 z.2.1 z.1 z.2.2 (A7 ((l.take z.1).map (Wa.fx u)))]) (λz=>15-z.1) ((0,none,0)) (⟨j8 _,j8 _⟩) λz hI=>?_;obtain⟨k,ga,ca⟩:=z;dsimp only at hI ⊢;obtain⟨hk1,hk2⟩:=hI;refine J.qd (λ_ h1=>?_) λ_ h1=>?_
 ·simp only[f8,d6,i6]at h1;obtain⟨h1,h2⟩:=h1;have h2:k<15:=by omega
  obtain⟨x,hx⟩:∃x,l[k]? =some x:=⟨_,c9 (by omega)⟩;refine J.know (p:=∃g o,ad=some ⟨g,o,none⟩) (λh' s=>Rd.addr (hA _ (s.get (i:=1) rfl)) (by omega)) λhk2=>?_;obtain⟨g,o,rfl⟩:=hk2;refine J.q λ_=>?_;refine J.v (flV x) rfl rfl (λhg a w he hw=>?_) ?_
  ·exact a2x tk rfl rfl he rfl rfl rfl (hA _ (hw.get (i:=1) rfl)) (by omega) (j:=k*7) (by omega) (by have:=Y8 l [] k _ hx;rwa [l8]at this) rfl
  refine J.q λ_=>?_;refine J.ap 11 13 0 (a5O ((l.take k).map (Wa.fx u)) (Wa.fx u x)) λa3 c3=>?_;rw[show(l.take k).map (Wa.fx u)++[Wa.fx u x]=(l.take (k+1)).map (Wa.fx u)from by rw[D2,hx];simp];refine J.q λ_=>?_;refine J.n ((k+1,a3,c3)) (⟨by dsimp only;omega,by dsimp only;omega⟩) (by dsimp only;omega) [0,1,2,3,4,5,6,7,8,9,10,11]
 have hk3:l.take k=l.take 15:=by
  simp only[Bool.and_eq_false_iff,c8,i6]at h1;rcases L8 k n with h | h
  ·have:k=15:=by omega
   rw[this]
  ·rw[x9 (by omega),x9 (by omega)]
 have hfl:(l.take 15).map (Wa.fx u)=Wa.fl D die l:=by unfold Wa.fl Wa.dieI;rw[hu]
 rw[hk3,hfl];have hkl:k=(Wa.fl D die l).length:=by rw[<- hfl,j5,<- hk3,l5];omega
 clear hk3 hk1 h1;subst hkl;obtain⟨fs,hfs⟩:∃fs,Wa.fl D die l=fs:=⟨_,rfl⟩;rw[hfs]at hk2 ⊢;have hz:(Pv.new D B P fs).Z=some (Fv.of (Dv.new D B P (lgN D B P))):=by
  show(if(O4 (Nand.new D B P)).2=0 then some (Fv.of (O4 (Nand.new D B P)).1)else none)=_;rw[a9V (Dv.Ok.new D B P (lgN D B P) hgm 0 (by decide))];rfl
 refine J.qc (b7q D B P hgm (l9 41 7 ga fs.length ca (A7 fs)) (oad ga) fs.length ca fs (Y6 _ _ _ _ _ _) rfl hk2) [11] λ_=>?_;rintro _ As ⟨q,nn,A0,rfl,hA0,rfl⟩;rw[T5 q nn A0 _ _ hz];refine⟨_,rfl,stq,?_⟩;refine J.qr [1,10,11,3,4,5,6,7,8,9,12,13,14,15,16,17,18,19,20,21] λ_=>?_;refine⟨D,B,P,⟨bw 0,q,nn,A0,R,ga,ca⟩,Zl,rfl,hD,hB,hP,?_,hZl,?_⟩
 ·show A0.Ok (Pv.new D B P (Wa.fl D die l));rw[hfs];exact hA0
 ·have hw:Wa.new D B P die l=⟨Pv.new D B P fs,Mv.new (lgN D B P),u,false,false,false,fs,0,0⟩:=by unfold Wa.new;rw[hfs];unfold Wa.dieI;rw[hu]
  rw[hw];unfold b3b b9g b9f;dsimp only;rw[T5 q nn A0 _ _ hz];rfl
theorem Mv.write_len (M:List MPv) (i:Int) (d:List UInt8):(Mv.write M i d).length=M.length:=by unfold Mv.write;split<;>simp
theorem Mv.saw_len (M:List MPv) (i:Int) (d:List UInt8):(Mv.saw M i d).length=M.length:=by unfold Mv.saw;split<;>simp
theorem Mv.flush_len (M:List MPv):(Mv.flush M).length=M.length:=by unfold Mv.flush;simp
theorem Mv.cut_len (M:List MPv):(Mv.cut M).length=M.length:=by unfold Mv.cut;simp
def Mv.Fine (M:List MPv) (b:Nat):Prop:=∀v∈M,v.now.length=16/\(∀x∈v.may,x.length=16)/\(∀x∈v.ever,x.length=16)/\v.may.length<=b/\v.ever.length<=b
theorem Mv.Fine.more {M:List MPv} {b c:Nat} (h:Mv.Fine M b) (hb:b<=c):Mv.Fine M c:=λv hv=>by
 obtain⟨f1,f2,f3,f4,f5⟩:=h v hv;exact⟨f1,f2,f3,by omega,by omega⟩
theorem Mv.Fine.set {M:List MPv} {b:Nat} (h:Mv.Fine M b) {k:Nat} {v:MPv} (hv:v.now.length=16/\(∀x∈v.may,x.length=16)/\(∀x∈v.ever,x.length=16)/\v.may.length<=b/\v.ever.length<=b):Mv.Fine (M.set k v) b:=λx hx=>by
 rcases List.mem_or_eq_of_mem_set hx with h' | h'
 ·exact h x h'
 ·rw[h'];exact hv
theorem Mv.Fine.pg {M:List MPv} {b:Nat} (h:Mv.Fine M b) (hb:1<=b) (i:Int):(Mv.pg M i).now.length=16/\(∀x∈(Mv.pg M i).may,x.length=16)/\(∀x∈(Mv.pg M i).ever,x.length=16)/\(Mv.pg M i).may.length<=b/\(Mv.pg M i).ever.length<=b:=by
 unfold Mv.pg;rw[d5];cases hx:M[i.toNat]? with
 | none=>exact⟨rfl,by decide,by decide,hb,hb⟩
 | some v=>exact h v (j9 hx)
theorem Mv.Fine.write {M:List MPv} {b:Nat} (h:Mv.Fine M b) (hb:1<=b) (i:Int) {d:List UInt8} (hd:d.length=16):Mv.Fine (Mv.write M i d) (b+1):=by
 unfold Mv.write;split
 ·obtain⟨f1,f2,f3,f4,f5⟩:=h.pg hb i;refine(h.more (by omega)).set ⟨hd,λx hx=>?_,λx hx=>?_,?_,?_⟩
  ·rcases List.mem_append.1 hx with h' | h'
   ·exact f2 x h'
   ·rw[List.mem_singleton.1 h'];exact hd
  ·rcases List.mem_append.1 hx with h' | h'
   ·exact f3 x h'
   ·rw[List.mem_singleton.1 h'];exact hd
  ·show((Mv.pg M i).may++[d]).length<=_;rw[d8,L6];omega
  ·show((Mv.pg M i).ever++[d]).length<=_;rw[d8,L6];omega
 ·exact h.more (by omega)
theorem Mv.Fine.saw {M:List MPv} {b:Nat} (h:Mv.Fine M b) (hb:1<=b) (i:Int) {d:List UInt8} (hd:d.length=16):Mv.Fine (Mv.saw M i d) b:=by
 unfold Mv.saw;split
 ·obtain⟨f1,f2,f3,f4,f5⟩:=h.pg hb i;refine h.set ?_;unfold Mv.seen;split
  ·exact⟨hd,λx hx=>by rw[List.mem_singleton.1 hx];exact hd,f3,hb,f5⟩
  ·exact⟨f1,f2,f3,f4,f5⟩
 ·exact h
theorem Mv.Fine.flush {M:List MPv} {b:Nat} (h:Mv.Fine M b) (hb:1<=b):Mv.Fine (Mv.flush M) b:=λv hv=>by
 unfold Mv.flush at hv;obtain⟨x,hx,rfl⟩:=List.mem_map.1 hv;obtain⟨f1,f2,f3,f4,f5⟩:=h x hx;show(if x.op then x else {x with may:=[x.now]}).now.length=16/\(∀y∈(if x.op then x else {x with may:=[x.now]}).may,y.length=16)/\(∀y∈(if x.op then x else {x with may:=[x.now]}).ever,y.length=16)/\(if x.op then x else {x with may:=[x.now]}).may.length<=b/\(if x.op then x else {x with may:=[x.now]}).ever.length<=b;split
 ·exact⟨f1,f2,f3,f4,f5⟩
 ·exact⟨f1,λy hy=>by rw[List.mem_singleton.1 hy];exact f1,f3,hb,f5⟩
theorem Mv.Fine.cut {M:List MPv} {b:Nat} (h:Mv.Fine M b):Mv.Fine (Mv.cut M) b:=λv hv=>by
 unfold Mv.cut at hv;obtain⟨x,hx,rfl⟩:=List.mem_map.1 hv;exact h x hx
namespace Wa
variable {W : Wa} {s : Stp}
theorem hold_len (W:Wa) (s:Stp) (t:Td):(W.hold s t).1.length=W.M.length:=by
 unfold hold
 repeat' split
 all_goals first | rfl | exact Mv.saw_len _ _ _ | exact Mv.write_len _ _ _ | exact Mv.flush_len _
theorem hold_fine {b:Nat} (h:Mv.Fine W.M b) (hb:1<=b) (hd:s.data.length=16) {t:Td} (ht:t.data.length=16):Mv.Fine (W.hold s t).1 (b+1):=by
 have hz:(if s.fn=3 then zd else s.data).length=16:=by split;(· rfl);exact hd
 unfold hold
 repeat' split
 all_goals first | exact h.more (a7l _) | exact(h.saw hb _ ht).more (a7l _) | exact h.write hb _ hz | exact h.write hb _ (show zd.length=16 from rfl) | exact h.write hb _ hd | exact(h.flush hb).more (a7l _)
end Wa
theorem Pv.run_none {P:Pv} {Z:Fv} (hZ:P.Z=some Z) (hL:P.L=[]):P.run=P:=by
 have hnd:P.nd=Z.S.N:=by unfold Pv.nd;rw[hZ]
 cases P;dsimp only at hZ hL;subst hZ hL;rfl
namespace Wa
variable {W : Wa} {s : Stp}
def step1 (W:Wa) (s:Stp):Wa:=
 if skip s then W
 else
  let r:=W.P.step s
  let off:=r.1.nd.off
  let h:=W.hold s r.2
  let W2:Wa:={W with P:=r.1,M:=h.1,wrong:=W.wrong||h.2,full:=W.full||(decide (r.2.err=11)&&decide (s.fn≠7))}
  if s.fn=7 then
   let st:=decide (r.2.err=11)&& !off&&decide (W2.lates>1)
   let W3:Wa:={W2 with M:=Mv.cut W2.M,stuck:=st,wrong:=W2.wrong||(decide (r.2.err≠0)&& !off&& !st)}
   if r.2.err=0 then {W3 with since:=r.1.nd.ops,late:=0}else W3
  else {W2 with wrong:=W2.wrong||(W.on&& !off&&(decide (r.2.err=9)||decide (r.2.err=12)))}
def noted (W:Wa) (s:Stp):Wa:=if s.fn=8 then {W with late:=W.late+1}else W
theorem ask_fn (W:Wa) (s:Stp):(W.ask s).fn=s.fn:=by unfold ask;split<;>rfl
theorem ask_skip (W:Wa) (s:Stp):skip (W.ask s)=skip s:=by unfold ask skip;split<;>rfl
theorem step_eq (hst:W.stuck=false):W.step s=(W.noted s).step1 (W.ask s):=by
 by_cases h8:s.fn=8
 ·have hn:W.noted s={W with late:=W.late+1}:=by unfold noted;rw[d7 h8]
  have h3:∀t,W.hold (W.ask s) t=W.hold s t:=λt=>by
   unfold hold;rw[ask_fn,h8];rfl
  have h4:({W with late:=W.late+1}:Wa).hold (W.ask s)=W.hold s:=funext h3;rw[hn];unfold step1;rw[ask_skip,ask_fn,h4];unfold step;rw[d4 (show¬W.stuck=true by rw[hst];decide),d7 h8];dsimp only;rw[d4 (show¬s.fn=7 by omega),d4 (show¬s.fn=7 by omega)];rfl
 ·have hn:W.noted s=W:=by unfold noted;rw[d4 h8]
  have ha:W.ask s=s:=by unfold ask;rw[d4 h8]
  rw[hn,ha];unfold step;rw[d4 (show¬W.stuck=true by rw[hst];decide),d4 h8,ha];rfl
theorem step_skip (h:skip s=true):W.step1 s=W:=by
 unfold step1;rw[d7 h]
theorem step_mount (hst:W.stuck=false) (h7:s.fn=7) (h:skip s=false) (he:(W.P.step s).2.err=0):W.step1 s={W with P:=(W.P.step s).1,M:=Mv.cut W.M,stuck:=false,since:=(W.P.step s).1.nd.ops,late:=0}:=by
 unfold step1;simp only[h,h7,he];unfold hold;simp[h7,he]
theorem step_else (hst:W.stuck=false) (h7:s.fn≠7) (h:skip s=false) (hon:W.on=true) (hoff:(W.P.step s).1.nd.off=false):W.step1 s={W with P:=(W.P.step s).1,M:=(W.hold s (W.P.step s).2).1,wrong:=(W.wrong||(W.hold s (W.P.step s).2).2)||(decide ((W.P.step s).2.err=9)||decide ((W.P.step s).2.err=12)),full:=W.full||decide ((W.P.step s).2.err=11)}:=by
 unfold step1;simp[h,h7,hon,hoff]
variable {t : Td}
theorem hold1_0 (h1:s.fn=1) (he:t.err=0):W.hold s t=(Mv.saw W.M s.lpn t.data,!Mv.may W.M s.lpn t.data):=by unfold hold;simp[h1,he]
theorem hold1_e (h1:s.fn=1) (he:t.err≠0):W.hold s t=(W.M,(decide (t.err=10)||decide (t.err=11))||(decide (t.err=3)&&decide (s.lpn>=0)&&decide (s.lpn<(W.M.length:Int)))):=by unfold hold;simp[h1,he]
theorem hold2_0 (h2:s.fn=2) (he:t.err=0):W.hold s t=(Mv.write W.M s.lpn s.data,!Mv.inR W.M s.lpn):=by unfold hold;simp[h2,he]
theorem hold3_0 (h3:s.fn=3) (he:t.err=0):W.hold s t=(Mv.write W.M s.lpn zd,!Mv.inR W.M s.lpn):=by unfold hold;simp[h3,he]
theorem hold2_e (h1:s.fn=2\/s.fn=3) (he:t.err≠0):W.hold s t=(W.M,false):=by
 unfold hold;rcases h1 with h | h<;>simp[h,he]
theorem hold4_0 (h4:s.fn=4) (he:t.err=0):W.hold s t=(Mv.flush W.M,false):=by unfold hold;simp[h4,he]
theorem hold4_e (h4:s.fn=4) (he:t.err≠0):W.hold s t=(W.M,false):=by unfold hold;simp[h4,he]
theorem hold_x (h1:s.fn≠1) (h2:s.fn≠2) (h3:s.fn≠3) (h4:s.fn≠4):W.hold s t=(W.M,false):=by unfold hold;simp[h1,h2,h3,h4]
end Wa
theorem a9f {R:RAd} {Z:List MSl} {n:Nat} (h:Z.length=n):a3G R Z=[.pt R.q 68 [.slice (some ⟨R.n,0,none⟩) n n, .slice (some ⟨R.o,0,none⟩) n n, .slice (some ⟨R.m,0,none⟩) n n, .slice (some ⟨R.e,0,none⟩) n n], .pt R.n 36 (a1a Z), .pt R.o 4 (opC Z), .pt R.m 60 (a0q Z), .pt R.e 60 (Y0 Z), .hp (HP.of (Z.map MSl.m1)), .hp (HP.of (Z.map MSl.m2))]:=by subst h;rfl
namespace Wa
theorem step_elseO {W:Wa} {s:Stp} (hst:W.stuck=false) (h7:s.fn≠7) (h:skip s=false) (hoo:¬(W.on=true/\(W.P.step s).1.nd.off=false)):W.step1 s={W with P:=(W.P.step s).1,M:=(W.hold s (W.P.step s).2).1,wrong:=W.wrong||(W.hold s (W.P.step s).2).2,full:=W.full||decide ((W.P.step s).2.err=11)}:=by
 have hz:(W.on&& !(W.P.step s).1.nd.off)=false:=by
  cases h1:W.on with
  | false=>rfl
  | true=>
   cases h2:(W.P.step s).1.nd.off with
   | true=>rfl
   | false=>exact absurd ⟨h1,h2⟩ hoo
 unfold step1;simp[h,h7,hz]
end Wa
set_option maxHeartbeats 1000000 in
theorem b1G (U:WAd) (W:Wa) (Zl:List MSl) (hA:U.A.Ok W.P) (Z:Fv) (hZ:W.P.Z=some Z) (k m:Nat) (hO:Z.Ok (Fv.cW*200+(Dv.costS+(Dv.costK+(1+k)))) m) (hm:m+(V4 Z.S.N.ops W.P.L).length<=1000) (hL:W.P.L.length<=1000) (hlg:W.P.log.length<=1000) (s:Stp) (hs:s.data.length=16) (hst:W.stuck=false) (h8:s.fn≠8) (hnx:Wa.skip s=false->∃Z2,(W.P.step s).1.Z=some Z2/\(s.fn=7->(W.P.step s).2.err=0/\Z2.S.N.off=false)/\(W.P.step s).2.data.length=16) (hM:Zl.map (·.v)=W.M) (hf:∀z∈Zl,z.Fine) (hn:Zl.length<=65536):
  FP 22 [pp U.w,stV s] (b3b U W Zl) (λv As=>∃(A':Pad) (Zl':List MSl),v= .tuple #[]/\A'.Ok (W.step s).P/\Zl'.map (·.v)=(W.step s).M/\As=b3b {U with A:=A'} (W.step s) Zl'):=by
 have hask:W.ask s=s:=by unfold Wa.ask;rw[d4 h8]
 have hnoted:W.noted s=W:=by unfold Wa.noted;rw[d4 h8]
 have hstep:W.step s=W.step1 s:=by have:=Wa.step_eq (W:=W) (s:=s) hst;rw[hask,hnoted]at this;exact this
 rw[hstep];clear hask hnoted hstep;have hon:W.on= !Z.S.N.off:=by unfold Wa.on Pv.nd;rw[hZ];simp
 have hps:=a7t U.q U.nn U.A W.P hA Z hZ k m hO hm hL hlg s hs;rw[T5 U.q U.nn U.A W.P Z hZ]at hps;have hW0:b3b U W Zl=[b9g U W,b9f U W]++a3G U.R Zl++([PlQ U.q U.nn (some Z) U.A.f (pp U.A.fp) (slv U.A.a2 W.P.log.length U.A.c2), .pt U.A.fp 218 [.slice (R6 U.A.a) W.P.L.length U.A.c],rdA (R6 U.A.a) 7 W.P.L.length (A7 W.P.L),l9 83 17 U.A.a2 W.P.log.length U.A.c2 (U0 W.P.log)]++FvP U.A.f U.A.p U.nn U.A.t U.A.l U.A.d Z):=by
  unfold b3b;rw[T5 U.q U.nn U.A W.P Z hZ];rfl
 obtain⟨w,q,nn,A,R,fa,fc⟩:=U;obtain⟨P,M,die,wrong,full,stuck,fs,since,late⟩:=W;dsimp only at*;subst hst;rw[hW0];unfold b9g b9f;dsimp only;refine FE [2,0] Tryz.func22 λX F hX=>?_;refine J.q λbz=>?_;refine J.cF ?_;refine J.q λ_=>?_;rw[show(s.fn==8)=false from beq_eq_false_iff_ne.2 h8];refine J.qF λ_=>?_;refine J.qd (λ_ hk=>?_) λ_ hk=>?_
 ·have hsk:Wa.skip s=true:=hk;refine J.qr [1,2,3,4,5,6,7,8,9,10,11,12,13,14,15,16,17,18,19] λ_=>?_;rw[Wa.step_skip hsk];exact⟨A,Zl,rfl,hA,hM,by rw[Z4 (Z:=Z) hZ];rfl⟩
 have hsk:Wa.skip s=false:=hk;obtain⟨Z2,hZ2,hmt,htd⟩:=hnx hsk;have hnd:(P.step s).1.nd=Z2.S.N:=by unfold Pv.nd;rw[hZ2]
 have hse:=λh7 hon hoff3=>Wa.step_else (W:=⟨P,M,die,wrong,full,false,fs,since,late⟩) (s:=s) rfl h7 hsk hon hoff3;have hsO:=λh7 hoo=>Wa.step_elseO (W:=⟨P,M,die,wrong,full,false,fs,since,late⟩) (s:=s) rfl h7 hsk hoo;have hsm:=λh7=>Wa.step_mount (W:=⟨P,M,die,wrong,full,false,fs,since,late⟩) (s:=s) rfl h7 hsk (hmt h7).1;obtain⟨P2,td,hPt⟩:∃P2 td,P.step s=(P2,td):=⟨_,_,rfl⟩;dsimp only at hse hsO hsm;rw[hPt]at hps hZ2 hmt htd hnd hse hsO hsm;dsimp only at hps hZ2 hmt htd hnd hse hsO hsm;rw[hon,hnd]at hse hsO;refine J.qn 2 λb7=>?_;refine J.join (α:=Unit) (λ_=>[sv 4 (.bool (!Z.S.N.off)),⟨3,pp (bz 0),21, .tt⟩,⟨0,pp w,2, .tt⟩]) (λ_=> .hp F::(a9d ⟨w,q,nn,A,R,fa,fc⟩ ⟨P,M,die,wrong,full,false,fs,since,late⟩ Zl Z++[.pt (bz 0) 53 (stC s)])) (λhj=>?_) (λ_=>?_)
 ·refine J.qc (a7u q nn (flP (some Z) A.f) (pp A.fp) (slv A.a2 P.log.length A.c2)) [10] λ_=>?_;rintro _ As ⟨rfl,rfl⟩;refine⟨_,rfl,trivial,?_⟩;refine J.qc (a3r nn Z.S.N) [16] λ_=>?_;rintro _ As ⟨rfl,rfl⟩;refine⟨_,rfl,trivial,?_⟩
  by_cases hzo:Z.S.N.off=false
  ·rw[hzo]at hj ⊢;refine J.qc (a4U q nn (some Z) A.f (pp A.fp) (slv A.a2 P.log.length A.c2)) [10] λ_=>?_;rintro _ As ⟨rfl,rfl⟩;refine⟨_,rfl,trivial,?_⟩;refine J.qn 4 λ_=>?_;exact J.goto [0,1,2,3,4,5,6,7,8,9,10,11,12,13,14,15,16,17,18,19,20] (hj ()) ⟨rfl,rfl,rfl,trivial⟩ rfl rfl
  ·have hzo:Z.S.N.off=true:=by simpa using hzo
   rw[hzo]at hj ⊢;refine J.q λ_=>?_;refine J.gcase hX rfl rfl rfl trivial (λhb=>by simp at hb) (λhb=>?_);refine J.v (.bool true) rfl rfl (λhg aa w he hw=>by simp[G.on]at hg) ?_;refine J.qn 3 λ_=>?_;exact J.goto [0,1,2,3,4,5,6,7,8,9,10,11,12,13,14,15,16,17,18,19,20] (hj ()) ⟨rfl,rfl,rfl,trivial⟩ rfl rfl
 unfold a9d;dsimp only;refine J.pn 5 (.take true 0 (.take true 1 (.take true 2 (.take false 3 (.take false 4 (.alt false 5 ((.of [26,31])) (.alt false 6 ((.of [22,31])) .non))))))) [7] [1,20] λ_ _=>?_;refine J.join (α:={A':Pad//A'.Ok P2}×Nat) (λx=>[⟨5,pp x.2,22, .tt⟩,sv 4 (.bool (!Z.S.N.off)),⟨3,pp (bz 0),21, .tt⟩,⟨0,pp w,2, .tt⟩]) (λx=> .hp F::(a9d ⟨w,q,nn,x.1.1,R,fa,fc⟩ ⟨P2,M,die,wrong,full,false,fs,since,late⟩ Zl Z2++[.pt (bz 0) 53 (stC s), .pt x.2 83 (tdC td)])) (λhj=>?_) (λx=>?_)
 ·refine J.alts ?_ ?_
  ·skip
   refine J.qc (hps) [10,11,12,13,14,15,16,17,18,19] λ_=>?_;rintro _ As ⟨A',rfl,hA',rfl⟩;rw[T5 q nn A' P2 Z2 hZ2];refine⟨_,rfl,stq,?_⟩;refine J.qn 2 λbt=>?_;exact J.goto [0,1,2,3,4,5,6,7,8,9,10,11,12,13,14,15,16,17,18,19,20,21] (hj (⟨A',hA'⟩,bt 0)) ⟨rfl,rfl,rfl,rfl,trivial⟩ rfl rfl
  ·skip
   refine J.qn 1 λbt=>?_;refine J.qc (hps) [10,11,12,13,14,15,16,17,18,19] λ_=>?_;rintro _ As ⟨A',rfl,hA',rfl⟩;rw[T5 q nn A' P2 Z2 hZ2];refine⟨_,rfl,stq,?_⟩;refine J.qn 1 λ_=>?_;exact J.goto [0,1,2,3,4,5,6,7,8,9,10,11,12,13,14,15,16,17,18,19,20,21] (hj (⟨A',hA'⟩,bt 0)) ⟨rfl,rfl,rfl,rfl,trivial⟩ rfl rfl
 obtain⟨⟨A',hA'⟩,bt⟩:=x;unfold a9d;dsimp only;refine J.qc (a7u q nn (flP (some Z2) A'.f) (pp A'.fp) (slv A'.a2 P2.log.length A'.c2)) [10] λ_=>?_;rintro _ As ⟨rfl,rfl⟩;refine⟨_,rfl,trivial,?_⟩;refine J.qc (a3r nn Z2.S.N) [16] λ_=>?_;rintro _ As ⟨rfl,rfl⟩;refine⟨_,rfl,trivial,?_⟩;obtain⟨e,dt⟩:=td;dsimp only at htd hmt hse hsO hsm;refine J.qn 9 λ_=>?_;refine J.join (α:={x:List MSl×Bool//x.1.map (·.v)=(Wa.hold ⟨P,M,die,wrong,full,false,fs,since,late⟩ s ⟨e,dt⟩).1/\x.2=(Wa.hold ⟨P,M,die,wrong,full,false,fs,since,late⟩ s ⟨e,dt⟩).2}) (λx=>[sv 6 (.bool (!!Z2.S.N.off)),⟨5,pp bt,22, .tt⟩,sv 4 (.bool (!Z.S.N.off)),⟨3,pp (bz 0),21, .tt⟩,⟨0,pp w,2, .tt⟩]) (λx=> .hp F::(a9d ⟨w,q,nn,A',R,fa,fc⟩ ⟨P2,M,die,x.1.2||wrong,full,false,fs,since,late⟩ x.1.1 Z2++[.pt (bz 0) 53 (stC s), .pt bt 83 (tdC ⟨e,dt⟩)])) (λhj=>?_) (λx=>?_)
 ·refine J.qd (λ_ f1=>?_) λ_ f1=>?_
  ·have f1:s.fn=1:=beq_iff_eq.1 f1
   by_cases e0:e=0
   ·subst e0;have hh:=Wa.hold1_0 (W:=⟨P,M,die,wrong,full,false,fs,since,late⟩) (t:=⟨0,dt⟩) f1 rfl;refine J.p (.of [0,5,8,12,16,20,24,29,32,37,40,45,50,52,56,60,64,69,72,76,80,84,89,92,96,100,104,109,112,116,120,125,128,132,136,140,145,148,152,156,161,164,168,173,176,180,184,188]) [] [1,3,20,21] λ_=>?_;refine J.qc (c0K R Zl hn hf s.lpn dt htd) [3,4,5,6,7,8,9] λ_=>?_;rintro _ As ⟨Zl',rfl,rfl,hZl'⟩;have hzl:Zl'.length=Zl.length:=by have:=congrArg List.length hZl';rw[Mv.saw_len]at this;simpa using this
    rw[a9f hzl];refine⟨_,rfl,stq,?_⟩;rw[hM]at hZl' ⊢;refine J.q λ_=>?_;refine J.vT (.slice (some ⟨R.n,0,none⟩) Zl.length Zl.length) rfl rfl (λhg aa w he hC=>B6 tk rfl rfl he hg rfl rfl (hC rfl _ (C0 (i:=3) rfl)) rfl) ?_;refine J.q λ_=>?_;dsimp only;refine J.qd (λ_ hw=>?_) λ_ hw=>?_
    ·have hw:(!Mv.may M s.lpn dt)=true:=by simpa using hw
     refine J.qn 5 λ_=>?_;exact J.goto [0,1,2,3,4,5,6,7,8,9,10,11,12,13,14,15,16,17,18,19,20,21] (hj ⟨(Zl',true),by rw[hh];exact hZl',by rw[hh];exact hw.symm⟩) ⟨rfl,rfl,rfl,rfl,rfl,trivial⟩ rfl (by unfold a9d;dsimp only;rw[a9f hzl];rfl)
    ·have hw:(!Mv.may M s.lpn dt)=false:=by simpa using hw
     refine J.qn 2 λ_=>?_;exact J.goto [0,1,2,3,4,5,6,7,8,9,10,11,12,13,14,15,16,17,18,19,20,21] (hj ⟨(Zl',false),by rw[hh];exact hZl',by rw[hh];exact hw.symm⟩) ⟨rfl,rfl,rfl,rfl,rfl,trivial⟩ rfl (by unfold a9d;dsimp only;rw[a9f hzl];rfl)
   ·have hh:=Wa.hold1_e (W:=⟨P,M,die,wrong,full,false,fs,since,late⟩) (t:=⟨e,dt⟩) f1 e0;refine J.pn 3 (.of [0,5,8,12,16,20,24,29,32,37,40,45,50,52,56,60,64,69,72,76,80,84,89,92,96,100,104,109,112,116,120,125,128,132,136,140,145,148,152,156,161,164,168,173,176,180,184,188]) [] [1,3,20,21] λ_ _=>?_;dsimp only;rw[beq_eq_false_iff_ne.2 e0];refine J.q λ_=>?_;refine J.gcase hX rfl rfl rfl stq (λhb=>by simp at hb) (λhb=>?_);refine J.q λ_=>?_;refine J.vT (.bool true) rfl rfl (λhg aa w he hC=>by simp[G.on]at hg) ?_;refine J.r hX tk 400 (λ_=>rfl) (λ_=>?_) (λ_=>by(repeat' (first | exact Conj.nil | refine Conj.cons ?_ ?_ | exact rfl | assumption | (rw[i4];assumption) | exact Bool.and_eq_true_iff.2 ⟨by first | assumption | (rw[i4];assumption),by assumption⟩ | intro hq | (simp;done) | (simp;omega) | decide)));refine J.vT (.slice (some ⟨R.n,0,none⟩) Zl.length Zl.length) rfl rfl (λhg aa w he hC=>B6 tk rfl rfl he hg rfl rfl (hC rfl _ (C0 (i:=3) rfl)) rfl) ?_;refine J.r hX tk 400 (λ_=>rfl) (λ_=>?_) (λ_=>by(repeat' (first | exact Conj.nil | refine Conj.cons ?_ ?_ | exact rfl | assumption | (rw[i4];assumption) | exact Bool.and_eq_true_iff.2 ⟨by first | assumption | (rw[i4];assumption),by assumption⟩ | intro hq | (simp;done) | (simp;omega) | decide)));dsimp only;refine J.qd (λ_ hw=>?_) λ_ hw=>?_
    ·have hw:((decide (e=10)||decide (e=11))||(decide (e=3)&&decide (s.lpn>=0)&&decide (s.lpn<(M.length:Int))))=true:=by
      rw[<- hM,j5];simpa using hw
     refine J.qn 5 λ_=>?_;exact J.goto [0,1,2,3,4,5,6,7,8,9,10,11,12,13,14,15,16,17,18,19,20,21] (hj ⟨(Zl,true),by rw[hh];exact hM,by rw[hh];exact hw.symm⟩) ⟨rfl,rfl,rfl,rfl,rfl,trivial⟩ rfl rfl
    ·have hw:((decide (e=10)||decide (e=11))||(decide (e=3)&&decide (s.lpn>=0)&&decide (s.lpn<(M.length:Int))))=false:=by
      rw[<- hM,j5];simpa using hw
     refine J.qn 2 λ_=>?_;exact J.goto [0,1,2,3,4,5,6,7,8,9,10,11,12,13,14,15,16,17,18,19,20,21] (hj ⟨(Zl,false),by rw[hh];exact hM,by rw[hh];exact hw.symm⟩) ⟨rfl,rfl,rfl,rfl,rfl,trivial⟩ rfl rfl
  ·have f1:s.fn≠1:=beq_eq_false_iff_ne.1 f1;refine J.q λ_=>?_
   by_cases f2:s.fn=2
   ·rw[beq_iff_eq.2 f2];refine J.qT λ_=>?_;refine J.qT λ_=>?_;refine J.q λb7=>?_;rw[show(s.fn==3)=false from beq_eq_false_iff_ne.2 (by omega)];refine J.qF λ_=>?_;refine J.q λ_=>?_
    by_cases e0:e=0
    ·subst e0;have hh:=Wa.hold2_0 (W:=⟨P,M,die,wrong,full,false,fs,since,late⟩) (t:=⟨0,dt⟩) f2 rfl;refine J.plan (.of [0,5,8,12,16,20,24,29,32,37,41,46,48,52]) [] [1,20,21,22] (by rw[hX.hP];kernel_rfl) (by kernel_rfl) ?_;refine J.qc (b0q R Zl hn hf s.lpn s.data hs) [3,4,5,6,7,8,9] λ_=>?_;rintro _ As ⟨Zl',rfl,rfl,hZl'⟩;refine⟨_,rfl,stq,?_⟩;rw[hM]at hZl' ⊢;refine J.q λ_=>?_;dsimp only;refine J.qd (λ_ hw=>?_) λ_ hw=>?_
     ·have hw:(!Mv.inR M s.lpn)=true:=by simpa using hw
      refine J.qn 5 λ_=>?_;exact J.goto [0,1,2,3,4,5,6,7,8,9,10,11,12,13,14,15,16,17,18,19,20,21] (hj ⟨(Zl',true),by rw[hh];exact hZl',by rw[hh];exact hw.symm⟩) ⟨rfl,rfl,rfl,rfl,rfl,trivial⟩ rfl rfl
     ·have hw:(!Mv.inR M s.lpn)=false:=by simpa using hw
      refine J.qn 2 λ_=>?_;exact J.goto [0,1,2,3,4,5,6,7,8,9,10,11,12,13,14,15,16,17,18,19,20,21] (hj ⟨(Zl',false),by rw[hh];exact hZl',by rw[hh];exact hw.symm⟩) ⟨rfl,rfl,rfl,rfl,rfl,trivial⟩ rfl rfl
    ·have hh:=Wa.hold2_e (W:=⟨P,M,die,wrong,full,false,fs,since,late⟩) (t:=⟨e,dt⟩) (.inl f2) e0;refine J.plan (.of [0,5,8,12,16,20,24,29,32,37,41,46,48,52]) [] [1,20,21,22] (by rw[hX.hP];kernel_rfl) (by kernel_rfl) ?_;refine J.qn 3 λ_=>?_;dsimp only;rw[beq_eq_false_iff_ne.2 e0];refine J.q λ_=>?_;refine J.gcase hX rfl rfl rfl stq (λhb=>by simp at hb) (λhb=>?_);refine J.q λ_=>?_;refine J.vT (.bool true) rfl rfl (λhg aa w he hC=>by simp[G.on]at hg) ?_;refine J.qF λ_=>?_;refine J.qn 2 λ_=>?_;exact J.goto [0,1,2,3,4,5,6,7,8,9,10,11,12,13,14,15,16,17,18,19,20,21] (hj ⟨(Zl,false),by rw[hh];exact hM,by rw[hh]⟩) ⟨rfl,rfl,rfl,rfl,rfl,trivial⟩ rfl rfl
   rw[beq_eq_false_iff_ne.2 f2];refine J.qF λ_=>?_;refine J.q λ_=>?_
   by_cases f3:s.fn=3
   ·rw[beq_iff_eq.2 f3];refine J.qT λ_=>?_;refine J.q λb7=>?_;rw[show(s.fn==3)=true from beq_iff_eq.2 f3];refine J.qT λ_=>?_;refine J.q λ_=>?_
    by_cases e0:e=0
    ·subst e0;have hh:=Wa.hold3_0 (W:=⟨P,M,die,wrong,full,false,fs,since,late⟩) (t:=⟨0,dt⟩) f3 rfl;refine J.plan (.of [0,5,8,12,16,20,24,29,32,37,41,46,48,52]) [] [1,20,21,22] (by rw[hX.hP];kernel_rfl) (by kernel_rfl) ?_;refine J.qc (b0q R Zl hn hf s.lpn zd rfl) [3,4,5,6,7,8,9] λ_=>?_;rintro _ As ⟨Zl',rfl,rfl,hZl'⟩;refine⟨_,rfl,stq,?_⟩;rw[hM]at hZl' ⊢;refine J.q λ_=>?_;dsimp only;refine J.qd (λ_ hw=>?_) λ_ hw=>?_
     ·have hw:(!Mv.inR M s.lpn)=true:=by simpa using hw
      refine J.qn 5 λ_=>?_;exact J.goto [0,1,2,3,4,5,6,7,8,9,10,11,12,13,14,15,16,17,18,19,20,21] (hj ⟨(Zl',true),by rw[hh];exact hZl',by rw[hh];exact hw.symm⟩) ⟨rfl,rfl,rfl,rfl,rfl,trivial⟩ rfl rfl
     ·have hw:(!Mv.inR M s.lpn)=false:=by simpa using hw
      refine J.qn 2 λ_=>?_;exact J.goto [0,1,2,3,4,5,6,7,8,9,10,11,12,13,14,15,16,17,18,19,20,21] (hj ⟨(Zl',false),by rw[hh];exact hZl',by rw[hh];exact hw.symm⟩) ⟨rfl,rfl,rfl,rfl,rfl,trivial⟩ rfl rfl
    ·have hh:=Wa.hold2_e (W:=⟨P,M,die,wrong,full,false,fs,since,late⟩) (t:=⟨e,dt⟩) (.inr f3) e0;refine J.plan (.of [0,5,8,12,16,20,24,29,32,37,41,46,48,52]) [] [1,20,21,22] (by rw[hX.hP];kernel_rfl) (by kernel_rfl) ?_;refine J.qn 3 λ_=>?_;dsimp only;rw[beq_eq_false_iff_ne.2 e0];refine J.q λ_=>?_;refine J.gcase hX rfl rfl rfl stq (λhb=>by simp at hb) (λhb=>?_);refine J.q λ_=>?_;refine J.vT (.bool true) rfl rfl (λhg aa w he hC=>by simp[G.on]at hg) ?_;refine J.qF λ_=>?_;refine J.qn 2 λ_=>?_;exact J.goto [0,1,2,3,4,5,6,7,8,9,10,11,12,13,14,15,16,17,18,19,20,21] (hj ⟨(Zl,false),by rw[hh];exact hM,by rw[hh]⟩) ⟨rfl,rfl,rfl,rfl,rfl,trivial⟩ rfl rfl
   rw[beq_eq_false_iff_ne.2 f3];refine J.qF λ_=>?_;refine J.q λ_=>?_
   by_cases f4:s.fn=4
   ·rw[beq_iff_eq.2 f4];refine J.qT λ_=>?_;refine J.q λ_=>?_
    by_cases e0:e=0
    ·subst e0;have hh:=Wa.hold4_0 (W:=⟨P,M,die,wrong,full,false,fs,since,late⟩) (t:=⟨0,dt⟩) f4 rfl;refine J.qT λ_=>?_;refine J.qc (b6j R Zl hn) [3,4,5,6,7,8,9] λ_=>?_;rintro _ As ⟨Zl',rfl,rfl,hZl'⟩;refine⟨_,rfl,stq,?_⟩;rw[hM]at hZl';refine J.qn 2 λ_=>?_;exact J.goto [0,1,2,3,4,5,6,7,8,9,10,11,12,13,14,15,16,17,18,19,20,21] (hj ⟨(Zl',false),by rw[hh];exact hZl',by rw[hh]⟩) ⟨rfl,rfl,rfl,rfl,rfl,trivial⟩ rfl rfl
    ·have hh:=Wa.hold4_e (W:=⟨P,M,die,wrong,full,false,fs,since,late⟩) (t:=⟨e,dt⟩) f4 e0;dsimp only;rw[beq_eq_false_iff_ne.2 e0];refine J.qF λ_=>?_;refine J.qn 2 λ_=>?_;exact J.goto [0,1,2,3,4,5,6,7,8,9,10,11,12,13,14,15,16,17,18,19,20,21] (hj ⟨(Zl,false),by rw[hh];exact hM,by rw[hh]⟩) ⟨rfl,rfl,rfl,rfl,rfl,trivial⟩ rfl rfl
   have hh:=Wa.hold_x (W:=⟨P,M,die,wrong,full,false,fs,since,late⟩) (t:=⟨e,dt⟩) f1 f2 f3 f4;rw[beq_eq_false_iff_ne.2 f4];refine J.qF λ_=>?_;refine J.qn 2 λ_=>?_;exact J.goto [0,1,2,3,4,5,6,7,8,9,10,11,12,13,14,15,16,17,18,19,20,21] (hj ⟨(Zl,false),by rw[hh];exact hM,by rw[hh]⟩) ⟨rfl,rfl,rfl,rfl,rfl,trivial⟩ rfl rfl
 obtain⟨⟨Zl',wr⟩,hx1,hx2⟩:=x;dsimp only at hx1 hx2 ⊢;unfold a9d;dsimp only
 by_cases f7:s.fn=7
 ·obtain⟨rfl,ho2⟩:=hmt f7;rw[ho2];rw[Wa.hold_x (by omega) (by omega) (by omega) (by omega)]at hx1 hx2;dsimp only at hx1 hx2;subst hx2;have hzl:Zl'.length<=65536:=by rw[<- hM]at hx1;have:=congrArg List.length hx1;rw[j5,j5]at this;omega
  refine J.qF λ_=>?_;refine J.q λ_=>?_;rw[beq_iff_eq.2 f7];refine J.qT λ_=>?_;refine J.qc (c0L R Zl' hzl) [3,4,5,6,7,8,9] λ_=>?_;rintro _ As ⟨Zl3,rfl,rfl,hZ3⟩;refine⟨_,rfl,trivial,?_⟩;rw[hx1]at hZ3;refine J.q λ_=>?_;refine J.gcase hX rfl rfl rfl trivial (λhb=>by simp at hb) (λhb=>?_);refine J.q λ_=>?_;refine J.v (.bool true) rfl rfl (λhg aa w he hw=>by simp[G.on]at hg) ?_;refine J.qF λ_=>?_;refine J.qT λ_=>?_;refine J.qc (a7u q nn (flP (some Z2) A'.f) (pp A'.fp) (slv A'.a2 P2.log.length A'.c2)) [10] λ_=>?_;rintro _ As ⟨rfl,rfl⟩;refine⟨_,rfl,trivial,?_⟩;refine J.qc (b4v nn Z2.S.N) [16] λ_=>?_;rintro _ As ⟨rfl,rfl⟩;refine⟨_,rfl,trivial,?_⟩;refine J.q λ_=>?_;refine J.f [1,2,3,4,5,6,7,8,9,10,11,12,13,14,15,16,17,18,19] ?_;rw[hsm f7];refine⟨A',Zl3,rfl,hA',hZ3,?_⟩;rw[Z4 (Z:=Z2) hZ2,hnd];rfl
 ·by_cases hoo:Z.S.N.off=false/\Z2.S.N.off=false
  ·rw[hoo.1,hoo.2];refine J.q λ_=>?_;rw[show(s.fn !=7)=true from bne_iff_ne.2 f7]
   by_cases e11:e=11
   ·rw[beq_iff_eq.2 e11];refine J.qT λ_=>?_;refine J.q λ_=>?_;rw[beq_eq_false_iff_ne.2 f7];refine J.qF λ_=>?_;refine J.qd (λ_ hq=>?_) λ_ hq=>?_
    ·have hq:(decide (e=9)||decide (e=12))=true:=by simpa using hq
     refine J.q λ_=>?_;refine J.f [1,2,3,4,5,6,7,8,9,10,11,12,13,14,15,16,17,18,19] ?_;rw[hse f7 (by rw[hoo.1];rfl) hoo.2];refine⟨A',Zl',rfl,hA',hx1,?_⟩;rw[<- hx2,Z4 (Z:=Z2) hZ2,show((wrong||wr)||(decide (e=9)||decide (e=12)))=true from by rw[hq];simp,show(full||decide (e=11))=true from by simp[e11]];rfl
    ·have hq:(decide (e=9)||decide (e=12))=false:=by simpa using hq
     refine J.q λ_=>?_;refine J.f [1,2,3,4,5,6,7,8,9,10,11,12,13,14,15,16,17,18,19] ?_;rw[hse f7 (by rw[hoo.1];rfl) hoo.2];refine⟨A',Zl',rfl,hA',hx1,?_⟩;rw[<- hx2,Z4 (Z:=Z2) hZ2,show((wrong||wr)||(decide (e=9)||decide (e=12)))=(wr||wrong)from by rw[hq,a4r,a5j],show(full||decide (e=11))=true from by simp[e11]];rfl
   ·rw[beq_eq_false_iff_ne.2 e11];refine J.qF λ_=>?_;refine J.q λ_=>?_;rw[beq_eq_false_iff_ne.2 f7];refine J.qF λ_=>?_;refine J.qd (λ_ hq=>?_) λ_ hq=>?_
    ·have hq:(decide (e=9)||decide (e=12))=true:=by simpa using hq
     refine J.q λ_=>?_;refine J.f [1,2,3,4,5,6,7,8,9,10,11,12,13,14,15,16,17,18,19] ?_;rw[hse f7 (by rw[hoo.1];rfl) hoo.2];refine⟨A',Zl',rfl,hA',hx1,?_⟩;rw[<- hx2,Z4 (Z:=Z2) hZ2,show((wrong||wr)||(decide (e=9)||decide (e=12)))=true from by rw[hq];simp,show(full||decide (e=11))=full from by simp[e11]];rfl
    ·have hq:(decide (e=9)||decide (e=12))=false:=by simpa using hq
     refine J.q λ_=>?_;refine J.f [1,2,3,4,5,6,7,8,9,10,11,12,13,14,15,16,17,18,19] ?_;rw[hse f7 (by rw[hoo.1];rfl) hoo.2];refine⟨A',Zl',rfl,hA',hx1,?_⟩;rw[<- hx2,Z4 (Z:=Z2) hZ2,show((wrong||wr)||(decide (e=9)||decide (e=12)))=(wr||wrong)from by rw[hq,a4r,a5j],show(full||decide (e=11))=full from by simp[e11]];rfl
  ·have hoo2:¬((!Z.S.N.off)=true/\Z2.S.N.off=false):=λh=>hoo ⟨by simpa using h.1,h.2⟩;have hon2:((!Z.S.N.off)&& !(!!Z2.S.N.off))=false:=by
    cases h1:Z.S.N.off with
    | true=>rfl
    | false=>
     cases h2:Z2.S.N.off with
     | true=>rfl
     | false=>exact absurd ⟨h1,h2⟩ hoo
   refine J.q λ_=>?_;rw[show(s.fn !=7)=true from bne_iff_ne.2 f7]
   by_cases e11:e=11
   ·rw[beq_iff_eq.2 e11];refine J.qT λ_=>?_;refine J.q λ_=>?_;rw[beq_eq_false_iff_ne.2 f7];refine J.qF λ_=>?_;rcases Bool.eq_false_or_eq_true Z.S.N.off with ho | ho
    ·rw[ho];refine J.qF λ_=>?_;refine J.q λ_=>?_;refine J.f [1,2,3,4,5,6,7,8,9,10,11,12,13,14,15,16,17,18,19] ?_;rw[hsO f7 hoo2];refine⟨A',Zl',rfl,hA',hx1,?_⟩;rw[<- hx2,Z4 (Z:=Z2) hZ2,a5j wrong,show(full||decide (e=11))=true from by simp[e11]];rfl
    ·have ho2:Z2.S.N.off=true:=by
      cases h2:Z2.S.N.off with
      | true=>rfl
      | false=>exact absurd ⟨ho,h2⟩ hoo
     rw[ho,ho2];refine J.qF λ_=>?_;refine J.q λ_=>?_;refine J.f [1,2,3,4,5,6,7,8,9,10,11,12,13,14,15,16,17,18,19] ?_;rw[hsO f7 hoo2];refine⟨A',Zl',rfl,hA',hx1,?_⟩;rw[<- hx2,Z4 (Z:=Z2) hZ2,a5j wrong,show(full||decide (e=11))=true from by simp[e11]];rfl
   ·rw[beq_eq_false_iff_ne.2 e11];refine J.qF λ_=>?_;refine J.q λ_=>?_;rw[beq_eq_false_iff_ne.2 f7];refine J.qF λ_=>?_;rcases Bool.eq_false_or_eq_true Z.S.N.off with ho | ho
    ·rw[ho];refine J.qF λ_=>?_;refine J.q λ_=>?_;refine J.f [1,2,3,4,5,6,7,8,9,10,11,12,13,14,15,16,17,18,19] ?_;rw[hsO f7 hoo2];refine⟨A',Zl',rfl,hA',hx1,?_⟩;rw[<- hx2,Z4 (Z:=Z2) hZ2,a5j wrong,show(full||decide (e=11))=full from by simp[e11]];rfl
    ·have ho2:Z2.S.N.off=true:=by
      cases h2:Z2.S.N.off with
      | true=>rfl
      | false=>exact absurd ⟨ho,h2⟩ hoo
     rw[ho,ho2];refine J.qF λ_=>?_;refine J.q λ_=>?_;refine J.f [1,2,3,4,5,6,7,8,9,10,11,12,13,14,15,16,17,18,19] ?_;rw[hsO f7 hoo2];refine⟨A',Zl',rfl,hA',hx1,?_⟩;rw[<- hx2,Z4 (Z:=Z2) hZ2,a5j wrong,show(full||decide (e=11))=full from by simp[e11]];rfl
theorem c2w:Dv.costS<=UN*2:=by
 have hUe:=b0C;have:Dv.costC<=Dv.costM:=by unfold Dv.costM Dv.costR;omega
 unfold Dv.costS;omega
def V.tornAt (L:List Fnd) (i:Nat):Option En:=if(V.standOf (V.of L i)).2=true/\(V.standOf (V.of L i)).1.whole=false then some (V.standOf (V.of L i)).1.en else none
theorem V.torn_lpn {L:List Fnd} {i:Nat} {e:En} (h:V.tornAt L i=some e):e.lpn=(i:Int):=by
 unfold V.tornAt at h;split at h
 ·rename_i hc;injection h with h;have:=(List.mem_filter.1 (V.standOf_mem hc.1)).2;rw[<- h];exact a3i this
 ·cases h
def V.tornF (N:Nand) (L:List Fnd) (i:Nat):Option En:=if V.last N (V.standOf (V.of L i)).1=true then V.tornAt L i else none
def V.tornB (N:Nand) (L:List Fnd) (i:Nat):Option En:=if V.last N (V.standOf (V.of L i)).1=true then none else V.tornAt L i
theorem V.goS_both {N:Nand} {L:List Fnd} (h:∀i:Nat,(V.standOf (V.of L i)).2=true->(V.standOf (V.of L i)).1.whole=false->V.last N (V.standOf (V.of L i)).1=true->V.holds (V.of L i)=[]) (n:Int):∀k,(V.goS N L n k).torn=(List.range k).filterMap (V.tornF N L)/\(V.goS N L n k).others=(List.range k).filterMap (V.tornB N L)/\(V.goS N L n k).held=[]
 | 0=>⟨rfl,rfl,rfl⟩
 | k+1=>by
  obtain⟨i1,i2,i3⟩:=V.goS_both h n k;rw[V.goS_succ,t6,V1,V1,<- i1,<- i2];unfold V.step
  by_cases hs:(V.standOf (V.of L k)).2=true
  ·rw[d7 hs];cases hw:(V.standOf (V.of L k)).1.whole with
   | true=>
    rw[d7 rfl];have e:V.tornAt L k=none:=by unfold V.tornAt;rw[d4];rintro⟨_,e⟩;rw[hw]at e;cases e
    have e1:V.tornF N L k=none:=by unfold V.tornF;rw[e];split<;>rfl
    have e2:V.tornB N L k=none:=by unfold V.tornB;rw[e];split<;>rfl
    rw[D0,D0,e1,e2];exact⟨(l8 _).symm,(l8 _).symm,i3⟩
   | false=>
    have e:V.tornAt L k=some (V.standOf (V.of L k)).1.en:=by unfold V.tornAt;rw[d7 ⟨hs,hw⟩]
    rw[d4 (by decide)];cases hl:V.last N (V.standOf (V.of L k)).1 with
    | true=>
     have e1:V.tornF N L k=some (V.standOf (V.of L k)).1.en:=by unfold V.tornF;rw[hl,d7 rfl,e]
     have e2:V.tornB N L k=none:=by unfold V.tornB;rw[hl,d7 rfl]
     rw[d7 rfl,D0,D0,e1,e2];refine⟨rfl,(l8 _).symm,?_⟩;show(V.goS N L n k).held++V.holds (V.of L k)=[];rw[i3,h k hs hw hl];rfl
    | false=>
     have e1:V.tornF N L k=none:=by unfold V.tornF;rw[hl,d4 (by decide)]
     have e2:V.tornB N L k=some (V.standOf (V.of L k)).1.en:=by unfold V.tornB;rw[hl,d4 (by decide),e]
     rw[d4 (by decide),D0,D0,e1,e2];exact⟨(l8 _).symm,rfl,i3⟩
  ·rw[d4 hs];have e:V.tornAt L k=none:=by unfold V.tornAt;rw[d4];rintro⟨e,_⟩;exact hs e
   have e1:V.tornF N L k=none:=by unfold V.tornF;rw[e];split<;>rfl
   have e2:V.tornB N L k=none:=by unfold V.tornB;rw[e];split<;>rfl
   rw[D0,D0,e1,e2];exact⟨(l8 _).symm,(l8 _).symm,i3⟩
theorem b0J {g:Nat->Option En} (hg:∀i e,g i=some e->e.lpn=(i:Int)):∀k,(((List.range k).filterMap g).map (·.lpn)).Sublist ((List.range k).map λi:Nat=>(i:Int))
 | 0=>a3m _
 | k+1=>by
  have ih:=b0J hg k;rw[t6,V1,s8,s8];refine ih.append ?_;rw[D0];cases he:g k with
  | none=>exact List.nil_sublist _
  | some e=>dsimp only;simp[hg k e he]
theorem b5U (T:Tb) (b:Int):(T.ins b).Nodup:=by
 unfold Tb.ins;split
 ·exact a5W
 ·unfold Tb.inK;exact List.pairwise_map.2 ((List.nodup_range.filter _).imp λhne e=>hne (by omega))
theorem a7G {fd:Int} {S:Dv} {l:List En} (hI:Inv fd S) (hl:S.left=true) (hR:RowIs S.N S.op S.row S.mask (S.es l)) (hno:∀d:Nat,L.has S.mask (d:Nat)=true->S.N.failB S.op S.row d=false):Full (-1) (S.wrote l).N S.op S.row S.mask (S.es l):=by
 have ho:=hI.opn hl;have hrdy:RdyW S.N S.op S.row S.mask:=⟨hI.lit,λd hd ha=>(ho.cells d hd).2 ha⟩;have hq:=hrdy.rdy hR;have w:WroteR S.N (S.wrote l).N S.op S.row (R.job S.op S.row S.mask (S.es l)):=(a4t hrdy hR).2.2;have hpage:∀x∈R.job S.op S.row S.mask (S.es l),(S.wrote l).N.pageAt x.1 S.op S.row=some ⟨P7 x.2,false,false⟩:=λx hx=>by
  obtain⟨n1,n2,n3⟩:=hR.inn x hx;obtain⟨d,hd⟩:=f9 n1;have hf:=hno d (by rw[<- hd];exact n3);rw[<- hd]at hf;unfold Nand.failB at hf;rw[D5]at hf;have hc:=w.cells x hx;rw[hf.1,d4 (by decide),hf.2]at hc;have hlen:=hq.cells x hx hf.1;have hrow:=hR.row;unfold Nand.pageAt;rw[hc,B1 (by omega),show S.row.toNat-(S.N.blk x.1.toNat S.op.toNat).cells.length=0 from by omega];rfl
 exact⟨hR.like w.like,λx hx _=>⟨_,hpage x hx,rfl,a6p (hR.sh x hx).1⟩,λx hx c hc=>by
  rw[hpage x hx]at hc;injection hc with hc;rw[<- hc];exact .inr (.inl rfl)⟩
def Ent (lg:Nat) (l:List En):Prop:=(∀e∈l,FitR e/\e.lpn<(lg:Int))/\(l.map (·.lpn)).Nodup
theorem Msk.calm2 {D:Nat} {m:Int} (h:Msk D (-2) m):Msk D (-1) m:=⟨h.set,h.lt,λd hd _=>h.all d hd (by omega)⟩
theorem Inv.slots_full2 {S:Dv} {k m:Nat} (h:Inv (-2) S) (hO:S.Ok k m) (hr:0<S.rows):S.slots=(S.N.dies:Int)-1:=by
 have hg:=hO.gd.ok.bd16;unfold Dv.slots;cases hl:S.left with
 | true=>rw[d7 rfl];exact(a2y (h.opn hl).mask.calm2 hg.1).2
 | false=>
  rw[d4 (by decide)];have hp:=(h.rows_pos hO hr).resolve_left (by rw[hl];decide);have hb:=Dv.pick_blank hp;have hh:S.t.has S.pick=true:=by unfold Tl.blank at hb;simp only[f8]at hb;exact hb.1
  exact(a2y (h.msk hO hh).calm2 hg.1).2
structure Cm (W:List (Int×En)) (lg:Nat) (S:Dv):Prop where
 gi:GI (-2) W S
 no:NoF S
 log:S.T.logical=(lg:Int)
theorem V.goS_fb {N:Nand} {L:List Fnd} (n:Int):∀k,(V.goS N L n k).torn=(List.range k).filterMap (V.tornF N L)/\(V.goS N L n k).others=(List.range k).filterMap (V.tornB N L)
 | 0=>⟨rfl,rfl⟩
 | k+1=>by
  obtain⟨i1,i2⟩:=V.goS_fb (N:=N) (L:=L) n k;rw[V.goS_succ,t6,V1,V1,<- i1,<- i2];unfold V.step
  by_cases hs:(V.standOf (V.of L k)).2=true
  ·rw[d7 hs];cases hw:(V.standOf (V.of L k)).1.whole with
   | true=>
    rw[d7 rfl];have e:V.tornAt L k=none:=by unfold V.tornAt;rw[d4];rintro⟨_,e⟩;rw[hw]at e;cases e
    have e1:V.tornF N L k=none:=by unfold V.tornF;rw[e];split<;>rfl
    have e2:V.tornB N L k=none:=by unfold V.tornB;rw[e];split<;>rfl
    rw[D0,D0,e1,e2];exact⟨(l8 _).symm,(l8 _).symm⟩
   | false=>
    have e:V.tornAt L k=some (V.standOf (V.of L k)).1.en:=by unfold V.tornAt;rw[d7 ⟨hs,hw⟩]
    rw[d4 (by decide)];cases hl:V.last N (V.standOf (V.of L k)).1 with
    | true=>
     have e1:V.tornF N L k=some (V.standOf (V.of L k)).1.en:=by unfold V.tornF;rw[hl,d7 rfl,e]
     have e2:V.tornB N L k=none:=by unfold V.tornB;rw[hl,d7 rfl]
     rw[d7 rfl,D0,D0,e1,e2];exact⟨rfl,(l8 _).symm⟩
    | false=>
     have e1:V.tornF N L k=none:=by unfold V.tornF;rw[hl,d4 (by decide)]
     have e2:V.tornB N L k=some (V.standOf (V.of L k)).1.en:=by unfold V.tornB;rw[hl,d4 (by decide),e]
     rw[d4 (by decide),D0,D0,e1,e2];exact⟨(l8 _).symm,rfl⟩
  ·rw[d4 hs];have e:V.tornAt L k=none:=by unfold V.tornAt;rw[d4];rintro⟨e,_⟩;exact hs e
   have e1:V.tornF N L k=none:=by unfold V.tornF;rw[e];split<;>rfl
   have e2:V.tornB N L k=none:=by unfold V.tornB;rw[e];split<;>rfl
   rw[D0,D0,e1,e2];exact⟨(l8 _).symm,(l8 _).symm⟩
theorem a7A (on:Bool):∀(l:List Int) (t:Tl),t.l.length=t.b->TSame t (l.foldl (λt b=>t.hold b on) t)/\∀x,t.has x=true->((l.foldl (λt b=>t.hold b on) t).at_ x).held=if x∈l then on else(t.at_ x).held
 | [],t,_=>⟨TSame.refl t,λx _=>by rw[d4 (by simp)];rfl⟩
 | b::l,t,hl=>by
  have h1:TSame t (t.hold b on):=by
   unfold Tl.hold;refine⟨Tl.set_dead _ _ _,Tl.set_b _ _ _,Tl.set_d _ _ _,Tl.set_len _ _ _,λx hx=>?_⟩;rw[a9E hl _ hx];split
   ·rename_i e;rw[e];exact⟨rfl,rfl⟩
   ·exact⟨rfl,rfl⟩
  have h2:∀x,t.has x=true->((t.hold b on).at_ x).held=if x=b then on else(t.at_ x).held:=λx hx=>by
   unfold Tl.hold;rw[a9E hl _ hx];split<;>rfl
  obtain⟨i1,i2⟩:=a7A on l (t.hold b on) (by rw[h1.len,h1.b];exact hl);rw[B3];refine⟨h1.trans i1,λx hx=>?_⟩;rw[i2 x (by rw[h1.has];exact hx),h2 x hx]
  by_cases e1:x∈l
  ·rw[d7 e1,d7 (by simp[e1])]
  ·rw[d4 e1]
   by_cases e2:x=b
   ·rw[d7 e2,d7 (by simp[e2])]
   ·rw[d4 e2,d4 (by simp[e1,e2])]
theorem Inv.tsame {fd:Int} {S:Dv} {t':Tl} (h:Inv fd S) (hb:S.t.b=S.N.blocks) (e:TSame S.t t'):Inv fd {S with t:=t'}:=by
 have hm:∀x,S.t.has x=true->t'.mask x=S.t.mask x:=λx hx=>mask_eq e.dead e.b e.d (e.at_ x hx).1;refine⟨h.lit,h.dead,h.plan,h.flags,by show L.set t'.dead=true/\_;rw[e.dead];exact h.tdead,λb hb=>?_,?_,λb hb hu d hd=>?_,λi a ha=>?_⟩
 ·have hb:t'.has b=true:=hb;rw[e.has]at hb;show L.set (t'.at_ b).bad=true/\_;rw[(e.at_ b hb).1];exact h.tbad b hb
 ·rcases h.op with o | o
  ·exact .inl o
  ·have hh:S.t.has S.op=true:=Tl.has_iff.2 (by have:=o.blk;omega);exact .inr ⟨o.blk,by show(t'.at_ S.op).used=true;rw[(e.at_ _ hh).2];exact o.used,o.row,o.mask,o.cells⟩
 ·have hb:t'.has b=true:=hb;rw[e.has]at hb;have hu:(t'.at_ b).used=false:=hu;have hd:L.has (t'.mask b) (d:Nat)=true:=hd;rw[(e.at_ b hb).2]at hu;rw[hm b hb]at hd;exact h.blank b hb hu d hd
 ·have hs:=h.st i a ha;refine⟨hs.row,?_,hs.below,hs.seq⟩;obtain⟨l,g1,_⟩:=hs.row;have hh:S.t.has a.block=true:=Tl.has_iff.2 (by have:=g1.is.blk;omega);show(t'.at_ a.block).used=true;rw[(e.at_ _ hh).2];exact hs.used
theorem GI.tsame {fd:Int} {W:List (Int×En)} {S:Dv} {t':Tl} (h:GI fd W S) (hb:S.t.b=S.N.blocks) (e:TSame S.t t'):GI fd W {S with t:=t'}:=
 ⟨h.inv.tsame hb e,⟨h.hd.keys,h.hd.each⟩,h.wok,h.msk,h.dsc⟩
theorem blanks_same {t t':Tl} (hl:t.l.length=t.b) (e:TSame t t'):t'.blanks=t.blanks:=by
 have hl':t'.l.length=t'.b:=by rw[e.len,e.b];exact hl
 rw[a1S hl,a1S hl',e.b];refine List.countP_congr λi hi=>?_;have hi:=List.mem_range.1 hi;rw[(e.at_ (i:Nat) (Tl.has_iff.2 (by omega))).2]
theorem Cm.holds {W:List (Int×En)} {lg:Nat} {S:Dv} (h:Cm W lg S) (hF:S.t.Fit S.N) (l:List Int) (on:Bool):Cm W lg (S.holds l on)/\(S.holds l on).rows=S.rows/\∀b,S.t.has b=true->(S.holds l on).t.has b=true/\((S.holds l on).t.at_ b).held=if b∈l then on else(S.t.at_ b).held:=by
 obtain⟨e1,e2⟩:=a7A on l S.t hF.len;refine⟨⟨h.gi.tsame hF.b e1,⟨h.no.dead,h.no.plan,h.no.met,h.no.fl⟩,h.log⟩,?_,λb hb=>⟨by show(l.foldl (λt b=>t.hold b on) S.t).has b=true;rw[e1.has];exact hb,e2 b hb⟩⟩;unfold Dv.rows;show S.N.pages*(l.foldl (λt b=>t.hold b on) S.t).blanks+_=_;rw[blanks_same hF.len e1];rfl
theorem b2Z {N:Nand} (h:N.Lit) (c:Nat) (kp:Int):(arm N (c+1) kp).cutB=false/\(arm N (c+1) kp).cutN=arm N.cutN c kp/\(arm N 0 kp).cutB=true:=by
 have hcb:(arm N (c+1) kp).cutB=false:=by
  unfold Nand.cutB arm;show(true&&decide (((c+1:Nat):Int)<=0))=false;rw[n7 (by omega)];rfl
 have hcN:N.cutB=false:=h.cutB;have hcts:=h.cuts;refine⟨hcb,?_,rfl⟩;unfold Nand.cutN;rw[hcb,hcN,hcts];unfold arm;simp only[a0d,H6,X6];congr 1;omega
structure Qt (N:Nand):Prop where
 dead:∀i:Nat,N.dead.getD i false=false
 plan:N.plan=[]
 flags:∀i j:Nat,(N.blk i j).met=false/\(N.blk i j).fails=false
theorem Qt.erase {N:Nand} (h:Qt N) (x y:Int):Qt (N.eraseN x y):=by
 unfold Nand.eraseN;dsimp only;have key:∀(M:Nand) (B:NBlock),M.blk=N.blk->M.dead=N.dead->M.plan=[]->B.met=false->B.fails=false->Qt (M.setBlk x.toNat y.toNat B):=λM B hb hd hp h1 h2=>by
  refine⟨λi=>by show M.dead.getD i false=false;rw[hd];exact h.dead i,hp,λi j=>?_⟩;show((if i=x.toNat/\j=y.toNat then B else M.blk i j:NBlock)).met=false/\((if i=x.toNat/\j=y.toNat then B else M.blk i j:NBlock)).fails=false;split
  ·exact⟨h1,h2⟩
  ·rw[hb];exact h.flags i j
 have hf:=h.flags x.toNat y.toNat
 split
 ·exact h
 split
 ·exact key N.cutN _ rfl rfl h.plan hf.1 hf.2
 rw[d4 (by rw[hf.2];decide)];have:=key N.cutN {N.blk x.toNat y.toNat with cells:=[],worn:=(N.blk x.toNat y.toNat).worn+1} rfl rfl h.plan hf.1 hf.2;refine⟨this.dead,?_,this.flags⟩;show N.plan.filter _=[];rw[h.plan];rfl
theorem Qt.arm {N:Nand} (h:Qt N) (c:Nat) (kp:Int):Qt (arm N c kp):=⟨h.dead,h.plan,h.flags⟩
theorem b3P {N:Nand} (h:N.Lit) (x y:Int):N.eraseE x y≠9:=by
 unfold Nand.eraseE;rw[h.cutB];split
 ·unfold Nand.refuses;rw[h.off,d4 (by decide)];split
  ·decide
  split
  ·decide
  ·decide
 rw[d4 (by decide)];split<;>decide
theorem b6k {N:Nand} (h:N.Lit) (x y:Int) (c:Nat) (kp:Int):
  (∃c',(arm N c kp).eraseE x y=N.eraseE x y/\(arm N c kp).eraseN x y=arm (N.eraseN x y) c' kp)\/((arm N c kp).eraseE x y=9/\((arm N c kp).eraseN x y).off=true):=by
 have hra:(arm N c kp).refuses x y 0=N.refuses x y 0:=rfl
 by_cases hr:N.refuses x y 0=0
 ·cases c with
  | zero=>
   right;obtain⟨_,_,a3⟩:=b2Z h 0 kp;refine⟨?_,?_⟩
   ·unfold Nand.eraseE;rw[hra,hr,d4 (by decide),a3,d7 rfl]
   ·unfold Nand.eraseN;dsimp only;rw[hra,hr,d4 (by decide),a3,d7 rfl];rfl
  | succ c=>
   left;obtain⟨a1,a2,_⟩:=b2Z h c kp;refine⟨c,?_,?_⟩
   ·unfold Nand.eraseE;rw[hra,hr,a1,h.cutB];rfl
   ·unfold Nand.eraseN;dsimp only;rw[hra,hr,a1,h.cutB,a2];simp only[I1,a3h,X6,H6];have e:((arm N (c+1) kp).blk x.toNat y.toNat).fails=(N.blk x.toNat y.toNat).fails:=rfl;rw[e];split<;>rfl
 ·left;refine⟨c,?_,?_⟩
  ·unfold Nand.eraseE;rw[hra,d7 hr,d7 hr]
  ·unfold Nand.eraseN;dsimp only;rw[hra,d7 hr,d7 hr]
theorem a5K (b mk:Int) {x:Nand×Tl×Int} (h:x.2.2≠0):∀q:List Nat,q.foldl (Dv.eraseD b mk) x=x
 | []=>rfl
 | d::q=>by
  rw[B3];have e:Dv.eraseD b mk x d=x:=by unfold Dv.eraseD;rw[d7 h]
  rw[e];exact a5K b mk h q
theorem a3y (b mk:Int) (kp:Int):∀(q:List Nat) (N:Nand) (t:Tl) (c:Nat),N.Lit->
  ∃N1 t1,q.foldl (Dv.eraseD b mk) (N,t,0)=(N1,t1,0)/\N1.Lit/\((∃c',q.foldl (Dv.eraseD b mk) (arm N c kp,t,0)=(arm N1 c' kp,t1,0))\/∃N2 t2,q.foldl (Dv.eraseD b mk) (arm N c kp,t,0)=(N2,t2,9)/\N2.off=true)
 | [],N,t,c,h=>⟨N,t,rfl,h, .inl ⟨c,rfl⟩⟩
 | d::q,N,t,c,h=>by
  rw[B3,B3]
  by_cases hh:L.has mk (d:Nat)=false
  ·have e1:Dv.eraseD b mk (N,t,0) d=(N,t,0):=by unfold Dv.eraseD;rw[d4 (by simp),d7 hh]
   have e2:Dv.eraseD b mk (arm N c kp,t,0) d=(arm N c kp,t,0):=by unfold Dv.eraseD;rw[d4 (by simp),d7 hh]
   rw[e1,e2];exact a3y b mk kp q N t c h
  ·have h9:=b3P h (d:Int) b;obtain⟨t',ht'⟩:∃t',(if N.eraseE d b=0 then t else if N.eraseE d b=9 then t else if N.eraseE d b=8 then t.die d else t.bad d b)=t':=⟨_,rfl⟩;have e1:Dv.eraseD b mk (N,t,0) d=(N.eraseN d b,t',0):=by
    unfold Dv.eraseD;rw[d4 (by simp),d4 hh];dsimp only;rw[ht',d4 h9]
   rw[e1];rcases b6k h (d:Int) b c kp with⟨c',a1,a2⟩ | ⟨a1,a2⟩
   ·have e2:Dv.eraseD b mk (arm N c kp,t,0) d=(arm (N.eraseN d b) c' kp,t',0):=by
     unfold Dv.eraseD;rw[d4 (by simp),d4 hh];dsimp only;rw[a1,a2,ht',d4 h9]
    rw[e2];exact a3y b mk kp q _ t' c' (h.erase _ _)
   ·obtain⟨N1,t1,f1,f2,_⟩:=a3y b mk kp q (N.eraseN d b) t' 0 (h.erase _ _);refine⟨N1,t1,f1,f2, .inr ?_⟩;have e2:Dv.eraseD b mk (arm N c kp,t,0) d=((arm N c kp).eraseN d b,t,9):=by
     unfold Dv.eraseD;rw[d4 (by simp),d4 hh];dsimp only;rw[a1];rfl
    rw[e2,a5K b mk (show(9:Int)≠0 by decide) q];exact⟨_,_,rfl,a2⟩
theorem b3N (N:Nand) (t:Tl) (b:Int) (c:Nat) (kp:Int) (h:N.Lit):
  (Dv.erase N t b).2.2=0/\(Dv.erase N t b).1.Lit/\((∃c',Dv.erase (arm N c kp) t b=(arm (Dv.erase N t b).1 c' kp,(Dv.erase N t b).2.1,0))\/∃N2 t2,Dv.erase (arm N c kp) t b=(N2,t2,9)/\N2.off=true):=by
 obtain⟨N1,t1,f1,f2,f3⟩:=a3y b (t.mask b) kp (List.range N.dies) N t c h;have e1:Dv.erase N t b=(N1,Dv.eraseT N1 t1 b,0):=by
  unfold Dv.erase Dv.eraseB;rw[f1];dsimp only;rw[d4 (by simp)]
 rw[e1];refine⟨rfl,f2,?_⟩;rcases f3 with⟨c',g⟩ | ⟨N2,t2,g1,g2⟩
 ·refine .inl ⟨c',?_⟩;have g:Dv.eraseB (arm N c kp) t b=(arm N1 c' kp,t1,0):=g;unfold Dv.erase;rw[g];dsimp only;rw[d4 (by simp)];rfl
 ·refine .inr ⟨N2,t2,?_,g2⟩;have g1:Dv.eraseB (arm N c kp) t b=(N2,t2,9):=g1;unfold Dv.erase;rw[g1];dsimp only;rw[d7 (by decide)]
theorem a4n (kp:Int):∀(l:List Int) (N:Nand) (t:Tl) (c:Nat),N.Lit->
  (Dv.clearGo l N t).2.2=0/\((∃c',Dv.clearGo l (arm N c kp) t=(arm (Dv.clearGo l N t).1 c' kp,(Dv.clearGo l N t).2.1,0))\/∃N2 t2,Dv.clearGo l (arm N c kp) t=(N2,t2,9)/\N2.off=true)
 | [],N,t,c,_=>⟨rfl, .inl ⟨c,rfl⟩⟩
 | b::l,N,t,c,h=>by
  obtain⟨a1,a2,a3⟩:=b3N N t b c kp h;have ec:Dv.clearGo (b::l) N t=Dv.clearGo l (Dv.erase N t b).1 (Dv.erase N t b).2.1:=by
   rw[Dv.clearGo,d4 (by rw[a1];simp)]
  rw[ec];rw[Dv.clearGo];rcases a3 with⟨c',g⟩ | ⟨N2,t2,g1,g2⟩
  ·rw[g];dsimp only;rw[d4 (by simp)];exact a4n kp l _ _ c' a2
  ·refine⟨(a4n kp l _ _ 0 a2).1, .inr ⟨N2,t2,?_,g2⟩⟩;rw[g1];dsimp only;rw[d7 (by decide)]
theorem Dv.clear_arm (S:Dv) (c:Nat) (kp:Int) (h:S.N.Lit):
  S.clear.2=0/\((∃c',(S.armed c kp).clear=(S.clear.1.armed c' kp,0))\/∃N2 t2,(S.armed c kp).clear=({S with N:=N2,t:=t2},9)/\N2.off=true):=by
 obtain⟨a1,a2⟩:=a4n kp (t7 (D3 S.t S.T) S.op S.t.b) S.N S.t c h;refine⟨a1,?_⟩;rcases a2 with⟨c',g⟩ | ⟨N2,t2,g1,g2⟩
 ·refine .inl ⟨c',?_⟩;unfold Dv.clear Dv.clearX;show(({S.armed c kp with N:=(Dv.clearGo (t7 (D3 S.t S.T) S.op S.t.b) (arm S.N c kp) S.t).1,t:=(Dv.clearGo (t7 (D3 S.t S.T) S.op S.t.b) (arm S.N c kp) S.t).2.1}:Dv),(Dv.clearGo (t7 (D3 S.t S.T) S.op S.t.b) (arm S.N c kp) S.t).2.2)=_;rw[g];rfl
 ·refine .inr ⟨N2,t2,?_,g2⟩;unfold Dv.clear Dv.clearX;show(({S.armed c kp with N:=(Dv.clearGo (t7 (D3 S.t S.T) S.op S.t.b) (arm S.N c kp) S.t).1,t:=(Dv.clearGo (t7 (D3 S.t S.T) S.op S.t.b) (arm S.N c kp) S.t).2.1}:Dv),(Dv.clearGo (t7 (D3 S.t S.T) S.op S.t.b) (arm S.N c kp) S.t).2.2)=_;rw[g1];rfl
theorem Qt.clearGo:∀(l:List Int) (N:Nand) (t:Tl),Qt N->Qt (Dv.clearGo l N t).1
 | [],_,_,h=>h
 | b::l,N,t,h=>by
  have hq:∀(q:List Nat) (mk:Int) (x:Nand×Tl×Int),Qt x.1->Qt (q.foldl (Dv.eraseD b mk) x).1:=λq mk=>by
   induction q with
   | nil=>intro x h;exact h
   | cons d q ih=>
    intro x h;rw[B3];apply ih;unfold Dv.eraseD;split
    ·exact h
    split
    ·exact h
    ·exact h.erase _ _
  have h1:Qt (Dv.erase N t b).1:=by
   unfold Dv.erase;dsimp only;split
   ·exact hq _ _ _ h
   ·exact hq _ _ _ h
  rw[Dv.clearGo];split
  ·exact h1
  ·exact clearGo l _ _ h1
theorem Full.to2 {N:Nand} {b r m:Int} {l:List En} (h:Full (-1) N b r m l):Full (-2) N b r m l:=⟨h.is,λx hx _=>h.good x hx (by have:=(h.is.inn x hx).1;omega),h.inn⟩
theorem GI.cut {W:List (Int×En)} {S:Dv} {N':Nand} (h:GI (-2) W S) (like:S.N.Like N') (lit:N'.Lit) (dead:N'.dead=S.N.dead) (plan:∀a∈N'.plan,a∈S.N.plan) (flags:∀i j,(N'.blk i j).met=(S.N.blk i j).met/\(N'.blk i j).fails=(S.N.blk i j).fails)
  (blank:∀b,S.t.has b=true->(S.t.at_ b).used=false->∀d:Nat,(N'.blk d b.toNat).cells=(S.N.blk d b.toNat).cells)
  (pages:∀(d:Int) (b r:Nat) (c:NCell),N'.pageAt d b r=some c->a4s c\/∃c0,S.N.pageAt d b r=some c0/\(∀s,a1H s c0->a1H s c)/\(a4s c0->a4s c))
  (own:∀i a,Tb.look S.T.at_ i=some a->(∀d:Int,N'.pageAt d a.block a.row=S.N.pageAt d a.block a.row)\/∃l,FullW (-2) S.N a.block a.row a.mask l a.slot.toNat/\FullW (-2) N' a.block a.row a.mask l a.slot.toNat/\a.slot.toNat<l.length):
  GI (-2) W {S with N:=N',op:= -1}:=by
 have hdead:∀i:Nat,(i:Int)≠ -2->N'.dead.getD i false=false:=λi hi=>by rw[dead];exact h.inv.dead i hi
 have key:∀i a,Tb.look S.T.at_ i=some a->0<=a.slot/\∃l,FullW (-2) N' a.block a.row a.mask l a.slot.toNat/\a.slot.toNat<l.length/\(l.getD a.slot.toNat En.zero).lpn=i/\(l.getD a.slot.toNat En.zero).seq=a.seq/\(l.getD a.slot.toNat En.zero).role=a.role/\R.read N' a.block a.row a.slot a.mask=R.read S.N a.block a.row a.slot a.mask:=λi a ha=>by
  obtain⟨l,g1,g2,g3,g4,g5,g6⟩:=(h.inv.st i a ha).row;refine⟨g2,?_⟩;have hs:((a.slot.toNat:Nat):Int)=a.slot:=X9 g2;have r1:=g1.read h.inv.lit.off h.inv.dead g3;rcases own i a ha with e | ⟨l',f1,f2,f3⟩
  ·have k1:=g1.keep like λx _=>e x.1;have r2:=k1.read lit.off hdead g3;rw[hs]at r1 r2;exact⟨l,k1,g3,g4,g5,g6,by rw[r1,r2]⟩
  ·have r2:=f1.read h.inv.lit.off h.inv.dead f3;have r3:=f2.read lit.off hdead f3;rw[hs]at r1 r2 r3;have e:l'.getD a.slot.toNat En.zero=l.getD a.slot.toNat En.zero:=by rw[r1]at r2;injection r2 with r2 _;exact r2.symm
   exact⟨l',f2,f3,by rw[e];exact g4,by rw[e];exact g5,by rw[e];exact g6,by rw[r3,r2]⟩
 refine⟨⟨lit,hdead,λa ha=>h.inv.plan a (plan a ha),λi j hi=>?_,h.inv.tdead,h.inv.tbad, .inl rfl,λb hb hu d hd=>?_,λi a ha=>?_⟩,⟨h.hd.keys,λi e he=>?_⟩,h.wok,λi a ha=>?_,λb r hb hr=>?_⟩
 ·show(N'.blk i j).met=false/\(N'.blk i j).fails=false;rw[(flags i j).1,(flags i j).2];exact h.inv.flags i j hi
 ·show(N'.blk d b.toNat).cells=[];rw[blank b hb hu d];exact h.inv.blank b hb hu d hd
 ·obtain⟨k1,l,f1,f2,f3,f4,f5,_⟩:=key i a ha;have hs:=h.inv.st i a ha;exact⟨⟨l,f1,k1,f2,f3,f4,f5⟩,hs.used,λe=>by have:=f1.is.blk;have e:a.block= -1:=e;omega,hs.seq⟩
 ·obtain⟨h1,a,h2,h3⟩:=h.hd.each i e he;obtain⟨_,_,_,_,_,_,_,f6⟩:=key i a h2;refine⟨h1,a,h2,?_⟩;show R.read N' a.block a.row a.slot a.mask=_;rw[f6];exact h3
 ·show Msk N'.dies (-2) a.mask;rw[like.dies];exact h.msk i a ha
 ·have hb:b<N'.blocks:=hb;have hr:r<N'.pages:=hr;rw[like.blocks]at hb;rw[like.pages]at hr;exact(h.dsc b r hb hr).less like λd c hc=>pages d b r c hc
def a4L (q:List (Int×Sh)) (c:Nat) (kp:Int):Nat:=match q[c]? with
 | some x=>if S.getE (Nand.fillP kp.toNat (P7 x.2))=0 then c+1 else c
 | none=>c
theorem a7K {q:List (Int×Sh)} {c:Nat} {kp:Int} {x:Int×Sh} (h:q[c]? =some x):a4L q c kp=if S.getE (Nand.fillP kp.toNat (P7 x.2))=0 then c+1 else c:=by unfold a4L;rw[h]
theorem b1O (q:List (Int×Sh)) (c:Nat) (kp:Int):c<=a4L q c kp:=by
 unfold a4L;split
 ·split<;>omega
 ·exact j3 _
theorem num_take_lt {l:List En} {next:Int} {p k:Nat} (hp:p<=l.length) (hk:k<p):Dv.numAt (l.take p) next k=Dv.numAt l next k:=by
 unfold Dv.numAt;rw[d7 (by rw[l5];omega),d7 (by omega)];have:(l.take p).getD k En.zero=l.getD k En.zero:=by
  rw[d5,d5,C6,d7 hk]
 rw[this]
theorem b7H {l:List En} {next:Int} {n p:Nat} (hp:p=min l.length n):Dv.num (l.take p) next n=Dv.num l next n:=by
 unfold Dv.num;refine a0D λk hk=>?_;have hk:=List.mem_range.1 hk
 by_cases h:k<p
 ·exact num_take_lt (by omega) h
 ·unfold Dv.numAt;rw[d4 (by rw[l5];omega),d4 (by omega)]
structure TornW (Q V:Dv) (N':Nand) (l:List En):Prop where
 pages:∀(d:Int) (b r:Nat) (c:NCell),N'.pageAt d b r=some c->a4s c\/∃c0,V.N.pageAt d b r=some c0/\(∀s,a1H s c0->a1H s c)/\(a4s c0->a4s c)
 other:∀d b r:Int,0<=b->0<=r->(b=Q.op->r≠Q.row)->N'.pageAt d b r=V.N.pageAt d b r
 own:∀j,j<l.length->FullW (-2) N' Q.op Q.row Q.mask (Q.es l) j
 after:∀d:Nat,d<Q.N.dies->∀r,Q.row<r->N'.pageAt d Q.op r=none
 par:Full (-1) N' Q.op Q.row Q.mask (Q.es l)\/(M.look N'.onN (G.parity Q.mask Q.op Q.row) Q.op Q.row).2≠1
theorem b6P {Q:Dv} {l:List En} {N':Nand} {k m c p:Nat} {kp:Int} (hI:Inv (-2) Q) (hO:Q.Ok k m) (hno:NoF Q) (hl:Q.left=true) (hf:∀e∈l,FitR e) (hn:¬Q.next>1099511627775-(Q.fit l:Int)+1) (hkp:kp<=32) (hc:c<Q.N.dies) (t:TornR Q.N N' Q.op Q.row (R.job Q.op Q.row Q.mask (Q.es l)) c kp) (hp:p=min (Q.fit l) (a4L (R.job Q.op Q.row Q.mask (Q.es l)) c kp)):TornW Q (M8 Q (l.take p)) N' (l.take p):=by
 have hg:=hO.gd.ok.bd16;have ho:=hI.opn hl;obtain⟨m1,m2⟩:=a2y ho.mask.calm2 hg.1;have hR:=hI.rowIs hO hl hf hn;have hf':∀e∈l.take p,FitR e:=λe he=>hf e (I7 he);have hfit:Q.fit l=min l.length (G.slots Q.mask).toNat:=rfl;have hpl:p<=l.length/\p<=Q.fit l:=by omega
 have hlen:(l.take p).length=p:=by rw[l5];omega
 have hfit':Q.fit (l.take p)=p:=by unfold Dv.fit;rw[hlen];omega
 have hn':¬Q.next>1099511627775-(Q.fit (l.take p):Int)+1:=by rw[hfit'];omega
 have hR':=hI.rowIs hO hl hf' hn';have hrdy:RdyW Q.N Q.op Q.row Q.mask:=⟨hI.lit,λd hd ha=>(ho.cells d hd).2 ha⟩;have hq:=hrdy.rdy hR;have hq':=hrdy.rdy hR';have w3:WroteR Q.N (M8 Q (l.take p)).N Q.op Q.row (R.job Q.op Q.row Q.mask (Q.es (l.take p))):=(a4t hrdy hR').2.2;obtain⟨V,hV⟩:∃V,M8 Q (l.take p)=V:=⟨_,rfl⟩;rw[hV]at w3 ⊢;obtain⟨n,hnn⟩:∃n,(G.slots Q.mask).toNat=n:=⟨_,rfl⟩;have hel:(Q.es l).length=n:=by rw[Dv.es_len,hnn]
 have hel':(Q.es (l.take p)).length=n:=by rw[Dv.es_len,hnn]
 have hnD:n+1=Q.N.dies:=by omega
 have hdd:∀d:Nat,Q.N.dead.getD d false=false:=hno.dead;have hrow:=hR.row;have hjl:(R.job Q.op Q.row Q.mask (Q.es l)).length=n+1:=by rw[a4z,hel]
 have hjl':(R.job Q.op Q.row Q.mask (Q.es (l.take p))).length=n+1:=by rw[a4z,hel']
 have hat:∀k,k<=n->∃x x',(R.job Q.op Q.row Q.mask (Q.es l))[k]? =some x/\(R.job Q.op Q.row Q.mask (Q.es (l.take p)))[k]? =some x'/\x'.1=x.1:=λk hk=>by
  rcases L8 k n with h | h
  ·exact⟨_,_,a3u _ _ _ _ k (by omega),a3u _ _ _ _ k (by omega),rfl⟩
  ·obtain rfl:k=n:=by omega
   have a1:=Z7 Q.op Q.row Q.mask (Q.es l);have a2:=Z7 Q.op Q.row Q.mask (Q.es (l.take p));rw[hel]at a1;rw[hel']at a2;exact⟨_,_,a1,a2,rfl⟩
 have hfull:p=Q.fit l->Q.es (l.take p)=Q.es l:=λe=>by
  unfold Dv.es;exact b7H (by omega)
 have hsame:∀(k:Nat) (x x':Int×Sh),(R.job Q.op Q.row Q.mask (Q.es l))[k]? =some x->(R.job Q.op Q.row Q.mask (Q.es (l.take p)))[k]? =some x'->k<p\/p=Q.fit l->x'=x:=λk x x' h1 h2 hk=>by
  by_cases e:p=Q.fit l
  ·rw[hfull e,h1]at h2;injection h2 with h2;exact h2.symm
  ·have hk:k<p:=by omega
   rw[a3u _ _ _ _ k (by omega)]at h1 h2;have e2:(Q.es (l.take p)).getD k En.zero=(Q.es l).getD k En.zero:=by
    unfold Dv.es;rw[a7x (by omega),a7x (by omega),num_take_lt (by omega) hk]
   rw[e2]at h2;injection h1 with h1;injection h2 with h2;rw[<- h1,<- h2]
 have hcell:∀(k:Nat) (x:Int×Sh),(R.job Q.op Q.row Q.mask (Q.es l))[k]? =some x->N'.pageAt x.1 Q.op Q.row=(if k<c then some ⟨P7 x.2,false,false⟩else if k=c then some ⟨Nand.fillP kp.toNat (P7 x.2),false,true⟩else none)/\∀r,Q.row<r->N'.pageAt x.1 Q.op r=none:=λk x hk=>by
  have hcl:=hq.cells x (j9 hk) (hdd _);refine⟨?_,λr hr=>?_⟩
  ·unfold Nand.pageAt;rw[t.cells k x hk,B1 (by omega),show Q.row.toNat-(Q.N.blk x.1.toNat Q.op.toNat).cells.length=0 from by omega];split
   ·rfl
   split<;>rfl
  ·unfold Nand.pageAt;rw[t.cells k x hk,j6];rw[d8];have:(if k<c then[(⟨P7 x.2,false,false⟩:NCell)]else if k=c then[⟨Nand.fillP kp.toNat (P7 x.2),false,true⟩]else[]).length<=1:=by
    split
    ·exact j3 _
    split
    ·exact j3 _
    ·exact j8 _
   omega
 have hcellV:∀(k:Nat) (x':Int×Sh),(R.job Q.op Q.row Q.mask (Q.es (l.take p)))[k]? =some x'->V.N.pageAt x'.1 Q.op Q.row=some ⟨P7 x'.2,false,false⟩:=λk x' hk=>by
  have hx:=j9 hk;have hcl:=hq'.cells x' hx (hdd _);have hfl:Q.N.fails x'.1 Q.op Q.row=false:=by
   have:=hno.fails Q.op Q.row x'.1.toNat
   rw[show((x'.1.toNat:Nat):Int)=x'.1 from by have:=(hR'.inn x' hx).1;omega]at this;unfold Nand.failB at this;rw[D5]at this;exact this.2
  have hc:=w3.cells x' hx;rw[hdd,d4 (by decide),hfl]at hc;unfold Nand.pageAt;rw[hc,B1 (by omega),show Q.row.toNat-(Q.N.blk x'.1.toNat Q.op.toNat).cells.length=0 from by omega];rfl
 have hother:∀d b r:Int,0<=b->0<=r->(b=Q.op->r≠Q.row)->N'.pageAt d b r=V.N.pageAt d b r:=λd b r hb hr hne=>by
  rw[t.page hq (λx _=>hdd _) hb hr hne,a0H,a0H V.N];exact(w3.page hq' (V7 _) hb hr hne).symm
 have hpage:∀(d:Int) (c':NCell),N'.pageAt d Q.op Q.row=some c'->a4s c'\/∃c0,V.N.pageAt d Q.op Q.row=some c0/\(∀s,a1H s c0->a1H s c')/\(a4s c0->a4s c'):=λd c' hc'=>by
  by_cases hd:d.toNat<Q.N.dies
  ·obtain⟨x0,hx,hxd⟩:=hR.on (d:=d.toNat) (by rw[m1,L.all_has _ (by omega),i7 (by omega),i7 (by omega)];rfl);obtain⟨k,hk⟩:=W7 hx;have hkn:k<=n:=by
    have:=(List.getElem?_eq_some_iff.1 hk).1;omega
   obtain⟨x,x',e1,e2,e3⟩:=hat k hkn;rw[hk]at e1;injection e1 with e1;subst e1;have hv:=hcellV k x' e2;rw[e3]at hv;rw[a0H,<- hxd,(hcell k x0 hk).1]at hc';rw[a0H,<- hxd];have htp:=b1O (R.job Q.op Q.row Q.mask (Q.es l)) c kp
   by_cases hkc:k<c
   ·rw[d7 hkc]at hc';injection hc' with hc';have:=hsame k x0 x' hk e2 (by omega);rw[this]at hv;rw[<- hc'];exact .inr ⟨_,hv,λ_ h=>h,λh=>h⟩
   ·rw[d4 hkc]at hc'
    by_cases hkc2:k=c
    ·subst hkc2;rw[d7 rfl]at hc';injection hc' with hc';rw[<- hc'];have htk:=a7K (kp:=kp) hk
     by_cases hE:S.getE (Nand.fillP kp.toNat (P7 x0.2))=0
     ·rw[d7 hE]at htk;have:=hsame k x0 x' hk e2 (by omega);rw[this]at hv;refine .inr ⟨_,hv,λs hs=>?_,λhb=>?_⟩
      ·rcases hs with hs | hs | ⟨hs,_⟩
       ·rcases hs with hs | ⟨hs,_⟩<;>cases hs
       ·have hs:P7 x0.2=P7 s:=hs;exact .inr (.inr ⟨rfl, .inr ⟨kp.toNat,by omega,by rw[<- hs]⟩⟩)
       ·cases hs
      ·rcases hb with hb | ⟨hb,_⟩<;>cases hb
     ·exact .inl (.inr ⟨rfl,hE⟩)
    ·rw[d4 hkc2]at hc';cases hc'
  ·refine .inr ⟨c',?_,λ_ h=>h,λh=>h⟩;rw[<- hc'];unfold Nand.pageAt;rw[t.rest d.toNat Q.op.toNat (.inr λx hx=>by have:=hR.inn x hx;omega),w3.rest d.toNat Q.op.toNat (.inr λx hx=>by have:=hR'.inn x hx;omega)]
 have hin:RowIn N' Q.op Q.row Q.mask (Q.es (l.take p)):=λx' hx' c' hc'=>by
  rcases hpage _ c' hc' with e | ⟨c0,e1,e2,_⟩
  ·exact .inl e
  ·obtain⟨k,hk⟩:=W7 hx';rw[hcellV k x' hk]at e1;injection e1 with e1;exact e2 _ (by rw[<- e1];exact .inr (.inl rfl))
 have htp:=b1O (R.job Q.op Q.row Q.mask (Q.es l)) c kp;have hgood:∀(k:Nat) (x:Int×Sh),(R.job Q.op Q.row Q.mask (Q.es l))[k]? =some x->k<a4L (R.job Q.op Q.row Q.mask (Q.es l)) c kp->a7d N' x Q.op Q.row:=λk x hk hlt=>by
  have h1:=(hcell k x hk).1
  by_cases hkc:k<c
  ·rw[d7 hkc]at h1;exact⟨_,h1,rfl,a6p (hR.sh x (j9 hk)).1⟩
  ·have e:k=c:=by
    have:a4L (R.job Q.op Q.row Q.mask (Q.es l)) c kp<=c+1:=by
     unfold a4L;split
     ·split<;>omega
     ·omega
    omega
   subst e;rw[d4 hkc,d7 rfl]at h1;have htk:=a7K (kp:=kp) hk
   by_cases hE:S.getE (Nand.fillP kp.toNat (P7 x.2))=0
   ·exact⟨_,h1,rfl,hE⟩
   ·rw[d4 hE]at htk;omega
 refine⟨λd b r c' hc'=>?_,hother,λj hj=>⟨hR'.like t.like, .inr ⟨rfl,?_,λi hi hij=>?_⟩,hin⟩,λd hd r hr=>?_,?_⟩
 ·by_cases e:(b:Int)=Q.op/\(r:Int)=Q.row
  ·rw[e.1,e.2]at hc' ⊢;exact hpage d c' hc'
  ·refine .inr ⟨c',?_,λ_ h=>h,λh=>h⟩;rw[<- hc'];exact(hother d b r (V7 _) (V7 _) λe1 e2=>e ⟨e1,e2⟩).symm
 ·rw[hlen]at hj;obtain⟨x,x',e1,e2,e3⟩:=hat j (by omega);obtain⟨c0,y1,y2,y3⟩:=hgood j x e1 (by omega);exact⟨x',e2,c0,by rw[e3];exact y1,y2,y3⟩
 ·rw[hlen]at hj;have hnx:=hO.next;have hget:∀i,i<n->(Q.es (l.take p)).getD i En.zero=Dv.numAt (l.take p) Q.next i:=λi hi=>by
   unfold Dv.es;exact a7x (by omega)
  rw[hget i (by omega),hget j (by omega)]at hij;unfold Dv.numAt at hij;rw[d7 (by omega:j<(l.take p).length)]at hij
  by_cases hil:i<(l.take p).length
  ·rw[d7 hil]at hij;have hij:Q.next+(i:Int)=Q.next+(j:Int):=hij;omega
  ·rw[d4 hil]at hij;have hij:(0:Int)=Q.next+(j:Int):=hij;omega
 ·obtain⟨x,hx,hxd⟩:=hR.on (d:=d) (by rw[m1,L.all_has _ (by omega),i7 (by omega),i7 (by omega)];rfl);obtain⟨k,hk⟩:=W7 hx;rw[<- hxd];exact(hcell k x hk).2 r hr
 ·obtain⟨x,x',e1,e2,e3⟩:=hat n (j3 _);have hpx:x'.1=G.parity Q.mask Q.op Q.row:=by
   have a2:=Z7 Q.op Q.row Q.mask (Q.es (l.take p));rw[hel',e2]at a2;injection a2 with a2;rw[a2]
  have h1:=(hcell n x e1).1;rw[<- e3,hpx]at h1
  by_cases hcn:n=c
  ·have htk:=a7K (kp:=kp) (c:=c) (by rw[<- hcn];exact e1);rw[d4 (by omega),d7 hcn]at h1
   by_cases hE:S.getE (Nand.fillP kp.toNat (P7 x.2))=0
   ·rw[d7 hE]at htk;refine .inl ⟨hR'.like t.like,λy hy _=>?_,hin⟩;obtain⟨k,hk⟩:=W7 hy;have hkn:k<=n:=by
     have:=(List.getElem?_eq_some_iff.1 hk).1;omega
    obtain⟨z,z',f1,f2,f3⟩:=hat k hkn;rw[hk]at f2;injection f2 with f2;obtain⟨c0,y1,y2,y3⟩:=hgood k z f1 (by omega);exact⟨c0,by rw[f2,f3];exact y1,y2,y3⟩
   ·exact .inr (b2q (N:=N'.onN) h1 (.inr ⟨rfl,hE⟩))
  ·rw[d4 (by omega),d4 (by omega)]at h1;exact .inr (a2e (N:=N'.onN) h1)
theorem c0p {N N':Nand} {d b r:Int} (hl:N.Like N') (ho:N'.off=N.off) (hd:N'.dead=N.dead) (hp:N'.pageAt d b r=N.pageAt d b r):M.look N' d b r=M.look N d b r:=by
 have hr:N'.refuses d b r=N.refuses d b r:=by
  unfold Nand.refuses;rw[ho,hl.dies,hl.blocks,hl.pages,hd]
 have h1:N'.readE d b r=N.readE d b r:=by unfold Nand.readE;rw[hr,hp]
 have h2:N'.readV d b r=N.readV d b r:=by unfold Nand.readV;rw[hr,hp]
 unfold M.look;simp only[h1,h2]
structure TornAt (N:Nand) (a:AtV):Prop where
 after:∀d:Nat,d<N.dies->∀r:Int,a.row<r->N.pageAt d a.block r=none
 par:(M.look N (G.parity a.mask a.block a.row) a.block a.row).2≠1
theorem TornAt.keep {N N':Nand} {a:AtV} (h:TornAt N a) (hl:N.Like N') (ho:N'.off=N.off) (hd:N'.dead=N.dead) (hr:0<=a.row) (hp:∀d r:Int,0<=r->N'.pageAt d a.block r=N.pageAt d a.block r):TornAt N' a:=
 ⟨λd hdd r hrr=>by rw[hp d r (by omega)];exact h.after d (by rw[<- hl.dies];exact hdd) r hrr,by rw[c0p hl ho hd (hp _ _ hr)];exact h.par⟩
structure Trn (X:List Int) (S:Dv):Prop where
 each:∀i a,Tb.look S.T.at_ i=some a->(∃l,Full (-1) S.N a.block a.row a.mask l)\/(i∈X/\a.block≠S.op/\TornAt S.N a)
theorem Trn.mono {X X':List Int} {S:Dv} (h:Trn X S) (hX:∀i∈X,i∈X'):Trn X' S:=⟨λi a ha=>(h.each i a ha).imp id λ⟨h1,h2⟩=>⟨hX i h1,h2⟩⟩
namespace Trn
variable {X X' : List Int} {W : List (Int × En)} {lg k m : Nat} {S Q : Dv} {l : List En}
theorem at1 (h:Trn X S) (hI:Inv (-2) S) (h0:¬(S.left=false/\S.pick<0)):Trn X S.at1:=by
 have hat:=Dv.at1_like S;refine⟨λi a ha=>?_⟩;rw[hat.2.1]at ha;rw[hat.1];refine(h.each i a ha).imp id λ⟨h1,h2,h3⟩=>⟨h1,?_,h3⟩;unfold Dv.at1;cases hl:S.left with
 | true=>rw[d7 rfl];exact h2
 | false=>
  rw[d4 (by decide)];have hb:=Dv.pick_blank (S:=S) λe=>h0 ⟨hl,e⟩;intro e;have e:a.block=S.pick:=e;have hu:=(hI.st i a ha).used;unfold Tl.blank at hb;rw[f8,i4]at hb;rw[e,hb.2]at hu;cases hu
theorem wrote (h:Trn X Q) (hI:Inv (-2) Q) (hno:NoF Q) (hO:Q.Ok k m) (hL:Last (-2) Q l) (hf:∀e∈l,FitR e) (hlg:∀e∈l,e.lpn<Q.T.logical) (hnd:(l.map (·.lpn)).Nodup) (hX:∀i∈X,i∈X'\/∃j,j<Q.fit l/\(l.getD j En.zero).lpn=i):Trn X' (M8 Q l):=by
 obtain⟨l1,l2⟩:=hL.look hI hO hf hlg hnd;have hR:=hI.rowIs hO hL.left hf hL.bd;have hfull:=a7G hI hL.left hR λd _=>hno.fails _ _ _;have ho:=hI.opn hL.left;have hrdy:RdyW Q.N Q.op Q.row Q.mask:=⟨hI.lit,λd hd ha=>(ho.cells d hd).2 ha⟩;have hq:=hrdy.rdy hR;have w:WroteR Q.N (M8 Q l).N Q.op Q.row (R.job Q.op Q.row Q.mask (Q.es l)):=(a4t hrdy hR).2.2;refine⟨λi a ha=>?_⟩
 by_cases hex:∃j,j<Q.fit l/\(l.getD j En.zero).lpn=i
 ·obtain⟨j,hj,rfl⟩:=hex;rw[l1 j hj]at ha;injection ha with ha;rw[<- ha];exact .inl ⟨_,hfull⟩
 ·rw[l2 i λj hj e=>hex ⟨j,hj,e⟩]at ha;have hst:=hI.st i a ha;rcases h.each i a ha with⟨l',g1⟩ | ⟨g1,g2,g3⟩
  ·exact .inl ⟨l',g1.keep w.like λx hx=>w.page hq (g1.is.inn x hx).1 g1.is.blk.1 g1.is.row.1 λe=>by have:=hst.below e;omega⟩
  ·obtain⟨l',f1,_⟩:=hst.row;refine .inr ⟨(hX i g1).resolve_right hex,g2,g3.keep w.like (w.lit.off.trans hI.lit.off.symm) w.dead f1.is.row.1 λd r hr=>?_⟩;rw[a0H,a0H Q.N];exact w.page hq (V7 _) f1.is.blk.1 hr λe=>absurd e g2
end Trn
structure Lf (N0:Nand) (W:List (Int×En)) (lg:Nat) (X:List Int) (β k m:Nat) (nx:Int) (N':Nand):Prop where
 off:N'.off=true
 like:N0.Like N'
 dead:N'.dead=N0.dead
 broken:N'.broken=N0.broken
 ex:∃V:Dv,V.N=N'.onN/\Cm W lg V/\Trn X V/\V.Ok k m/\V.op= -1/\β<=V.N.pages*V.t.blanks+V.N.pages/\V.next<=nx
theorem Lf.mono {N0 N1:Nand} {W:List (Int×En)} {lg β β' k k' m:Nat} {X X':List Int} {nx nx':Int} {N':Nand} (h:Lf N0 W lg X β k m nx N') (hN:N1.Like N0/\N0.dead=N1.dead/\N0.broken=N1.broken) (hX:∀i∈X,i∈X') (hβ:β'<=β) (hk:k'<=k) (hnx:nx<=nx'):Lf N1 W lg X' β' k' m nx' N':=by
 obtain⟨V,v1,v2,v3,v4,v5,v6,v7⟩:=h.ex;exact⟨h.off,hN.1.trans h.like,h.dead.trans hN.2.1,h.broken.trans hN.2.2,V,v1,v2,v3.mono hX,v4.less hk,v5,E9 hβ v6,Int.le_trans v7 hnx⟩
theorem b3p (N:Nand) (x y z:Int) (pg:List UInt8) (i j:Nat):((N.progN x y z pg).blk i j).met=(N.blk i j).met/\((N.progN x y z pg).blk i j).fails=(N.blk i j).fails:=by
 have key:∀(M:Nand) (c:NCell),M.blk=N.blk->((M.push x.toNat y.toNat c).blk i j).met=(N.blk i j).met/\((M.push x.toNat y.toNat c).blk i j).fails=(N.blk i j).fails:=λM c hM=>by
  have:(M.push x.toNat y.toNat c).blk i j=if i=x.toNat/\j=y.toNat then {M.blk x.toNat y.toNat with cells:=(M.blk x.toNat y.toNat).cells++[c]}else M.blk i j:=rfl
  rw[this,hM];split
  ·rename_i e;rw[e.1,e.2];exact⟨rfl,rfl⟩
  ·exact⟨rfl,rfl⟩
 unfold Nand.progN;split
 ·exact⟨rfl,rfl⟩
 split
 ·exact⟨rfl,rfl⟩
 split
 ·exact key _ _ rfl
 ·exact key _ _ rfl
theorem a8F (b r:Int) (i j:Nat):∀(q:List (Int×Sh)) (N:Nand) (f:Int),((R.go b r q N f).1.blk i j).met=(N.blk i j).met/\((R.go b r q N f).1.blk i j).fails=(N.blk i j).fails
 | [],_,_=>⟨rfl,rfl⟩
 | (d,s)::q,N,f=>by
  have h1:=b3p N d b r (P7 s) i j;rw[R.go];split
  ·have h2:=a8F b r i j q (N.progN d b r (P7 s)) f;exact⟨h2.1.trans h1.1,h2.2.trans h1.2⟩
  split
  ·exact h1
  ·have h2:=a8F b r i j q (N.progN d b r (P7 s)) (L.with_ f d);exact⟨h2.1.trans h1.1,h2.2.trans h1.2⟩
theorem a9A (W:List (Int×En)) (l:List En) (p:Nat):∀n,n<=p->a0W W (l.take p) n=a0W W l n
 | 0,_=>rfl
 | n+1,h=>by
  have:(l.take p).getD n En.zero=l.getD n En.zero:=by
   rw[d5,d5,C6,d7 (by omega)]
  rw[a1h,a1h,a9A W l p n (by omega),this]
theorem b5i {W:List (Int×En)} {lg k k' m c p:Nat} {kp:Int} {X X':List Int} {Q:Dv} {l:List En} {N':Nand} (hG1:GI (-2) W Q) (hN1:NoF Q) (hT1:Trn X Q) (hlog1:Q.T.logical=(lg:Int)) (p3:Q.Ok k m) (hl:Q.left=true) (hE:Ent lg l) (hbd:¬Q.next>1099511627775-(Q.fit l:Int)+1) (hkp:kp<=32) (hc:c<Q.N.dies) (t:TornR Q.N N' Q.op Q.row (R.job Q.op Q.row Q.mask (Q.es l)) c kp) (hfl:∀i j,(N'.blk i j).met=(Q.N.blk i j).met/\(N'.blk i j).fails=(Q.N.blk i j).fails) (hgd:N'.Gd k' m) (hp:p=min (Q.fit l) (a4L (R.job Q.op Q.row Q.mask (Q.es l)) c kp)) (hX1:∀i∈X,i∈X') (hX2:∀j,j<p->(l.getD j En.zero).lpn∈X'):
  Lf Q.N (a0W W l p) lg X' Q.rows k' m (Q.next+7) N':=by
 have hg:=p3.gd.ok.bd16;have hf:∀e∈l,FitR e:=λe he=>(hE.1 e he).1;have hQI:=hG1.inv;have ho:=hQI.opn hl;obtain⟨m1,m2⟩:=a2y ho.mask.calm2 hg.1;have hR:=hQI.rowIs p3 hl hf hbd;have hrdy:RdyW Q.N Q.op Q.row Q.mask:=⟨hQI.lit,λd hd ha=>(ho.cells d hd).2 ha⟩;have hq:=hrdy.rdy hR;have hdd0:∀d:Nat,Q.N.dead.getD d false=false:=hN1.dead;have hfit:Q.fit l=min l.length (G.slots Q.mask).toNat:=rfl;have hpl:p<=l.length/\p<=Q.fit l/\p<=Q.N.dies-1:=by omega
 have hlen:(l.take p).length=p:=by rw[l5];omega
 have hfit':Q.fit (l.take p)=p:=by unfold Dv.fit;rw[hlen];omega
 have tw:=b6P hQI p3 hN1 hl hf hbd hkp hc t hp;have hf':∀e∈l.take p,FitR e:=λe he=>hf e (I7 he);have hbd':¬Q.next>1099511627775-(Q.fit (l.take p):Int)+1:=by rw[hfit'];omega
 have hR':=hQI.rowIs p3 hl hf' hbd';have ht:=hQI.turn p3 hl hf' hbd';have herr':(Q.wr (l.take p)).2.1=0:=L.ext ht.set (by decide) λd hd=>by
  rw[L.has_zero];cases hh:L.has (Q.wr (l.take p)).2.1 (d:Nat)with
  | false=>rfl
  | true=>
   obtain⟨x1,x2⟩:=ht.only _ hh;omega
 have hL:Last (-2) Q (l.take p):=⟨hl,herr',hbd',ht⟩;have hnd':((l.take p).map (·.lpn)).Nodup:=hE.2.sublist ((List.take_sublist _ _).map _);have hlgQ:∀e∈l.take p,e.lpn<Q.T.logical:=λe he=>by rw[hlog1];exact(hE.1 e (I7 he)).2
 have hG2:=hG1.wrote p3 hL hf' hnd' hlgQ;obtain⟨l1,l2⟩:=hL.look hQI p3 hf' hlgQ hnd';have hF2:=a7G hQI hl hR' λd _=>hN1.fails _ _ _;rw[hfit']at hG2 l1 l2;rw[a9A W l p p (j3 _)]at hG2;have hlkQ:Q.N.Like (M8 Q (l.take p)).N:=ht.like;have hlk:Q.N.Like N':=t.like;have hlkO:Q.N.Like N'.onN:=⟨hlk.dies,hlk.blocks,hlk.pages⟩;have hlk2:(M8 Q (l.take p)).N.Like N'.onN:=⟨hlk.dies.trans hlkQ.dies.symm,hlk.blocks.trans hlkQ.blocks.symm,hlk.pages.trans hlkQ.pages.symm⟩;have hout:∀d b r:Int,0<=b->0<=r->(b=Q.op->r≠Q.row)->N'.onN.pageAt d b r=Q.N.pageAt d b r:=λd b r hb hr hne=>t.page hq (λx _=>hdd0 _) hb hr hne;have hel':(Q.es (l.take p)).length=(G.slots Q.mask).toNat:=Dv.es_len _ _;have hcut:GI (-2) (a0W W l p) {M8 Q (l.take p)with N:=N'.onN,op:= -1}:=by
  refine hG2.cut hlk2 ⟨rfl,rfl⟩ (t.dead.trans ht.dead.symm) (λa ha=>?_) (λi j=>?_) (λb hb hu d=>?_) (λd b r c' hc'=>tw.pages d b r c' hc') (λi a ha=>?_)
  ·have:=t.plan a ha;rw[hN1.plan]at this;cases this
  ·have h1:=hfl i j;have h2:=ht.flags i j;exact⟨h1.1.trans h2.1.symm,h1.2.trans h2.2.1.symm⟩
  ·have hb:Q.t.has b=true:=hb;have hu:(Q.t.at_ b).used=false:=hu;have hb0:=Tl.has_iff.1 hb;have hne:b.toNat≠Q.op.toNat:=λe=>by
    have hbk:=ho.blk;have:b=Q.op:=by omega
    rw[this,ho.used]at hu;cases hu
   show(N'.blk d b.toNat).cells=((Q.wrote (l.take p)).N.blk d b.toNat).cells;rw[t.rest d b.toNat (.inl hne),ht.rest d b.toNat hne]
  ·by_cases hex:∃j,j<p/\((l.take p).getD j En.zero).lpn=i
   ·obtain⟨j,hj,rfl⟩:=hex;rw[l1 j hj]at ha;injection ha with ha;rw[<- ha];refine .inr ⟨Q.es (l.take p),?_,?_,?_⟩
    ·exact hF2.to2.w _
    ·exact(tw.own j (by omega)).keep (N':=N'.onN) ⟨rfl,rfl,rfl⟩ λ_ _=>rfl
    ·show((j:Nat):Int).toNat<_;rw[i9];omega
   ·rw[l2 i λj hj e=>hex ⟨j,hj,e⟩]at ha;left;intro d;obtain⟨l0,f1,_⟩:=(hQI.st i a ha).row;exact tw.other d _ _ f1.is.blk.1 f1.is.row.1 λe=>by have:=(hQI.st i a ha).below e;omega
 have hbl:Q.rows<=Q.N.pages*Q.t.blanks+Q.N.pages:=by
  unfold Dv.rows;have hrow:=ho.row;split<;>omega
 have hput:=Dv.puts_ok p3.T p3.sl Q.op Q.row Q.mask (Q.es (l.take p)) (Q.fit (l.take p)) (by omega);have hrp:=(Dv.left_spec hl).2.1;have hnx3:=p3.next;have hrow3:=p3.row;refine⟨t.off,t.like,t.dead,t.broken,{M8 Q (l.take p)with N:=N'.onN,op:= -1},rfl,⟨hcut,⟨λi=>?_,?_,λi j=>?_,λi j=>?_⟩,?_⟩,⟨λi a ha=>?_⟩,⟨Nand.Gd.on hgd,?_,hput.1,hput.2.1,?_,?_⟩,rfl,?_,?_⟩
 ·show N'.dead.getD i false=false;rw[t.dead];exact hN1.dead i
 ·exact List.eq_nil_iff_forall_not_mem.2 λa ha=>(by have:=t.plan a ha;rw[hN1.plan]at this;cases this)
 ·exact(hfl i j).1.trans (hN1.met i j)
 ·exact(hfl i j).2.trans (hN1.fl i j)
 ·show(Dv.puts Q.T Q.op Q.row Q.mask (Q.es (l.take p)) (Q.fit (l.take p))).logical=_;rw[hput.2.2];exact hlog1
 ·have ha:Tb.look (M8 Q (l.take p)).T.at_ i=some a:=ha
  by_cases hex:∃j,j<p/\((l.take p).getD j En.zero).lpn=i
  ·obtain⟨j,hj,rfl⟩:=hex;rw[l1 j hj]at ha;injection ha with ha;have hjl:(l.take p).getD j En.zero=l.getD j En.zero:=by
    rw[d5,d5,C6,d7 hj]
   rw[<- ha];rcases tw.par with hF | hP
   ·exact .inl ⟨_,hF.keep (N':=N'.onN) ⟨rfl,rfl,rfl⟩ λ_ _=>rfl⟩
   ·refine .inr ⟨by rw[hjl];exact hX2 j hj,λe=>by have:=ho.blk;have e:Q.op= -1:=e;omega,λd hd r hr=>?_,hP⟩;exact tw.after d (by rw[<- hlk.dies];exact hd) r hr
  ·rw[l2 i λj hj e=>hex ⟨j,hj,e⟩]at ha;have hst:=hQI.st i a ha;obtain⟨l0,f1,_⟩:=hst.row;have hb0:=f1.is.blk;rcases hT1.each i a ha with⟨l',g1⟩ | ⟨g1,g2,g3⟩
   ·exact .inl ⟨l',g1.keep hlkO λx _=>hout _ _ _ f1.is.blk.1 f1.is.row.1 λe=>by have:=hst.below e;omega⟩
   ·refine .inr ⟨hX1 i g1,λe=>by have e:a.block= -1:=e;omega,g3.keep hlkO hQI.lit.off.symm t.dead f1.is.row.1 λd r hr=>hout d _ r f1.is.blk.1 hr λe=>absurd e g2⟩
 ·exact p3.t.like hlkO
 ·show 0<=Q.row+1/\Q.row+1<=8;omega
 ·show 1<=Q.next+(Q.fit (l.take p):Int)/\Q.next+(Q.fit (l.take p):Int)<=1099511627776;omega
 ·show Q.rows<=N'.pages*Q.t.blanks+N'.pages;rw[hlk.pages];exact hbl
 ·show Q.next+(Q.fit (l.take p):Int)<=_;omega
theorem Inv.rows_bl {fd:Int} {S:Dv} (h:Inv fd S):S.rows<=S.N.pages*S.t.blanks+S.N.pages:=by
 unfold Dv.rows;split
 ·rcases h.op with e | ho
  ·omega
  ·have hrow:=ho.row;omega
 ·omega
end Go.Proofs.YtmafiplddapokaaGreat
