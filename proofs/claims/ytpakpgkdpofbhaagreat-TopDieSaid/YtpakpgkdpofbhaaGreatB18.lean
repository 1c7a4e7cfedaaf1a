/- Helpers. No condition. -/
import Derived.Test.YtpakpgkdpofbhaaGreatB28
import Derived.Test.YtpakpgkdpofbhaaGreatB00
import Derived.Test.YtpakpgkdpofbhaaGreatB01
import Derived.Test.YtpakpgkdpofbhaaGreatB04
import Derived.Test.YtpakpgkdpofbhaaGreatB15
import Derived.Test.YtpakpgkdpofbhaaGreatB17
import Derived.Test.YtpakpgkdpofbhaaGreatRows
import Derived.JoinedOf
set_option maxRecDepth 20000
set_option linter.all false
namespace Go.Proofs.YtpakpgkdpofbhaaGreat
open Go Go.RowKit
def flS:Stp:=⟨4,0,zd,0,0,dF⟩
theorem Pv.step_flush (P:Pv) (Z:Fv) (hZ:P.Z=some Z) (s:Stp) (hs:s.fn=4):P.step s=(⟨a1u Z.S.N.ops P.L,P.log++[⟨(Z.setN (a0q Z.S.N (R0 Z.S.N.ops P.L))).flush.2,zd⟩],some (Z.setN (a0q Z.S.N (R0 Z.S.N.ops P.L))).flush.1,P.M⟩,⟨(Z.setN (a0q Z.S.N (R0 Z.S.N.ops P.L))).flush.2,zd⟩):=by
 have hnd:P.nd=Z.S.N:=by unfold Pv.nd;rw[hZ]
 have hrun:P.run=⟨a1u Z.S.N.ops P.L,P.log,some (Z.setN (a0q Z.S.N (R0 Z.S.N.ops P.L))),P.M⟩:=by unfold Pv.run;rw[hnd];unfold Pv.setN;rw[hZ]
 have hd:P.run.does s=({P.run with Z:=some (Z.setN (a0q Z.S.N (R0 Z.S.N.ops P.L))).flush.1},⟨(Z.setN (a0q Z.S.N (R0 Z.S.N.ops P.L))).flush.2,zd⟩):=by
  rw[hrun];unfold Pv.does;rw[i7 (by rw[hs];decide),i7 (by rw[hs];decide),i7 (by rw[hs];decide),i9 hs]
 unfold Pv.step;rw[hd,hrun]
theorem c0l (q n:Nat) (A:Pad) (P:Pv) (hA:A.Ok P) (Z:Fv) (hZ:P.Z=some Z) (most:Int) (k m:Nat) (hO:Z.Ok (Fv.cW*200+(Dv.costS+(Dv.costK+(1+(Dv.costS*a5i most+k))))) m) (hoff:Z.S.N.off=false) (hm:m+(R0 Z.S.N.ops P.L).length<=1000) (hL:P.L.length<=1000) (hlg:P.log.length<=1000) (Z1:Fv) (hZ1:(P.step flS).1.Z=some Z1):FP 64 [pp q,iI most] (a3D q n A P)
  (λv As=>∃A':Pad,v= .bool (decide ((Z1.ticks most).2>=0))/\A'.Ok {(P.step flS).1 with Z:=some (Z1.ticks most).1}/\As=a3D q n A' {(P.step flS).1 with Z:=some (Z1.ticks most).1}):=by
 have hsf:=Pv.step_flush P Z hZ flS rfl;obtain⟨D,hD⟩:∃D,R0 Z.S.N.ops P.L=D:=⟨_,rfl⟩;rw[hD]at hm hsf;have hO2:(Z.setN (a0q Z.S.N D)).Ok (Fv.cW*200+(Dv.costS+(Dv.costK+(1+(Dv.costS*a5i most+k))))) (m+D.length):=hO.setN (a8h _ _) (a3n hO.dv.gd D);have hkp:=Fv.flush_keep hO2;have hz1:Z1=(Z.setN (a0q Z.S.N D)).flush.1:=by rw[hsf]at hZ1;injection hZ1 with e;exact e.symm
 rw[<- hz1]at hkp;have hst:=a7i q n A P hA Z hZ _ m hO (by rw[hD];exact hm) hL hlg flS rfl;have hone:(P.step flS).1=⟨a1u Z.S.N.ops P.L,(P.step flS).1.log,some Z1,P.M⟩:=by rw[hsf,hz1]
 have hpl:a3D q n A P=[PlQ q n (some Z) A.f (pp A.fp) (slv A.a2 P.log.length A.c2), .pt A.fp 247 [.slice (R3 A.a) P.L.length A.c],rdA (R3 A.a) 7 P.L.length (B3 P.L),t7 61 17 A.a2 P.log.length A.c2 (U1 P.log)]++FvP A.f A.p n A.t A.l A.d Z:=by unfold a3D a4o;rw[hZ];rfl
 rw[hpl]at hst ⊢;refine FE [2,0] Tryz.func64 λX F hX=>?_;refine J.qp (a7j q n (flP (some Z) A.f) (pp A.fp) (slv A.a2 P.log.length A.c2)) [1] λ_=>?_;refine J.qp (a5g n Z.S.N) [7] λ_=>?_;rw[hoff];refine J.qp (b6Q q n (some Z) A.f (pp A.fp) (slv A.a2 P.log.length A.c2)) [1] λ_=>?_;refine J.qF λ_=>?_;refine J.qc (hst) [1,2,3,4,5,6,7,8,9,10] λ_=>?_;rintro v As ⟨A',rfl,hA',rfl⟩;rw[hone]at hA' ⊢;refine⟨_,rfl,trivial,?_⟩;refine J.qp (b6Q q n (some Z1) A'.f (pp A'.fp) (slv A'.a2 (P.step flS).1.log.length A'.c2)) [1] λ_=>?_;refine J.qp (b2G A'.f A'.p n A'.t A'.l A'.d Z1 k (m+D.length) most (hkp.1.less (by omega)) hm) [5,6,7,8,9,10] λ_=>?_;refine J.qr [1,2,3,4,5,6,7,8,9,10] λ_=>?_;refine⟨A',rfl,?_,?_⟩
 ·rw[hone];exact⟨hA'.z,hA'.c⟩
 ·rw[hone];rfl
theorem c0f (x d:List UInt8):decide (d=x)=(x==d):=by
 by_cases h:x=d
 ·rw[h];simp
 ·rw[y8 (λe=>h e.symm),beq_eq_false_iff_ne.2 h]
theorem b5Y (a:Option Nat) (n c:Nat) (l:List (List UInt8)) (hl:l.length=n) (hn:n<=1000000) (d:List UInt8) (hd:d.length=16) (hs:∀x∈l,x.length=16):FP 147 [slv a n c,a6l d] [t7 30 16 a n c (Q1 l)] (λv As=>v=iI (match l.findIdx? (λx=>x==d)with | some k=>(k:Int) | none=> -1)/\As=[t7 30 16 a n c (Q1 l)]):=by
 refine FE [0,0] Tryz.func147 λX F hX=>?_;refine J.q λbb=>?_;refine J.l (α:=Nat) (λk=>k<=n/\∀j,j<k->∀x,l[j]? =some x->(x==d)=false) (λk=>[si 8 k,si 7 n,sv 0 (slv a n c),⟨3,pp (bb 0),3, .tt⟩]) [] (λk=>[]) (λk=>n-k) (0) (⟨n7 _,λj hj=>absurd hj (Nat.not_lt_zero _)⟩) λk hI=>?_;obtain⟨hk,hno⟩:=hI;refine J.qd (λ_ h1=>?_) λ_ h1=>?_
 ·simp only[g7,j9]at h1;obtain⟨x,hx⟩:∃x,l[k]? =some x:=⟨_,d6 (by omega)⟩;refine J.know (λh' s=>D7 (c:=(a,c)) (by omega) (s.get (i:=1) rfl)) λhg=>?_;obtain⟨g,rfl⟩:=hg;refine J.pn 4 (.of [1,4,8,12,17,20]) [] [1,2] λ_ _=>?_;have hxl:=hs x (x9 hx);refine J.vT (a6l x) rfl rfl (λhg aa w he hC=>L8 tk rfl rfl he rfl rfl rfl (hC rfl _ (C4 (i:=1) rfl)) (by rw[show 0+(k:Int).toNat*16=k*16 from by omega];exact a3T I1 16 (λ_=>rfl) l k x hx) rfl) ?_;refine J.vT (.bool (x==d)) rfl rfl (λhg aa w he hC=>(W8 (xs:=I1 d) (ys:=I1 x) rfl rfl rfl he rfl rfl a0v (X2 _) (X2 _) mkD gdD).trans (by rw[eqD _ _ hd hxl,c0f])) ?_;refine J.qd (λ_ h2=>?_) λ_ h2=>?_
  ·have hf:l.findIdx? (λx=>x==d)=some k:=by
    rw[x6];obtain⟨g1,g2⟩:=List.getElem?_eq_some_iff.1 hx;refine⟨g1,by rw[g2];exact h2,λj hj=>?_⟩;have:=hno j hj _ (d6 (by omega));rw[this];exact n8
   refine J.qr [1] λ_=>?_;rw[hf];exact⟨rfl,rfl⟩
  ·refine J.q λ_=>?_;refine J.nS (k+1) (⟨by omega,λj hj y hy=>by
    rcases R5 j k with h | h
    ·exact hno j h y hy
    ·obtain rfl:j=k:=by omega
     rw[hx]at hy;injection hy with hy;rw[<- hy];exact h2⟩) (by omega) [0,1,2] rfl rfl
 simp only[c9,j9]at h1;have hf:l.findIdx? (λx=>x==d)=none:=by
  rw[D0];intro x hx;obtain⟨j,hj⟩:=List.getElem?_of_mem hx;exact hno j (by have:=(List.getElem?_eq_some_iff.1 hj).1;omega) x hj
 refine J.qr [1] λ_=>?_;rw[hf];exact⟨rfl,rfl⟩
theorem b7P (l:List (List UInt8)) (d:List UInt8):decide ((match l.findIdx? (λx=>x==d)with | some k=>(k:Int) | none=> -1)>=0)=l.contains d:=by
 cases h:l.findIdx? (λx=>x==d)with
 | none=>
  rw[D0]at h;have:l.contains d=false:=by
   rw[List.contains_eq_any_beq,a3e];intro x hx e;have:=h x hx;rw[eq_of_beq e]at this;simp at this
  rw[this];rfl
 | some k=>
  rw[x6]at h;obtain⟨h1,h2,_⟩:=h;have:l.contains d=true:=by
   rw[List.contains_eq_any_beq,Y0];exact⟨_,H9 h1,by rw[eq_of_beq h2];simp⟩
  rw[this,l8 (by dsimp only;omega)]
theorem b8N (a:Option Nat) (n c:Nat) (l:List (List UInt8)) (hl:l.length=n) (hn:n<=1000000) (d:List UInt8) (hd:d.length=16) (hs:∀x∈l,x.length=16):FP 84 [slv a n c,a6l d] [t7 30 16 a n c (Q1 l)] (Ps (.bool (l.contains d)) [t7 30 16 a n c (Q1 l)]):=by
 refine FE [0,0] Tryz.func84 λX F hX=>?_;refine J.qp (b5Y a n c l hl hn d hd hs) [1] λ_=>?_;have hc:=b7P l d;refine J.qr [1] λ_=>?_;exact⟨by rw[<- hc],rfl⟩
theorem a9Q {α:Type} (f:α->List Value) (w:Nat) (hw:∀x,(f x).length=w) (vs:List Value):∀{l:List α} {k:Nat} {x y:α},l[k]? =some x->vs.length<=w->vs++(f x).drop vs.length=f y->(l.flatMap f).take (k*w)++vs++(l.flatMap f).drop (k*w+vs.length)=(l.set k y).flatMap f
 | [],k,x,y,h,hj,e=>by simp at h
 | z::l,0,x,y,h,hj,e=>by
  simp only[T6,p9]at h;subst h;rw[P7,I3,a5J,R6,y9,List.drop_append_of_le_length (by rw[hw];exact hj),<- s8,e];rfl
 | z::l,k+1,x,y,h,hj,e=>by
  have ih:=a9Q f w hw vs (l:=l) (k:=k) (x:=x) (y:=y) (by simpa using h) hj e;rw[y9,show(k+1)*w=(f z).length+k*w from by rw[hw,L6];omega,T8,show(f z).length+k*w+vs.length=(f z).length+(k*w+vs.length)from by omega,List.drop_length_add_append,s8,s8,<- s8 (List.take _ _),ih];rfl
def MSl.Fine (z:MSl):Prop:=z.v.now.length=16/\(∀x∈z.v.may,x.length=16)/\(∀x∈z.v.ever,x.length=16)/\z.v.may.length<=1000/\z.v.ever.length<=1000
theorem a7G {α:Type} {l:List α} {k:Nat} {x:α} (h:l[k]? =some x):l.set k x=l:=by
 apply y6;intro i;rw[u0];split
 ·rename_i e;subst e;split
  ·exact h.symm
  ·rename_i e2;rw[n4 (by omega)]
 ·rfl
theorem b8s (x d:List UInt8):decide (x=d)=(x==d):=by
 by_cases h:x=d
 ·rw[h];simp
 ·rw[y8 h,beq_eq_false_iff_ne.2 h]
theorem MSl.now_at {Z:List MSl} {k:Nat} {z:MSl} (hz:Z[k]? =some z):((Z.flatMap MSl.cells).drop (k*19+0)).take 16=I1 z.v.now:=by
 have h:=a3T MSl.cells 19 (λ_=>rfl) Z k z hz;have h2:((Z.flatMap MSl.cells).drop (k*19)).take 16=(((Z.flatMap MSl.cells).drop (k*19)).take 19).take 16:=by rw[a5K];rfl
 rw[P8,h2,h];rfl
theorem b3f (q g:Nat) (Z:List MSl) (hn:Z.length<=65536) (hf:∀z∈Z,z.Fine) (i:Int) (d:List UInt8) (hd:d.length=16):FP 35 [pp q,iI i,a6l d] (b1k q g Z) (Ps (.bool (Mv.may (Z.map (·.v)) i d)) (b1k q g Z)):=by
 refine FE [2,0,0] Tryz.func35 λX F hX=>?_;refine J.qp (c0y q g Z.length hn i) [1] λ_=>?_
 by_cases hi:0<=i/\i<(Z.length:Int)
 ·have ha:Mv.adr Z.length g i=some ⟨g,i.toNat*19,none⟩:=by unfold Mv.adr;rw[i9 hi]
  obtain⟨k,rfl⟩:=j8 hi.1;obtain⟨z,hz⟩:∃z,Z[k]? =some z:=⟨_,d6 (by omega)⟩;obtain⟨f1,f2,f3,f4,f5⟩:=hf z (x9 hz);have hin:Mv.inR (Z.map (·.v)) (k:Int)=true:=by unfold Mv.inR;rw[q9,l8 hi.1,l8 hi.2];rfl
  have hpg:Mv.pg (Z.map (·.v)) (k:Int)=z.v:=by unfold Mv.pg;rw[l9,d7,m6,hz];rfl
  have hmy:Mv.may (Z.map (·.v)) (k:Int) d=if z.v.op then z.v.may.contains d else z.v.now==d:=by unfold Mv.may;rw[hin,hpg,x7]
  rw[ha,l9];refine J.qF λ_=>?_;have hcell:=λj hj=>a2W MSl.cells 19 MSl.cells_len hz j hj;refine J.qn 7 λ_=>?_;refine J.v (.bool z.v.op) rfl rfl (λhg aa w he hw=>D8 tk rfl rfl he rfl rfl rfl (hw.get (i:=2) rfl) (hcell 16 (by omega))) ?_;refine J.qd (λ_ h1=>?_) λ_ h1=>?_
  ·rw[i9 h1]at hmy;refine J.openAt 3 k rfl rfl (by rw[m6,hz];rfl) rfl ?_;refine J.pn 3 (.of [0,4,8,13,17,23,24]) [5,6] [1,2,3,4,5,6] λ_ _=>?_;refine J.vT (slv z.a1 z.v.may.length z.c1) rfl rfl (λhg aa w he hC=>D8 tk rfl rfl he rfl rfl rfl (hC rfl _ (C4 (i:=2) rfl)) (hcell 17 (by omega))) ?_;refine J.qp (b8N z.a1 z.v.may.length z.c1 z.v.may rfl (by omega) d hd f2) [6] λ_=>?_;refine J.q λ_=>?_;refine J.closeAt (A:=z.m1) 3 6 k rfl rfl rfl ?_;have hsame:(Z.map MSl.m1).set k z.m1=Z.map MSl.m1:=a7G (by rw[m6,hz];rfl);rw[hsame];refine J.qr [1,2,3,4] λ_=>?_;rw[hmy];exact⟨rfl,rfl⟩
  ·rw[i7 (by rw[h1];decide)]at hmy;refine J.pn 3 (.of [0,4,8,13,17,20,24]) [5,6] [1,2,3,4,5] λ_ _=>?_;refine J.vT (a6l z.v.now) rfl rfl (λhg aa w he hC=>I6 tk rfl rfl he rfl rfl rfl (hC rfl _ (C4 (i:=2) rfl)) (MSl.now_at hz) rfl) ?_;refine J.qn 1 λ_=>?_;refine J.vT (.bool (z.v.now==d)) rfl rfl (λhg aa w he hC=>(W8 (xs:=I1 z.v.now) (ys:=I1 d) rfl rfl rfl he rfl rfl a0v (X2 _) (X2 _) mkD gdD).trans (by rw[eqD _ _ f1 hd,b8s])) ?_;refine J.qr [1,2,3,4] λ_=>?_;rw[hmy];exact⟨rfl,rfl⟩
 ·have ha:Mv.adr Z.length g i=none:=by unfold Mv.adr;rw[i7 hi]
  have hmy:Mv.may (Z.map (·.v)) i d=false:=by
   unfold Mv.may Mv.inR;rw[q9];have:(decide (0<=i)&&decide (i<(Z.length:Int)))=false:=by simp;omega
   rw[this];rfl
  rw[ha];refine J.qT λ_=>?_;refine J.qr [1,2,3,4] λ_=>?_;rw[hmy];exact⟨rfl,rfl⟩

section
variable {P : Program} {ops : Array Oper}
theorem b6I {o:Oper} {x:Operand} (hx:o.op= .move x) {K:Act->World->Prop} {a:Act} {w:World} (h:sOp P ops o K a w):sOp P ops o (λa' w'=>K a' w'/\w'=w) a w:=by
 unfold sOp at*;split
 ·rename_i hw;rw[i9 hw]at h;have e:execOp a.eval o=pure (.value (a.eval x)):=by unfold execOp;rw[hx]
  rw[e]at h ⊢;exact⟨h,rfl⟩
 ·rename_i hw;rw[i7 hw]at h;exact⟨h,rfl⟩
theorem a6u {lt mv:List Nat} (hmv:∀j∈mv,∀o,ops[j]? =some o->∃x,o.op= .move x) {C D:World->Prop} {K:Act->World->Prop} {i:Nat} {oi:Oper} {v:Value} (hi:ops[i]? =some oi) (hsel:∀(j:Nat) (o:Oper) cs b,ops[j]? =some o->o.op≠ .select cs b)
  (hD:(i∉lt/\(∀w,C w->D w)/\∀j∈lt,j∈mv\/a2B ops 3 j i=true)\/(i∈lt/\∀w,D w)):
  ∀(fuel:Nat) (listed:Array Bool) (a:Act) (w:World),Shut ops listed->
   (∀j oj,ops[j]? =some oj->j≠i->listed.getD j true=false->(∀e∈oj.after,Region.binds .any e=true->e.on≠i)->oi.apart ops oj=true)->
   i∈Region.ready .any ops listed->YldIn P ops D oi v a->D w->(i∉lt->C w)->
   sAny P ops lt C K fuel (listed.setIfInBounds i true) (a.put oi.dst v) w->sAny P ops lt C K (fuel+1) listed a w:=by
 intro fuel
 induction fuel with
 | zero=>
  intro listed a w _ _ hr hy hDw hC H;refine⟨λh=>(by rw[h]at hr;cases hr),λj hj=>?_⟩
  by_cases hji:j=i
  ·subst hji;exact⟨oi,hi,hy.sOp hDw ⟨hC,H⟩⟩
  ·have:=ready_mono hj hji;rw[H.1]at this;cases this
 | succ fuel ih=>
  intro listed a w hsh hfree hr hy hDw hC H;refine⟨λh=>(by rw[h]at hr;cases hr),λj hj=>?_⟩
  by_cases hji:j=i
  ·subst hji;exact⟨oi,hi,hy.sOp hDw ⟨hC,H⟩⟩
  ·obtain⟨oj,hoj,h1⟩:=H.2 j (ready_mono hj hji);obtain⟨hjun,oj',hoj',hall⟩:=mem_ready.1 hj;have:oj'=oj:=by rw[hoj]at hoj';injection hoj' with e;exact e.symm
   subst this;have hiun:listed.getD i false≠true:=λh1=>by
    have h0:=(mem_ready.1 hr).1;rcases R5 i listed.size with h' | h'
    ·simp[h']at h0 h1;rw[h0]at h1;cases h1
    ·simp[Q0 h']at h1
   have hnot:∀e∈oj'.after,Region.binds .any e=true->e.on≠i:=λe he hb heq=>hiun (heq▸hall e he hb);have h2:=b3Q (hfree j oj' hoj hji hjun hnot) (λcs b=>hsel i oi cs b hi) (λcs b=>hsel j oj' cs b hoj) hy h1;have hfree':∀k ok,ops[k]? =some ok->k≠i->(listed.setIfInBounds j true).getD k true=false->
     (∀e∈ok.after,Region.binds .any e=true->e.on≠i)->oi.apart ops ok=true:=λk ok hk hki hun hno=>by
    refine hfree k ok hk hki ?_ hno
    by_cases hjk:j=k
    ·subst hjk;exact hjun
    ·rw[getD_set_ne true hjk]at hun;exact hun
   have h2':sOp P ops oj' (λa' w'=>(YldIn P ops D oi v a'/\(j∉lt->C w')/\sAny P ops lt C K fuel ((listed.setIfInBounds i true).setIfInBounds j true) (a'.put oi.dst v) w')/\(j∈mv->w'=w)) a w:=by
    by_cases hm:j∈mv
    ·obtain⟨x,hx⟩:=hmv j hm oj' hoj;exact(b6I hx h2).mono λ_ _ hh=>⟨hh.1,λ_=>hh.2⟩
    ·exact h2.mono λ_ _ hh=>⟨hh,λh=>absurd h hm⟩
   refine⟨oj',hoj,h2'.mono λa' w' ⟨⟨hy',hC',h3⟩,hww⟩=>⟨hC',?_⟩⟩;have hdc:D w'/\(i∉lt->C w'):=by
    rcases hD with⟨hil,hCD,hw⟩ | ⟨hil,hd⟩
    ·by_cases hm:j∈mv
     ·rw[hww hm];exact⟨hDw,hC⟩
     ·have hjl:j∉lt:=λh=>by
       rcases hw j h with h' | h'
       ·exact hm h'
       ·exact hiun (a4R hsh h' hj)
      exact⟨hCD _ (hC' hjl),λ_=>hC' hjl⟩
    ·exact⟨hd _,λh=>absurd hil h⟩
   refine ih (listed.setIfInBounds j true) a' w' (hsh.set hj) hfree' (ready_mono hr (Ne.symm hji)) hy' hdc.1 hdc.2 ?_;rw[Array.setIfInBounds_comm _ _ hji];exact h3
theorem PT.sound2 {lt mv:List Nat} {C:World->Prop} {K:Act->World->Prop} (hs:Region.noSelect ops=true) (hmv:∀j∈mv,∀o,ops[j]? =some o->∃x,o.op= .move x) (hlt:∀j∈lt,∀i,i<ops.size->i∉lt->j∈mv\/a2B ops 3 j i=true):∀(t:PT) (fl:Bool) (n:Nat) (listed:Array Bool) (a:Act) (w:World),Shut ops listed->t.ok ops lt fl n listed=true->(t.allLt lt=false->C w)->pT P ops C K t a w->
  (fl=false->sAny P ops lt C K n listed a w)/\(∀i∈t.heads,∃o,ops[i]? =some o/\∃m,n=m+1/\sOp P ops o (λa' w'=>(i∉lt->C w')/\sAny P ops lt C K m (listed.setIfInBounds i true) a' w') a w)
 | .done,fl,n,listed,a,w,hsh,h,hC,hp=>by
  cases fl with
  | true=>simp[PT.ok]at h
  | false=>exact⟨λ_=>a9l (by simpa[PT.ok]using h) hp n,by simp[PT.heads]⟩
 | .take p i t,fl,n,listed,a,w,hsh,h,hC,hp=>by
  cases fl with
  | true=>simp[PT.ok]at h
  | false=>
   cases n with
   | zero=>simp[PT.ok]at h
   | succ n=>
    simp only[PT.ok,j5]at h;obtain⟨⟨⟨hr,hf⟩,ht⟩,hp2⟩:=h;refine⟨λ_=>?_,by simp[PT.heads]⟩;obtain⟨o,v,hi,hy,hp⟩:=hp;have hisz:i<ops.size:=(Array.getElem?_eq_some_iff.1 hi).1
    by_cases hil:i∈lt
    ·have hpt:p=true:=by simpa[hil]using hp2
     subst hpt;refine a6u hmv hi (Region.noSelect_spec hs) (.inr ⟨hil,λw h=>by cases h⟩) n listed a w hsh (Region.free_spec hi hf) (by simpa using hr) hy (λh=>by cases h) (λh=>absurd hil h) ((PT.sound2 hs hmv hlt t false n _ _ w (hsh.set (by simpa using hr)) ht (λhe=>hC ?_) hp).1 rfl);simp[PT.allLt,he]
    ·have hCw:C w:=hC (by simp[PT.allLt,hil]);exact a6u hmv hi (Region.noSelect_spec hs) (.inl ⟨hil,λw h _=>h,λj hj=>hlt j hj i hisz hil⟩) n listed a w hsh (Region.free_spec hi hf) (by simpa using hr) hy (λ_=>hCw) (λ_=>hCw) ((PT.sound2 hs hmv hlt t false n _ _ w (hsh.set (by simpa using hr)) ht (λ_=>hCw) hp).1 rfl)
 | .alt l i t m,fl,n,listed,a,w,hsh,h,hC,hp=>by
  cases n with
  | zero=>simp[PT.ok]at h
  | succ n=>
   simp only[PT.ok,j5]at h;obtain⟨⟨⟨⟨⟨ht,hm⟩,hall⟩,hl⟩,hlate⟩,hrd⟩:=h;obtain⟨⟨o,hi,hp⟩,hpm⟩:=hp;have hl':l=true↔i∈lt:=by
    have:=eq_of_beq hl;rw[<- this];simp
   have hmm:=(PT.sound2 hs hmv hlt m true (n+1) listed a w hsh hm (λhe=>hC (by simp[PT.allLt,he])) hpm).2;have hheads:∀j∈PT.heads (.alt l i t m),∃o,ops[j]? =some o/\∃m,n+1=m+1/\sOp P ops o (λa' w'=>(j∉lt->C w')/\sAny P ops lt C K m (listed.setIfInBounds j true) a' w') a w:=by
    intro j hj;rcases List.mem_cons.1 hj with rfl | hj
    ·refine⟨o,hi,n,rfl,hp.mono λa' w' hh=>⟨λhn=>hh.1 ?_,(PT.sound2 hs hmv hlt t false n _ a' w' (hsh.set (by simpa using hrd)) ht (λhe=>hh.1 ?_) hh.2).1 rfl⟩⟩
     ·cases l with
      | false=>rfl
      | true=>exact absurd (hl'.1 rfl) hn
     ·cases l with
      | false=>rfl
      | true=>simp only[a2n,D4]at hlate;rw[hlate]at he;cases he
    ·exact hmm j hj
   refine⟨λhfl=>?_,hheads⟩;subst hfl;simp only[D4,j5,H4]at hall;refine⟨λh0=>absurd hall.1 (by simp[h0]),λj hj=>?_⟩;obtain⟨o,h1,m',h2,h3⟩:=hheads j (by simpa using hall.2 j hj);have:m'=n:=by omega
   subst this;exact⟨o,h1,h3⟩
 | .non,fl,n,listed,a,w,hsh,h,hC,hp=>by
  cases fl with
  | true=>exact⟨(λh=>by cases h),by simp[PT.heads]⟩
  | false=>simp[PT.ok]at h
end
def b7L (o:Oper):Bool:=match o.op with
 | .move _=>true
 | _=>false
def PT.good2 (ops:Array Oper) (lt mv:List Nat) (t:PT):Bool:=Region.noSelect ops&&(mv.all λj=>(ops[j]?.map b7L).getD true)&&lt.all (λj=>mv.contains j||(List.range ops.size).all λi=>lt.contains i||a2B ops 3 j i)&&t.ok ops lt false ops.size (Array.replicate ops.size false)
theorem a6S {P:Program} {id:Nat} {ops:Array Oper} {C:World->Prop} {Q:Exit->Act->World->Prop} {a:Act} {w:World} (hm:P.follows .mixedOrders=true) (t:PT) (lt mv:List Nat) (ht:t.good2 ops lt mv=true) (hC:C {w with drawn:=w.drawn+1})
  (h:pT P ops C (Q .normal) t a {w with drawn:=w.drawn+1}):(Code.region id ops true).wp P Q a w:=by
 simp only[PT.good2,j5,H4,K0]at ht;obtain⟨⟨⟨h1,h0⟩,h2⟩,h3⟩:=ht;refine wp_region_any hm (sAny.wpAny (λ_ _ h=>h) _ _ _ _ ((PT.sound2 h1 (lt:=lt) (mv:=mv) (λj hj o ho=>?_) (λj hj i hi hn=>?_) t false _ _ a _ (Shut.none _) h3 (λ_=>hC) h).1 rfl))
 ·have:=h0 j hj;rw[ho]at this;simp only[C9,m7]at this;unfold b7L at this;split at this
  ·exact⟨_,by assumption⟩
  ·cases this
 ·have:=h2 j hj;rcases Bool.or_eq_true_iff.1 this with h | h
  ·exact .inl (by simpa using h)
  ·rw[H4]at h;have:=h i (List.mem_range.2 hi);exact .inr (by simpa[hn]using this)
theorem J.plan2 {X:Cx} {K:List KI} {E:Env} {L:List Atom} {id:Nat} {ops:Array Oper} (t:PT) (lt mv ro:List Nat) (hm:X.P.follows .mixedOrders=true) (ht:t.good2 ops lt mv=true) (h:J X (.reg ops (snap L ro) t::K) E L):J X (.code (.region id ops true)::K) E L:=
 λa w hx he hs=>a6S hm t lt mv ht (CAt.snap (w:={w with drawn:=w.drawn+1}) hs ro) (h a _ hx.drew he hs)
theorem a0I (l:List (List UInt8)) (d:List UInt8):Q1 l++I1 d=Q1 (l++[d]):=by unfold Q1;rw[J8];simp
theorem MSl.put17 (d:List UInt8) (o:Bool) (A B:List (List UInt8)) (a1:Option Nat) (c1:Nat) (a2:Option Nat) (c2:Nat) (x:Option Nat×Nat):(MSl.cells ⟨⟨d,o,A,B⟩,a1,c1,a2,c2⟩).set 17 (slv x.1 (A.length+1) x.2)=MSl.cells ⟨⟨d,o,A++[d],B⟩,x.1,x.2,a2,c2⟩:=by
 unfold MSl.cells;dsimp only;rw[j6];rfl
theorem MSl.put18 (d:List UInt8) (o:Bool) (A B:List (List UInt8)) (a1:Option Nat) (c1:Nat) (a2:Option Nat) (c2:Nat) (x:Option Nat×Nat):(MSl.cells ⟨⟨d,o,A,B⟩,a1,c1,a2,c2⟩).set 18 (slv x.1 (B.length+1) x.2)=MSl.cells ⟨⟨d,o,A,B++[d]⟩,a1,c1,x.1,x.2⟩:=by
 unfold MSl.cells;dsimp only;rw[j6];rfl
theorem b7q (q g:Nat) (Z:List MSl) (hn:Z.length<=65536) (hf:∀z∈Z,z.Fine) (i:Int) (d:List UInt8) (hd:d.length=16):FP 32 [pp q,iI i,a6l d] (b1k q g Z) (λv As=>∃Z',v= .bool (Mv.inR (Z.map (·.v)) i)/\As=b1k q g Z'/\Z'.map (·.v)=Mv.write (Z.map (·.v)) i d):=by
 refine FE [2,0,0] Tryz.func32 λX F hX=>?_;refine J.qp (c0y q g Z.length hn i) [1] λ_=>?_
 by_cases hi:0<=i/\i<(Z.length:Int)
 ·have ha:Mv.adr Z.length g i=some ⟨g,i.toNat*19,none⟩:=by unfold Mv.adr;rw[i9 hi]
  obtain⟨k,rfl⟩:=j8 hi.1;obtain⟨z,hz⟩:∃z,Z[k]? =some z:=⟨_,d6 (by omega)⟩;obtain⟨f1,f2,f3,f4,f5⟩:=hf z (x9 hz);have hin:Mv.inR (Z.map (·.v)) (k:Int)=true:=by unfold Mv.inR;rw[q9,l8 hi.1,l8 hi.2];rfl
  rw[ha,l9];refine J.qF λ_=>?_;refine J.openAt 3 k rfl rfl (by rw[m6,hz];rfl) rfl ?_;refine J.openAt 4 k rfl rfl (by rw[m6,hz];rfl) rfl ?_;have hl1:k*19+19<=(Z.flatMap MSl.cells).length:=by rw[MSl.flat_len];omega
  have U5:∀y:MSl,(Z.set k y)[k]? =some y:=λy=>by rw[u0,i9 rfl,i9 (by omega)]
  refine J.qn 8 λ_=>?_;have hst:((Z.flatMap MSl.cells).take (k*19)++I1 d++(Z.flatMap MSl.cells).drop (k*19+(I1 d).length))=(Z.set k ⟨⟨d,z.v.op,z.v.may,z.v.ever⟩,z.a1,z.c1,z.a2,z.c2⟩).flatMap MSl.cells:=a9Q MSl.cells 19 MSl.cells_len (I1 d) hz (by show 16<=19;omega) (y:=⟨⟨d,z.v.op,z.v.may,z.v.ever⟩,z.a1,z.c1,z.a2,z.c2⟩) rfl;refine J.sN (I1 d) 2 ((Z.set k ⟨⟨d,z.v.op,z.v.may,z.v.ever⟩,z.a1,z.c1,z.a2,z.c2⟩).flatMap MSl.cells) ?_ ?_ ?_
  ·show k*19+0+16<=_;omega
  ·rw[P8];exact hst
  refine J.qn 3 λ_=>?_;refine J.s1 2 ((Z.set k ⟨⟨d,false,z.v.may,z.v.ever⟩,z.a1,z.c1,z.a2,z.c2⟩).flatMap MSl.cells) ?_ ?_ ?_
  ·rw[MSl.flat_len,B1,<- MSl.flat_len];omega
  ·exact(Q3 MSl.cells 19 MSl.cells_len 16 (y:=⟨⟨d,false,z.v.may,z.v.ever⟩,z.a1,z.c1,z.a2,z.c2⟩) _ (U5 ⟨⟨d,z.v.op,z.v.may,z.v.ever⟩,z.a1,z.c1,z.a2,z.c2⟩) (by omega) rfl).trans (by rw[a0d];all_goals rfl)
  refine J.q λ_=>?_;refine J.plan2 (.take true 0 (.take true 1 (.take true 2 (.take true 3 (.take true 4 (.take false 5 (.take false 6 (.take true 9 (.take true 10 (.take true 11 (.take false 12 (.take false 13 (.alt false 7 ((.alt false 8 ((.of [58,62,64,68,75,76,80,87])) (.alt false 14 ((.of [34,62,64,68,75,76,80,87])) .non))) (.alt false 14 ((.of [30,34,62,64,68,75,76,80,87])) .non)))))))))))))) [1,16,17,18,19,20,21] [1] [1,2,3,4,5] (by rw[hX.hP];kernel_rfl) (by kernel_rfl) ?_;have hcell:=λj hj=>a2W MSl.cells 19 MSl.cells_len (U5 ⟨⟨d,false,z.v.may,z.v.ever⟩,z.a1,z.c1,z.a2,z.c2⟩) j hj;refine J.qn 6 λ_=>?_;refine J.vT (slv z.a1 z.v.may.length z.c1) rfl rfl (λhg aa w he hC=>D8 tk rfl rfl he rfl rfl rfl (hC rfl _ (C4 (i:=2) rfl)) (hcell 17 (by omega))) ?_;refine J.qn 4 λ_=>?_;refine J.vT (slv z.a2 z.v.ever.length z.c2) rfl rfl (λhg aa w he hC=>D8 tk rfl rfl he rfl rfl rfl (hC rfl _ (C4 (i:=2) rfl)) (hcell 18 (by omega))) ?_;refine J.qn 1 λ_=>?_;refine J.join (α:=(Option Nat×Nat)×(Option Nat×Nat)) (λ_=>[sv 6 (.bool false)]) (λx=>[.hp F, .pt q 118 [.slice (some ⟨g,0,none⟩) Z.length Z.length], .pt g 120 ((Z.set k ⟨⟨d,false,z.v.may++[d],z.v.ever++[d]⟩,x.1.1,x.1.2,x.2.1,x.2.2⟩).flatMap MSl.cells), .hp (HP.of ((Z.map MSl.m1).set k .emp)), .hp (HP.of ((Z.map MSl.m2).set k .emp)),t7 30 16 x.1.1 (z.v.may.length+1) x.1.2 (Q1 (z.v.may++[d])),t7 30 16 x.2.1 (z.v.ever.length+1) x.2.2 (Q1 (z.v.ever++[d]))]) (λhj=>?_) (λx=>?_)
  ·refine J.alts ?_ ?_
   ·skip
    refine J.qn 1 λbb=>?_;refine J.alts ?_ ?_
    ·skip
     refine J.ap 6 8 0 (a0I z.v.may d) λa3 c3=>?_;refine J.qn 1 λbc=>?_;refine J.ap 7 9 0 (a0I z.v.ever d) λa4 c4=>?_;refine J.qn 2 λ_=>?_;refine J.s1 2 ((Z.set k ⟨⟨d,false,z.v.may++[d],z.v.ever⟩,a3,c3,z.a2,z.c2⟩).flatMap MSl.cells) ?_ ?_ ?_
     ·rw[MSl.flat_len,B1,<- MSl.flat_len];omega
     ·exact(Q3 MSl.cells 19 MSl.cells_len 17 (y:=⟨⟨d,false,z.v.may++[d],z.v.ever⟩,a3,c3,z.a2,z.c2⟩) _ (U5 ⟨⟨d,false,z.v.may,z.v.ever⟩,z.a1,z.c1,z.a2,z.c2⟩) (by omega) (MSl.put17 _ _ _ _ _ _ _ _ (a3,c3))).trans (by rw[a0d];all_goals rfl)
     refine J.qn 2 λ_=>?_;refine J.s1 2 ((Z.set k ⟨⟨d,false,z.v.may++[d],z.v.ever++[d]⟩,a3,c3,a4,c4⟩).flatMap MSl.cells) ?_ ?_ ?_
     ·rw[MSl.flat_len,B1,<- MSl.flat_len];omega
     ·exact(Q3 MSl.cells 19 MSl.cells_len 18 (y:=⟨⟨d,false,z.v.may++[d],z.v.ever++[d]⟩,a3,c3,a4,c4⟩) _ (U5 ⟨⟨d,false,z.v.may++[d],z.v.ever⟩,a3,c3,z.a2,z.c2⟩) (by omega) (MSl.put18 _ _ _ _ _ _ _ _ (a4,c4))).trans (by rw[a0d];all_goals rfl)
     exact J.goto [0,1,2,3,4,6,7] (hj ((a3,c3),(a4,c4))) ⟨rfl,trivial⟩ rfl rfl
    ·skip
     refine J.qn 1 λbc=>?_;refine J.ap 6 8 0 (a0I z.v.may d) λa3 c3=>?_;refine J.ap 7 9 0 (a0I z.v.ever d) λa4 c4=>?_;refine J.qn 2 λ_=>?_;refine J.s1 2 ((Z.set k ⟨⟨d,false,z.v.may++[d],z.v.ever⟩,a3,c3,z.a2,z.c2⟩).flatMap MSl.cells) ?_ ?_ ?_
     ·rw[MSl.flat_len,B1,<- MSl.flat_len];omega
     ·exact(Q3 MSl.cells 19 MSl.cells_len 17 (y:=⟨⟨d,false,z.v.may++[d],z.v.ever⟩,a3,c3,z.a2,z.c2⟩) _ (U5 ⟨⟨d,false,z.v.may,z.v.ever⟩,z.a1,z.c1,z.a2,z.c2⟩) (by omega) (MSl.put17 _ _ _ _ _ _ _ _ (a3,c3))).trans (by rw[a0d];all_goals rfl)
     refine J.qn 2 λ_=>?_;refine J.s1 2 ((Z.set k ⟨⟨d,false,z.v.may++[d],z.v.ever++[d]⟩,a3,c3,a4,c4⟩).flatMap MSl.cells) ?_ ?_ ?_
     ·rw[MSl.flat_len,B1,<- MSl.flat_len];omega
     ·exact(Q3 MSl.cells 19 MSl.cells_len 18 (y:=⟨⟨d,false,z.v.may++[d],z.v.ever++[d]⟩,a3,c3,a4,c4⟩) _ (U5 ⟨⟨d,false,z.v.may++[d],z.v.ever⟩,a3,c3,z.a2,z.c2⟩) (by omega) (MSl.put18 _ _ _ _ _ _ _ _ (a4,c4))).trans (by rw[a0d];all_goals rfl)
     exact J.goto [0,1,2,3,4,6,7] (hj ((a3,c3),(a4,c4))) ⟨rfl,trivial⟩ rfl rfl
   ·skip
    refine J.qn 2 λbb=>?_;refine J.ap 6 9 0 (a0I z.v.may d) λa3 c3=>?_;refine J.ap 7 8 0 (a0I z.v.ever d) λa4 c4=>?_;refine J.qn 2 λ_=>?_;refine J.s1 2 ((Z.set k ⟨⟨d,false,z.v.may++[d],z.v.ever⟩,a3,c3,z.a2,z.c2⟩).flatMap MSl.cells) ?_ ?_ ?_
    ·rw[MSl.flat_len,B1,<- MSl.flat_len];omega
    ·exact(Q3 MSl.cells 19 MSl.cells_len 17 (y:=⟨⟨d,false,z.v.may++[d],z.v.ever⟩,a3,c3,z.a2,z.c2⟩) _ (U5 ⟨⟨d,false,z.v.may,z.v.ever⟩,z.a1,z.c1,z.a2,z.c2⟩) (by omega) (MSl.put17 _ _ _ _ _ _ _ _ (a3,c3))).trans (by rw[a0d];all_goals rfl)
    refine J.qn 2 λ_=>?_;refine J.s1 2 ((Z.set k ⟨⟨d,false,z.v.may++[d],z.v.ever++[d]⟩,a3,c3,a4,c4⟩).flatMap MSl.cells) ?_ ?_ ?_
    ·rw[MSl.flat_len,B1,<- MSl.flat_len];omega
    ·exact(Q3 MSl.cells 19 MSl.cells_len 18 (y:=⟨⟨d,false,z.v.may++[d],z.v.ever++[d]⟩,a3,c3,a4,c4⟩) _ (U5 ⟨⟨d,false,z.v.may++[d],z.v.ever⟩,a3,c3,z.a2,z.c2⟩) (by omega) (MSl.put18 _ _ _ _ _ _ _ _ (a4,c4))).trans (by rw[a0d];all_goals rfl)
    exact J.goto [0,1,2,3,4,6,7] (hj ((a3,c3),(a4,c4))) ⟨rfl,trivial⟩ rfl rfl
  obtain⟨⟨a3,c3⟩,a4,c4⟩:=x;dsimp only;obtain⟨y,hy⟩:∃y:MSl,y=⟨⟨d,false,z.v.may++[d],z.v.ever++[d]⟩,a3,c3,a4,c4⟩:=⟨_,rfl⟩;rw[<- hy,show t7 30 16 a3 (z.v.may.length+1) c3 (Q1 (z.v.may++[d]))=y.m1 from by rw[hy];unfold MSl.m1;rw[j6];rfl,show t7 30 16 a4 (z.v.ever.length+1) c4 (Q1 (z.v.ever++[d]))=y.m2 from by rw[hy];unfold MSl.m2;rw[j6];rfl];refine J.closeAt (A:=y.m1) 3 5 k rfl rfl rfl ?_;refine J.closeAt (A:=y.m2) 4 6 k rfl rfl rfl ?_;rw[<- K1,<- K1];refine J.qr [1,2,3,4] λ_=>?_;refine⟨Z.set k y,?_,?_,?_⟩
  ·rw[hin]
  ·unfold b1k;rw[B1];rfl
  ·have hpg:Mv.pg (Z.map (·.v)) (k:Int)=z.v:=by unfold Mv.pg;rw[l9,d7,m6,hz];rfl
   unfold Mv.write;rw[hin,i9 rfl,hpg,K1,l9,hy];rfl
 ·have ha:Mv.adr Z.length g i=none:=by unfold Mv.adr;rw[i7 hi]
  have hin:Mv.inR (Z.map (·.v)) i=false:=by
   unfold Mv.inR;rw[q9];simp;omega
  rw[ha];refine J.qT λ_=>?_;refine J.qr [1,2,3,4] λ_=>?_;exact⟨Z,by rw[hin],rfl,by unfold Mv.write;rw[hin];rfl⟩
theorem MSl.m1_of {y z:MSl} (ha:y.a1=z.a1) (hc:y.c1=z.c1) (hv:y.v.may=z.v.may):y.m1=z.m1:=by unfold MSl.m1;rw[ha,hc,hv]
theorem MSl.m2_of {y z:MSl} (ha:y.a2=z.a2) (hc:y.c2=z.c2) (hv:y.v.ever=z.v.ever):y.m2=z.m2:=by unfold MSl.m2;rw[ha,hc,hv]
theorem MSl.map_m1 {Z:List MSl} {k:Nat} {z y:MSl} (hz:Z[k]? =some z) (h:y.m1=z.m1):(Z.set k y).map MSl.m1=Z.map MSl.m1:=by rw[K1,h];exact a7G (by rw[m6,hz];rfl)
theorem MSl.map_m2 {Z:List MSl} {k:Nat} {z y:MSl} (hz:Z[k]? =some z) (h:y.m2=z.m2):(Z.set k y).map MSl.m2=Z.map MSl.m2:=by rw[K1,h];exact a7G (by rw[m6,hz];rfl)
theorem b6i {α:Type} {f:α->α} {V Y:List α} {k:Nat} {x:α} (h:Y=(V.take k).map f++V.drop k) (hk:k<V.length) (hx:Y[k]? =some x):Y.set k (f x)=(V.take (k+1)).map f++V.drop (k+1):=by
 have hl:((V.take k).map f).length=k:=by simp;omega
 have hv:V.drop k=V[k]::V.drop (k+1):=y7 hk;have he:x=V[k]:=by
  rw[h,D3 (by omega),hl,a0b,hv,T6]at hx;injection hx with hx;exact hx.symm
 rw[h,hv,R1 _ _ (by omega),hl,a0b,a0K,List.take_succ_eq_append_getElem hk,A6,s8,he];rfl
def Mv.cut1 (v:MPv):MPv:={v with op:=true}
theorem c1e (q g:Nat) (Z:List MSl) (hn:Z.length<=65536):FP 34 [pp q] (b1k q g Z) (λv As=>∃Z',v= .tuple #[]/\As=b1k q g Z'/\Z'.map (·.v)=Mv.cut (Z.map (·.v))):=by
 refine FE [2] Tryz.func34 λX F hX=>?_;refine J.qF λ_=>?_;refine J.q λ_=>?_;refine J.l (α:=(Nat×List MSl)) (λz=>z.1<=Z.length/\z.2.length=Z.length/\z.2.map MSl.m1=Z.map MSl.m1/\z.2.map MSl.m2=Z.map MSl.m2/\z.2.map (·.v)=((Z.map (·.v)).take z.1).map Mv.cut1++(Z.map (·.v)).drop z.1) (λz=>[si 10 z.1,si 9 Z.length,⟨0,pp q,2, .tt⟩]) [2] (λz=>[.pt g 120 (z.2.flatMap MSl.cells)]) (λz=>Z.length-z.1) ((0,Z)) (⟨n7 _,rfl,rfl,rfl,rfl⟩) λz hI=>?_;obtain⟨k,Y⟩:=z;dsimp only at hI ⊢;obtain⟨hk,hYl,hY1,hY2,hY⟩:=hI;refine J.qd (λ_ h1=>?_) λ_ h1=>?_
 ·simp only[g7,j9]at h1;obtain⟨z,hz⟩:∃z,Y[k]? =some z:=⟨_,d6 (by omega)⟩;have hstep:(Y.set k ⟨Mv.cut1 z.v,z.a1,z.c1,z.a2,z.c2⟩).map (·.v)=((Z.map (·.v)).take (k+1)).map Mv.cut1++(Z.map (·.v)).drop (k+1):=by
   rw[K1];exact b6i hY (by simpa using h1) (by rw[m6,hz];rfl)
  refine J.qn 16 λ_=>?_;refine J.s1 2 ((Y.set k ⟨Mv.cut1 z.v,z.a1,z.c1,z.a2,z.c2⟩).flatMap MSl.cells) ?_ ?_ ?_
  ·show 0+(k:Int).toNat*19+16<_;rw[MSl.flat_len];omega
  ·rw[show 0+(k:Int).toNat*19+16=k*19+16 from by omega];exact Q3 MSl.cells 19 MSl.cells_len 16 (y:=⟨Mv.cut1 z.v,z.a1,z.c1,z.a2,z.c2⟩) _ hz (by omega) rfl
  refine J.q λ_=>?_;refine J.n ((k+1,Y.set k ⟨Mv.cut1 z.v,z.a1,z.c1,z.a2,z.c2⟩)) (⟨by dsimp only;omega,by dsimp only;rw[B1];exact hYl,(MSl.map_m1 (y:=⟨Mv.cut1 z.v,z.a1,z.c1,z.a2,z.c2⟩) hz (MSl.m1_of rfl rfl rfl)).trans hY1,(MSl.map_m2 (y:=⟨Mv.cut1 z.v,z.a1,z.c1,z.a2,z.c2⟩) hz (MSl.m2_of rfl rfl rfl)).trans hY2,hstep⟩) (by dsimp only;omega) [0,1,2,3,4]
 simp only[c9,j9]at h1;obtain rfl:k=Z.length:=by omega
 refine J.q λ_=>?_;refine J.f [1,2,3,4] ?_;refine⟨Y,rfl,?_,?_⟩
 ·unfold b1k;rw[hYl,hY1,hY2];rfl
 ·rw[hY,B5 (by simp),b0h (by simp),B4];rfl
theorem Fv.allG_keep {k m:Nat}:∀(n:Nat) (i:Int) (Z:Fv),Z.Ok k m->(Fv.allG n i Z).1.Ok k m
 | 0,_,_,h=>h
 | n+1,i,Z,h=>by
  rw[Fv.allG_succ];split
  ·exact(Fv.read_keep h i).1
  ·exact Fv.allG_keep n (i+1) _ (Fv.read_keep h i).1
theorem Fv.all_keep {Z:Fv} {k m:Nat} (h:Z.Ok k m):Z.all.1.Ok k m:=by
 unfold Fv.all;split
 ·exact Fv.allG_keep _ _ _ h
 ·exact Fv.allG_keep _ _ _ h
namespace B21
def d1 (n:UInt8):List UInt8:=n::List.replicate 15 0
def N0:Nand:=Nand.new 3 8 2
def F0:Fv:=Fv.of (T4 N0).1
def F1:Fv×Int:=F0.write 1 (d1 7)
def F2:Fv×Int:=F1.1.trim 2
def F3:Fv×Int:=F2.1.write 3 zd
def F4:Fv×List UInt8×Int:=F3.1.read 1
def F5:Fv×Int:=F4.1.flush
def F6:Fv:=F5.1.setN (F5.1.S.N.setCut (-1) 0)
def F7:Fv×List UInt8×Int:=F6.read 1
def N8:Nand:=F7.1.S.N.onN
def F8:Fv:=Fv.of (T4 N8).1
def F9:Fv×List UInt8×Int:=F8.read 1
def Fa:Fv×List (List UInt8)×Int:=F9.1.all
def P0:Pv:=Pv.new 3 8 2 []
def s1:Stp:=⟨2,0,d1 9,0,0,dF⟩
def s2:Stp:=⟨1,0,zd,0,0,dF⟩
def Z1:Fv:=((F0.setN F0.S.N).write 0 (d1 9)).1
def Z2:Fv:=((Z1.setN Z1.S.N).read 0).1
def Z3:Fv:=((Z2.setN Z2.S.N)).flush.1
theorem m0:(T4 N0).2=0:=by kernel_rfl
theorem v1:F1.2=0:=by kernel_rfl
theorem v2:F2.2=0:=by kernel_rfl
theorem v3:F3.2=3:=by kernel_rfl
theorem v4:F4.2.2=0:=by kernel_rfl
theorem w4:F4.2.1=d1 7:=by kernel_rfl
theorem v5:F5.2=0:=by kernel_rfl
theorem v7:F7.2.2=9:=by kernel_rfl
theorem m8:(T4 N8).2=0:=by kernel_rfl
theorem v9:F9.2.2=0:=by kernel_rfl
theorem w9:F9.2.1=d1 7:=by kernel_rfl
theorem va:Fa.2.1.length=3:=by kernel_rfl
theorem wa:Fa.2.2=0:=by kernel_rfl
theorem z0:P0.Z=some F0:=by kernel_rfl
theorem e1:(P0.step s1).2.err=0:=by kernel_rfl
theorem z1:(P0.step s1).1.Z=some Z1:=by kernel_rfl
def P1:Pv:=(P0.step s1).1
theorem e2:(P1.step s2).2.data=d1 9:=by kernel_rfl
theorem z2:(P1.step s2).1.Z=some Z2:=by kernel_rfl
def P2:Pv:=(P1.step s2).1
theorem z3:(P2.step flS).1.Z=some Z3:=by kernel_rfl
theorem pL1:P1.L=[]:=by kernel_rfl
theorem pl1:P1.log.length=1:=by kernel_rfl
theorem pL2:P2.L=[]:=by kernel_rfl
theorem lg2:P2.log.length=2:=by kernel_rfl
theorem t3:decide ((Z3.ticks 50).2>=0)=true:=by kernel_rfl
theorem lgA:Fa.1.lg=3:=by kernel_rfl
def M0:List MPv:=Mv.new 2
def M1:List MPv:=Mv.cut (Mv.write M0 0 (d1 1))
theorem q1:Mv.may M1 0 zd=true:=by kernel_rfl
theorem q2:Mv.may M1 0 (d1 1)=true:=by kernel_rfl
theorem q3:Mv.may M1 0 (d1 2)=false:=by kernel_rfl
def K (j:Nat):Nat:=(20-j)*10000000000000
theorem ok0:F0.Ok (K 0) 0:=Fv.of_ok (a7Z (a4m 3 8 2 rfl _ (by decide))).1 (by decide)
theorem ok1:F1.1.Ok (K 1) 0:=(Fv.write_keep (ok0.less (k':=Fv.cW+(1+K 1)) (by decide)) 1 rfl).1
theorem ok2:F2.1.Ok (K 2) 0:=(Fv.trim_keep (ok1.less (k':=Fv.cW+(1+K 2)) (by decide)) 2).1
theorem ok3:F3.1.Ok (K 3) 0:=(Fv.write_keep (ok2.less (k':=Fv.cW+(1+K 3)) (by decide)) 3 rfl).1
theorem ok4:F4.1.Ok (K 4) 0:=(Fv.read_keep (ok3.less (k':=K 4) (by decide)) 1).1
theorem ok5:F5.1.Ok (K 5) 0:=(Fv.flush_keep (ok4.less (k':=Fv.cW*200+K 5) (by decide))).1
theorem ok6:F6.Ok (K 5) 0:=ok5.setN (Nand.like_cut _ _ _) (ok5.dv.gd.cut (-1) 0 (by decide) (by decide))
theorem ok7:F7.1.Ok (K 5) 0:=(Fv.read_keep ok6 1).1
theorem g8:N8.Gd (Dv.costK+K 6) 0:=(ok7.dv.gd.less (by decide) (m9 0)).on
theorem ok8:F8.Ok (K 6) 0:=Fv.of_ok (a7Z g8).1 (by decide)
theorem ok9:F9.1.Ok (K 6) 0:=(Fv.read_keep ok8 1).1
theorem oka:Fa.1.Ok (K 6) 0:=Fv.all_keep ok9
theorem okz1:Z1.Ok (K 1) 0:=(Fv.write_keep ((ok0.setN (Nand.Like.refl _) ok0.dv.gd).less (k':=Fv.cW+(1+K 1)) (by decide)) 0 rfl).1
theorem okz2:Z2.Ok (K 1) 0:=(Fv.read_keep (okz1.setN (Nand.Like.refl _) okz1.dv.gd) 0).1
theorem okz2o:Z2.S.N.off=false:=by kernel_rfl
end B21
end Go.Proofs.YtpakpgkdpofbhaaGreat
namespace Go.Proofs.YtpakpgkdpofbhaaGreat
open Go Go.RowKit
theorem a0U (q n:Nat) (A:Pad) (P:Pv) (Z:Fv) (hZ:P.Z=some Z):a3D q n A P=[PlQ q n (some Z) A.f (pp A.fp) (slv A.a2 P.log.length A.c2), .pt A.fp 247 [.slice (R3 A.a) P.L.length A.c],rdA (R3 A.a) 7 P.L.length (B3 P.L),t7 61 17 A.a2 P.log.length A.c2 (U1 P.log)]++FvP A.f A.p n A.t A.l A.d Z:=by unfold a3D a4o;rw[hZ];rfl
theorem a7p {Z:List MSl} {M:List MPv} (h:Z.map (·.v)=M) (hM:∀v∈M,v.now.length=16/\(∀x∈v.may,x.length=16)/\(∀x∈v.ever,x.length=16)/\v.may.length<=1000/\v.ever.length<=1000):∀z∈Z,z.Fine:=λz hz=>hM z.v (by rw[<- h];exact List.mem_map.2 ⟨z,hz,rfl⟩)
theorem b5h:FP 80 [] [] (Ps (.bool true) []):=by
 refine FE [] Tryz.func80 λX F hX=>?_;refine J.qp (b5g) [] λ_=>?_;exact J.qx []
open B21
theorem a2R:FP 24 [] [] (Ps (.bool true) []):=by
 have G0:N0.Gd (Dv.costK+0) 0:=a4m 3 8 2 rfl _ (by decide);refine FE [] Tryz.func24 λX F hX=>?_;refine J.qc (a5h 3 8 2 rfl) [] λ_=>?_;rintro v As ⟨n,rfl,rfl⟩;refine⟨_,rfl,trivial,?_⟩;rw[show Nand.new 3 8 2=N0 from rfl];refine J.qc (a1w n N0 0 0 G0 (by decide) rfl) [1] λ_=>?_;rintro v As (⟨_,f,p,t,l,d,rfl,rfl⟩ | ⟨he,rfl,rfl⟩)
 rotate_left
 ·exact absurd m0 he
 refine⟨_,rfl,trivial,?_⟩;rw[show Fv.of (T4 N0).1=F0 from rfl];refine J.qF λ_=>?_;refine J.qp (a0S f p n t l d F0 (K 1) 0 (ok0.less (by decide)) (by decide) 1 (d1 7) rfl) [1,2,3,4,5,6] λ_=>?_;rw[show F0.write 1 (d1 7)=F1 from rfl,v1];refine J.qp (a7o f p n t l d F1.1 (K 2) 0 (ok1.less (by decide)) (by decide) 2) [1,2,3,4,5,6] λ_=>?_;rw[show F1.1.trim 2=F2 from rfl,v2];refine J.qp (a0S f p n t l d F2.1 (K 3) 0 (ok2.less (by decide)) (by decide) 3 zd rfl) [1,2,3,4,5,6] λ_=>?_;rw[show F2.1.write 3 zd=F3 from rfl,v3];refine J.qp (a0h f p n t l d F3.1 (K 3) 0 ok3 1) [1,2,3,4,5,6] λ_=>?_;rw[show F3.1.read 1=F4 from rfl,v4,w4];refine J.q λc7=>?_;refine J.cb (a1x f p n t l d F4.1 (K 5) 0 (ok4.less (by decide)) (by decide)) [1,2,3,4,5,6] ?_;refine cpq ⟨_,rfl,trivial,?_⟩;rw[show F4.1.flush=F5 from rfl,v5];refine J.qp (b1V n F5.1.S.N (-1) 0) [3] λ_=>?_;refine J.qp (a0h f p n t l d F6 (K 5) 0 ok6 1) [1,2,3,4,5,6] λ_=>?_;rw[show F6.read 1=F7 from rfl,v7];refine J.q λc10=>?_;refine J.cb (b7m n F7.1.S.N) [3] ?_;refine cpq ⟨_,rfl,trivial,?_⟩;rw[show F7.1.S.N.onN=N8 from rfl];refine J.qc (a1w n N8 (K 6) 0 g8 (by decide) rfl) [3] λ_=>?_;rintro v As (⟨_,f',p',t',l',d',rfl,rfl⟩ | ⟨he,rfl,rfl⟩)
 rotate_left
 ·exact absurd m8 he
 refine⟨_,rfl,trivial,?_⟩;rw[show Fv.of (T4 N8).1=F8 from rfl];refine J.qp (a0h f' p' n t' l' d' F8 (K 6) 0 ok8 1) [3,9,10,11,12,13] λ_=>?_;rw[show F8.read 1=F9 from rfl,v9,w9];refine J.q λc14=>?_;refine J.cb (c1d 2) [] ?_;rintro v As ⟨mq,mg,MZ,rfl,rfl,hM0⟩;refine⟨_,rfl,trivial,?_⟩;have ml0:MZ.length=2:=by have:=congrArg List.length hM0;rw[q9]at this;exact this
 refine J.qc (b7q mq mg MZ (by omega) (a7p hM0 (by decide)) 0 (d1 1) rfl) [15,16,17,18] λ_=>?_;rintro v As ⟨MZ1,rfl,rfl,hM1⟩;refine⟨_,rfl,trivial,?_⟩;rw[hM0]at hM1;have ml1:MZ1.length=2:=by have:=congrArg List.length hM1;rw[q9]at this;exact this
 refine J.qc (c1e mq mg MZ1 (by omega)) [15,16,17,18] λ_=>?_;rintro v As ⟨MZ2,rfl,rfl,hM2⟩;refine⟨_,rfl,trivial,?_⟩;rw[hM1]at hM2;have hM2:MZ2.map (·.v)=M1:=hM2;have ml2:MZ2.length=2:=by have:=congrArg List.length hM2;rw[q9]at this;exact this
 refine J.q λ_=>?_;refine J.turn1 [] rfl (As:=[rdA none 7 0 (B3 [])]) (λh s=>Sep.one ⟨rfl,λh=>absurd h (by decide)⟩) rfl ?_;refine J.q λ_=>?_;refine J.ca hX (by kernel_rfl) (b6P 3 8 2 rfl (rdA none 7 0 (B3 [])) none 0 0 [] (b0y _ _ _ _) rfl (by decide)) [19] 0 rfl rfl rfl rfl rfl rfl (λ_=>rfl) ?_;rintro v As ⟨q,nn,A0,rfl,hA0,rfl⟩;rw[show Pv.new 3 8 2 []=P0 from rfl]at hA0 ⊢;rw[a0U q nn A0 P0 F0 z0];refine⟨_,rfl,trivial,?_⟩;refine J.q λ_=>?_;have hst1:=a7i q nn A0 P0 hA0 F0 z0 (K 1) 0 (ok0.less (by decide)) (by decide) (by decide) (by decide) s1 rfl;rw[a0U q nn A0 P0 F0 z0]at hst1;refine J.qc (hst1) [20,21,22,23,24,25,26,27,28,29] λ_=>?_;rintro v As ⟨A1,rfl,hA1,rfl⟩;obtain⟨x1,hx1⟩:∃x,(P0.step s1).2=⟨0,x⟩:=⟨(P0.step s1).2.data,by rw[<- e1]⟩;rw[show(P0.step s1).1=P1 from rfl]at hA1 ⊢;rw[a0U q nn A1 P1 B21.Z1 z1,hx1];refine⟨_,rfl,trivial,?_⟩;refine J.q λc18=>?_;have hst2:=a7i q nn A1 P1 hA1 B21.Z1 z1 (K 2) 0 (okz1.less (by decide)) (by rw[pL1];decide) (by rw[pL1];decide) (by rw[pl1];decide) s2 rfl;rw[a0U q nn A1 P1 B21.Z1 z1]at hst2;refine J.qc (hst2) [20,21,22,23,24,25,26,27,28,29] λ_=>?_;rintro v As ⟨A2,rfl,hA2,rfl⟩;obtain⟨x2,hx2⟩:∃x,(P1.step s2).2=⟨x,d1 9⟩:=⟨(P1.step s2).2.err,by rw[<- e2]⟩;rw[show(P1.step s2).1=P2 from rfl]at hA2 ⊢;rw[a0U q nn A2 P2 B21.Z2 z2,hx2];refine⟨_,rfl,trivial,?_⟩;refine J.q λc19=>?_;refine J.cb (b8v f' p' n t' l' d' F9.1 (K 6) 0 ok9) [3,9,10,11,12,13] ?_;rintro v As ⟨aa,ac,rfl,rfl⟩;refine⟨_,rfl,trivial,?_⟩;rw[show F9.1.all=Fa from rfl,va,wa];refine J.q λ_=>?_;have hz2:P2.Z=some B21.Z2:=z2;have hlog:=c0S q nn A2 P2 (by rw[lg2];decide);rw[hz2]at hlog;refine J.qc (hlog) [20,23] λ_=>?_;rintro v As ⟨la,lc,rfl,rfl⟩;refine⟨_,rfl,trivial,?_⟩;refine J.qp (b5h) [] λ_=>?_;refine J.qn 19 λ_=>?_;refine J.v (.bool true) rfl rfl (λhg aa w he hw=>(W8 (xs:=I1 (d1 7)) (ys:=I1 (d1 7)) rfl rfl rfl he hg rfl a0v (X2 _) (X2 _) mkD gdD).trans (by rw[eqD _ _ rfl rfl];simp)) ?_;refine J.qn 20 λ_=>?_;refine J.v (.bool true) rfl rfl (λhg aa w he hw=>(W8 (xs:=I1 (d1 7)) (ys:=I1 (d1 7)) rfl rfl rfl he hg rfl a0v (X2 _) (X2 _) mkD gdD).trans (by rw[eqD _ _ rfl rfl];simp)) ?_;refine J.qp (O5 f n t l p d (F7.1.setN Fa.1.S.N) oka.dv.gd.ok) [1,10] λ_=>?_;rw[show(F7.1.setN Fa.1.S.N).lg=3 from lgA];refine J.qp (b3f mq mg MZ2 (by omega) (a7p hM2 (by decide)) 0 (zd) rfl) [15,16,17,18] λ_=>?_;rw[hM2,q1];refine J.qp (b3f mq mg MZ2 (by omega) (a7p hM2 (by decide)) 0 (d1 1) rfl) [15,16,17,18] λ_=>?_;rw[hM2,q2];refine J.qp (b3f mq mg MZ2 (by omega) (a7p hM2 (by decide)) 0 (d1 2) rfl) [15,16,17,18] λ_=>?_;rw[hM2,q3];refine J.qn 11 λ_=>?_;refine J.v (.bool true) rfl rfl (λhg aa w he hw=>(W8 (xs:=I1 (d1 9)) (ys:=I1 (d1 9)) rfl rfl rfl he hg rfl a0v (X2 _) (X2 _) mkD gdD).trans (by rw[eqD _ _ rfl rfl];simp)) ?_;refine J.q λ_=>?_;have hrest:=c0l q nn A2 P2 hA2 B21.Z2 z2 50 0 0 (okz2.less (by decide)) okz2o (by rw[pL2];decide) (by rw[pL2];decide) (by rw[lg2];decide) B21.Z3 z3;rw[a0U q nn A2 P2 B21.Z2 z2]at hrest;refine J.qc (hrest) [20,21,22,23,24,25,26,27,28,29] λ_=>?_;rintro v As ⟨A3,rfl,_,rfl⟩;refine⟨_,rfl,trivial,?_⟩;rw[t3];refine J.qp (c1y 3 8 2) [] λ_=>?_;rw[show b4q 3 8 2=616 from rfl];refine J.qr [] λ_=>?_;refine⟨?_,rfl⟩;rw[lg2];rfl
end Go.Proofs.YtpakpgkdpofbhaaGreat
namespace Go.Proofs.YtpakpgkdpofbhaaGreat
open Go Go.RowKit
theorem a5j {d b p:Nat} (hd:3<=d/\d<=6) (hb:8<=b/\b<=16) (hp:2<=p/\p<=8):1<=lgN d b p/\lgN d b p<=200/\2*lgN d b p<=(b-5)*(p*(d-2))+1:=by
 have h1:(b-5)*p*(d-2)=(b-5)*(p*(d-2)):=Nat.mul_assoc _ _ _;have h2:3*2<=(b-5)*p:=T9 (by omega) hp.1;have h3:6*1<=(b-5)*p*(d-2):=T9 h2 (by omega);have h4:(b-5)*p<=11*8:=T9 (by omega) hp.2;have h5:(b-5)*p*(d-2)<=88*4:=T9 h4 (by omega);unfold lgN;omega
theorem b5e:FP 118 [] [] (Ps (.bool true) []):=by
 refine FE [] Tryz.func118 λX F hX=>?_;refine J.qp (a2R) [] λ_=>?_;exact J.qx []
theorem b6m:FP 66 [] [] (Ps (.bool true) []):=by
 refine FE [] Tryz.func66 λX F hX=>?_;refine J.qp (b5e) [] λ_=>?_;exact J.qx []
def a0l (x k:Int):Int:=if x.tmod k<0 then-(x.tmod k)else x.tmod k
theorem a4b (x:Int) {k:Int} (hk:1<=k):0<=a0l x k/\a0l x k<k:=by
 obtain⟨h2,h1⟩:=a3K x k (by omega);unfold a0l;split<;>omega
theorem b1w (x k:Int) (hk:1<=k/\k<=1000000):FP 68 [iI x,iI k] [] (Ps (iI (a0l x k)) []):=by
 obtain⟨h2,h1⟩:=a3K x k (by omega);refine FE [0,0] Tryz.func68 λX F hX=>?_;refine J.qd (λ_ h=>?_) λ_ h=>?_
 ·simp only[g7]at h;refine J.qr [] λ_=>?_;unfold a0l;rw[i9 h,Int.zero_sub];exact⟨rfl,rfl⟩
 ·simp only[c9]at h;refine J.qr [] λ_=>?_;unfold a0l;rw[i7 h];exact⟨rfl,rfl⟩
def a4v (n:Int):List UInt8:=[u8 n,u8 (n/256),1,u8 (n*7),0,0,0,0,0,0,0,0,0,0,0,0]
theorem b6n (n:Int):(a4v n).length=16:=rfl
theorem b3L (n:Int) (h0:0<=n/\n<=1000000):FP 71 [iI n] [] (Ps (a6l (a4v n)) []):=by
 refine FE [0] Tryz.func71 λX F hX=>?_;refine J.qn 7 λ_=>?_;refine J.v (bv (u8 n)) rfl rfl (λhg a w he hs=>by rw[<- a1b n];exact O6 tk rfl rfl he rfl rfl rfl) ?_;refine J.qn 2 λ_=>?_;rw[show n.fdiv (2^min (Int.toNat 8) IntKind.i64.bits)=n/256 from Int.fdiv_eq_ediv_of_nonneg n (by decide:(0:Int)<=256)];refine J.v (bv (u8 (n/256))) rfl rfl (λhg a w he hs=>by rw[<- a1b (n/256)];exact O6 tk rfl rfl he rfl rfl rfl) ?_;refine J.qn 2 λ_=>?_;refine J.v (bv (u8 (n*7))) rfl rfl (λhg a w he hs=>by rw[<- a1b (n*7)];exact O6 tk rfl rfl he rfl rfl rfl) ?_;exact J.qx []
theorem b2M (g0 g1 g2:Int):FP 67 [.agg #[iI g0,iI g1,iI g2]] []
  (λv As=>∃(D B P:Nat) (n f p t l d:Nat) (Z:Fv),v= .tuple #[pp n,pp f]/\(3<=D/\D<=6)/\(8<=B/\B<=16)/\(2<=P/\P<=8)/\Z=Fv.of (Dv.new D B P (lgN D B P))/\As=FvP f p n t l d Z):=by
 refine FE [0] Tryz.func67 λX F hX=>?_;refine J.qc (b0M g0 g1 g2) [] λ_=>?_;rintro v As ⟨D,B,P,rfl,hD,hB,hP,rfl⟩;refine⟨_,rfl,trivial,?_⟩;have hg:J3 D B P=true:=by simp[J3];omega
 refine J.qc (a5h D B P hg) [] λ_=>?_;rintro v As ⟨n,rfl,rfl⟩;refine⟨_,rfl,trivial,?_⟩;have hm:=a4g (Dv.Ok.new D B P (lgN D B P) hg 0 (by decide));refine J.q λ_=>?_;refine J.ca hX (by kernel_rfl) (a1w n (Nand.new D B P) 0 0 (a4m D B P hg _ (by decide)) (by decide) rfl) [2] 0 rfl rfl rfl rfl rfl rfl (λ_=>rfl) ?_;rintro v As (⟨_,f,p,t,l,d,rfl,rfl⟩ | ⟨he,rfl,rfl⟩)
 rotate_left
 ·exact absurd (congrArg (·.2) hm) he
 refine⟨_,rfl,trivial,?_⟩;rw[hm];refine J.qF λ_=>?_;refine J.qr [2,3,4,5,6,7] λ_=>?_;exact⟨D,B,P,n,f,p,t,l,d,_,rfl,hD,hB,hP,rfl,rfl⟩
theorem b4E (g0 g1 g2:Int):FP 67 [.agg #[iI g0,iI g1,iI g2]] []
  (λv As=>∃(D B P:Nat) (n f p t l d:Nat) (Z:Fv),v= .tuple #[pp n,pp f]/\(3<=D/\D<=6)/\(8<=B/\B<=16)/\(2<=P/\P<=8)/\Dev D B P Z 200000 (λ_=>zeros16)/\Z.L=[]/\As=FvP f p n t l d Z):=
 (b2M g0 g1 g2).mono λ_ _ ⟨D,B,P,n,f,p,t,l,d,Z,e,hD,hB,hP,hZ,e2⟩=>by
  have hgb:=a5j hD hB hP;exact⟨D,B,P,n,f,p,t,l,d,Z,e,hD,hB,hP,by rw[hZ];exact Dev.new hD hB hP hgb.2.1 hgb.2.2 (by simp[J3];omega),by rw[hZ];rfl,e2⟩
theorem a9U (g0 g1 g2:Int):FP 54 [.agg #[iI g0,iI g1,iI g2]] []
  (λv As=>∃(D B P:Nat) (n f p t l d:Nat) (Z:Fv),v= .tuple #[pp n,pp f]/\(3<=D/\D<=6)/\(8<=B/\B<=16)/\(2<=P/\P<=8)/\Dev D B P Z 200000 (λ_=>zeros16)/\Z.L=[]/\As=FvP f p n t l d Z):=by
 refine FE [0] Tryz.func54 λX F hX=>?_;refine J.qc (b0M g0 g1 g2) [] λ_=>?_;rintro v As ⟨D,B,P,rfl,hD,hB,hP,rfl⟩;refine⟨_,rfl,trivial,?_⟩;have hg:J3 D B P=true:=by simp[J3];omega
 have hgb:=a5j hD hB hP;refine J.qc (a5h D B P hg) [] λ_=>?_;rintro v As ⟨n,rfl,rfl⟩;refine⟨_,rfl,trivial,?_⟩;have hm:=a4g (Dv.Ok.new D B P (lgN D B P) hg 0 (by decide));have hdv:=Dev.new hD hB hP hgb.2.1 hgb.2.2 hg;refine J.q λ_=>?_;refine J.ca hX (by kernel_rfl) (a1w n (Nand.new D B P) 0 0 (a4m D B P hg _ (by decide)) (by decide) rfl) [2] 0 rfl rfl rfl rfl rfl rfl (λ_=>rfl) ?_;rintro v As (⟨_,f,p,t,l,d,rfl,rfl⟩ | ⟨he,rfl,rfl⟩)
 rotate_left
 ·exact absurd (congrArg (·.2) hm) he
 refine⟨_,rfl,trivial,?_⟩;rw[hm];refine J.qF λ_=>?_;refine J.qr [2,3,4,5,6,7] λ_=>?_;exact⟨D,B,P,n,f,p,t,l,d,_,rfl,hD,hB,hP,hdv,rfl,rfl⟩
theorem a0B {a b:Bool} (ha:a=true) (hb:b=true):(a&&b)=true:=by rw[ha,hb];rfl
theorem a2T {P:Program} {f:FuncId} {fn:Func} {s:ChangeSpec} {c:OpenClaim} (k0:(c.wf (OpenSpec.ofChange s))=true) (k1:(laidOutB P)=true) (k2:(mapsRowed P)=true) (k3:(fn.params.all (P.readableRec ·))=true) (k4:(namedTie P c.named s.vars)=true) (k5:(c.stops==[])=true) (k6:(P.stops==[])=true) (k7:(c.knobs==[])=true) (k8:(P.stopKnobs==[])=true) (k9:(c.inPlace==P.inPlace f)=true) (k10:(c.unfollowed==P.unfollowed f)=true) (k11:(c.recurses==P.recurses f)=true) (k12:(c.named==P.varsNamed f)=true) (k13:(c.maps==(fn.params.toList++s.plain.varTypes P).any (P.mapsRec ·))=true) (k14:(c.ifaces==(fn.params.toList++s.plain.varTypes P).any (P.ifacesRec ·))=true) (k15:(c.mapsOut==P.mapsAmong fn.resultTypes.toList)=true) (k16:(c.loops==(fn.params.toList++s.plain.varTypes P).any (P.loopsFrom ·))=true) (k17:(c.wideKeys==(fn.params.toList++s.plain.varTypes P++fn.resultTypes.toList).any (P.wideKeysFrom ·))=true) (k18:(s.vars.all (P.varReadable ·))=true) (k19:(fn.resultTypes.all (λt=>P.readableRec t&&decide (t<P.types.size)))=true) (k20:(c.ifacesOut==fn.resultTypes.toList.any (P.ifacesRec ·))=true) (k21:(c.loopsOut==fn.resultTypes.toList.any (P.loopsFrom ·))=true) (k22:(c.plainKeys==P.plainKeys)=true) (k23:(c.shortTexts.isNone)=true) (k24:(P.stopsHeard)=true) (k25:(P.mayEnter)=true) (k26:(c.lifted==P.liftsFinal)=true) (k27:(P.make==some c.make)=true) (k28a:c.domain.isEmpty=true) (k28:(c.kinds==[])=true) (k29:(c.pinned==c.pinnedBy)=true) (k30:(c.veiled==(fn.params.toList++s.plain.varTypes P++fn.resultTypes.toList).any (P.veiledRec ·))=true) (k31:(c.veiledFits P fn.params.toList (fn.params.toList++s.plain.varTypes P++fn.resultTypes.toList))=true):joinedFacts P f fn s c=true:=by
 unfold joinedFacts;rw[i9 k28a];exact(a0B (a0B (a0B (a0B (a0B (a0B (a0B (a0B (a0B (a0B (a0B (a0B (a0B (a0B (a0B (a0B (a0B (a0B (a0B (a0B (a0B (a0B (a0B (a0B (a0B (a0B (a0B (a0B (a0B (a0B (a0B k0 k1) k2) k3) k4) k5) k6) k7) k8) k9) k10) k11) k12) k13) k14) k15) k16) k17) k18) k19) k20) k21) k22) k23) k24) k25) k26) k27) k28) k29) k30) k31)
end Go.Proofs.YtpakpgkdpofbhaaGreat
