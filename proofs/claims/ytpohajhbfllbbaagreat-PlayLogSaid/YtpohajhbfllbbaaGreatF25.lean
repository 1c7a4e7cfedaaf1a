/- Helpers. No condition. -/
import Derived.Test.YtpohajhbfllbbaaGreatF01
import Derived.Test.YtpohajhbfllbbaaGreatF06
import Derived.Test.YtpohajhbfllbbaaGreatF20
import Derived.Test.YtpohajhbfllbbaaGreatF22
import Derived.Test.YtpohajhbfllbbaaGreatF24
set_option maxRecDepth 20000
set_option linter.all false
namespace Go.Proofs.YtpohajhbfllbbaaGreat
open Go Go.RowKit
theorem b2S (x d:List UInt8):decide (d=x)=(x==d):=by
 by_cases h:x=d
 ·rw[h];simp
 ·rw[decide_eq_false (λe=>h e.symm),beq_eq_false_iff_ne.2 h]
theorem a8O (a:Option Nat) (n c:Nat) (l:List (List UInt8)) (hl:l.length=n) (hn:n<=1000000) (d:List UInt8) (hd:d.length=16) (hs:∀x∈l,x.length=16):FP 143 [slv a n c,a2D d] [c8 31 16 a n c (o0 l)] (λv As=>v=iI (match l.findIdx? (λx=>x==d)with | some k=>(k:Int) | none=> -1)/\As=[c8 31 16 a n c (o0 l)]):=by
 refine FE [0,0] Tryz.func143 λX F hX=>?_;refine J.q λbb=>?_;refine J.l (α:=Nat) (λk=>k<=n/\∀j,j<k->∀x,l[j]? =some x->(x==d)=false) (λk=>[si 8 k,si 7 n,sv 0 (slv a n c),⟨3,pp (bb 0),3, .tt⟩]) [] (λk=>[]) (λk=>n-k) (0) (⟨Nat.zero_le _,λj hj=>absurd hj (Nat.not_lt_zero _)⟩) λk hI=>?_;obtain⟨hk,hno⟩:=hI;refine J.qd (λ_ h1=>?_) λ_ h1=>?_
 ·simp only[decide_eq_true_eq,Int.ofNat_lt]at h1;obtain⟨x,hx⟩:∃x,l[k]? =some x:=⟨_,List.getElem?_eq_getElem (by omega)⟩;refine J.know (λh' s=>f8 (c:=(a,c)) (by omega) (s.get (i:=1) rfl)) λhg=>?_;obtain⟨g,rfl⟩:=hg;refine J.pn 4 (.of [1,4,8,12,17,20]) [] [1,2] λ_ _=>?_;have hxl:=hs x (List.mem_of_getElem? hx);refine J.vT (a2D x) rfl rfl (λhg aa w he hC=>j6 tk rfl rfl he rfl rfl rfl (hC rfl _ (f0 (i:=1) rfl)) (by rw[show 0+(k:Int).toNat*16=k*16 from by omega];exact C3 j8 16 (λ_=>rfl) l k x hx) rfl) ?_;refine J.vT (.bool (x==d)) rfl rfl (λhg aa w he hC=>(t7 (xs:=j8 d) (ys:=j8 x) rfl rfl rfl he rfl rfl U7 (J0 _) (J0 _) mkD gdD).trans (by rw[eqD _ _ hd hxl,b2S])) ?_;refine J.qd (λ_ h2=>?_) λ_ h2=>?_
  ·have hf:l.findIdx? (λx=>x==d)=some k:=by
    rw[List.findIdx?_eq_some_iff_getElem];obtain⟨g1,g2⟩:=List.getElem?_eq_some_iff.1 hx;refine⟨g1,by rw[g2];exact h2,λj hj=>?_⟩;have:=hno j hj _ (List.getElem?_eq_getElem (by omega));rw[this];exact Bool.false_ne_true
   refine J.qr [1] λ_=>?_;rw[hf];exact⟨rfl,rfl⟩
  ·refine J.q λ_=>?_;refine J.nS (k+1) (⟨by omega,λj hj y hy=>by
    rcases Nat.lt_or_ge j k with h | h
    ·exact hno j h y hy
    ·obtain rfl:j=k:=by omega
     rw[hx]at hy;injection hy with hy;rw[<- hy];exact h2⟩) (by omega) [0,1,2] rfl rfl
 simp only[decide_eq_false_iff_not,Int.ofNat_lt]at h1;have hf:l.findIdx? (λx=>x==d)=none:=by
  rw[List.findIdx?_eq_none_iff];intro x hx;obtain⟨j,hj⟩:=List.getElem?_of_mem hx;exact hno j (by have:=(List.getElem?_eq_some_iff.1 hj).1;omega) x hj
 refine J.qr [1] λ_=>?_;rw[hf];exact⟨rfl,rfl⟩
theorem b0A (l:List (List UInt8)) (d:List UInt8):decide ((match l.findIdx? (λx=>x==d)with | some k=>(k:Int) | none=> -1)>=0)=l.contains d:=by
 cases h:l.findIdx? (λx=>x==d)with
 | none=>
  rw[List.findIdx?_eq_none_iff]at h;have:l.contains d=false:=by
   rw[List.contains_eq_any_beq,List.any_eq_false];intro x hx e;have:=h x hx;rw[eq_of_beq e]at this;simp at this
  rw[this];rfl
 | some k=>
  rw[List.findIdx?_eq_some_iff_getElem]at h;obtain⟨h1,h2,_⟩:=h;have:l.contains d=true:=by
   rw[List.contains_eq_any_beq,List.any_eq_true];exact⟨_,List.getElem_mem h1,by rw[eq_of_beq h2];simp⟩
  rw[this,decide_eq_true (by dsimp only;omega)]
theorem b1A (a:Option Nat) (n c:Nat) (l:List (List UInt8)) (hl:l.length=n) (hn:n<=1000000) (d:List UInt8) (hd:d.length=16) (hs:∀x∈l,x.length=16):FP 90 [slv a n c,a2D d] [c8 31 16 a n c (o0 l)] (Ps (.bool (l.contains d)) [c8 31 16 a n c (o0 l)]):=by
 refine FE [0,0] Tryz.func90 λX F hX=>?_;refine J.qp (a8O a n c l hl hn d hd hs) [1] λ_=>?_;have hc:=b0A l d;refine J.qr [1] λ_=>?_;exact⟨by rw[<- hc],rfl⟩
theorem a3t {α:Type} (f:α->List Value) (w:Nat) (hw:∀x,(f x).length=w) (vs:List Value):∀{l:List α} {k:Nat} {x y:α},l[k]? =some x->vs.length<=w->vs++(f x).drop vs.length=f y->(l.flatMap f).take (k*w)++vs++(l.flatMap f).drop (k*w+vs.length)=(l.set k y).flatMap f
 | [],k,x,y,h,hj,e=>by simp at h
 | z::l,0,x,y,h,hj,e=>by
  simp only[List.getElem?_cons_zero,Option.some.injEq]at h;subst h;rw[Nat.zero_mul,Nat.zero_add,List.take_zero,List.nil_append,List.flatMap_cons,List.drop_append_of_le_length (by rw[hw];exact hj),<- List.append_assoc,e];rfl
 | z::l,k+1,x,y,h,hj,e=>by
  have ih:=a3t f w hw vs (l:=l) (k:=k) (x:=x) (y:=y) (by simpa using h) hj e;rw[List.flatMap_cons,show(k+1)*w=(f z).length+k*w from by rw[hw,Nat.succ_mul];omega,List.take_length_add_append,show(f z).length+k*w+vs.length=(f z).length+(k*w+vs.length)from by omega,List.drop_length_add_append,List.append_assoc,List.append_assoc,<- List.append_assoc (List.take _ _),ih];rfl
def MSl.Fine (z:MSl):Prop:=z.v.now.length=16/\(∀x∈z.v.may,x.length=16)/\(∀x∈z.v.ever,x.length=16)/\z.v.may.length<=1000/\z.v.ever.length<=1000
theorem a1s {α:Type} {l:List α} {k:Nat} {x:α} (h:l[k]? =some x):l.set k x=l:=by
 apply List.ext_getElem?;intro i;rw[List.getElem?_set];split
 ·rename_i e;subst e;split
  ·exact h.symm
  ·rename_i e2;rw[List.getElem?_eq_none (by omega)]
 ·rfl
theorem b1c (x d:List UInt8):decide (x=d)=(x==d):=by
 by_cases h:x=d
 ·rw[h];simp
 ·rw[decide_eq_false h,beq_eq_false_iff_ne.2 h]
theorem MSl.now_at {Z:List MSl} {k:Nat} {z:MSl} (hz:Z[k]? =some z):((Z.flatMap MSl.cells).drop (k*19+0)).take 16=j8 z.v.now:=by
 have h:=C3 MSl.cells 19 (λ_=>rfl) Z k z hz;have h2:((Z.flatMap MSl.cells).drop (k*19)).take 16=(((Z.flatMap MSl.cells).drop (k*19)).take 19).take 16:=by rw[List.take_take];rfl
 rw[Nat.add_zero,h2,h];rfl
theorem a6m (q g:Nat) (Z:List MSl) (hn:Z.length<=65536) (hf:∀z∈Z,z.Fine) (i:Int) (d:List UInt8) (hd:d.length=16):FP 46 [pp q,iI i,a2D d] (a4A q g Z) (Ps (.bool (Mv.may (Z.map (·.v)) i d)) (a4A q g Z)):=by
 refine FE [2,0,0] Tryz.func46 λX F hX=>?_;refine J.qp (b3l q g Z.length hn i) [1] λ_=>?_
 by_cases hi:0<=i/\i<(Z.length:Int)
 ·have ha:Mv.adr Z.length g i=some ⟨g,i.toNat*19,none⟩:=by unfold Mv.adr;rw[if_pos hi]
  obtain⟨k,rfl⟩:=Int.eq_ofNat_of_zero_le hi.1;obtain⟨z,hz⟩:∃z,Z[k]? =some z:=⟨_,List.getElem?_eq_getElem (by omega)⟩;obtain⟨f1,f2,f3,f4,f5⟩:=hf z (List.mem_of_getElem? hz);have hin:Mv.inR (Z.map (·.v)) (k:Int)=true:=by unfold Mv.inR;rw[List.length_map,decide_eq_true hi.1,decide_eq_true hi.2];rfl
  have hpg:Mv.pg (Z.map (·.v)) (k:Int)=z.v:=by unfold Mv.pg;rw[Int.toNat_natCast,List.getD_eq_getElem?_getD,List.getElem?_map,hz];rfl
  have hmy:Mv.may (Z.map (·.v)) (k:Int) d=if z.v.op then z.v.may.contains d else z.v.now==d:=by unfold Mv.may;rw[hin,hpg,Bool.true_and]
  rw[ha,Int.toNat_natCast];refine J.qF λ_=>?_;have hcell:=λj hj=>M9 MSl.cells 19 MSl.cells_len hz j hj;refine J.qn 7 λ_=>?_;refine J.v (.bool z.v.op) rfl rfl (λhg aa w he hw=>f9 tk rfl rfl he rfl rfl rfl (hw.get (i:=2) rfl) (hcell 16 (by omega))) ?_;refine J.qd (λ_ h1=>?_) λ_ h1=>?_
  ·rw[if_pos h1]at hmy;refine J.openAt 3 k rfl rfl (by rw[List.getElem?_map,hz];rfl) rfl ?_;refine J.pn 3 (.of [0,4,8,13,17,23,24]) [5,6] [1,2,3,4,5,6] λ_ _=>?_;refine J.vT (slv z.a1 z.v.may.length z.c1) rfl rfl (λhg aa w he hC=>f9 tk rfl rfl he rfl rfl rfl (hC rfl _ (f0 (i:=2) rfl)) (hcell 17 (by omega))) ?_;refine J.qp (b1A z.a1 z.v.may.length z.c1 z.v.may rfl (by omega) d hd f2) [6] λ_=>?_;refine J.q λ_=>?_;refine J.closeAt (A:=z.m1) 3 6 k rfl rfl rfl ?_;have hsame:(Z.map MSl.m1).set k z.m1=Z.map MSl.m1:=a1s (by rw[List.getElem?_map,hz];rfl);rw[hsame];refine J.qr [1,2,3,4] λ_=>?_;rw[hmy];exact⟨rfl,rfl⟩
  ·rw[if_neg (by rw[h1];decide)]at hmy;refine J.pn 3 (.of [0,4,8,13,17,20,24]) [5,6] [1,2,3,4,5] λ_ _=>?_;refine J.vT (a2D z.v.now) rfl rfl (λhg aa w he hC=>i4 tk rfl rfl he rfl rfl rfl (hC rfl _ (f0 (i:=2) rfl)) (MSl.now_at hz) rfl) ?_;refine J.qn 1 λ_=>?_;refine J.vT (.bool (z.v.now==d)) rfl rfl (λhg aa w he hC=>(t7 (xs:=j8 z.v.now) (ys:=j8 d) rfl rfl rfl he rfl rfl U7 (J0 _) (J0 _) mkD gdD).trans (by rw[eqD _ _ f1 hd,b1c])) ?_;refine J.qr [1,2,3,4] λ_=>?_;rw[hmy];exact⟨rfl,rfl⟩
 ·have ha:Mv.adr Z.length g i=none:=by unfold Mv.adr;rw[if_neg hi]
  have hmy:Mv.may (Z.map (·.v)) i d=false:=by
   unfold Mv.may Mv.inR;rw[List.length_map];have:(decide (0<=i)&&decide (i<(Z.length:Int)))=false:=by simp;omega
   rw[this];rfl
  rw[ha];refine J.qT λ_=>?_;refine J.qr [1,2,3,4] λ_=>?_;rw[hmy];exact⟨rfl,rfl⟩

section
variable {P : Program} {ops : Array Oper}
theorem a9s {o:Oper} {x:Operand} (hx:o.op= .move x) {K:Act->World->Prop} {a:Act} {w:World} (h:sOp P ops o K a w):sOp P ops o (λa' w'=>K a' w'/\w'=w) a w:=by
 unfold sOp at*;split
 ·rename_i hw;rw[if_pos hw]at h;have e:execOp a.eval o=pure (.value (a.eval x)):=by unfold execOp;rw[hx]
  rw[e]at h ⊢;exact⟨h,rfl⟩
 ·rename_i hw;rw[if_neg hw]at h;exact⟨h,rfl⟩
theorem a0r {lt mv:List Nat} (hmv:∀j∈mv,∀o,ops[j]? =some o->∃x,o.op= .move x) {C D:World->Prop} {K:Act->World->Prop} {i:Nat} {oi:Oper} {v:Value} (hi:ops[i]? =some oi) (hsel:∀(j:Nat) (o:Oper) cs b,ops[j]? =some o->o.op≠ .select cs b)
  (hD:(i∉lt/\(∀w,C w->D w)/\∀j∈lt,j∈mv\/K9 ops 3 j i=true)\/(i∈lt/\∀w,D w)):
  ∀(fuel:Nat) (listed:Array Bool) (a:Act) (w:World),Shut ops listed->
   (∀j oj,ops[j]? =some oj->j≠i->listed.getD j true=false->(∀e∈oj.after,Region.binds .any e=true->e.on≠i)->oi.apart ops oj=true)->
   i∈Region.ready .any ops listed->YldIn P ops D oi v a->D w->(i∉lt->C w)->
   sAny P ops lt C K fuel (listed.setIfInBounds i true) (a.put oi.dst v) w->sAny P ops lt C K (fuel+1) listed a w:=by
 intro fuel
 induction fuel with
 | zero=>
  intro listed a w _ _ hr hy hDw hC H;refine⟨λh=>(by rw[h]at hr;cases hr),λj hj=>?_⟩
  by_cases hji:j=i
  ·subst hji;exact⟨oi,hi,hy.sOp hDw ⟨hC,H⟩⟩
  ·have:=ready_mono hj hji;rw[H.1]at this;cases this
 | succ fuel ih=>
  intro listed a w hsh hfree hr hy hDw hC H;refine⟨λh=>(by rw[h]at hr;cases hr),λj hj=>?_⟩
  by_cases hji:j=i
  ·subst hji;exact⟨oi,hi,hy.sOp hDw ⟨hC,H⟩⟩
  ·obtain⟨oj,hoj,h1⟩:=H.2 j (ready_mono hj hji);obtain⟨hjun,oj',hoj',hall⟩:=mem_ready.1 hj;have:oj'=oj:=by rw[hoj]at hoj';injection hoj' with e;exact e.symm
   subst this;have hiun:listed.getD i false≠true:=λh1=>by
    have h0:=(mem_ready.1 hr).1;rcases Nat.lt_or_ge i listed.size with h' | h'
    ·simp[h']at h0 h1;rw[h0]at h1;cases h1
    ·simp[Array.getElem?_eq_none h']at h1
   have hnot:∀e∈oj'.after,Region.binds .any e=true->e.on≠i:=λe he hb heq=>hiun (heq▸hall e he hb);have h2:=a6P (hfree j oj' hoj hji hjun hnot) (λcs b=>hsel i oi cs b hi) (λcs b=>hsel j oj' cs b hoj) hy h1;have hfree':∀k ok,ops[k]? =some ok->k≠i->(listed.setIfInBounds j true).getD k true=false->
     (∀e∈ok.after,Region.binds .any e=true->e.on≠i)->oi.apart ops ok=true:=λk ok hk hki hun hno=>by
    refine hfree k ok hk hki ?_ hno
    by_cases hjk:j=k
    ·subst hjk;exact hjun
    ·rw[getD_set_ne true hjk]at hun;exact hun
   have h2':sOp P ops oj' (λa' w'=>(YldIn P ops D oi v a'/\(j∉lt->C w')/\sAny P ops lt C K fuel ((listed.setIfInBounds i true).setIfInBounds j true) (a'.put oi.dst v) w')/\(j∈mv->w'=w)) a w:=by
    by_cases hm:j∈mv
    ·obtain⟨x,hx⟩:=hmv j hm oj' hoj;exact(a9s hx h2).mono λ_ _ hh=>⟨hh.1,λ_=>hh.2⟩
    ·exact h2.mono λ_ _ hh=>⟨hh,λh=>absurd h hm⟩
   refine⟨oj',hoj,h2'.mono λa' w' ⟨⟨hy',hC',h3⟩,hww⟩=>⟨hC',?_⟩⟩;have hdc:D w'/\(i∉lt->C w'):=by
    rcases hD with⟨hil,hCD,hw⟩ | ⟨hil,hd⟩
    ·by_cases hm:j∈mv
     ·rw[hww hm];exact⟨hDw,hC⟩
     ·have hjl:j∉lt:=λh=>by
       rcases hw j h with h' | h'
       ·exact hm h'
       ·exact hiun (W7 hsh h' hj)
      exact⟨hCD _ (hC' hjl),λ_=>hC' hjl⟩
    ·exact⟨hd _,λh=>absurd hil h⟩
   refine ih (listed.setIfInBounds j true) a' w' (hsh.set hj) hfree' (ready_mono hr (Ne.symm hji)) hy' hdc.1 hdc.2 ?_;rw[Array.setIfInBounds_comm _ _ hji];exact h3
theorem PT.sound2 {lt mv:List Nat} {C:World->Prop} {K:Act->World->Prop} (hs:Region.noSelect ops=true) (hmv:∀j∈mv,∀o,ops[j]? =some o->∃x,o.op= .move x) (hlt:∀j∈lt,∀i,i<ops.size->i∉lt->j∈mv\/K9 ops 3 j i=true):∀(t:PT) (fl:Bool) (n:Nat) (listed:Array Bool) (a:Act) (w:World),Shut ops listed->t.ok ops lt fl n listed=true->(t.allLt lt=false->C w)->pT P ops C K t a w->
  (fl=false->sAny P ops lt C K n listed a w)/\(∀i∈t.heads,∃o,ops[i]? =some o/\∃m,n=m+1/\sOp P ops o (λa' w'=>(i∉lt->C w')/\sAny P ops lt C K m (listed.setIfInBounds i true) a' w') a w)
 | .done,fl,n,listed,a,w,hsh,h,hC,hp=>by
  cases fl with
  | true=>simp[PT.ok]at h
  | false=>exact⟨λ_=>a2O (by simpa[PT.ok]using h) hp n,by simp[PT.heads]⟩
 | .take p i t,fl,n,listed,a,w,hsh,h,hC,hp=>by
  cases fl with
  | true=>simp[PT.ok]at h
  | false=>
   cases n with
   | zero=>simp[PT.ok]at h
   | succ n=>
    simp only[PT.ok,Bool.and_eq_true]at h;obtain⟨⟨⟨hr,hf⟩,ht⟩,hp2⟩:=h;refine⟨λ_=>?_,by simp[PT.heads]⟩;obtain⟨o,v,hi,hy,hp⟩:=hp;have hisz:i<ops.size:=(Array.getElem?_eq_some_iff.1 hi).1
    by_cases hil:i∈lt
    ·have hpt:p=true:=by simpa[hil]using hp2
     subst hpt;refine a0r hmv hi (Region.noSelect_spec hs) (.inr ⟨hil,λw h=>by cases h⟩) n listed a w hsh (Region.free_spec hi hf) (by simpa using hr) hy (λh=>by cases h) (λh=>absurd hil h) ((PT.sound2 hs hmv hlt t false n _ _ w (hsh.set (by simpa using hr)) ht (λhe=>hC ?_) hp).1 rfl);simp[PT.allLt,he]
    ·have hCw:C w:=hC (by simp[PT.allLt,hil]);exact a0r hmv hi (Region.noSelect_spec hs) (.inl ⟨hil,λw h _=>h,λj hj=>hlt j hj i hisz hil⟩) n listed a w hsh (Region.free_spec hi hf) (by simpa using hr) hy (λ_=>hCw) (λ_=>hCw) ((PT.sound2 hs hmv hlt t false n _ _ w (hsh.set (by simpa using hr)) ht (λ_=>hCw) hp).1 rfl)
 | .alt l i t m,fl,n,listed,a,w,hsh,h,hC,hp=>by
  cases n with
  | zero=>simp[PT.ok]at h
  | succ n=>
   simp only[PT.ok,Bool.and_eq_true]at h;obtain⟨⟨⟨⟨⟨ht,hm⟩,hall⟩,hl⟩,hlate⟩,hrd⟩:=h;obtain⟨⟨o,hi,hp⟩,hpm⟩:=hp;have hl':l=true↔i∈lt:=by
    have:=eq_of_beq hl;rw[<- this];simp
   have hmm:=(PT.sound2 hs hmv hlt m true (n+1) listed a w hsh hm (λhe=>hC (by simp[PT.allLt,he])) hpm).2;have hheads:∀j∈PT.heads (.alt l i t m),∃o,ops[j]? =some o/\∃m,n+1=m+1/\sOp P ops o (λa' w'=>(j∉lt->C w')/\sAny P ops lt C K m (listed.setIfInBounds j true) a' w') a w:=by
    intro j hj;rcases List.mem_cons.1 hj with rfl | hj
    ·refine⟨o,hi,n,rfl,hp.mono λa' w' hh=>⟨λhn=>hh.1 ?_,(PT.sound2 hs hmv hlt t false n _ a' w' (hsh.set (by simpa using hrd)) ht (λhe=>hh.1 ?_) hh.2).1 rfl⟩⟩
     ·cases l with
      | false=>rfl
      | true=>exact absurd (hl'.1 rfl) hn
     ·cases l with
      | false=>rfl
      | true=>simp only[Bool.not_true,Bool.false_or]at hlate;rw[hlate]at he;cases he
    ·exact hmm j hj
   refine⟨λhfl=>?_,hheads⟩;subst hfl;simp only[Bool.false_or,Bool.and_eq_true,List.all_eq_true]at hall;refine⟨λh0=>absurd hall.1 (by simp[h0]),λj hj=>?_⟩;obtain⟨o,h1,m',h2,h3⟩:=hheads j (by simpa using hall.2 j hj);have:m'=n:=by omega
   subst this;exact⟨o,h1,h3⟩
 | .non,fl,n,listed,a,w,hsh,h,hC,hp=>by
  cases fl with
  | true=>exact⟨(λh=>by cases h),by simp[PT.heads]⟩
  | false=>simp[PT.ok]at h
end
def b0x (o:Oper):Bool:=match o.op with
 | .move _=>true
 | _=>false
def PT.good2 (ops:Array Oper) (lt mv:List Nat) (t:PT):Bool:=Region.noSelect ops&&(mv.all λj=>(ops[j]?.map b0x).getD true)&&lt.all (λj=>mv.contains j||(List.range ops.size).all λi=>lt.contains i||K9 ops 3 j i)&&t.ok ops lt false ops.size (Array.replicate ops.size false)
theorem a0K {P:Program} {id:Nat} {ops:Array Oper} {C:World->Prop} {Q:Exit->Act->World->Prop} {a:Act} {w:World} (hm:P.follows .mixedOrders=true) (t:PT) (lt mv:List Nat) (ht:t.good2 ops lt mv=true) (hC:C {w with drawn:=w.drawn+1})
  (h:pT P ops C (Q .normal) t a {w with drawn:=w.drawn+1}):(Code.region id ops true).wp P Q a w:=by
 simp only[PT.good2,Bool.and_eq_true,List.all_eq_true,List.mem_range]at ht;obtain⟨⟨⟨h1,h0⟩,h2⟩,h3⟩:=ht;refine wp_region_any hm (sAny.wpAny (λ_ _ h=>h) _ _ _ _ ((PT.sound2 h1 (lt:=lt) (mv:=mv) (λj hj o ho=>?_) (λj hj i hi hn=>?_) t false _ _ a _ (Shut.none _) h3 (λ_=>hC) h).1 rfl))
 ·have:=h0 j hj;rw[ho]at this;simp only[Option.map_some,Option.getD_some]at this;unfold b0x at this;split at this
  ·exact⟨_,by assumption⟩
  ·cases this
 ·have:=h2 j hj;rcases Bool.or_eq_true_iff.1 this with h | h
  ·exact .inl (by simpa using h)
  ·rw[List.all_eq_true]at h;have:=h i (List.mem_range.2 hi);exact .inr (by simpa[hn]using this)
theorem J.plan2 {X:Cx} {K:List KI} {E:Env} {L:List Atom} {id:Nat} {ops:Array Oper} (t:PT) (lt mv ro:List Nat) (hm:X.P.follows .mixedOrders=true) (ht:t.good2 ops lt mv=true) (h:J X (.reg ops (snap L ro) t::K) E L):J X (.code (.region id ops true)::K) E L:=
 λa w hx he hs=>a0K hm t lt mv ht (CAt.snap (w:={w with drawn:=w.drawn+1}) hs ro) (h a _ hx.drew he hs)
theorem B6 (l:List (List UInt8)) (d:List UInt8):o0 l++j8 d=o0 (l++[d]):=by unfold o0;rw[List.flatMap_append];simp
theorem MSl.put17 (d:List UInt8) (o:Bool) (A B:List (List UInt8)) (a1:Option Nat) (c1:Nat) (a2:Option Nat) (c2:Nat) (x:Option Nat×Nat):(MSl.cells ⟨⟨d,o,A,B⟩,a1,c1,a2,c2⟩).set 17 (slv x.1 (A.length+1) x.2)=MSl.cells ⟨⟨d,o,A++[d],B⟩,x.1,x.2,a2,c2⟩:=by
 unfold MSl.cells;dsimp only;rw[List.length_append];rfl
theorem MSl.put18 (d:List UInt8) (o:Bool) (A B:List (List UInt8)) (a1:Option Nat) (c1:Nat) (a2:Option Nat) (c2:Nat) (x:Option Nat×Nat):(MSl.cells ⟨⟨d,o,A,B⟩,a1,c1,a2,c2⟩).set 18 (slv x.1 (B.length+1) x.2)=MSl.cells ⟨⟨d,o,A,B++[d]⟩,a1,c1,x.1,x.2⟩:=by
 unfold MSl.cells;dsimp only;rw[List.length_append];rfl
theorem b0b (q g:Nat) (Z:List MSl) (hn:Z.length<=65536) (hf:∀z∈Z,z.Fine) (i:Int) (d:List UInt8) (hd:d.length=16):FP 42 [pp q,iI i,a2D d] (a4A q g Z) (λv As=>∃Z',v= .bool (Mv.inR (Z.map (·.v)) i)/\As=a4A q g Z'/\Z'.map (·.v)=Mv.write (Z.map (·.v)) i d):=by
 refine FE [2,0,0] Tryz.func42 λX F hX=>?_;refine J.qp (b3l q g Z.length hn i) [1] λ_=>?_
 by_cases hi:0<=i/\i<(Z.length:Int)
 ·have ha:Mv.adr Z.length g i=some ⟨g,i.toNat*19,none⟩:=by unfold Mv.adr;rw[if_pos hi]
  obtain⟨k,rfl⟩:=Int.eq_ofNat_of_zero_le hi.1;obtain⟨z,hz⟩:∃z,Z[k]? =some z:=⟨_,List.getElem?_eq_getElem (by omega)⟩;obtain⟨f1,f2,f3,f4,f5⟩:=hf z (List.mem_of_getElem? hz);have hin:Mv.inR (Z.map (·.v)) (k:Int)=true:=by unfold Mv.inR;rw[List.length_map,decide_eq_true hi.1,decide_eq_true hi.2];rfl
  rw[ha,Int.toNat_natCast];refine J.qF λ_=>?_;refine J.openAt 3 k rfl rfl (by rw[List.getElem?_map,hz];rfl) rfl ?_;refine J.openAt 4 k rfl rfl (by rw[List.getElem?_map,hz];rfl) rfl ?_;have hl1:k*19+19<=(Z.flatMap MSl.cells).length:=by rw[MSl.flat_len];omega
  have r9:∀y:MSl,(Z.set k y)[k]? =some y:=λy=>by rw[List.getElem?_set,if_pos rfl,if_pos (by omega)]
  refine J.qn 8 λ_=>?_;have hst:((Z.flatMap MSl.cells).take (k*19)++j8 d++(Z.flatMap MSl.cells).drop (k*19+(j8 d).length))=(Z.set k ⟨⟨d,z.v.op,z.v.may,z.v.ever⟩,z.a1,z.c1,z.a2,z.c2⟩).flatMap MSl.cells:=a3t MSl.cells 19 MSl.cells_len (j8 d) hz (by show 16<=19;omega) (y:=⟨⟨d,z.v.op,z.v.may,z.v.ever⟩,z.a1,z.c1,z.a2,z.c2⟩) rfl;refine J.sN (j8 d) 2 ((Z.set k ⟨⟨d,z.v.op,z.v.may,z.v.ever⟩,z.a1,z.c1,z.a2,z.c2⟩).flatMap MSl.cells) ?_ ?_ ?_
  ·show k*19+0+16<=_;omega
  ·rw[Nat.add_zero];exact hst
  refine J.qn 3 λ_=>?_;refine J.s1 2 ((Z.set k ⟨⟨d,false,z.v.may,z.v.ever⟩,z.a1,z.c1,z.a2,z.c2⟩).flatMap MSl.cells) ?_ ?_ ?_
  ·rw[MSl.flat_len,List.length_set,<- MSl.flat_len];omega
  ·exact(n8 MSl.cells 19 MSl.cells_len 16 (y:=⟨⟨d,false,z.v.may,z.v.ever⟩,z.a1,z.c1,z.a2,z.c2⟩) _ (r9 ⟨⟨d,z.v.op,z.v.may,z.v.ever⟩,z.a1,z.c1,z.a2,z.c2⟩) (by omega) rfl).trans (by rw[List.set_set];all_goals rfl)
  refine J.q λ_=>?_;refine J.plan2 (.take true 0 (.take true 1 (.take true 2 (.take true 3 (.take true 4 (.take false 5 (.take false 6 (.take true 9 (.take true 10 (.take true 11 (.take false 12 (.take false 13 (.alt false 7 ((.alt false 8 ((.of [58,62,64,68,75,76,80,87])) (.alt false 14 ((.of [34,62,64,68,75,76,80,87])) .non))) (.alt false 14 ((.of [30,34,62,64,68,75,76,80,87])) .non)))))))))))))) [1,16,17,18,19,20,21] [1] [1,2,3,4,5] (by rw[hX.hP];kernel_rfl) (by kernel_rfl) ?_;have hcell:=λj hj=>M9 MSl.cells 19 MSl.cells_len (r9 ⟨⟨d,false,z.v.may,z.v.ever⟩,z.a1,z.c1,z.a2,z.c2⟩) j hj;refine J.qn 6 λ_=>?_;refine J.vT (slv z.a1 z.v.may.length z.c1) rfl rfl (λhg aa w he hC=>f9 tk rfl rfl he rfl rfl rfl (hC rfl _ (f0 (i:=2) rfl)) (hcell 17 (by omega))) ?_;refine J.qn 4 λ_=>?_;refine J.vT (slv z.a2 z.v.ever.length z.c2) rfl rfl (λhg aa w he hC=>f9 tk rfl rfl he rfl rfl rfl (hC rfl _ (f0 (i:=2) rfl)) (hcell 18 (by omega))) ?_;refine J.qn 1 λ_=>?_;refine J.join (α:=(Option Nat×Nat)×(Option Nat×Nat)) (λ_=>[sv 6 (.bool false)]) (λx=>[.hp F, .pt q 148 [.slice (some ⟨g,0,none⟩) Z.length Z.length], .pt g 150 ((Z.set k ⟨⟨d,false,z.v.may++[d],z.v.ever++[d]⟩,x.1.1,x.1.2,x.2.1,x.2.2⟩).flatMap MSl.cells), .hp (HP.of ((Z.map MSl.m1).set k .emp)), .hp (HP.of ((Z.map MSl.m2).set k .emp)),c8 31 16 x.1.1 (z.v.may.length+1) x.1.2 (o0 (z.v.may++[d])),c8 31 16 x.2.1 (z.v.ever.length+1) x.2.2 (o0 (z.v.ever++[d]))]) (λhj=>?_) (λx=>?_)
  ·refine J.alts ?_ ?_
   ·skip
    refine J.qn 1 λbb=>?_;refine J.alts ?_ ?_
    ·skip
     refine J.ap 6 8 0 (B6 z.v.may d) λa3 c3=>?_;refine J.qn 1 λbc=>?_;refine J.ap 7 9 0 (B6 z.v.ever d) λa4 c4=>?_;refine J.qn 2 λ_=>?_;refine J.s1 2 ((Z.set k ⟨⟨d,false,z.v.may++[d],z.v.ever⟩,a3,c3,z.a2,z.c2⟩).flatMap MSl.cells) ?_ ?_ ?_
     ·rw[MSl.flat_len,List.length_set,<- MSl.flat_len];omega
     ·exact(n8 MSl.cells 19 MSl.cells_len 17 (y:=⟨⟨d,false,z.v.may++[d],z.v.ever⟩,a3,c3,z.a2,z.c2⟩) _ (r9 ⟨⟨d,false,z.v.may,z.v.ever⟩,z.a1,z.c1,z.a2,z.c2⟩) (by omega) (MSl.put17 _ _ _ _ _ _ _ _ (a3,c3))).trans (by rw[List.set_set];all_goals rfl)
     refine J.qn 2 λ_=>?_;refine J.s1 2 ((Z.set k ⟨⟨d,false,z.v.may++[d],z.v.ever++[d]⟩,a3,c3,a4,c4⟩).flatMap MSl.cells) ?_ ?_ ?_
     ·rw[MSl.flat_len,List.length_set,<- MSl.flat_len];omega
     ·exact(n8 MSl.cells 19 MSl.cells_len 18 (y:=⟨⟨d,false,z.v.may++[d],z.v.ever++[d]⟩,a3,c3,a4,c4⟩) _ (r9 ⟨⟨d,false,z.v.may++[d],z.v.ever⟩,a3,c3,z.a2,z.c2⟩) (by omega) (MSl.put18 _ _ _ _ _ _ _ _ (a4,c4))).trans (by rw[List.set_set];all_goals rfl)
     exact J.goto [0,1,2,3,4,6,7] (hj ((a3,c3),(a4,c4))) ⟨rfl,trivial⟩ rfl rfl
    ·skip
     refine J.qn 1 λbc=>?_;refine J.ap 6 8 0 (B6 z.v.may d) λa3 c3=>?_;refine J.ap 7 9 0 (B6 z.v.ever d) λa4 c4=>?_;refine J.qn 2 λ_=>?_;refine J.s1 2 ((Z.set k ⟨⟨d,false,z.v.may++[d],z.v.ever⟩,a3,c3,z.a2,z.c2⟩).flatMap MSl.cells) ?_ ?_ ?_
     ·rw[MSl.flat_len,List.length_set,<- MSl.flat_len];omega
     ·exact(n8 MSl.cells 19 MSl.cells_len 17 (y:=⟨⟨d,false,z.v.may++[d],z.v.ever⟩,a3,c3,z.a2,z.c2⟩) _ (r9 ⟨⟨d,false,z.v.may,z.v.ever⟩,z.a1,z.c1,z.a2,z.c2⟩) (by omega) (MSl.put17 _ _ _ _ _ _ _ _ (a3,c3))).trans (by rw[List.set_set];all_goals rfl)
     refine J.qn 2 λ_=>?_;refine J.s1 2 ((Z.set k ⟨⟨d,false,z.v.may++[d],z.v.ever++[d]⟩,a3,c3,a4,c4⟩).flatMap MSl.cells) ?_ ?_ ?_
     ·rw[MSl.flat_len,List.length_set,<- MSl.flat_len];omega
     ·exact(n8 MSl.cells 19 MSl.cells_len 18 (y:=⟨⟨d,false,z.v.may++[d],z.v.ever++[d]⟩,a3,c3,a4,c4⟩) _ (r9 ⟨⟨d,false,z.v.may++[d],z.v.ever⟩,a3,c3,z.a2,z.c2⟩) (by omega) (MSl.put18 _ _ _ _ _ _ _ _ (a4,c4))).trans (by rw[List.set_set];all_goals rfl)
     exact J.goto [0,1,2,3,4,6,7] (hj ((a3,c3),(a4,c4))) ⟨rfl,trivial⟩ rfl rfl
   ·skip
    refine J.qn 2 λbb=>?_;refine J.ap 6 9 0 (B6 z.v.may d) λa3 c3=>?_;refine J.ap 7 8 0 (B6 z.v.ever d) λa4 c4=>?_;refine J.qn 2 λ_=>?_;refine J.s1 2 ((Z.set k ⟨⟨d,false,z.v.may++[d],z.v.ever⟩,a3,c3,z.a2,z.c2⟩).flatMap MSl.cells) ?_ ?_ ?_
    ·rw[MSl.flat_len,List.length_set,<- MSl.flat_len];omega
    ·exact(n8 MSl.cells 19 MSl.cells_len 17 (y:=⟨⟨d,false,z.v.may++[d],z.v.ever⟩,a3,c3,z.a2,z.c2⟩) _ (r9 ⟨⟨d,false,z.v.may,z.v.ever⟩,z.a1,z.c1,z.a2,z.c2⟩) (by omega) (MSl.put17 _ _ _ _ _ _ _ _ (a3,c3))).trans (by rw[List.set_set];all_goals rfl)
    refine J.qn 2 λ_=>?_;refine J.s1 2 ((Z.set k ⟨⟨d,false,z.v.may++[d],z.v.ever++[d]⟩,a3,c3,a4,c4⟩).flatMap MSl.cells) ?_ ?_ ?_
    ·rw[MSl.flat_len,List.length_set,<- MSl.flat_len];omega
    ·exact(n8 MSl.cells 19 MSl.cells_len 18 (y:=⟨⟨d,false,z.v.may++[d],z.v.ever++[d]⟩,a3,c3,a4,c4⟩) _ (r9 ⟨⟨d,false,z.v.may++[d],z.v.ever⟩,a3,c3,z.a2,z.c2⟩) (by omega) (MSl.put18 _ _ _ _ _ _ _ _ (a4,c4))).trans (by rw[List.set_set];all_goals rfl)
    exact J.goto [0,1,2,3,4,6,7] (hj ((a3,c3),(a4,c4))) ⟨rfl,trivial⟩ rfl rfl
  obtain⟨⟨a3,c3⟩,a4,c4⟩:=x;dsimp only;obtain⟨y,hy⟩:∃y:MSl,y=⟨⟨d,false,z.v.may++[d],z.v.ever++[d]⟩,a3,c3,a4,c4⟩:=⟨_,rfl⟩;rw[<- hy,show c8 31 16 a3 (z.v.may.length+1) c3 (o0 (z.v.may++[d]))=y.m1 from by rw[hy];unfold MSl.m1;rw[List.length_append];rfl,show c8 31 16 a4 (z.v.ever.length+1) c4 (o0 (z.v.ever++[d]))=y.m2 from by rw[hy];unfold MSl.m2;rw[List.length_append];rfl];refine J.closeAt (A:=y.m1) 3 5 k rfl rfl rfl ?_;refine J.closeAt (A:=y.m2) 4 6 k rfl rfl rfl ?_;rw[<- List.map_set,<- List.map_set];refine J.qr [1,2,3,4] λ_=>?_;refine⟨Z.set k y,?_,?_,?_⟩
  ·rw[hin]
  ·unfold a4A;rw[List.length_set];rfl
  ·have hpg:Mv.pg (Z.map (·.v)) (k:Int)=z.v:=by unfold Mv.pg;rw[Int.toNat_natCast,List.getD_eq_getElem?_getD,List.getElem?_map,hz];rfl
   unfold Mv.write;rw[hin,if_pos rfl,hpg,List.map_set,Int.toNat_natCast,hy];rfl
 ·have ha:Mv.adr Z.length g i=none:=by unfold Mv.adr;rw[if_neg hi]
  have hin:Mv.inR (Z.map (·.v)) i=false:=by
   unfold Mv.inR;rw[List.length_map];simp;omega
  rw[ha];refine J.qT λ_=>?_;refine J.qr [1,2,3,4] λ_=>?_;exact⟨Z,by rw[hin],rfl,by unfold Mv.write;rw[hin];rfl⟩
theorem MSl.m1_of {y z:MSl} (ha:y.a1=z.a1) (hc:y.c1=z.c1) (hv:y.v.may=z.v.may):y.m1=z.m1:=by unfold MSl.m1;rw[ha,hc,hv]
theorem MSl.m2_of {y z:MSl} (ha:y.a2=z.a2) (hc:y.c2=z.c2) (hv:y.v.ever=z.v.ever):y.m2=z.m2:=by unfold MSl.m2;rw[ha,hc,hv]
theorem MSl.map_m1 {Z:List MSl} {k:Nat} {z y:MSl} (hz:Z[k]? =some z) (h:y.m1=z.m1):(Z.set k y).map MSl.m1=Z.map MSl.m1:=by rw[List.map_set,h];exact a1s (by rw[List.getElem?_map,hz];rfl)
theorem MSl.map_m2 {Z:List MSl} {k:Nat} {z y:MSl} (hz:Z[k]? =some z) (h:y.m2=z.m2):(Z.set k y).map MSl.m2=Z.map MSl.m2:=by rw[List.map_set,h];exact a1s (by rw[List.getElem?_map,hz];rfl)
theorem a8Y {α:Type} {f:α->α} {V Y:List α} {k:Nat} {x:α} (h:Y=(V.take k).map f++V.drop k) (hk:k<V.length) (hx:Y[k]? =some x):Y.set k (f x)=(V.take (k+1)).map f++V.drop (k+1):=by
 have hl:((V.take k).map f).length=k:=by simp;omega
 have hv:V.drop k=V[k]::V.drop (k+1):=List.drop_eq_getElem_cons hk;have he:x=V[k]:=by
  rw[h,List.getElem?_append_right (by omega),hl,Nat.sub_self,hv,List.getElem?_cons_zero]at hx;injection hx with hx;exact hx.symm
 rw[h,hv,List.set_append_right _ _ (by omega),hl,Nat.sub_self,List.set_cons_zero,List.take_succ_eq_append_getElem hk,List.map_append,List.append_assoc,he];rfl
def Mv.cut1 (v:MPv):MPv:={v with op:=true}
theorem b3Q (q g:Nat) (Z:List MSl) (hn:Z.length<=65536):FP 43 [pp q] (a4A q g Z) (λv As=>∃Z',v= .tuple #[]/\As=a4A q g Z'/\Z'.map (·.v)=Mv.cut (Z.map (·.v))):=by
 refine FE [2] Tryz.func43 λX F hX=>?_;refine J.qF λ_=>?_;refine J.q λ_=>?_;refine J.l (α:=(Nat×List MSl)) (λz=>z.1<=Z.length/\z.2.length=Z.length/\z.2.map MSl.m1=Z.map MSl.m1/\z.2.map MSl.m2=Z.map MSl.m2/\z.2.map (·.v)=((Z.map (·.v)).take z.1).map Mv.cut1++(Z.map (·.v)).drop z.1) (λz=>[si 10 z.1,si 9 Z.length,⟨0,pp q,2, .tt⟩]) [2] (λz=>[.pt g 150 (z.2.flatMap MSl.cells)]) (λz=>Z.length-z.1) ((0,Z)) (⟨Nat.zero_le _,rfl,rfl,rfl,rfl⟩) λz hI=>?_;obtain⟨k,Y⟩:=z;dsimp only at hI ⊢;obtain⟨hk,hYl,hY1,hY2,hY⟩:=hI;refine J.qd (λ_ h1=>?_) λ_ h1=>?_
 ·simp only[decide_eq_true_eq,Int.ofNat_lt]at h1;obtain⟨z,hz⟩:∃z,Y[k]? =some z:=⟨_,List.getElem?_eq_getElem (by omega)⟩;have hstep:(Y.set k ⟨Mv.cut1 z.v,z.a1,z.c1,z.a2,z.c2⟩).map (·.v)=((Z.map (·.v)).take (k+1)).map Mv.cut1++(Z.map (·.v)).drop (k+1):=by
   rw[List.map_set];exact a8Y hY (by simpa using h1) (by rw[List.getElem?_map,hz];rfl)
  refine J.qn 16 λ_=>?_;refine J.s1 2 ((Y.set k ⟨Mv.cut1 z.v,z.a1,z.c1,z.a2,z.c2⟩).flatMap MSl.cells) ?_ ?_ ?_
  ·show 0+(k:Int).toNat*19+16<_;rw[MSl.flat_len];omega
  ·rw[show 0+(k:Int).toNat*19+16=k*19+16 from by omega];exact n8 MSl.cells 19 MSl.cells_len 16 (y:=⟨Mv.cut1 z.v,z.a1,z.c1,z.a2,z.c2⟩) _ hz (by omega) rfl
  refine J.q λ_=>?_;refine J.n ((k+1,Y.set k ⟨Mv.cut1 z.v,z.a1,z.c1,z.a2,z.c2⟩)) (⟨by dsimp only;omega,by dsimp only;rw[List.length_set];exact hYl,(MSl.map_m1 (y:=⟨Mv.cut1 z.v,z.a1,z.c1,z.a2,z.c2⟩) hz (MSl.m1_of rfl rfl rfl)).trans hY1,(MSl.map_m2 (y:=⟨Mv.cut1 z.v,z.a1,z.c1,z.a2,z.c2⟩) hz (MSl.m2_of rfl rfl rfl)).trans hY2,hstep⟩) (by dsimp only;omega) [0,1,2,3,4]
 simp only[decide_eq_false_iff_not,Int.ofNat_lt]at h1;obtain rfl:k=Z.length:=by omega
 refine J.q λ_=>?_;refine J.f [1,2,3,4] ?_;refine⟨Y,rfl,?_,?_⟩
 ·unfold a4A;rw[hYl,hY1,hY2];rfl
 ·rw[hY,List.take_of_length_le (by simp),List.drop_eq_nil_of_le (by simp),List.append_nil];rfl
theorem Fv.allG_keep {k m:Nat}:∀(n:Nat) (i:Int) (Z:Fv),Z.Ok k m->(Fv.allG n i Z).1.Ok k m
 | 0,_,_,h=>h
 | n+1,i,Z,h=>by
  rw[Fv.allG_succ];split
  ·exact(Fv.read_keep h i).1
  ·exact Fv.allG_keep n (i+1) _ (Fv.read_keep h i).1
theorem Fv.all_keep {Z:Fv} {k m:Nat} (h:Z.Ok k m):Z.all.1.Ok k m:=by
 unfold Fv.all;split
 ·exact Fv.allG_keep _ _ _ h
 ·exact Fv.allG_keep _ _ _ h
namespace B21
def d1 (n:UInt8):List UInt8:=n::List.replicate 15 0
def N0:Nand:=Nand.new 3 8 2
def F0:Fv:=Fv.of (n7 N0).1
def F1:Fv×Int:=F0.write 1 (d1 7)
def F2:Fv×Int:=F1.1.trim 2
def F3:Fv×Int:=F2.1.write 3 zd
def F4:Fv×List UInt8×Int:=F3.1.read 1
def F5:Fv×Int:=F4.1.flush
def F6:Fv:=F5.1.setN (F5.1.S.N.setCut (-1) 0)
def F7:Fv×List UInt8×Int:=F6.read 1
def N8:Nand:=F7.1.S.N.onN
def F8:Fv:=Fv.of (n7 N8).1
def F9:Fv×List UInt8×Int:=F8.read 1
def Fa:Fv×List (List UInt8)×Int:=F9.1.all
def P0:Pv:=Pv.new 3 8 2 []
def s1:Stp:=⟨2,0,d1 9,0,0,dF⟩
def s2:Stp:=⟨1,0,zd,0,0,dF⟩
def Z1:Fv:=((F0.setN F0.S.N).write 0 (d1 9)).1
def Z2:Fv:=((Z1.setN Z1.S.N).read 0).1
def Z3:Fv:=((Z2.setN Z2.S.N)).flush.1
theorem m0:(n7 N0).2=0:=by kernel_rfl
theorem v1:F1.2=0:=by kernel_rfl
theorem v2:F2.2=0:=by kernel_rfl
theorem v3:F3.2=3:=by kernel_rfl
theorem v4:F4.2.2=0:=by kernel_rfl
theorem w4:F4.2.1=d1 7:=by kernel_rfl
theorem v5:F5.2=0:=by kernel_rfl
theorem v7:F7.2.2=9:=by kernel_rfl
theorem m8:(n7 N8).2=0:=by kernel_rfl
theorem v9:F9.2.2=0:=by kernel_rfl
theorem w9:F9.2.1=d1 7:=by kernel_rfl
theorem va:Fa.2.1.length=3:=by kernel_rfl
theorem wa:Fa.2.2=0:=by kernel_rfl
theorem z0:P0.Z=some F0:=by kernel_rfl
theorem e1:(P0.step s1).2.err=0:=by kernel_rfl
theorem z1:(P0.step s1).1.Z=some Z1:=by kernel_rfl
def P1:Pv:=(P0.step s1).1
theorem e2:(P1.step s2).2.data=d1 9:=by kernel_rfl
theorem z2:(P1.step s2).1.Z=some Z2:=by kernel_rfl
def P2:Pv:=(P1.step s2).1
theorem z3:(P2.step flS).1.Z=some Z3:=by kernel_rfl
theorem pL1:P1.L=[]:=by kernel_rfl
theorem pl1:P1.log.length=1:=by kernel_rfl
theorem pL2:P2.L=[]:=by kernel_rfl
theorem lg2:P2.log.length=2:=by kernel_rfl
theorem t3:decide ((Z3.ticks 50).2>=0)=true:=by kernel_rfl
theorem lgA:Fa.1.lg=3:=by kernel_rfl
def M0:List MPv:=Mv.new 2
def M1:List MPv:=Mv.cut (Mv.write M0 0 (d1 1))
theorem q1:Mv.may M1 0 zd=true:=by kernel_rfl
theorem q2:Mv.may M1 0 (d1 1)=true:=by kernel_rfl
theorem q3:Mv.may M1 0 (d1 2)=false:=by kernel_rfl
def K (j:Nat):Nat:=(20-j)*10000000000000
theorem ok0:F0.Ok (K 0) 0:=Fv.of_ok (O6 (a1e 3 8 2 rfl _ (by decide))).1 (by decide)
theorem ok1:F1.1.Ok (K 1) 0:=(Fv.write_keep (ok0.less (k':=Fv.cW+(1+K 1)) (by decide)) 1 rfl).1
theorem ok2:F2.1.Ok (K 2) 0:=(Fv.trim_keep (ok1.less (k':=Fv.cW+(1+K 2)) (by decide)) 2).1
theorem ok3:F3.1.Ok (K 3) 0:=(Fv.write_keep (ok2.less (k':=Fv.cW+(1+K 3)) (by decide)) 3 rfl).1
theorem ok4:F4.1.Ok (K 4) 0:=(Fv.read_keep (ok3.less (k':=K 4) (by decide)) 1).1
theorem ok5:F5.1.Ok (K 5) 0:=(Fv.flush_keep (ok4.less (k':=Fv.cW*200+K 5) (by decide))).1
theorem ok6:F6.Ok (K 5) 0:=ok5.setN (Nand.like_cut _ _ _) (ok5.dv.gd.cut (-1) 0 (by decide) (by decide))
theorem ok7:F7.1.Ok (K 5) 0:=(Fv.read_keep ok6 1).1
theorem g8:N8.Gd (Dv.costK+K 6) 0:=(ok7.dv.gd.less (by decide) (Nat.le_refl 0)).on
theorem ok8:F8.Ok (K 6) 0:=Fv.of_ok (O6 g8).1 (by decide)
theorem ok9:F9.1.Ok (K 6) 0:=(Fv.read_keep ok8 1).1
theorem oka:Fa.1.Ok (K 6) 0:=Fv.all_keep ok9
theorem okz1:Z1.Ok (K 1) 0:=(Fv.write_keep ((ok0.setN (Nand.Like.refl _) ok0.dv.gd).less (k':=Fv.cW+(1+K 1)) (by decide)) 0 rfl).1
theorem okz2:Z2.Ok (K 1) 0:=(Fv.read_keep (okz1.setN (Nand.Like.refl _) okz1.dv.gd) 0).1
theorem okz2o:Z2.S.N.off=false:=by kernel_rfl
end B21
end Go.Proofs.YtpohajhbfllbbaaGreat
namespace Go.Proofs.YtpohajhbfllbbaaGreat
open Go Go.RowKit
theorem H0 (q n:Nat) (A:Pad) (P:Pv) (Z:Fv) (hZ:P.Z=some Z):C8 q n A P=[PlQ q n (some Z) A.f (pp A.fp) (slv A.a2 P.log.length A.c2), .pt A.fp 155 [.slice (n9 A.a) P.L.length A.c],rdA (n9 A.a) 7 P.L.length (d5 P.L),c8 40 17 A.a2 P.log.length A.c2 (l4 P.log)]++FvP A.f A.p n A.t A.l A.d Z:=by unfold C8 C5;rw[hZ];rfl
theorem a1b {Z:List MSl} {M:List MPv} (h:Z.map (·.v)=M) (hM:∀v∈M,v.now.length=16/\(∀x∈v.may,x.length=16)/\(∀x∈v.ever,x.length=16)/\v.may.length<=1000/\v.ever.length<=1000):∀z∈Z,z.Fine:=λz hz=>hM z.v (by rw[<- h];exact List.mem_map.2 ⟨z,hz,rfl⟩)
theorem a8b:FP 44 [] [] (Ps (.bool true) []):=by
 refine FE [] Tryz.func44 λX F hX=>?_;refine J.qp (a8a) [] λ_=>?_;exact J.qx []
open B21
theorem a7Y:FP 8 [] [] (Ps (.bool true) []):=by
 have G0:N0.Gd (Dv.costK+0) 0:=a1e 3 8 2 rfl _ (by decide);refine FE [] Tryz.func8 λX F hX=>?_;refine J.qc (a3a 3 8 2 rfl) [] λ_=>?_;rintro v As ⟨n,rfl,rfl⟩;refine⟨_,rfl,trivial,?_⟩;rw[show Nand.new 3 8 2=N0 from rfl];refine J.qc (I9 n N0 0 0 G0 (by decide) rfl) [1] λ_=>?_;rintro v As (⟨_,f,p,t,l,d,rfl,rfl⟩ | ⟨he,rfl,rfl⟩)
 rotate_left
 ·exact absurd m0 he
 refine⟨_,rfl,trivial,?_⟩;rw[show Fv.of (n7 N0).1=F0 from rfl];refine J.qF λ_=>?_;refine J.qp (a1W f p n t l d F0 (K 1) 0 (ok0.less (by decide)) (by decide) 1 (d1 7) rfl) [1,2,3,4,5,6] λ_=>?_;rw[show F0.write 1 (d1 7)=F1 from rfl,v1];refine J.qp (a7g f p n t l d F1.1 (K 2) 0 (ok1.less (by decide)) (by decide) 2) [1,2,3,4,5,6] λ_=>?_;rw[show F1.1.trim 2=F2 from rfl,v2];refine J.qp (a1W f p n t l d F2.1 (K 3) 0 (ok2.less (by decide)) (by decide) 3 zd rfl) [1,2,3,4,5,6] λ_=>?_;rw[show F2.1.write 3 zd=F3 from rfl,v3];refine J.qp (U9 f p n t l d F3.1 (K 3) 0 ok3 1) [1,2,3,4,5,6] λ_=>?_;rw[show F3.1.read 1=F4 from rfl,v4,w4];refine J.q λc7=>?_;refine J.cb (a5y f p n t l d F4.1 (K 5) 0 (ok4.less (by decide)) (by decide)) [1,2,3,4,5,6] ?_;refine cpq ⟨_,rfl,trivial,?_⟩;rw[show F4.1.flush=F5 from rfl,v5];refine J.qp (a3b n F5.1.S.N (-1) 0) [3] λ_=>?_;refine J.qp (U9 f p n t l d F6 (K 5) 0 ok6 1) [1,2,3,4,5,6] λ_=>?_;rw[show F6.read 1=F7 from rfl,v7];refine J.q λc10=>?_;refine J.cb (a7W n F7.1.S.N) [3] ?_;refine cpq ⟨_,rfl,trivial,?_⟩;rw[show F7.1.S.N.onN=N8 from rfl];refine J.qc (I9 n N8 (K 6) 0 g8 (by decide) rfl) [3] λ_=>?_;rintro v As (⟨_,f',p',t',l',d',rfl,rfl⟩ | ⟨he,rfl,rfl⟩)
 rotate_left
 ·exact absurd m8 he
 refine⟨_,rfl,trivial,?_⟩;rw[show Fv.of (n7 N8).1=F8 from rfl];refine J.qp (U9 f' p' n t' l' d' F8 (K 6) 0 ok8 1) [3,9,10,11,12,13] λ_=>?_;rw[show F8.read 1=F9 from rfl,v9,w9];refine J.q λc14=>?_;refine J.cb (b3P 2) [] ?_;rintro v As ⟨mq,mg,MZ,rfl,rfl,hM0⟩;refine⟨_,rfl,trivial,?_⟩;have ml0:MZ.length=2:=by have:=congrArg List.length hM0;rw[List.length_map]at this;exact this
 refine J.qc (b0b mq mg MZ (by omega) (a1b hM0 (by decide)) 0 (d1 1) rfl) [15,16,17,18] λ_=>?_;rintro v As ⟨MZ1,rfl,rfl,hM1⟩;refine⟨_,rfl,trivial,?_⟩;rw[hM0]at hM1;have ml1:MZ1.length=2:=by have:=congrArg List.length hM1;rw[List.length_map]at this;exact this
 refine J.qc (b3Q mq mg MZ1 (by omega)) [15,16,17,18] λ_=>?_;rintro v As ⟨MZ2,rfl,rfl,hM2⟩;refine⟨_,rfl,trivial,?_⟩;rw[hM1]at hM2;have hM2:MZ2.map (·.v)=M1:=hM2;have ml2:MZ2.length=2:=by have:=congrArg List.length hM2;rw[List.length_map]at this;exact this
 refine J.q λ_=>?_;refine J.turn1 [] rfl (As:=[rdA none 7 0 (d5 [])]) (λh s=>Sep.one ⟨rfl,λh=>absurd h (by decide)⟩) rfl ?_;refine J.q λ_=>?_;refine J.ca hX (by kernel_rfl) (a9D 3 8 2 rfl (rdA none 7 0 (d5 [])) none 0 0 [] (a3T _ _ _ _) rfl (by decide)) [19] 0 rfl rfl rfl rfl rfl rfl (λ_=>rfl) ?_;rintro v As ⟨q,nn,A0,rfl,hA0,rfl⟩;rw[show Pv.new 3 8 2 []=P0 from rfl]at hA0 ⊢;rw[H0 q nn A0 P0 F0 z0];refine⟨_,rfl,trivial,?_⟩;refine J.q λ_=>?_;have hst1:=a0W q nn A0 P0 hA0 F0 z0 (K 1) 0 (ok0.less (by decide)) (by decide) (by decide) (by decide) s1 rfl;rw[H0 q nn A0 P0 F0 z0]at hst1;refine J.qc (hst1) [20,21,22,23,24,25,26,27,28,29] λ_=>?_;rintro v As ⟨A1,rfl,hA1,rfl⟩;obtain⟨x1,hx1⟩:∃x,(P0.step s1).2=⟨0,x⟩:=⟨(P0.step s1).2.data,by rw[<- e1]⟩;rw[show(P0.step s1).1=P1 from rfl]at hA1 ⊢;rw[H0 q nn A1 P1 B21.Z1 z1,hx1];refine⟨_,rfl,trivial,?_⟩;refine J.q λc18=>?_;have hst2:=a0W q nn A1 P1 hA1 B21.Z1 z1 (K 2) 0 (okz1.less (by decide)) (by rw[pL1];decide) (by rw[pL1];decide) (by rw[pl1];decide) s2 rfl;rw[H0 q nn A1 P1 B21.Z1 z1]at hst2;refine J.qc (hst2) [20,21,22,23,24,25,26,27,28,29] λ_=>?_;rintro v As ⟨A2,rfl,hA2,rfl⟩;obtain⟨x2,hx2⟩:∃x,(P1.step s2).2=⟨x,d1 9⟩:=⟨(P1.step s2).2.err,by rw[<- e2]⟩;rw[show(P1.step s2).1=P2 from rfl]at hA2 ⊢;rw[H0 q nn A2 P2 B21.Z2 z2,hx2];refine⟨_,rfl,trivial,?_⟩;refine J.q λc19=>?_;refine J.cb (b4k f' p' n t' l' d' F9.1 (K 6) 0 ok9) [3,9,10,11,12,13] ?_;rintro v As ⟨aa,ac,rfl,rfl⟩;refine⟨_,rfl,trivial,?_⟩;rw[show F9.1.all=Fa from rfl,va,wa];refine J.q λ_=>?_;have hz2:P2.Z=some B21.Z2:=z2;have hlog:=a6b q nn A2 P2 (by rw[lg2];decide);rw[hz2]at hlog;refine J.qc (hlog) [20,23] λ_=>?_;rintro v As ⟨la,lc,rfl,rfl⟩;refine⟨_,rfl,trivial,?_⟩;refine J.qp (a8b) [] λ_=>?_;refine J.qn 19 λ_=>?_;refine J.v (.bool true) rfl rfl (λhg aa w he hw=>(t7 (xs:=j8 (d1 7)) (ys:=j8 (d1 7)) rfl rfl rfl he hg rfl U7 (J0 _) (J0 _) mkD gdD).trans (by rw[eqD _ _ rfl rfl];simp)) ?_;refine J.qn 20 λ_=>?_;refine J.v (.bool true) rfl rfl (λhg aa w he hw=>(t7 (xs:=j8 (d1 7)) (ys:=j8 (d1 7)) rfl rfl rfl he hg rfl U7 (J0 _) (J0 _) mkD gdD).trans (by rw[eqD _ _ rfl rfl];simp)) ?_;refine J.qp (P4 f n t l p d (F7.1.setN Fa.1.S.N) oka.dv.gd.ok) [1,10] λ_=>?_;rw[show(F7.1.setN Fa.1.S.N).lg=3 from lgA];refine J.qp (a6m mq mg MZ2 (by omega) (a1b hM2 (by decide)) 0 (zd) rfl) [15,16,17,18] λ_=>?_;rw[hM2,q1];refine J.qp (a6m mq mg MZ2 (by omega) (a1b hM2 (by decide)) 0 (d1 1) rfl) [15,16,17,18] λ_=>?_;rw[hM2,q2];refine J.qp (a6m mq mg MZ2 (by omega) (a1b hM2 (by decide)) 0 (d1 2) rfl) [15,16,17,18] λ_=>?_;rw[hM2,q3];refine J.qn 11 λ_=>?_;refine J.v (.bool true) rfl rfl (λhg aa w he hw=>(t7 (xs:=j8 (d1 9)) (ys:=j8 (d1 9)) rfl rfl rfl he hg rfl U7 (J0 _) (J0 _) mkD gdD).trans (by rw[eqD _ _ rfl rfl];simp)) ?_;refine J.q λ_=>?_;have hrest:=b2X q nn A2 P2 hA2 B21.Z2 z2 50 0 0 (okz2.less (by decide)) okz2o (by rw[pL2];decide) (by rw[pL2];decide) (by rw[lg2];decide) B21.Z3 z3;rw[H0 q nn A2 P2 B21.Z2 z2]at hrest;refine J.qc (hrest) [20,21,22,23,24,25,26,27,28,29] λ_=>?_;rintro v As ⟨A3,rfl,_,rfl⟩;refine⟨_,rfl,trivial,?_⟩;rw[t3];refine J.qp (b4m 3 8 2) [] λ_=>?_;rw[show a7n 3 8 2=616 from rfl];refine J.qr [] λ_=>?_;refine⟨?_,rfl⟩;rw[lg2];rfl
end Go.Proofs.YtpohajhbfllbbaaGreat
namespace Go.Proofs.YtpohajhbfllbbaaGreat
open Go Go.RowKit
theorem a7H (g0 g1 g2:Int) (A:Atom) (ad:Option Addr) (nl cl:Nat) (l:List Stp) (hA:Rd A ad 27 nl (l.flatMap stC)) (hl:l.length=nl) (hd:∀e∈l,e.data.length=16/\ -9223372036854775808<=e.n/\e.n<=9223372036854775807):
  FP 5 [.agg #[iI g0,iI g1,iI g2], .slice ad nl cl] [A] (Ps (.bool true) [A]):=by
 refine FE [0,0] Tryz.func5 λX F hX=>?_;refine J.qp (a7Y) [] λ_=>?_;refine J.qF λ_=>?_;refine J.qc (b3U g0 g1 g2) [] λ_=>?_;rintro v As ⟨D,B,P,rfl,hD,hB,hP,rfl⟩;refine⟨_,rfl,trivial,?_⟩;have hgm:m7 D B P=true:=by simp[m7];omega
 refine J.turn1 [] rfl (As:=[c8 35 7 none 0 0 (d5 [])]) (λh s=>Sep.one ⟨rfl,rfl,rfl⟩) rfl ?_;refine J.q λ_=>?_;refine J.ca hX (by kernel_rfl) (a9D D B P hgm (c8 35 7 none 0 0 (d5 [])) (oad none) 0 0 [] (w7 _ _ none _ _ _) rfl (by decide)) [3] 0 rfl rfl rfl rfl rfl rfl (λ_=>rfl) ?_;rintro _ As ⟨q,nn,A0,rfl,hA0,rfl⟩;have hz:(Pv.new D B P []).Z=some (Fv.of (Dv.new D B P (lgN D B P))):=by
  show(if(n7 (Nand.new D B P)).2=0 then some (Fv.of (n7 (Nand.new D B P)).1)else none)=_;rw[a7X (Dv.Ok.new D B P (lgN D B P) hgm 0 (by decide))];rfl
 rw[H0 q nn A0 _ _ hz];refine⟨_,rfl,trivial,?_⟩;refine J.turn1 [4,5,6,7,8,9,10,11,12,13] rfl (As:=[PlA q nn A0 (Pv.new D B P [])]) (λh s=>Sep.hpOf.2 (by rw[H0 q nn A0 _ _ hz];exact s)) rfl ?_;have hK0:Pk (Pv.new D B P []) 51 0:=Pk.new hgm [] (by decide);have hG0:(Pv.new D B P []).log=[]:=rfl;generalize Pv.new D B P []=P0 at hA0 hK0 hG0 ⊢;clear hz;refine J.turn1 [] rfl (As:=[c8 40 17 none 0 0 (l4 [])]) (λh s=>Sep.one ⟨rfl,rfl,rfl⟩) rfl ?_;refine J.q λ_=>?_;refine J.lo (α:=(Nat×Pv×Pad×Option Nat×Nat)) (λz=>(z.1<=nl/\z.1<=50)/\z.2.2.1.Ok z.2.1/\Pk z.2.1 (51-z.1) z.1/\z.2.1.log.length=z.1) (λz=>[si 8 z.1,sv 7 (slv z.2.2.2.1 z.1 z.2.2.2.2),sp 6 q,sv 1 (.slice ad nl cl)]) [4,14] (λz=>[PlA q nn z.2.2.1 z.2.1,c8 40 17 z.2.2.2.1 z.1 z.2.2.2.2 (l4 z.2.1.log)]) (λz=>50-z.1) ((0,P0,A0,none,0)) (⟨⟨Nat.zero_le _,Nat.zero_le _⟩,hA0,hK0,by dsimp only;rw[hG0];rfl⟩) rfl ?_ (λ_=>rfl) λz hI=>?_
 ·show _=[_,c8 _ 17 none 0 0 (l4 P0.log)];rw[hG0];rfl
 clear hA0 hK0;obtain⟨i,P1,A1,ga,ca⟩:=z;dsimp only at hI ⊢;obtain⟨⟨hi1,hi2⟩,hA1,hK1,hg1⟩:=hI;refine J.qd (λ_ h1=>?_) λ_ h1=>?_
 ·simp only[Bool.and_eq_true,decide_eq_true_eq,Int.ofNat_lt]at h1;obtain⟨h1,h2⟩:=h1;have h2:i<50:=by omega
  obtain⟨x,hx⟩:∃x,l[i]? =some x:=⟨_,List.getElem?_eq_getElem (by omega)⟩;have hxd:=hd x (List.mem_of_getElem? hx);refine J.know (p:=∃g o,ad=some ⟨g,o,none⟩) (λh' s=>Rd.addr (hA _ (s.get (i:=1) rfl)) (by omega)) λhk=>?_;obtain⟨gs,os,rfl⟩:=hk;refine J.q λ_=>?_;refine J.v (stV x) rfl rfl (λhg a w he hw=>O2 tk rfl rfl he rfl rfl rfl (hA _ (hw.get (i:=1) rfl)) (by omega) (j:=i*27) (by omega) (C3 stC 27 (λ_=>rfl) l i x hx) rfl) ?_;rw[show 51-i=(50-i)+1 from by omega]at hK1;have hst:=a9C q nn A1 P1 hA1 (50-i) i hK1 (by omega) (by omega) x hxd.1;have hK2:=hK1.step (by omega) x hxd.1 hxd.2;have hg2:=(P1.step_L x).2;refine J.qc (hst) [4] λ_=>?_;rintro _ As ⟨A2,rfl,hA2,rfl⟩;generalize P1.step x=R at hA2 hK2 hg2 ⊢;obtain⟨P2,tq⟩:=R;dsimp only at hA2 hK2 hg2 ⊢;refine⟨_,rfl,trivial,?_⟩;refine J.q λ_=>?_;refine J.ap 14 15 0 ((C6 P1.log tq).trans (congrArg l4 hg2.symm)) λa3 c3=>?_;refine J.q λ_=>?_;refine J.n ((i+1,P2,A2,a3,c3)) (⟨⟨by dsimp only;omega,by dsimp only;omega⟩,hA2,by dsimp only;rw[show 51-(i+1)=50-i from by omega];exact hK2,by dsimp only;rw[hg2,List.length_append,hg1];rfl⟩) (by dsimp only;omega) [0,1,2,3,4,5,6,7,8,9,10,11,12,13,14]
 clear h1;refine J.q λ_=>?_;refine J.turn1 [4] rfl (As:=[PlQ q nn P1.Z A1.f (pp A1.fp) (slv A1.a2 P1.log.length A1.c2), .pt A1.fp 155 [.slice (n9 A1.a) P1.L.length A1.c],rdA (n9 A1.a) 7 P1.L.length (d5 P1.L),c8 40 17 A1.a2 P1.log.length A1.c2 (l4 P1.log), .hp (HP.of (C5 nn A1 P1))]) (λh s=>b1t s) rfl ?_;refine J.qc (a6b q nn A1 P1 (by omega)) [4,17] λ_=>?_;rintro _ As ⟨a4,c4,rfl,rfl⟩;refine⟨_,rfl,trivial,?_⟩;refine J.q λ_=>?_;rw[hg1,show((i:Int) !=(i:Int))=false from by simp];refine J.qF λ_=>?_;refine J.q λ_=>?_;refine J.l (α:=(Nat×List Td)) (λz=>z.1<=i/\z.2.length=i/\∀t,z.1<=t->z.2[t]? =P1.log[t]?) (λz=>[si 51 z.1,si 50 i,sv 9 (slv a4 i c4),sv 7 (slv ga i ca),sp 6 q]) [19] (λz=>[c8 40 17 a4 i c4 (l4 z.2)]) (λz=>i-z.1) ((0,P1.log)) (⟨Nat.zero_le _,hg1,λ_ _=>rfl⟩) λz hI=>?_;obtain⟨j,La⟩:=z;dsimp only at hI ⊢;obtain⟨hj1,hj2,hj3⟩:=hI;refine J.qd (λ_ h5=>?_) λ_ h5=>?_
 ·simp only[decide_eq_true_eq,Int.ofNat_lt]at h5;obtain⟨x,hx⟩:∃x,P1.log[j]? =some x:=⟨_,List.getElem?_eq_getElem (by omega)⟩;have hx2:La[j]? =some x:=by rw[hj3 j (Nat.le_refl j)];exact hx
  refine J.know (λh' s=>f8 (c:=(ga,ca)) (by omega) (s.get (i:=14) rfl)) λhg=>?_;obtain⟨g1,rfl⟩:=hg;refine J.know (λh' s=>f8 (c:=(a4,c4)) (by omega) (s.get (i:=19) rfl)) λhg=>?_;obtain⟨g2,rfl⟩:=hg;refine J.pn 3 (.of [0,4,8,13,16,20,24,29,32]) [] [14,19] λ_ _=>?_;refine J.vT (tdV x) rfl rfl (λhg aa w he hC=>j6 tk rfl rfl he rfl rfl rfl (hC rfl _ (f0 (i:=19) rfl)) (by rw[show 0+(j:Int).toNat*17=j*17 from by omega];exact C3 tdC 17 (λ_=>rfl) La j x hx2) rfl) ?_;refine J.qn 3 λ_=>?_;refine J.vT (tdV x) rfl rfl (λhg aa w he hC=>j6 tk rfl rfl he rfl rfl rfl (hC rfl _ (f0 (i:=14) rfl)) (by rw[show 0+(j:Int).toNat*17=j*17 from by omega];exact C3 tdC 17 (λ_=>rfl) P1.log j x hx) rfl) ?_;refine J.vT (.bool false) rfl rfl (λhg aa w he hC=>(a2Z (xs:=tdC x) (ys:=tdC x) rfl rfl rfl he rfl rfl a5n (a4l _) (a4l _) b4P b4V).trans (by rw[b5a];rfl)) ?_;refine J.qF λ_=>?_;refine J.openOwn 19 rfl rfl (λ_=>rfl) λr q1 q2 q3 q4=>?_;refine J.q λ_=>?_;refine J.s1 19 (l4 (La.set j ⟨99,x.data⟩)++r) ?_ ?_ ?_
  ·rw[List.length_append,x8];show 0+(j:Int).toNat*17+0<_;simp only[Int.toNat_natCast];omega
  ·rw[show 0+(j:Int).toNat*17+0=j*17+0 from by simp,List.set_append_left _ _ (by rw[x8];omega)];exact congrArg (· ++r) (n8 tdC 17 (λ_=>rfl) 0 (iI 99) (y:=⟨99,x.data⟩) hx2 (by decide) rfl)
  refine J.closeOwn (e:=40) (size:=17) (n:=i) (cap:=c4) (xs:=l4 (La.set j ⟨99,x.data⟩)) 19 rfl rfl (by rw[x8,List.length_set,hj2]) q2 q3 ?_ ?_ rfl ?_
  ·rw[List.length_append,x8,List.length_set];rw[x8]at q4;exact q4
  ·rw[List.take_left' (by rw[x8,List.length_set,hj2])]
  refine J.q λ_=>?_;refine J.n ((j+1,La.set j ⟨99,x.data⟩)) (⟨by dsimp only;omega,by dsimp only;rw[List.length_set];exact hj2,λt ht=>by dsimp only at ht ⊢;rw[List.getElem?_set,if_neg (by omega)];exact hj3 t (by omega)⟩) (by dsimp only;omega) [0,1,2,3,4,5,6,7,8,9,10,11,12,13,14,15,16,17,18,19]
 refine J.q λ_=>?_;have hlg:=a6b q nn A1 P1 (by omega);rw[hg1]at hlg;refine J.qc (hlg) [4,17] λ_=>?_;rintro _ As ⟨a5,c5,rfl,rfl⟩;refine⟨_,rfl,trivial,?_⟩;clear hj1 hj2 hj3 h5;refine J.pn 4 (.of [0,4,8,12,16,20,25,28,32,37,40,44,48]) [10,11,12] [14,20] λ_ _=>?_;rcases Nat.eq_zero_or_pos i with h0 | h0
 ·rw[show((i:Int)==0)=true from by rw[h0];rfl];refine J.qn 1 λ_=>?_;refine J.vT (.bool true) rfl rfl (λhg aa w he hC=>by simp[G.on]at hg) ?_;refine J.vT (.bool true) rfl rfl (λhg aa w he hC=>by simp[G.on]at hg) ?_;refine J.qn 1 λ_=>?_;refine J.vT (.bool true) rfl rfl (λhg aa w he hC=>by simp[G.on]at hg) ?_;refine J.vT (.bool true) rfl rfl (λhg aa w he hC=>by simp[G.on]at hg) ?_;refine J.vT (.bool true) rfl rfl (λhg aa w he hC=>by simp[G.on]at hg) ?_;exact J.qx [1]
 rw[show((i:Int)==0)=false from by simp;omega];obtain⟨x,hx⟩:∃x,P1.log[0]? =some x:=⟨_,List.getElem?_eq_getElem (by omega)⟩;refine J.know (λh' s=>f8 (c:=(ga,ca)) (by omega) (s.get (i:=14) rfl)) λhg=>?_;obtain⟨g1,rfl⟩:=hg;refine J.know (λh' s=>f8 (c:=(a5,c5)) (by omega) (s.get (i:=20) rfl)) λhg=>?_;obtain⟨g2,rfl⟩:=hg;refine J.qn 2 λ_=>?_;refine J.vT (tdV x) rfl rfl (λhg aa w he hC=>j6 tk rfl rfl he rfl rfl rfl (hC rfl _ (f0 (i:=20) rfl)) (C3 tdC 17 (λ_=>rfl) P1.log 0 x hx) rfl) ?_;refine J.qn 2 λ_=>?_;refine J.vT (tdV x) rfl rfl (λhg aa w he hC=>j6 tk rfl rfl he rfl rfl rfl (hC rfl _ (f0 (i:=14) rfl)) (C3 tdC 17 (λ_=>rfl) P1.log 0 x hx) rfl) ?_;refine J.vT (.bool true) rfl rfl (λhg aa w he hC=>(t7 (xs:=tdC x) (ys:=tdC x) rfl rfl rfl he rfl rfl a5n (a4l _) (a4l _) b4P b4V).trans (by rw[b5a])) ?_;exact J.qx [1]
end Go.Proofs.YtpohajhbfllbbaaGreat
namespace Go.Proofs.YtpohajhbfllbbaaGreat
open Go Go.RowKit
open Go.ChangeShapes Go.WideShapes Go.ChangeAt
end Go.Proofs.YtpohajhbfllbbaaGreat
