/- Helpers. No condition. -/
import Derived.Test.YtnffkcabeecopaaGreatRows
import Derived.Test.YtnffkcabeecopaaGreatU01
import Derived.Test.YtnffkcabeecopaaGreatU04
import Derived.Test.YtnffkcabeecopaaGreatU12
import Derived.Test.YtnffkcabeecopaaGreatU14
import Derived.Test.YtnffkcabeecopaaGreatU16
import Derived.JoinedOf
set_option maxRecDepth 20000
set_option linter.all false
namespace Go.Proofs.YtnffkcabeecopaaGreat
open Go Go.RowKit
theorem b5r (x d:List UInt8):decide (d=x)=(x==d):=by
 by_cases h:x=d
 ·rw[h];simp
 ·rw[decide_eq_false (λe=>h e.symm),beq_eq_false_iff_ne.2 h]
theorem b1o (a:Option Nat) (n c:Nat) (l:List (List UInt8)) (hl:l.length=n) (hn:n<=1000000) (d:List UInt8) (hd:d.length=16) (hs:∀x∈l,x.length=16):FP 150 [slv a n c,Z4 d] [c8 30 16 a n c (i7 l)] (λv As=>v=iI (match l.findIdx? (λx=>x==d)with | some k=>(k:Int) | none=> -1)/\As=[c8 30 16 a n c (i7 l)]):=by
 refine FE [0,0] Tryz.func150 λX F hX=>?_;refine J.q λbb=>?_;refine J.l (α:=Nat) (λk=>k<=n/\∀j,j<k->∀x,l[j]? =some x->(x==d)=false) (λk=>[si 8 k,si 7 n,sv 0 (slv a n c),⟨3,pp (bb 0),3, .tt⟩]) [] (λk=>[]) (λk=>n-k) (0) (⟨Nat.zero_le _,λj hj=>absurd hj (Nat.not_lt_zero _)⟩) λk hI=>?_;obtain⟨hk,hno⟩:=hI;refine J.qd (λ_ h1=>?_) λ_ h1=>?_
 ·simp only[decide_eq_true_eq,Int.ofNat_lt]at h1;obtain⟨x,hx⟩:∃x,l[k]? =some x:=⟨_,List.getElem?_eq_getElem (by omega)⟩;refine J.know (λh' s=>g7 (c:=(a,c)) (by omega) (s.get (i:=1) rfl)) λhg=>?_;obtain⟨g,rfl⟩:=hg;refine J.pn 4 (.of [1,4,8,12,17,20]) [] [1,2] λ_ _=>?_;have hxl:=hs x (List.mem_of_getElem? hx);refine J.vT (Z4 x) rfl rfl (λhg aa w he hC=>m7 tk rfl rfl he rfl rfl rfl (hC rfl _ (d7 (i:=1) rfl)) (by rw[show 0+(k:Int).toNat*16=k*16 from by omega];exact C7 i9 16 (λ_=>rfl) l k x hx) rfl) ?_;refine J.vT (.bool (x==d)) rfl rfl (λhg aa w he hC=>(y7 (xs:=i9 d) (ys:=i9 x) rfl rfl rfl he rfl rfl Q2 (I4 _) (I4 _) mkD gdD).trans (by rw[eqD _ _ hd hxl,b5r])) ?_;refine J.qd (λ_ h2=>?_) λ_ h2=>?_
  ·have hf:l.findIdx? (λx=>x==d)=some k:=by
    rw[List.findIdx?_eq_some_iff_getElem];obtain⟨g1,g2⟩:=List.getElem?_eq_some_iff.1 hx;refine⟨g1,by rw[g2];exact h2,λj hj=>?_⟩;have:=hno j hj _ (List.getElem?_eq_getElem (by omega));rw[this];exact Bool.false_ne_true
   refine J.qr [1] λ_=>?_;rw[hf];exact⟨rfl,rfl⟩
  ·refine J.q λ_=>?_;refine J.nS (k+1) (⟨by omega,λj hj y hy=>by
    rcases Nat.lt_or_ge j k with h | h
    ·exact hno j h y hy
    ·obtain rfl:j=k:=by omega
     rw[hx]at hy;injection hy with hy;rw[<- hy];exact h2⟩) (by omega) [0,1,2] rfl rfl
 simp only[decide_eq_false_iff_not,Int.ofNat_lt]at h1;have hf:l.findIdx? (λx=>x==d)=none:=by
  rw[List.findIdx?_eq_none_iff];intro x hx;obtain⟨j,hj⟩:=List.getElem?_of_mem hx;exact hno j (by have:=(List.getElem?_eq_some_iff.1 hj).1;omega) x hj
 refine J.qr [1] λ_=>?_;rw[hf];exact⟨rfl,rfl⟩
theorem b2X (l:List (List UInt8)) (d:List UInt8):decide ((match l.findIdx? (λx=>x==d)with | some k=>(k:Int) | none=> -1)>=0)=l.contains d:=by
 cases h:l.findIdx? (λx=>x==d)with
 | none=>
  rw[List.findIdx?_eq_none_iff]at h;have:l.contains d=false:=by
   rw[List.contains_eq_any_beq,List.any_eq_false];intro x hx e;have:=h x hx;rw[eq_of_beq e]at this;simp at this
  rw[this];rfl
 | some k=>
  rw[List.findIdx?_eq_some_iff_getElem]at h;obtain⟨h1,h2,_⟩:=h;have:l.contains d=true:=by
   rw[List.contains_eq_any_beq,List.any_eq_true];exact⟨_,List.getElem_mem h1,by rw[eq_of_beq h2];simp⟩
  rw[this,decide_eq_true (by dsimp only;omega)]
theorem b3Z (a:Option Nat) (n c:Nat) (l:List (List UInt8)) (hl:l.length=n) (hn:n<=1000000) (d:List UInt8) (hd:d.length=16) (hs:∀x∈l,x.length=16):FP 98 [slv a n c,Z4 d] [c8 30 16 a n c (i7 l)] (Ps (.bool (l.contains d)) [c8 30 16 a n c (i7 l)]):=by
 refine FE [0,0] Tryz.func98 λX F hX=>?_;refine J.qp (b1o a n c l hl hn d hd hs) [1] λ_=>?_;have hc:=b2X l d;refine J.qr [1] λ_=>?_;exact⟨by rw[<- hc],rfl⟩
theorem a1x {α:Type} (f:α->List Value) (w:Nat) (hw:∀x,(f x).length=w) (vs:List Value):∀{l:List α} {k:Nat} {x y:α},l[k]? =some x->vs.length<=w->vs++(f x).drop vs.length=f y->(l.flatMap f).take (k*w)++vs++(l.flatMap f).drop (k*w+vs.length)=(l.set k y).flatMap f
 | [],k,x,y,h,hj,e=>by simp at h
 | z::l,0,x,y,h,hj,e=>by
  simp only[List.getElem?_cons_zero,Option.some.injEq]at h;subst h;rw[Nat.zero_mul,Nat.zero_add,List.take_zero,List.nil_append,List.flatMap_cons,List.drop_append_of_le_length (by rw[hw];exact hj),<- List.append_assoc,e];rfl
 | z::l,k+1,x,y,h,hj,e=>by
  have ih:=a1x f w hw vs (l:=l) (k:=k) (x:=x) (y:=y) (by simpa using h) hj e;rw[List.flatMap_cons,show(k+1)*w=(f z).length+k*w from by rw[hw,Nat.succ_mul];omega,List.take_length_add_append,show(f z).length+k*w+vs.length=(f z).length+(k*w+vs.length)from by omega,List.drop_length_add_append,List.append_assoc,List.append_assoc,<- List.append_assoc (List.take _ _),ih];rfl
def MSl.Fine (z:MSl):Prop:=z.v.now.length=16/\(∀x∈z.v.may,x.length=16)/\(∀x∈z.v.ever,x.length=16)/\z.v.may.length<=1000/\z.v.ever.length<=1000
theorem M5 {α:Type} {l:List α} {k:Nat} {x:α} (h:l[k]? =some x):l.set k x=l:=by
 apply List.ext_getElem?;intro i;rw[List.getElem?_set];split
 ·rename_i e;subst e;split
  ·exact h.symm
  ·rename_i e2;rw[List.getElem?_eq_none (by omega)]
 ·rfl
theorem a3G (x d:List UInt8):decide (x=d)=(x==d):=by
 by_cases h:x=d
 ·rw[h];simp
 ·rw[decide_eq_false h,beq_eq_false_iff_ne.2 h]
theorem MSl.now_at {Z:List MSl} {k:Nat} {z:MSl} (hz:Z[k]? =some z):((Z.flatMap MSl.cells).drop (k*19+0)).take 16=i9 z.v.now:=by
 have h:=C7 MSl.cells 19 (λ_=>rfl) Z k z hz;have h2:((Z.flatMap MSl.cells).drop (k*19)).take 16=(((Z.flatMap MSl.cells).drop (k*19)).take 19).take 16:=by rw[List.take_take];rfl
 rw[Nat.add_zero,h2,h];rfl
theorem a8k (q g:Nat) (Z:List MSl) (hn:Z.length<=65536) (hf:∀z∈Z,z.Fine) (i:Int) (d:List UInt8) (hd:d.length=16):FP 53 [pp q,iI i,Z4 d] (a6j q g Z) (Ps (.bool (Mv.may (Z.map (·.v)) i d)) (a6j q g Z)):=by
 refine FE [2,0,0] Tryz.func53 λX F hX=>?_;refine J.qp (b5M q g Z.length hn i) [1] λ_=>?_
 by_cases hi:0<=i/\i<(Z.length:Int)
 ·have ha:Mv.adr Z.length g i=some ⟨g,i.toNat*19,none⟩:=by unfold Mv.adr;rw[if_pos hi]
  obtain⟨k,rfl⟩:=Int.eq_ofNat_of_zero_le hi.1;obtain⟨z,hz⟩:∃z,Z[k]? =some z:=⟨_,List.getElem?_eq_getElem (by omega)⟩;obtain⟨f1,f2,f3,f4,f5⟩:=hf z (List.mem_of_getElem? hz);have hin:Mv.inR (Z.map (·.v)) (k:Int)=true:=by unfold Mv.inR;rw[List.length_map,decide_eq_true hi.1,decide_eq_true hi.2];rfl
  have hpg:Mv.pg (Z.map (·.v)) (k:Int)=z.v:=by unfold Mv.pg;rw[Int.toNat_natCast,List.getD_eq_getElem?_getD,List.getElem?_map,hz];rfl
  have hmy:Mv.may (Z.map (·.v)) (k:Int) d=if z.v.op then z.v.may.contains d else z.v.now==d:=by unfold Mv.may;rw[hin,hpg,Bool.true_and]
  rw[ha,Int.toNat_natCast];refine J.qF λ_=>?_;have hcell:=λj hj=>D3 MSl.cells 19 MSl.cells_len hz j hj;refine J.qn 7 λ_=>?_;refine J.v (.bool z.v.op) rfl rfl (λhg aa w he hw=>f8 tk rfl rfl he rfl rfl rfl (hw.get (i:=2) rfl) (hcell 16 (by omega))) ?_;refine J.qd (λ_ h1=>?_) λ_ h1=>?_
  ·rw[if_pos h1]at hmy;refine J.openAt 3 k rfl rfl (by rw[List.getElem?_map,hz];rfl) rfl ?_;refine J.pn 3 (.of [0,4,8,13,17,23,24]) [5,6] [1,2,3,4,5,6] λ_ _=>?_;refine J.vT (slv z.a1 z.v.may.length z.c1) rfl rfl (λhg aa w he hC=>f8 tk rfl rfl he rfl rfl rfl (hC rfl _ (d7 (i:=2) rfl)) (hcell 17 (by omega))) ?_;refine J.qp (b3Z z.a1 z.v.may.length z.c1 z.v.may rfl (by omega) d hd f2) [6] λ_=>?_;refine J.q λ_=>?_;refine J.closeAt (A:=z.m1) 3 6 k rfl rfl rfl ?_;have hsame:(Z.map MSl.m1).set k z.m1=Z.map MSl.m1:=M5 (by rw[List.getElem?_map,hz];rfl);rw[hsame];refine J.qr [1,2,3,4] λ_=>?_;rw[hmy];exact⟨rfl,rfl⟩
  ·rw[if_neg (by rw[h1];decide)]at hmy;refine J.pn 3 (.of [0,4,8,13,17,20,24]) [5,6] [1,2,3,4,5] λ_ _=>?_;refine J.vT (Z4 z.v.now) rfl rfl (λhg aa w he hC=>j3 tk rfl rfl he rfl rfl rfl (hC rfl _ (d7 (i:=2) rfl)) (MSl.now_at hz) rfl) ?_;refine J.qn 1 λ_=>?_;refine J.vT (.bool (z.v.now==d)) rfl rfl (λhg aa w he hC=>(y7 (xs:=i9 z.v.now) (ys:=i9 d) rfl rfl rfl he rfl rfl Q2 (I4 _) (I4 _) mkD gdD).trans (by rw[eqD _ _ f1 hd,a3G])) ?_;refine J.qr [1,2,3,4] λ_=>?_;rw[hmy];exact⟨rfl,rfl⟩
 ·have ha:Mv.adr Z.length g i=none:=by unfold Mv.adr;rw[if_neg hi]
  have hmy:Mv.may (Z.map (·.v)) i d=false:=by
   unfold Mv.may Mv.inR;rw[List.length_map];have:(decide (0<=i)&&decide (i<(Z.length:Int)))=false:=by simp;omega
   rw[this];rfl
  rw[ha];refine J.qT λ_=>?_;refine J.qr [1,2,3,4] λ_=>?_;rw[hmy];exact⟨rfl,rfl⟩

section
variable {P : Program} {ops : Array Oper}
theorem b1T {o:Oper} {x:Operand} (hx:o.op= .move x) {K:Act->World->Prop} {a:Act} {w:World} (h:sOp P ops o K a w):sOp P ops o (λa' w'=>K a' w'/\w'=w) a w:=by
 unfold sOp at*;split
 ·rename_i hw;rw[if_pos hw]at h;have e:execOp a.eval o=pure (.value (a.eval x)):=by unfold execOp;rw[hx]
  rw[e]at h ⊢;exact⟨h,rfl⟩
 ·rename_i hw;rw[if_neg hw]at h;exact⟨h,rfl⟩
theorem a1J {lt mv:List Nat} (hmv:∀j∈mv,∀o,ops[j]? =some o->∃x,o.op= .move x) {C D:World->Prop} {K:Act->World->Prop} {i:Nat} {oi:Oper} {v:Value} (hi:ops[i]? =some oi) (hsel:∀(j:Nat) (o:Oper) cs b,ops[j]? =some o->o.op≠ .select cs b)
  (hD:(i∉lt/\(∀w,C w->D w)/\∀j∈lt,j∈mv\/Q9 ops 3 j i=true)\/(i∈lt/\∀w,D w)):
  ∀(fuel:Nat) (listed:Array Bool) (a:Act) (w:World),Shut ops listed->
   (∀j oj,ops[j]? =some oj->j≠i->listed.getD j true=false->(∀e∈oj.after,Region.binds .any e=true->e.on≠i)->oi.apart ops oj=true)->
   i∈Region.ready .any ops listed->YldIn P ops D oi v a->D w->(i∉lt->C w)->
   sAny P ops lt C K fuel (listed.setIfInBounds i true) (a.put oi.dst v) w->sAny P ops lt C K (fuel+1) listed a w:=by
 intro fuel
 induction fuel with
 | zero=>
  intro listed a w _ _ hr hy hDw hC H;refine⟨λh=>(by rw[h]at hr;cases hr),λj hj=>?_⟩
  by_cases hji:j=i
  ·subst hji;exact⟨oi,hi,hy.sOp hDw ⟨hC,H⟩⟩
  ·have:=ready_mono hj hji;rw[H.1]at this;cases this
 | succ fuel ih=>
  intro listed a w hsh hfree hr hy hDw hC H;refine⟨λh=>(by rw[h]at hr;cases hr),λj hj=>?_⟩
  by_cases hji:j=i
  ·subst hji;exact⟨oi,hi,hy.sOp hDw ⟨hC,H⟩⟩
  ·obtain⟨oj,hoj,h1⟩:=H.2 j (ready_mono hj hji);obtain⟨hjun,oj',hoj',hall⟩:=mem_ready.1 hj;have:oj'=oj:=by rw[hoj]at hoj';injection hoj' with e;exact e.symm
   subst this;have hiun:listed.getD i false≠true:=λh1=>by
    have h0:=(mem_ready.1 hr).1;rcases Nat.lt_or_ge i listed.size with h' | h'
    ·simp[h']at h0 h1;rw[h0]at h1;cases h1
    ·simp[Array.getElem?_eq_none h']at h1
   have hnot:∀e∈oj'.after,Region.binds .any e=true->e.on≠i:=λe he hb heq=>hiun (heq▸hall e he hb);have h2:=a8V (hfree j oj' hoj hji hjun hnot) (λcs b=>hsel i oi cs b hi) (λcs b=>hsel j oj' cs b hoj) hy h1;have hfree':∀k ok,ops[k]? =some ok->k≠i->(listed.setIfInBounds j true).getD k true=false->
     (∀e∈ok.after,Region.binds .any e=true->e.on≠i)->oi.apart ops ok=true:=λk ok hk hki hun hno=>by
    refine hfree k ok hk hki ?_ hno
    by_cases hjk:j=k
    ·subst hjk;exact hjun
    ·rw[getD_set_ne true hjk]at hun;exact hun
   have h2':sOp P ops oj' (λa' w'=>(YldIn P ops D oi v a'/\(j∉lt->C w')/\sAny P ops lt C K fuel ((listed.setIfInBounds i true).setIfInBounds j true) (a'.put oi.dst v) w')/\(j∈mv->w'=w)) a w:=by
    by_cases hm:j∈mv
    ·obtain⟨x,hx⟩:=hmv j hm oj' hoj;exact(b1T hx h2).mono λ_ _ hh=>⟨hh.1,λ_=>hh.2⟩
    ·exact h2.mono λ_ _ hh=>⟨hh,λh=>absurd h hm⟩
   refine⟨oj',hoj,h2'.mono λa' w' ⟨⟨hy',hC',h3⟩,hww⟩=>⟨hC',?_⟩⟩;have hdc:D w'/\(i∉lt->C w'):=by
    rcases hD with⟨hil,hCD,hw⟩ | ⟨hil,hd⟩
    ·by_cases hm:j∈mv
     ·rw[hww hm];exact⟨hDw,hC⟩
     ·have hjl:j∉lt:=λh=>by
       rcases hw j h with h' | h'
       ·exact hm h'
       ·exact hiun (a0D hsh h' hj)
      exact⟨hCD _ (hC' hjl),λ_=>hC' hjl⟩
    ·exact⟨hd _,λh=>absurd hil h⟩
   refine ih (listed.setIfInBounds j true) a' w' (hsh.set hj) hfree' (ready_mono hr (Ne.symm hji)) hy' hdc.1 hdc.2 ?_;rw[Array.setIfInBounds_comm _ _ hji];exact h3
theorem PT.sound2 {lt mv:List Nat} {C:World->Prop} {K:Act->World->Prop} (hs:Region.noSelect ops=true) (hmv:∀j∈mv,∀o,ops[j]? =some o->∃x,o.op= .move x) (hlt:∀j∈lt,∀i,i<ops.size->i∉lt->j∈mv\/Q9 ops 3 j i=true):∀(t:PT) (fl:Bool) (n:Nat) (listed:Array Bool) (a:Act) (w:World),Shut ops listed->t.ok ops lt fl n listed=true->(t.allLt lt=false->C w)->pT P ops C K t a w->
  (fl=false->sAny P ops lt C K n listed a w)/\(∀i∈t.heads,∃o,ops[i]? =some o/\∃m,n=m+1/\sOp P ops o (λa' w'=>(i∉lt->C w')/\sAny P ops lt C K m (listed.setIfInBounds i true) a' w') a w)
 | .done,fl,n,listed,a,w,hsh,h,hC,hp=>by
  cases fl with
  | true=>simp[PT.ok]at h
  | false=>exact⟨λ_=>a4u (by simpa[PT.ok]using h) hp n,by simp[PT.heads]⟩
 | .take p i t,fl,n,listed,a,w,hsh,h,hC,hp=>by
  cases fl with
  | true=>simp[PT.ok]at h
  | false=>
   cases n with
   | zero=>simp[PT.ok]at h
   | succ n=>
    simp only[PT.ok,Bool.and_eq_true]at h;obtain⟨⟨⟨hr,hf⟩,ht⟩,hp2⟩:=h;refine⟨λ_=>?_,by simp[PT.heads]⟩;obtain⟨o,v,hi,hy,hp⟩:=hp;have hisz:i<ops.size:=(Array.getElem?_eq_some_iff.1 hi).1
    by_cases hil:i∈lt
    ·have hpt:p=true:=by simpa[hil]using hp2
     subst hpt;refine a1J hmv hi (Region.noSelect_spec hs) (.inr ⟨hil,λw h=>by cases h⟩) n listed a w hsh (Region.free_spec hi hf) (by simpa using hr) hy (λh=>by cases h) (λh=>absurd hil h) ((PT.sound2 hs hmv hlt t false n _ _ w (hsh.set (by simpa using hr)) ht (λhe=>hC ?_) hp).1 rfl);simp[PT.allLt,he]
    ·have hCw:C w:=hC (by simp[PT.allLt,hil]);exact a1J hmv hi (Region.noSelect_spec hs) (.inl ⟨hil,λw h _=>h,λj hj=>hlt j hj i hisz hil⟩) n listed a w hsh (Region.free_spec hi hf) (by simpa using hr) hy (λ_=>hCw) (λ_=>hCw) ((PT.sound2 hs hmv hlt t false n _ _ w (hsh.set (by simpa using hr)) ht (λ_=>hCw) hp).1 rfl)
 | .alt l i t m,fl,n,listed,a,w,hsh,h,hC,hp=>by
  cases n with
  | zero=>simp[PT.ok]at h
  | succ n=>
   simp only[PT.ok,Bool.and_eq_true]at h;obtain⟨⟨⟨⟨⟨ht,hm⟩,hall⟩,hl⟩,hlate⟩,hrd⟩:=h;obtain⟨⟨o,hi,hp⟩,hpm⟩:=hp;have hl':l=true↔i∈lt:=by
    have:=eq_of_beq hl;rw[<- this];simp
   have hmm:=(PT.sound2 hs hmv hlt m true (n+1) listed a w hsh hm (λhe=>hC (by simp[PT.allLt,he])) hpm).2;have hheads:∀j∈PT.heads (.alt l i t m),∃o,ops[j]? =some o/\∃m,n+1=m+1/\sOp P ops o (λa' w'=>(j∉lt->C w')/\sAny P ops lt C K m (listed.setIfInBounds j true) a' w') a w:=by
    intro j hj;rcases List.mem_cons.1 hj with rfl | hj
    ·refine⟨o,hi,n,rfl,hp.mono λa' w' hh=>⟨λhn=>hh.1 ?_,(PT.sound2 hs hmv hlt t false n _ a' w' (hsh.set (by simpa using hrd)) ht (λhe=>hh.1 ?_) hh.2).1 rfl⟩⟩
     ·cases l with
      | false=>rfl
      | true=>exact absurd (hl'.1 rfl) hn
     ·cases l with
      | false=>rfl
      | true=>simp only[Bool.not_true,Bool.false_or]at hlate;rw[hlate]at he;cases he
    ·exact hmm j hj
   refine⟨λhfl=>?_,hheads⟩;subst hfl;simp only[Bool.false_or,Bool.and_eq_true,List.all_eq_true]at hall;refine⟨λh0=>absurd hall.1 (by simp[h0]),λj hj=>?_⟩;obtain⟨o,h1,m',h2,h3⟩:=hheads j (by simpa using hall.2 j hj);have:m'=n:=by omega
   subst this;exact⟨o,h1,h3⟩
 | .non,fl,n,listed,a,w,hsh,h,hC,hp=>by
  cases fl with
  | true=>exact⟨(λh=>by cases h),by simp[PT.heads]⟩
  | false=>simp[PT.ok]at h
end
def b2U (o:Oper):Bool:=match o.op with
 | .move _=>true
 | _=>false
def PT.good2 (ops:Array Oper) (lt mv:List Nat) (t:PT):Bool:=Region.noSelect ops&&(mv.all λj=>(ops[j]?.map b2U).getD true)&&lt.all (λj=>mv.contains j||(List.range ops.size).all λi=>lt.contains i||Q9 ops 3 j i)&&t.ok ops lt false ops.size (Array.replicate ops.size false)
theorem a2c {P:Program} {id:Nat} {ops:Array Oper} {C:World->Prop} {Q:Exit->Act->World->Prop} {a:Act} {w:World} (hm:P.follows .mixedOrders=true) (t:PT) (lt mv:List Nat) (ht:t.good2 ops lt mv=true) (hC:C {w with drawn:=w.drawn+1})
  (h:pT P ops C (Q .normal) t a {w with drawn:=w.drawn+1}):(Code.region id ops true).wp P Q a w:=by
 simp only[PT.good2,Bool.and_eq_true,List.all_eq_true,List.mem_range]at ht;obtain⟨⟨⟨h1,h0⟩,h2⟩,h3⟩:=ht;refine wp_region_any hm (sAny.wpAny (λ_ _ h=>h) _ _ _ _ ((PT.sound2 h1 (lt:=lt) (mv:=mv) (λj hj o ho=>?_) (λj hj i hi hn=>?_) t false _ _ a _ (Shut.none _) h3 (λ_=>hC) h).1 rfl))
 ·have:=h0 j hj;rw[ho]at this;simp only[Option.map_some,Option.getD_some]at this;unfold b2U at this;split at this
  ·exact⟨_,by assumption⟩
  ·cases this
 ·have:=h2 j hj;rcases Bool.or_eq_true_iff.1 this with h | h
  ·exact .inl (by simpa using h)
  ·rw[List.all_eq_true]at h;have:=h i (List.mem_range.2 hi);exact .inr (by simpa[hn]using this)
theorem J.plan2 {X:Cx} {K:List KI} {E:Env} {L:List Atom} {id:Nat} {ops:Array Oper} (t:PT) (lt mv ro:List Nat) (hm:X.P.follows .mixedOrders=true) (ht:t.good2 ops lt mv=true) (h:J X (.reg ops (snap L ro) t::K) E L):J X (.code (.region id ops true)::K) E L:=
 λa w hx he hs=>a2c hm t lt mv ht (CAt.snap (w:={w with drawn:=w.drawn+1}) hs ro) (h a _ hx.drew he hs)
theorem t6 (l:List (List UInt8)) (d:List UInt8):i7 l++i9 d=i7 (l++[d]):=by unfold i7;rw[List.flatMap_append];simp
theorem MSl.put17 (d:List UInt8) (o:Bool) (A B:List (List UInt8)) (a1:Option Nat) (c1:Nat) (a2:Option Nat) (c2:Nat) (x:Option Nat×Nat):(MSl.cells ⟨⟨d,o,A,B⟩,a1,c1,a2,c2⟩).set 17 (slv x.1 (A.length+1) x.2)=MSl.cells ⟨⟨d,o,A++[d],B⟩,x.1,x.2,a2,c2⟩:=by
 unfold MSl.cells;dsimp only;rw[List.length_append];rfl
theorem MSl.put18 (d:List UInt8) (o:Bool) (A B:List (List UInt8)) (a1:Option Nat) (c1:Nat) (a2:Option Nat) (c2:Nat) (x:Option Nat×Nat):(MSl.cells ⟨⟨d,o,A,B⟩,a1,c1,a2,c2⟩).set 18 (slv x.1 (B.length+1) x.2)=MSl.cells ⟨⟨d,o,A,B++[d]⟩,a1,c1,x.1,x.2⟩:=by
 unfold MSl.cells;dsimp only;rw[List.length_append];rfl
theorem b2z (q g:Nat) (Z:List MSl) (hn:Z.length<=65536) (hf:∀z∈Z,z.Fine) (i:Int) (d:List UInt8) (hd:d.length=16):FP 48 [pp q,iI i,Z4 d] (a6j q g Z) (λv As=>∃Z',v= .bool (Mv.inR (Z.map (·.v)) i)/\As=a6j q g Z'/\Z'.map (·.v)=Mv.write (Z.map (·.v)) i d):=by
 refine FE [2,0,0] Tryz.func48 λX F hX=>?_;refine J.qp (b5M q g Z.length hn i) [1] λ_=>?_
 by_cases hi:0<=i/\i<(Z.length:Int)
 ·have ha:Mv.adr Z.length g i=some ⟨g,i.toNat*19,none⟩:=by unfold Mv.adr;rw[if_pos hi]
  obtain⟨k,rfl⟩:=Int.eq_ofNat_of_zero_le hi.1;obtain⟨z,hz⟩:∃z,Z[k]? =some z:=⟨_,List.getElem?_eq_getElem (by omega)⟩;obtain⟨f1,f2,f3,f4,f5⟩:=hf z (List.mem_of_getElem? hz);have hin:Mv.inR (Z.map (·.v)) (k:Int)=true:=by unfold Mv.inR;rw[List.length_map,decide_eq_true hi.1,decide_eq_true hi.2];rfl
  rw[ha,Int.toNat_natCast];refine J.qF λ_=>?_;refine J.openAt 3 k rfl rfl (by rw[List.getElem?_map,hz];rfl) rfl ?_;refine J.openAt 4 k rfl rfl (by rw[List.getElem?_map,hz];rfl) rfl ?_;have hl1:k*19+19<=(Z.flatMap MSl.cells).length:=by rw[MSl.flat_len];omega
  have y6:∀y:MSl,(Z.set k y)[k]? =some y:=λy=>by rw[List.getElem?_set,if_pos rfl,if_pos (by omega)]
  refine J.qn 8 λ_=>?_;have hst:((Z.flatMap MSl.cells).take (k*19)++i9 d++(Z.flatMap MSl.cells).drop (k*19+(i9 d).length))=(Z.set k ⟨⟨d,z.v.op,z.v.may,z.v.ever⟩,z.a1,z.c1,z.a2,z.c2⟩).flatMap MSl.cells:=a1x MSl.cells 19 MSl.cells_len (i9 d) hz (by show 16<=19;omega) (y:=⟨⟨d,z.v.op,z.v.may,z.v.ever⟩,z.a1,z.c1,z.a2,z.c2⟩) rfl;refine J.sN (i9 d) 2 ((Z.set k ⟨⟨d,z.v.op,z.v.may,z.v.ever⟩,z.a1,z.c1,z.a2,z.c2⟩).flatMap MSl.cells) ?_ ?_ ?_
  ·show k*19+0+16<=_;omega
  ·rw[Nat.add_zero];exact hst
  refine J.qn 3 λ_=>?_;refine J.s1 2 ((Z.set k ⟨⟨d,false,z.v.may,z.v.ever⟩,z.a1,z.c1,z.a2,z.c2⟩).flatMap MSl.cells) ?_ ?_ ?_
  ·rw[MSl.flat_len,List.length_set,<- MSl.flat_len];omega
  ·exact(s7 MSl.cells 19 MSl.cells_len 16 (y:=⟨⟨d,false,z.v.may,z.v.ever⟩,z.a1,z.c1,z.a2,z.c2⟩) _ (y6 ⟨⟨d,z.v.op,z.v.may,z.v.ever⟩,z.a1,z.c1,z.a2,z.c2⟩) (by omega) rfl).trans (by rw[List.set_set];all_goals rfl)
  refine J.q λ_=>?_;refine J.plan2 (.take true 0 (.take true 1 (.take true 2 (.take true 3 (.take true 4 (.take false 5 (.take false 6 (.take true 9 (.take true 10 (.take true 11 (.take false 12 (.take false 13 (.alt false 7 ((.alt false 8 ((.of [58,62,64,68,75,76,80,87])) (.alt false 14 ((.of [34,62,64,68,75,76,80,87])) .non))) (.alt false 14 ((.of [30,34,62,64,68,75,76,80,87])) .non)))))))))))))) [1,16,17,18,19,20,21] [1] [1,2,3,4,5] (by rw[hX.hP];kernel_rfl) (by kernel_rfl) ?_;have hcell:=λj hj=>D3 MSl.cells 19 MSl.cells_len (y6 ⟨⟨d,false,z.v.may,z.v.ever⟩,z.a1,z.c1,z.a2,z.c2⟩) j hj;refine J.qn 6 λ_=>?_;refine J.vT (slv z.a1 z.v.may.length z.c1) rfl rfl (λhg aa w he hC=>f8 tk rfl rfl he rfl rfl rfl (hC rfl _ (d7 (i:=2) rfl)) (hcell 17 (by omega))) ?_;refine J.qn 4 λ_=>?_;refine J.vT (slv z.a2 z.v.ever.length z.c2) rfl rfl (λhg aa w he hC=>f8 tk rfl rfl he rfl rfl rfl (hC rfl _ (d7 (i:=2) rfl)) (hcell 18 (by omega))) ?_;refine J.qn 1 λ_=>?_;refine J.join (α:=(Option Nat×Nat)×(Option Nat×Nat)) (λ_=>[sv 6 (.bool false)]) (λx=>[.hp F, .pt q 168 [.slice (some ⟨g,0,none⟩) Z.length Z.length], .pt g 170 ((Z.set k ⟨⟨d,false,z.v.may++[d],z.v.ever++[d]⟩,x.1.1,x.1.2,x.2.1,x.2.2⟩).flatMap MSl.cells), .hp (HP.of ((Z.map MSl.m1).set k .emp)), .hp (HP.of ((Z.map MSl.m2).set k .emp)),c8 30 16 x.1.1 (z.v.may.length+1) x.1.2 (i7 (z.v.may++[d])),c8 30 16 x.2.1 (z.v.ever.length+1) x.2.2 (i7 (z.v.ever++[d]))]) (λhj=>?_) (λx=>?_)
  ·refine J.alts ?_ ?_
   ·skip
    refine J.qn 1 λbb=>?_;refine J.alts ?_ ?_
    ·skip
     refine J.ap 6 8 0 (t6 z.v.may d) λa3 c3=>?_;refine J.qn 1 λbc=>?_;refine J.ap 7 9 0 (t6 z.v.ever d) λa4 c4=>?_;refine J.qn 2 λ_=>?_;refine J.s1 2 ((Z.set k ⟨⟨d,false,z.v.may++[d],z.v.ever⟩,a3,c3,z.a2,z.c2⟩).flatMap MSl.cells) ?_ ?_ ?_
     ·rw[MSl.flat_len,List.length_set,<- MSl.flat_len];omega
     ·exact(s7 MSl.cells 19 MSl.cells_len 17 (y:=⟨⟨d,false,z.v.may++[d],z.v.ever⟩,a3,c3,z.a2,z.c2⟩) _ (y6 ⟨⟨d,false,z.v.may,z.v.ever⟩,z.a1,z.c1,z.a2,z.c2⟩) (by omega) (MSl.put17 _ _ _ _ _ _ _ _ (a3,c3))).trans (by rw[List.set_set];all_goals rfl)
     refine J.qn 2 λ_=>?_;refine J.s1 2 ((Z.set k ⟨⟨d,false,z.v.may++[d],z.v.ever++[d]⟩,a3,c3,a4,c4⟩).flatMap MSl.cells) ?_ ?_ ?_
     ·rw[MSl.flat_len,List.length_set,<- MSl.flat_len];omega
     ·exact(s7 MSl.cells 19 MSl.cells_len 18 (y:=⟨⟨d,false,z.v.may++[d],z.v.ever++[d]⟩,a3,c3,a4,c4⟩) _ (y6 ⟨⟨d,false,z.v.may++[d],z.v.ever⟩,a3,c3,z.a2,z.c2⟩) (by omega) (MSl.put18 _ _ _ _ _ _ _ _ (a4,c4))).trans (by rw[List.set_set];all_goals rfl)
     exact J.goto [0,1,2,3,4,6,7] (hj ((a3,c3),(a4,c4))) ⟨rfl,trivial⟩ rfl rfl
    ·skip
     refine J.qn 1 λbc=>?_;refine J.ap 6 8 0 (t6 z.v.may d) λa3 c3=>?_;refine J.ap 7 9 0 (t6 z.v.ever d) λa4 c4=>?_;refine J.qn 2 λ_=>?_;refine J.s1 2 ((Z.set k ⟨⟨d,false,z.v.may++[d],z.v.ever⟩,a3,c3,z.a2,z.c2⟩).flatMap MSl.cells) ?_ ?_ ?_
     ·rw[MSl.flat_len,List.length_set,<- MSl.flat_len];omega
     ·exact(s7 MSl.cells 19 MSl.cells_len 17 (y:=⟨⟨d,false,z.v.may++[d],z.v.ever⟩,a3,c3,z.a2,z.c2⟩) _ (y6 ⟨⟨d,false,z.v.may,z.v.ever⟩,z.a1,z.c1,z.a2,z.c2⟩) (by omega) (MSl.put17 _ _ _ _ _ _ _ _ (a3,c3))).trans (by rw[List.set_set];all_goals rfl)
     refine J.qn 2 λ_=>?_;refine J.s1 2 ((Z.set k ⟨⟨d,false,z.v.may++[d],z.v.ever++[d]⟩,a3,c3,a4,c4⟩).flatMap MSl.cells) ?_ ?_ ?_
     ·rw[MSl.flat_len,List.length_set,<- MSl.flat_len];omega
     ·exact(s7 MSl.cells 19 MSl.cells_len 18 (y:=⟨⟨d,false,z.v.may++[d],z.v.ever++[d]⟩,a3,c3,a4,c4⟩) _ (y6 ⟨⟨d,false,z.v.may++[d],z.v.ever⟩,a3,c3,z.a2,z.c2⟩) (by omega) (MSl.put18 _ _ _ _ _ _ _ _ (a4,c4))).trans (by rw[List.set_set];all_goals rfl)
     exact J.goto [0,1,2,3,4,6,7] (hj ((a3,c3),(a4,c4))) ⟨rfl,trivial⟩ rfl rfl
   ·skip
    refine J.qn 2 λbb=>?_;refine J.ap 6 9 0 (t6 z.v.may d) λa3 c3=>?_;refine J.ap 7 8 0 (t6 z.v.ever d) λa4 c4=>?_;refine J.qn 2 λ_=>?_;refine J.s1 2 ((Z.set k ⟨⟨d,false,z.v.may++[d],z.v.ever⟩,a3,c3,z.a2,z.c2⟩).flatMap MSl.cells) ?_ ?_ ?_
    ·rw[MSl.flat_len,List.length_set,<- MSl.flat_len];omega
    ·exact(s7 MSl.cells 19 MSl.cells_len 17 (y:=⟨⟨d,false,z.v.may++[d],z.v.ever⟩,a3,c3,z.a2,z.c2⟩) _ (y6 ⟨⟨d,false,z.v.may,z.v.ever⟩,z.a1,z.c1,z.a2,z.c2⟩) (by omega) (MSl.put17 _ _ _ _ _ _ _ _ (a3,c3))).trans (by rw[List.set_set];all_goals rfl)
    refine J.qn 2 λ_=>?_;refine J.s1 2 ((Z.set k ⟨⟨d,false,z.v.may++[d],z.v.ever++[d]⟩,a3,c3,a4,c4⟩).flatMap MSl.cells) ?_ ?_ ?_
    ·rw[MSl.flat_len,List.length_set,<- MSl.flat_len];omega
    ·exact(s7 MSl.cells 19 MSl.cells_len 18 (y:=⟨⟨d,false,z.v.may++[d],z.v.ever++[d]⟩,a3,c3,a4,c4⟩) _ (y6 ⟨⟨d,false,z.v.may++[d],z.v.ever⟩,a3,c3,z.a2,z.c2⟩) (by omega) (MSl.put18 _ _ _ _ _ _ _ _ (a4,c4))).trans (by rw[List.set_set];all_goals rfl)
    exact J.goto [0,1,2,3,4,6,7] (hj ((a3,c3),(a4,c4))) ⟨rfl,trivial⟩ rfl rfl
  obtain⟨⟨a3,c3⟩,a4,c4⟩:=x;dsimp only;obtain⟨y,hy⟩:∃y:MSl,y=⟨⟨d,false,z.v.may++[d],z.v.ever++[d]⟩,a3,c3,a4,c4⟩:=⟨_,rfl⟩;rw[<- hy,show c8 30 16 a3 (z.v.may.length+1) c3 (i7 (z.v.may++[d]))=y.m1 from by rw[hy];unfold MSl.m1;rw[List.length_append];rfl,show c8 30 16 a4 (z.v.ever.length+1) c4 (i7 (z.v.ever++[d]))=y.m2 from by rw[hy];unfold MSl.m2;rw[List.length_append];rfl];refine J.closeAt (A:=y.m1) 3 5 k rfl rfl rfl ?_;refine J.closeAt (A:=y.m2) 4 6 k rfl rfl rfl ?_;rw[<- List.map_set,<- List.map_set];refine J.qr [1,2,3,4] λ_=>?_;refine⟨Z.set k y,?_,?_,?_⟩
  ·rw[hin]
  ·unfold a6j;rw[List.length_set];rfl
  ·have hpg:Mv.pg (Z.map (·.v)) (k:Int)=z.v:=by unfold Mv.pg;rw[Int.toNat_natCast,List.getD_eq_getElem?_getD,List.getElem?_map,hz];rfl
   unfold Mv.write;rw[hin,if_pos rfl,hpg,List.map_set,Int.toNat_natCast,hy];rfl
 ·have ha:Mv.adr Z.length g i=none:=by unfold Mv.adr;rw[if_neg hi]
  have hin:Mv.inR (Z.map (·.v)) i=false:=by
   unfold Mv.inR;rw[List.length_map];simp;omega
  rw[ha];refine J.qT λ_=>?_;refine J.qr [1,2,3,4] λ_=>?_;exact⟨Z,by rw[hin],rfl,by unfold Mv.write;rw[hin];rfl⟩
theorem MSl.m1_of {y z:MSl} (ha:y.a1=z.a1) (hc:y.c1=z.c1) (hv:y.v.may=z.v.may):y.m1=z.m1:=by unfold MSl.m1;rw[ha,hc,hv]
theorem MSl.m2_of {y z:MSl} (ha:y.a2=z.a2) (hc:y.c2=z.c2) (hv:y.v.ever=z.v.ever):y.m2=z.m2:=by unfold MSl.m2;rw[ha,hc,hv]
theorem MSl.map_m1 {Z:List MSl} {k:Nat} {z y:MSl} (hz:Z[k]? =some z) (h:y.m1=z.m1):(Z.set k y).map MSl.m1=Z.map MSl.m1:=by rw[List.map_set,h];exact M5 (by rw[List.getElem?_map,hz];rfl)
theorem MSl.map_m2 {Z:List MSl} {k:Nat} {z y:MSl} (hz:Z[k]? =some z) (h:y.m2=z.m2):(Z.set k y).map MSl.m2=Z.map MSl.m2:=by rw[List.map_set,h];exact M5 (by rw[List.getElem?_map,hz];rfl)
theorem a2A {α:Type} {f:α->α} {V Y:List α} {k:Nat} {x:α} (h:Y=(V.take k).map f++V.drop k) (hk:k<V.length) (hx:Y[k]? =some x):Y.set k (f x)=(V.take (k+1)).map f++V.drop (k+1):=by
 have hl:((V.take k).map f).length=k:=by simp;omega
 have hv:V.drop k=V[k]::V.drop (k+1):=List.drop_eq_getElem_cons hk;have he:x=V[k]:=by
  rw[h,List.getElem?_append_right (by omega),hl,Nat.sub_self,hv,List.getElem?_cons_zero]at hx;injection hx with hx;exact hx.symm
 rw[h,hv,List.set_append_right _ _ (by omega),hl,Nat.sub_self,List.set_cons_zero,List.take_succ_eq_append_getElem hk,List.map_append,List.append_assoc,he];rfl
def Mv.cut1 (v:MPv):MPv:={v with op:=true}
theorem b6v (q g:Nat) (Z:List MSl) (hn:Z.length<=65536):FP 49 [pp q] (a6j q g Z) (λv As=>∃Z',v= .tuple #[]/\As=a6j q g Z'/\Z'.map (·.v)=Mv.cut (Z.map (·.v))):=by
 refine FE [2] Tryz.func49 λX F hX=>?_;refine J.qF λ_=>?_;refine J.q λ_=>?_;refine J.l (α:=(Nat×List MSl)) (λz=>z.1<=Z.length/\z.2.length=Z.length/\z.2.map MSl.m1=Z.map MSl.m1/\z.2.map MSl.m2=Z.map MSl.m2/\z.2.map (·.v)=((Z.map (·.v)).take z.1).map Mv.cut1++(Z.map (·.v)).drop z.1) (λz=>[si 10 z.1,si 9 Z.length,⟨0,pp q,2, .tt⟩]) [2] (λz=>[.pt g 170 (z.2.flatMap MSl.cells)]) (λz=>Z.length-z.1) ((0,Z)) (⟨Nat.zero_le _,rfl,rfl,rfl,rfl⟩) λz hI=>?_;obtain⟨k,Y⟩:=z;dsimp only at hI ⊢;obtain⟨hk,hYl,hY1,hY2,hY⟩:=hI;refine J.qd (λ_ h1=>?_) λ_ h1=>?_
 ·simp only[decide_eq_true_eq,Int.ofNat_lt]at h1;obtain⟨z,hz⟩:∃z,Y[k]? =some z:=⟨_,List.getElem?_eq_getElem (by omega)⟩;have hstep:(Y.set k ⟨Mv.cut1 z.v,z.a1,z.c1,z.a2,z.c2⟩).map (·.v)=((Z.map (·.v)).take (k+1)).map Mv.cut1++(Z.map (·.v)).drop (k+1):=by
   rw[List.map_set];exact a2A hY (by simpa using h1) (by rw[List.getElem?_map,hz];rfl)
  refine J.qn 16 λ_=>?_;refine J.s1 2 ((Y.set k ⟨Mv.cut1 z.v,z.a1,z.c1,z.a2,z.c2⟩).flatMap MSl.cells) ?_ ?_ ?_
  ·show 0+(k:Int).toNat*19+16<_;rw[MSl.flat_len];omega
  ·rw[show 0+(k:Int).toNat*19+16=k*19+16 from by omega];exact s7 MSl.cells 19 MSl.cells_len 16 (y:=⟨Mv.cut1 z.v,z.a1,z.c1,z.a2,z.c2⟩) _ hz (by omega) rfl
  refine J.q λ_=>?_;refine J.n ((k+1,Y.set k ⟨Mv.cut1 z.v,z.a1,z.c1,z.a2,z.c2⟩)) (⟨by dsimp only;omega,by dsimp only;rw[List.length_set];exact hYl,(MSl.map_m1 (y:=⟨Mv.cut1 z.v,z.a1,z.c1,z.a2,z.c2⟩) hz (MSl.m1_of rfl rfl rfl)).trans hY1,(MSl.map_m2 (y:=⟨Mv.cut1 z.v,z.a1,z.c1,z.a2,z.c2⟩) hz (MSl.m2_of rfl rfl rfl)).trans hY2,hstep⟩) (by dsimp only;omega) [0,1,2,3,4]
 simp only[decide_eq_false_iff_not,Int.ofNat_lt]at h1;obtain rfl:k=Z.length:=by omega
 refine J.q λ_=>?_;refine J.f [1,2,3,4] ?_;refine⟨Y,rfl,?_,?_⟩
 ·unfold a6j;rw[hYl,hY1,hY2];rfl
 ·rw[hY,List.take_of_length_le (by simp),List.drop_eq_nil_of_le (by simp),List.append_nil];rfl
def Mv.fl1 (v:MPv):MPv:=if v.op then v else {v with may:=[v.now]}
theorem Fv.allG_keep {k m:Nat}:∀(n:Nat) (i:Int) (Z:Fv),Z.Ok k m->(Fv.allG n i Z).1.Ok k m
 | 0,_,_,h=>h
 | n+1,i,Z,h=>by
  rw[Fv.allG_succ];split
  ·exact(Fv.read_keep h i).1
  ·exact Fv.allG_keep n (i+1) _ (Fv.read_keep h i).1
theorem Fv.all_keep {Z:Fv} {k m:Nat} (h:Z.Ok k m):Z.all.1.Ok k m:=by
 unfold Fv.all;split
 ·exact Fv.allG_keep _ _ _ h
 ·exact Fv.allG_keep _ _ _ h
namespace B21
def d1 (n:UInt8):List UInt8:=n::List.replicate 15 0
def N0:Nand:=Nand.new 3 8 2
def F0:Fv:=Fv.of (p5 N0).1
def F1:Fv×Int:=F0.write 1 (d1 7)
def F2:Fv×Int:=F1.1.trim 2
def F3:Fv×Int:=F2.1.write 3 zd
def F4:Fv×List UInt8×Int:=F3.1.read 1
def F5:Fv×Int:=F4.1.flush
def F6:Fv:=F5.1.setN (F5.1.S.N.setCut (-1) 0)
def F7:Fv×List UInt8×Int:=F6.read 1
def N8:Nand:=F7.1.S.N.onN
def F8:Fv:=Fv.of (p5 N8).1
def F9:Fv×List UInt8×Int:=F8.read 1
def Fa:Fv×List (List UInt8)×Int:=F9.1.all
def P0:Pv:=Pv.new 3 8 2 []
def s1:Stp:=⟨2,0,d1 9,0,0,dF⟩
def s2:Stp:=⟨1,0,zd,0,0,dF⟩
def Z1:Fv:=((F0.setN F0.S.N).write 0 (d1 9)).1
def Z2:Fv:=((Z1.setN Z1.S.N).read 0).1
def Z3:Fv:=((Z2.setN Z2.S.N)).flush.1
theorem m0:(p5 N0).2=0:=by kernel_rfl
theorem v1:F1.2=0:=by kernel_rfl
theorem v2:F2.2=0:=by kernel_rfl
theorem v3:F3.2=3:=by kernel_rfl
theorem v4:F4.2.2=0:=by kernel_rfl
theorem w4:F4.2.1=d1 7:=by kernel_rfl
theorem v5:F5.2=0:=by kernel_rfl
theorem v7:F7.2.2=9:=by kernel_rfl
theorem m8:(p5 N8).2=0:=by kernel_rfl
theorem v9:F9.2.2=0:=by kernel_rfl
theorem w9:F9.2.1=d1 7:=by kernel_rfl
theorem va:Fa.2.1.length=3:=by kernel_rfl
theorem wa:Fa.2.2=0:=by kernel_rfl
theorem z0:P0.Z=some F0:=by kernel_rfl
theorem e1:(P0.step s1).2.err=0:=by kernel_rfl
theorem z1:(P0.step s1).1.Z=some Z1:=by kernel_rfl
def P1:Pv:=(P0.step s1).1
theorem e2:(P1.step s2).2.data=d1 9:=by kernel_rfl
theorem z2:(P1.step s2).1.Z=some Z2:=by kernel_rfl
def P2:Pv:=(P1.step s2).1
theorem z3:(P2.step flS).1.Z=some Z3:=by kernel_rfl
theorem pL1:P1.L=[]:=by kernel_rfl
theorem pl1:P1.log.length=1:=by kernel_rfl
theorem pL2:P2.L=[]:=by kernel_rfl
theorem lg2:P2.log.length=2:=by kernel_rfl
theorem t3:decide ((Z3.ticks 50).2>=0)=true:=by kernel_rfl
theorem lgA:Fa.1.lg=3:=by kernel_rfl
def M0:List MPv:=Mv.new 2
def M1:List MPv:=Mv.cut (Mv.write M0 0 (d1 1))
theorem q1:Mv.may M1 0 zd=true:=by kernel_rfl
theorem q2:Mv.may M1 0 (d1 1)=true:=by kernel_rfl
theorem q3:Mv.may M1 0 (d1 2)=false:=by kernel_rfl
def K (j:Nat):Nat:=(20-j)*10000000000000
theorem ok0:F0.Ok (K 0) 0:=Fv.of_ok (U8 (a2x 3 8 2 rfl _ (by decide))).1 (by decide)
theorem ok1:F1.1.Ok (K 1) 0:=(Fv.write_keep (ok0.less (k':=Fv.cW+(1+K 1)) (by decide)) 1 rfl).1
theorem ok2:F2.1.Ok (K 2) 0:=(Fv.trim_keep (ok1.less (k':=Fv.cW+(1+K 2)) (by decide)) 2).1
theorem ok3:F3.1.Ok (K 3) 0:=(Fv.write_keep (ok2.less (k':=Fv.cW+(1+K 3)) (by decide)) 3 rfl).1
theorem ok4:F4.1.Ok (K 4) 0:=(Fv.read_keep (ok3.less (k':=K 4) (by decide)) 1).1
theorem ok5:F5.1.Ok (K 5) 0:=(Fv.flush_keep (ok4.less (k':=Fv.cW*200+K 5) (by decide))).1
theorem ok6:F6.Ok (K 5) 0:=ok5.setN (Nand.like_cut _ _ _) (ok5.dv.gd.cut (-1) 0 (by decide) (by decide))
theorem ok7:F7.1.Ok (K 5) 0:=(Fv.read_keep ok6 1).1
theorem g8:N8.Gd (Dv.costK+K 6) 0:=(ok7.dv.gd.less (by decide) (Nat.le_refl 0)).on
theorem ok8:F8.Ok (K 6) 0:=Fv.of_ok (U8 g8).1 (by decide)
theorem ok9:F9.1.Ok (K 6) 0:=(Fv.read_keep ok8 1).1
theorem oka:Fa.1.Ok (K 6) 0:=Fv.all_keep ok9
theorem okz1:Z1.Ok (K 1) 0:=(Fv.write_keep ((ok0.setN (Nand.Like.refl _) ok0.dv.gd).less (k':=Fv.cW+(1+K 1)) (by decide)) 0 rfl).1
theorem okz2:Z2.Ok (K 1) 0:=(Fv.read_keep (okz1.setN (Nand.Like.refl _) okz1.dv.gd) 0).1
theorem okz2o:Z2.S.N.off=false:=by kernel_rfl
end B21
end Go.Proofs.YtnffkcabeecopaaGreat
namespace Go.Proofs.YtnffkcabeecopaaGreat
open Go Go.RowKit
theorem v6 (q n:Nat) (A:Pad) (P:Pv) (Z:Fv) (hZ:P.Z=some Z):I5 q n A P=[PlQ q n (some Z) A.f (pp A.fp) (slv A.a2 P.log.length A.c2), .pt A.fp 176 [.slice (p9 A.a) P.L.length A.c],rdA (p9 A.a) 7 P.L.length (d5 P.L),c8 50 17 A.a2 P.log.length A.c2 (s5 P.log)]++FvP A.f A.p n A.t A.l A.d Z:=by unfold I5 B8;rw[hZ];rfl
theorem a0h {Z:List MSl} {M:List MPv} (h:Z.map (·.v)=M) (hM:∀v∈M,v.now.length=16/\(∀x∈v.may,x.length=16)/\(∀x∈v.ever,x.length=16)/\v.may.length<=1000/\v.ever.length<=1000):∀z∈Z,z.Fine:=λz hz=>hM z.v (by rw[<- h];exact List.mem_map.2 ⟨z,hz,rfl⟩)
theorem b0t:FP 51 [] [] (Ps (.bool true) []):=by
 refine FE [] Tryz.func51 λX F hX=>?_;refine J.qp (b0s) [] λ_=>?_;exact J.qx []
open B21
theorem a4Q:FP 11 [] [] (Ps (.bool true) []):=by
 have G0:N0.Gd (Dv.costK+0) 0:=a2x 3 8 2 rfl _ (by decide);refine FE [] Tryz.func11 λX F hX=>?_;refine J.qc (a4H 3 8 2 rfl) [] λ_=>?_;rintro v As ⟨n,rfl,rfl⟩;refine⟨_,rfl,trivial,?_⟩;rw[show Nand.new 3 8 2=N0 from rfl];refine J.qc (O5 n N0 0 0 G0 (by decide) rfl) [1] λ_=>?_;rintro v As (⟨_,f,p,t,l,d,rfl,rfl⟩ | ⟨he,rfl,rfl⟩)
 rotate_left
 ·exact absurd m0 he
 refine⟨_,rfl,trivial,?_⟩;rw[show Fv.of (p5 N0).1=F0 from rfl];refine J.qF λ_=>?_;refine J.qp (a3x f p n t l d F0 (K 1) 0 (ok0.less (by decide)) (by decide) 1 (d1 7) rfl) [1,2,3,4,5,6] λ_=>?_;rw[show F0.write 1 (d1 7)=F1 from rfl,v1];refine J.qp (a9v f p n t l d F1.1 (K 2) 0 (ok1.less (by decide)) (by decide) 2) [1,2,3,4,5,6] λ_=>?_;rw[show F1.1.trim 2=F2 from rfl,v2];refine J.qp (a3x f p n t l d F2.1 (K 3) 0 (ok2.less (by decide)) (by decide) 3 zd rfl) [1,2,3,4,5,6] λ_=>?_;rw[show F2.1.write 3 zd=F3 from rfl,v3];refine J.qp (V2 f p n t l d F3.1 (K 3) 0 ok3 1) [1,2,3,4,5,6] λ_=>?_;rw[show F3.1.read 1=F4 from rfl,v4,w4];refine J.q λc7=>?_;refine J.cb (a7m f p n t l d F4.1 (K 5) 0 (ok4.less (by decide)) (by decide)) [1,2,3,4,5,6] ?_;refine cpq ⟨_,rfl,trivial,?_⟩;rw[show F4.1.flush=F5 from rfl,v5];refine J.qp (a4I n F5.1.S.N (-1) 0) [3] λ_=>?_;refine J.qp (V2 f p n t l d F6 (K 5) 0 ok6 1) [1,2,3,4,5,6] λ_=>?_;rw[show F6.read 1=F7 from rfl,v7];refine J.q λc10=>?_;refine J.cb (b0p n F7.1.S.N) [3] ?_;refine cpq ⟨_,rfl,trivial,?_⟩;rw[show F7.1.S.N.onN=N8 from rfl];refine J.qc (O5 n N8 (K 6) 0 g8 (by decide) rfl) [3] λ_=>?_;rintro v As (⟨_,f',p',t',l',d',rfl,rfl⟩ | ⟨he,rfl,rfl⟩)
 rotate_left
 ·exact absurd m8 he
 refine⟨_,rfl,trivial,?_⟩;rw[show Fv.of (p5 N8).1=F8 from rfl];refine J.qp (V2 f' p' n t' l' d' F8 (K 6) 0 ok8 1) [3,9,10,11,12,13] λ_=>?_;rw[show F8.read 1=F9 from rfl,v9,w9];refine J.q λc14=>?_;refine J.cb (b6u 2) [] ?_;rintro v As ⟨mq,mg,MZ,rfl,rfl,hM0⟩;refine⟨_,rfl,trivial,?_⟩;have ml0:MZ.length=2:=by have:=congrArg List.length hM0;rw[List.length_map]at this;exact this
 refine J.qc (b2z mq mg MZ (by omega) (a0h hM0 (by decide)) 0 (d1 1) rfl) [15,16,17,18] λ_=>?_;rintro v As ⟨MZ1,rfl,rfl,hM1⟩;refine⟨_,rfl,trivial,?_⟩;rw[hM0]at hM1;have ml1:MZ1.length=2:=by have:=congrArg List.length hM1;rw[List.length_map]at this;exact this
 refine J.qc (b6v mq mg MZ1 (by omega)) [15,16,17,18] λ_=>?_;rintro v As ⟨MZ2,rfl,rfl,hM2⟩;refine⟨_,rfl,trivial,?_⟩;rw[hM1]at hM2;have hM2:MZ2.map (·.v)=M1:=hM2;have ml2:MZ2.length=2:=by have:=congrArg List.length hM2;rw[List.length_map]at this;exact this
 refine J.q λ_=>?_;refine J.turn1 [] rfl (As:=[rdA none 7 0 (d5 [])]) (λh s=>Sep.one ⟨rfl,λh=>absurd h (by decide)⟩) rfl ?_;refine J.q λ_=>?_;refine J.ca hX (by kernel_rfl) (a7W 3 8 2 rfl (rdA none 7 0 (d5 [])) none 0 0 [] (a5C _ _ _ _) rfl (by decide)) [19] 0 rfl rfl rfl rfl rfl rfl (λ_=>rfl) ?_;rintro v As ⟨q,nn,A0,rfl,hA0,rfl⟩;rw[show Pv.new 3 8 2 []=P0 from rfl]at hA0 ⊢;rw[v6 q nn A0 P0 F0 z0];refine⟨_,rfl,trivial,?_⟩;refine J.q λ_=>?_;have hst1:=a0K q nn A0 P0 hA0 F0 z0 (K 1) 0 (ok0.less (by decide)) (by decide) (by decide) (by decide) s1 rfl;rw[v6 q nn A0 P0 F0 z0]at hst1;refine J.qc (hst1) [20,21,22,23,24,25,26,27,28,29] λ_=>?_;rintro v As ⟨A1,rfl,hA1,rfl⟩;obtain⟨x1,hx1⟩:∃x,(P0.step s1).2=⟨0,x⟩:=⟨(P0.step s1).2.data,by rw[<- e1]⟩;rw[show(P0.step s1).1=P1 from rfl]at hA1 ⊢;rw[v6 q nn A1 P1 B21.Z1 z1,hx1];refine⟨_,rfl,trivial,?_⟩;refine J.q λc18=>?_;have hst2:=a0K q nn A1 P1 hA1 B21.Z1 z1 (K 2) 0 (okz1.less (by decide)) (by rw[pL1];decide) (by rw[pL1];decide) (by rw[pl1];decide) s2 rfl;rw[v6 q nn A1 P1 B21.Z1 z1]at hst2;refine J.qc (hst2) [20,21,22,23,24,25,26,27,28,29] λ_=>?_;rintro v As ⟨A2,rfl,hA2,rfl⟩;obtain⟨x2,hx2⟩:∃x,(P1.step s2).2=⟨x,d1 9⟩:=⟨(P1.step s2).2.err,by rw[<- e2]⟩;rw[show(P1.step s2).1=P2 from rfl]at hA2 ⊢;rw[v6 q nn A2 P2 B21.Z2 z2,hx2];refine⟨_,rfl,trivial,?_⟩;refine J.q λc19=>?_;refine J.cb (b6Q f' p' n t' l' d' F9.1 (K 6) 0 ok9) [3,9,10,11,12,13] ?_;rintro v As ⟨aa,ac,rfl,rfl⟩;refine⟨_,rfl,trivial,?_⟩;rw[show F9.1.all=Fa from rfl,va,wa];refine J.q λ_=>?_;have hz2:P2.Z=some B21.Z2:=z2;have hlog:=a7X q nn A2 P2 (by rw[lg2];decide);rw[hz2]at hlog;refine J.qc (hlog) [20,23] λ_=>?_;rintro v As ⟨la,lc,rfl,rfl⟩;refine⟨_,rfl,trivial,?_⟩;refine J.qp (b0t) [] λ_=>?_;refine J.qn 19 λ_=>?_;refine J.v (.bool true) rfl rfl (λhg aa w he hw=>(y7 (xs:=i9 (d1 7)) (ys:=i9 (d1 7)) rfl rfl rfl he hg rfl Q2 (I4 _) (I4 _) mkD gdD).trans (by rw[eqD _ _ rfl rfl];simp)) ?_;refine J.qn 20 λ_=>?_;refine J.v (.bool true) rfl rfl (λhg aa w he hw=>(y7 (xs:=i9 (d1 7)) (ys:=i9 (d1 7)) rfl rfl rfl he hg rfl Q2 (I4 _) (I4 _) mkD gdD).trans (by rw[eqD _ _ rfl rfl];simp)) ?_;refine J.qp (V3 f n t l p d (F7.1.setN Fa.1.S.N) oka.dv.gd.ok) [1,10] λ_=>?_;rw[show(F7.1.setN Fa.1.S.N).lg=3 from lgA];refine J.qp (a8k mq mg MZ2 (by omega) (a0h hM2 (by decide)) 0 (zd) rfl) [15,16,17,18] λ_=>?_;rw[hM2,q1];refine J.qp (a8k mq mg MZ2 (by omega) (a0h hM2 (by decide)) 0 (d1 1) rfl) [15,16,17,18] λ_=>?_;rw[hM2,q2];refine J.qp (a8k mq mg MZ2 (by omega) (a0h hM2 (by decide)) 0 (d1 2) rfl) [15,16,17,18] λ_=>?_;rw[hM2,q3];refine J.qn 11 λ_=>?_;refine J.v (.bool true) rfl rfl (λhg aa w he hw=>(y7 (xs:=i9 (d1 9)) (ys:=i9 (d1 9)) rfl rfl rfl he hg rfl Q2 (I4 _) (I4 _) mkD gdD).trans (by rw[eqD _ _ rfl rfl];simp)) ?_;refine J.q λ_=>?_;have hrest:=b5y q nn A2 P2 hA2 B21.Z2 z2 50 0 0 (okz2.less (by decide)) okz2o (by rw[pL2];decide) (by rw[pL2];decide) (by rw[lg2];decide) B21.Z3 z3;rw[v6 q nn A2 P2 B21.Z2 z2]at hrest;refine J.qc (hrest) [20,21,22,23,24,25,26,27,28,29] λ_=>?_;rintro v As ⟨A3,rfl,_,rfl⟩;refine⟨_,rfl,trivial,?_⟩;rw[t3];refine J.qp (b6S 3 8 2) [] λ_=>?_;rw[show a9E 3 8 2=616 from rfl];refine J.qr [] λ_=>?_;refine⟨?_,rfl⟩;rw[lg2];rfl
end Go.Proofs.YtnffkcabeecopaaGreat
namespace Go.Proofs.YtnffkcabeecopaaGreat
open Go Go.RowKit
theorem a9l {d b p:Nat} (hd:3<=d/\d<=6) (hb:8<=b/\b<=16) (hp:2<=p/\p<=8):1<=lgN d b p/\lgN d b p<=200/\2*lgN d b p<=(b-5)*(p*(d-2))+1:=by
 have h1:(b-5)*p*(d-2)=(b-5)*(p*(d-2)):=Nat.mul_assoc _ _ _;have h2:3*2<=(b-5)*p:=Nat.mul_le_mul (by omega) hp.1;have h3:6*1<=(b-5)*p*(d-2):=Nat.mul_le_mul h2 (by omega);have h4:(b-5)*p<=11*8:=Nat.mul_le_mul (by omega) hp.2;have h5:(b-5)*p*(d-2)<=88*4:=Nat.mul_le_mul h4 (by omega);unfold lgN;omega
end Go.Proofs.YtnffkcabeecopaaGreat
namespace Go.Proofs.YtnffkcabeecopaaGreat
open Go Go.RowKit
open Go.ChangeShapes Go.WideShapes Go.ChangeAt
end Go.Proofs.YtnffkcabeecopaaGreat
namespace Go.Proofs.YtnffkcabeecopaaGreat
open Go Go.RowKit
open Go.ChangeShapes Go.WideShapes Go.ChangeAt
section
variable {H : Type} {enc : TypeId × Value → H} {w : World} {base : Nat} {spare : Nat → Bool} {held : Bool}
set_option maxRecDepth 100000 in
theorem b5O {fuel:Nat} {cs:List Value} {y:DataW H×List MemPlace} (h:DataW.trod enc Tryz.prog w base spare held fuel 34 cs=some y):∃x:Fl,cs=flC x:=by
 obtain⟨xs,n,_,_,hl,hlen,hf⟩:=DataW.trod_struct Tryz.underlying34 h;have hlen2:cs.length=7:=hl.trans (by kernel_rfl);have hx:xs.length=5:=hlen;have c1:Tryz.prog.cellsOf 3=1:=by kernel_rfl
 have c3:Tryz.prog.cellsOf 32=3:=by kernel_rfl
 match xs,hx with
 | [y0,y1,y2,y3,y4],_=>
  have h0:DataW.trod enc Tryz.prog w base spare held n 3 ((cs.drop 0).take (Tryz.prog.cellsOf 3))=some y0:=hf 0 _ rfl;have h1:DataW.trod enc Tryz.prog w base spare held n 3 ((cs.drop 1).take (Tryz.prog.cellsOf 3))=some y1:=hf 1 _ rfl;have h2:DataW.trod enc Tryz.prog w base spare held n 32 ((cs.drop 2).take (Tryz.prog.cellsOf 32))=some y2:=hf 2 _ rfl;have h3:DataW.trod enc Tryz.prog w base spare held n 3 ((cs.drop 5).take (Tryz.prog.cellsOf 3))=some y3:=hf 3 _ rfl;have h4:DataW.trod enc Tryz.prog w base spare held n 3 ((cs.drop 6).take (Tryz.prog.cellsOf 3))=some y4:=hf 4 _ rfl;rw[c1]at h0 h1 h3 h4;rw[c3]at h2;obtain⟨z0,z1,z2,m,_,_,g0,g1,g2⟩:=Deep.trod_struct3 Tryz.underlying32 h2;simp only[c1]at g0 g1 g2;obtain⟨n0,q0⟩:=z6 Tryz.underlying3 h0;obtain⟨n1,q1⟩:=z6 Tryz.underlying3 h1;obtain⟨n2,q2⟩:=z6 Tryz.underlying3 g0;obtain⟨n3,q3⟩:=z6 Tryz.underlying3 g1;obtain⟨n4,q4⟩:=z6 Tryz.underlying3 g2;obtain⟨n5,q5⟩:=z6 Tryz.underlying3 h3;obtain⟨n6,q6⟩:=z6 Tryz.underlying3 h4;refine⟨⟨n0,n1,n2,n3,n4,n5,n6⟩,?_⟩
  match cs,hlen2 with
  | [_,_,_,_,_,_,_],_=>
   simp at q0 q1 q2 q3 q4 q5 q6;subst q0 q1 q2 q3 q4 q5 q6;rfl
theorem b6C {n:Int} (h:(Lit.int .i64 n).wf=true): -9223372036854775808<=n/\n<=9223372036854775807:=by
 simp[Lit.wf,IntKind.min,IntKind.max,IntKind.bits,IntKind.signed]at h;omega
set_option maxRecDepth 100000 in
theorem a8R {fuel:Nat} {cs:List Value} {y:DataW H×List MemPlace} (h:DataW.trod enc Tryz.prog w base spare held fuel 36 cs=some y):∃x:Stp,(x.data.length=16/\ -9223372036854775808<=x.n/\x.n<=9223372036854775807)/\cs=stC x:=by
 obtain⟨xs,n,_,_,hl,hlen,hf⟩:=DataW.trod_struct Tryz.underlying36 h;have hlen2:cs.length=27:=hl.trans (by kernel_rfl);have hx:xs.length=6:=hlen;have c1:Tryz.prog.cellsOf 3=1:=by kernel_rfl
 have c16:Tryz.prog.cellsOf 30=16:=by kernel_rfl
 have c7:Tryz.prog.cellsOf 34=7:=by kernel_rfl
 match xs,hx with
 | [y0,y1,y2,y3,y4,y5],_=>
  have h0:DataW.trod enc Tryz.prog w base spare held n 3 ((cs.drop 0).take (Tryz.prog.cellsOf 3))=some y0:=hf 0 _ rfl;have h1:DataW.trod enc Tryz.prog w base spare held n 3 ((cs.drop 1).take (Tryz.prog.cellsOf 3))=some y1:=hf 1 _ rfl;have h2:DataW.trod enc Tryz.prog w base spare held n 30 ((cs.drop 2).take (Tryz.prog.cellsOf 30))=some y2:=hf 2 _ rfl;have h3:DataW.trod enc Tryz.prog w base spare held n 3 ((cs.drop 18).take (Tryz.prog.cellsOf 3))=some y3:=hf 3 _ rfl;have h4:DataW.trod enc Tryz.prog w base spare held n 3 ((cs.drop 19).take (Tryz.prog.cellsOf 3))=some y4:=hf 4 _ rfl;have h5:DataW.trod enc Tryz.prog w base spare held n 34 ((cs.drop 20).take (Tryz.prog.cellsOf 34))=some y5:=hf 5 _ rfl;rw[c1]at h0 h1 h3 h4;rw[c16]at h2;rw[c7]at h5;obtain⟨n0,q0⟩:=z6 Tryz.underlying3 h0;obtain⟨n1,q1⟩:=z6 Tryz.underlying3 h1;obtain⟨d,hd,q2⟩:=b5s h2;obtain⟨n3,q3,_,r3⟩:=DataW.trod_int Tryz.underlying3 h3;obtain⟨n4,q4⟩:=z6 Tryz.underlying3 h4;obtain⟨f,q5⟩:=b5O h5;refine⟨⟨n0,n1,d,n3,n4,f⟩,⟨hd,b6C r3⟩,?_⟩
  match cs,hlen2 with
  | [_,_,_,_,_,_,_,_,_,_,_,_,_,_,_,_,_,_,_,_,_,_,_,_,_,_,_],_=>
   simp at q0 q1 q3 q4;simp only[List.drop_succ_cons,List.drop_zero,List.take_succ_cons,List.take_zero,i9]at q2;simp only[List.drop_succ_cons,List.drop_zero,List.take_succ_cons,List.take_zero,flC]at q5;subst q0 q1 q3 q4;simp only[stC,List.cons.injEq]at q2 q5 ⊢;obtain⟨e0,e1,e2,e3,e4,e5,e6,e7,e8,e9,e10,e11,e12,e13,e14,e15,_⟩:=q2;obtain⟨u0,u1,u2,u3,u4,u5,u6,_⟩:=q5;exact⟨trivial,trivial,e0,e1,e2,e3,e4,e5,e6,e7,e8,e9,e10,e11,e12,e13,e14,e15,trivial,trivial,u0,u1,u2,u3,u4,u5,u6,trivial⟩
theorem b6g {fuel:Nat} {cs:List Value} {y:DataW H×List MemPlace} (h:DataW.trod enc Tryz.prog w base spare held fuel 36 cs=some y):∃x:Stp,x.data.length=16/\cs=stC x:=let⟨x,h1,h2⟩:=a8R h;⟨x,h1.1,h2⟩
theorem a8f {held':Bool} {fuel:Nat} {a:Option Addr} {len cap:Nat} {x:DataW H×List MemPlace} (h:DataW.trod enc Tryz.prog w base spare held' fuel 25 [.slice a len cap]=some x):
  ∃l:List Stp,l.length=len/\(∀e∈l,e.data.length=16/\ -9223372036854775808<=e.n/\e.n<=9223372036854775807)/\rdP a 27 len (l.flatMap stC) (hl w):=
 a1n stC (λx=>x.data.length=16/\ -9223372036854775808<=x.n/\x.n<=9223372036854775807) Tryz.underlying25 (by kernel_rfl) (by decide) (λh=>a8R h) h
theorem b0j {held':Bool} {fuel:Nat} {a:Option Addr} {len cap:Nat} {x:DataW H×List MemPlace} (h:DataW.trod enc Tryz.prog w base spare held' fuel 25 [.slice a len cap]=some x):
  ∃l:List Stp,l.length=len/\(∀e∈l,e.data.length=16)/\rdP a 27 len (l.flatMap stC) (hl w):=
 a1n stC (λx=>x.data.length=16) Tryz.underlying25 (by kernel_rfl) (by decide) (λh=>b6g h) h
theorem a6R {held':Bool} {fuel:Nat} {a:Option Addr} {len cap:Nat} {x:DataW H×List MemPlace} (h:DataW.trod enc Tryz.prog w base spare held' fuel 24 [.slice a len cap]=some x):
  ∃l:List Fl,l.length=len/\(∀e∈l,True)/\rdP a 7 len (l.flatMap flC) (hl w):=
 a1n flC (λ_=>True) Tryz.underlying24 (by kernel_rfl) (by decide) (λh=>let⟨x,e⟩:=b5O h;⟨x,trivial,e⟩) h
theorem b0k {held':Bool} {fuel:Nat} {a:Option Addr} {len cap:Nat} {x:DataW H×List MemPlace} (h:DataW.trod enc Tryz.prog w base spare held' fuel 24 [.slice a len cap]=some x):
  ∃l:List Fl,l.length=len/\len<=cap/\rdP a 7 len (l.flatMap flC) (hl w):=by
 obtain⟨l,h1,_,h2⟩:=a6R h;refine⟨l,h1,?_,h2⟩;rcases Deep.open_slice Tryz.underlying24 h with⟨hcs,_⟩ | ⟨a',len',cap',m,n,D,Pl,hcs,hb,hlc,hm,hmm,rfl,hx⟩
 ·simp at hcs;obtain⟨rfl,rfl,rfl⟩:=hcs;exact Nat.le_refl _
 ·simp at hcs;obtain⟨rfl,rfl,rfl⟩:=hcs;exact hlc
end
end Go.Proofs.YtnffkcabeecopaaGreat
namespace Go.Proofs.YtnffkcabeecopaaGreat
open Go
theorem H2 {a b:Bool} (ha:a=true) (hb:b=true):(a&&b)=true:=by rw[ha,hb];rfl
theorem a4T {P:Program} {f:FuncId} {fn:Func} {s:ChangeSpec} {c:OpenClaim} (k0:(c.wf (OpenSpec.ofChange s))=true) (k1:(laidOutB P)=true) (k2:(mapsRowed P)=true) (k3:(fn.params.all (P.readableRec ·))=true) (k4:(namedTie P c.named s.vars)=true) (k5:(c.stops==[])=true) (k6:(P.stops==[])=true) (k7:(c.knobs==[])=true) (k8:(P.stopKnobs==[])=true) (k9:(c.inPlace==P.inPlace f)=true) (k10:(c.unfollowed==P.unfollowed f)=true) (k11:(c.recurses==P.recurses f)=true) (k12:(c.named==P.varsNamed f)=true) (k13:(c.maps==(fn.params.toList++s.plain.varTypes P).any (P.mapsRec ·))=true) (k14:(c.ifaces==(fn.params.toList++s.plain.varTypes P).any (P.ifacesRec ·))=true) (k15:(c.mapsOut==P.mapsAmong fn.resultTypes.toList)=true) (k16:(c.loops==(fn.params.toList++s.plain.varTypes P).any (P.loopsFrom ·))=true) (k17:(c.wideKeys==(fn.params.toList++s.plain.varTypes P++fn.resultTypes.toList).any (P.wideKeysFrom ·))=true) (k18:(s.vars.all (P.varReadable ·))=true) (k19:(fn.resultTypes.all (λt=>P.readableRec t&&decide (t<P.types.size)))=true) (k20:(c.ifacesOut==fn.resultTypes.toList.any (P.ifacesRec ·))=true) (k21:(c.loopsOut==fn.resultTypes.toList.any (P.loopsFrom ·))=true) (k22:(c.plainKeys==P.plainKeys)=true) (k23:(c.shortTexts.isNone)=true) (k24:(P.stopsHeard)=true) (k25:(P.mayEnter)=true) (k26:(c.lifted==P.liftsFinal)=true) (k27:(P.make==some c.make)=true) (k28a:c.domain.isEmpty=true) (k28:(c.kinds==[])=true) (k29:(c.pinned==c.pinnedBy)=true) (k30:(c.veiled==(fn.params.toList++s.plain.varTypes P++fn.resultTypes.toList).any (P.veiledRec ·))=true) (k31:(c.veiledFits P fn.params.toList (fn.params.toList++s.plain.varTypes P++fn.resultTypes.toList))=true):joinedFacts P f fn s c=true:=by
 unfold joinedFacts;rw[if_pos k28a];exact(H2 (H2 (H2 (H2 (H2 (H2 (H2 (H2 (H2 (H2 (H2 (H2 (H2 (H2 (H2 (H2 (H2 (H2 (H2 (H2 (H2 (H2 (H2 (H2 (H2 (H2 (H2 (H2 (H2 (H2 (H2 k0 k1) k2) k3) k4) k5) k6) k7) k8) k9) k10) k11) k12) k13) k14) k15) k16) k17) k18) k19) k20) k21) k22) k23) k24) k25) k26) k27) k28) k29) k30) k31)
theorem Y5:laidOutB Tryz.prog=true:=by kernel_rfl
theorem a9p:mapsRowed Tryz.prog=true:=by kernel_rfl
theorem a9o:(Tryz.prog.stops==[])=true:=by kernel_rfl
theorem a9q:(Tryz.prog.stopKnobs==[])=true:=by kernel_rfl
theorem a9r:Tryz.prog.stopsHeard=true:=by kernel_rfl
theorem a9s:Tryz.prog.mayEnter=true:=by kernel_rfl
end Go.Proofs.YtnffkcabeecopaaGreat
