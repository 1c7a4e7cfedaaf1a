/- Helpers. No condition. -/
import Derived.Test.YtpohajhbfllbbaaGreatD01
import Derived.Test.YtpohajhbfllbbaaGreatD06
import Derived.Test.YtpohajhbfllbbaaGreatD24
import Derived.Test.YtpohajhbfllbbaaGreatD25
import Derived.Test.YtpohajhbfllbbaaGreatD27
import Derived.Test.YtpohajhbfllbbaaGreatD28
set_option maxRecDepth 20000
set_option linter.all false
namespace Go.Proofs.YtpohajhbfllbbaaGreat
open Go Go.RowKit

section
variable {P : Program} {ops : Array Oper}
theorem b1g {o:Oper} {x:Operand} (hx:o.op= .move x) {K:Act->World->Prop} {a:Act} {w:World} (h:sOp P ops o K a w):sOp P ops o (λa' w'=>K a' w'/\w'=w) a w:=by
 unfold sOp at*;split
 ·rename_i hw;rw[if_pos hw]at h;have e:execOp a.eval o=pure (.value (a.eval x)):=by unfold execOp;rw[hx]
  rw[e]at h ⊢;exact⟨h,rfl⟩
 ·rename_i hw;rw[if_neg hw]at h;exact⟨h,rfl⟩
theorem a1s {lt mv:List Nat} (hmv:∀j∈mv,∀o,ops[j]? =some o->∃x,o.op= .move x) {C D:World->Prop} {K:Act->World->Prop} {i:Nat} {oi:Oper} {v:Value} (hi:ops[i]? =some oi) (hsel:∀(j:Nat) (o:Oper) cs b,ops[j]? =some o->o.op≠ .select cs b)
  (hD:(i∉lt/\(∀w,C w->D w)/\∀j∈lt,j∈mv\/Q4 ops 3 j i=true)\/(i∈lt/\∀w,D w)):
  ∀(fuel:Nat) (listed:Array Bool) (a:Act) (w:World),Shut ops listed->
   (∀j oj,ops[j]? =some oj->j≠i->listed.getD j true=false->(∀e∈oj.after,Region.binds .any e=true->e.on≠i)->oi.apart ops oj=true)->
   i∈Region.ready .any ops listed->YldIn P ops D oi v a->D w->(i∉lt->C w)->
   sAny P ops lt C K fuel (listed.setIfInBounds i true) (a.put oi.dst v) w->sAny P ops lt C K (fuel+1) listed a w:=by
 intro fuel
 induction fuel with
 | zero=>
  intro listed a w _ _ hr hy hDw hC H;refine⟨λh=>(by rw[h]at hr;cases hr),λj hj=>?_⟩
  by_cases hji:j=i
  ·subst hji;exact⟨oi,hi,hy.sOp hDw ⟨hC,H⟩⟩
  ·have:=ready_mono hj hji;rw[H.1]at this;cases this
 | succ fuel ih=>
  intro listed a w hsh hfree hr hy hDw hC H;refine⟨λh=>(by rw[h]at hr;cases hr),λj hj=>?_⟩
  by_cases hji:j=i
  ·subst hji;exact⟨oi,hi,hy.sOp hDw ⟨hC,H⟩⟩
  ·obtain⟨oj,hoj,h1⟩:=H.2 j (ready_mono hj hji);obtain⟨hjun,oj',hoj',hall⟩:=mem_ready.1 hj;have:oj'=oj:=by rw[hoj]at hoj';injection hoj' with e;exact e.symm
   subst this;have hiun:listed.getD i false≠true:=λh1=>by
    have h0:=(mem_ready.1 hr).1;rcases Nat.lt_or_ge i listed.size with h' | h'
    ·simp[h']at h0 h1;rw[h0]at h1;cases h1
    ·simp[Array.getElem?_eq_none h']at h1
   have hnot:∀e∈oj'.after,Region.binds .any e=true->e.on≠i:=λe he hb heq=>hiun (heq▸hall e he hb);have h2:=a8k (hfree j oj' hoj hji hjun hnot) (λcs b=>hsel i oi cs b hi) (λcs b=>hsel j oj' cs b hoj) hy h1;have hfree':∀k ok,ops[k]? =some ok->k≠i->(listed.setIfInBounds j true).getD k true=false->
     (∀e∈ok.after,Region.binds .any e=true->e.on≠i)->oi.apart ops ok=true:=λk ok hk hki hun hno=>by
    refine hfree k ok hk hki ?_ hno
    by_cases hjk:j=k
    ·subst hjk;exact hjun
    ·rw[getD_set_ne true hjk]at hun;exact hun
   have h2':sOp P ops oj' (λa' w'=>(YldIn P ops D oi v a'/\(j∉lt->C w')/\sAny P ops lt C K fuel ((listed.setIfInBounds i true).setIfInBounds j true) (a'.put oi.dst v) w')/\(j∈mv->w'=w)) a w:=by
    by_cases hm:j∈mv
    ·obtain⟨x,hx⟩:=hmv j hm oj' hoj;exact(b1g hx h2).mono λ_ _ hh=>⟨hh.1,λ_=>hh.2⟩
    ·exact h2.mono λ_ _ hh=>⟨hh,λh=>absurd h hm⟩
   refine⟨oj',hoj,h2'.mono λa' w' ⟨⟨hy',hC',h3⟩,hww⟩=>⟨hC',?_⟩⟩;have hdc:D w'/\(i∉lt->C w'):=by
    rcases hD with⟨hil,hCD,hw⟩ | ⟨hil,hd⟩
    ·by_cases hm:j∈mv
     ·rw[hww hm];exact⟨hDw,hC⟩
     ·have hjl:j∉lt:=λh=>by
       rcases hw j h with h' | h'
       ·exact hm h'
       ·exact hiun (a0n hsh h' hj)
      exact⟨hCD _ (hC' hjl),λ_=>hC' hjl⟩
    ·exact⟨hd _,λh=>absurd hil h⟩
   refine ih (listed.setIfInBounds j true) a' w' (hsh.set hj) hfree' (ready_mono hr (Ne.symm hji)) hy' hdc.1 hdc.2 ?_;rw[Array.setIfInBounds_comm _ _ hji];exact h3
theorem PT.sound2 {lt mv:List Nat} {C:World->Prop} {K:Act->World->Prop} (hs:Region.noSelect ops=true) (hmv:∀j∈mv,∀o,ops[j]? =some o->∃x,o.op= .move x) (hlt:∀j∈lt,∀i,i<ops.size->i∉lt->j∈mv\/Q4 ops 3 j i=true):∀(t:PT) (fl:Bool) (n:Nat) (listed:Array Bool) (a:Act) (w:World),Shut ops listed->t.ok ops lt fl n listed=true->(t.allLt lt=false->C w)->pT P ops C K t a w->
  (fl=false->sAny P ops lt C K n listed a w)/\(∀i∈t.heads,∃o,ops[i]? =some o/\∃m,n=m+1/\sOp P ops o (λa' w'=>(i∉lt->C w')/\sAny P ops lt C K m (listed.setIfInBounds i true) a' w') a w)
 | .done,fl,n,listed,a,w,hsh,h,hC,hp=>by
  cases fl with
  | true=>simp[PT.ok]at h
  | false=>exact⟨λ_=>a4e (by simpa[PT.ok]using h) hp n,by simp[PT.heads]⟩
 | .take p i t,fl,n,listed,a,w,hsh,h,hC,hp=>by
  cases fl with
  | true=>simp[PT.ok]at h
  | false=>
   cases n with
   | zero=>simp[PT.ok]at h
   | succ n=>
    simp only[PT.ok,Bool.and_eq_true]at h;obtain⟨⟨⟨hr,hf⟩,ht⟩,hp2⟩:=h;refine⟨λ_=>?_,by simp[PT.heads]⟩;obtain⟨o,v,hi,hy,hp⟩:=hp;have hisz:i<ops.size:=(Array.getElem?_eq_some_iff.1 hi).1
    by_cases hil:i∈lt
    ·have hpt:p=true:=by simpa[hil]using hp2
     subst hpt;refine a1s hmv hi (Region.noSelect_spec hs) (.inr ⟨hil,λw h=>by cases h⟩) n listed a w hsh (Region.free_spec hi hf) (by simpa using hr) hy (λh=>by cases h) (λh=>absurd hil h) ((PT.sound2 hs hmv hlt t false n _ _ w (hsh.set (by simpa using hr)) ht (λhe=>hC ?_) hp).1 rfl);simp[PT.allLt,he]
    ·have hCw:C w:=hC (by simp[PT.allLt,hil]);exact a1s hmv hi (Region.noSelect_spec hs) (.inl ⟨hil,λw h _=>h,λj hj=>hlt j hj i hisz hil⟩) n listed a w hsh (Region.free_spec hi hf) (by simpa using hr) hy (λ_=>hCw) (λ_=>hCw) ((PT.sound2 hs hmv hlt t false n _ _ w (hsh.set (by simpa using hr)) ht (λ_=>hCw) hp).1 rfl)
 | .alt l i t m,fl,n,listed,a,w,hsh,h,hC,hp=>by
  cases n with
  | zero=>simp[PT.ok]at h
  | succ n=>
   simp only[PT.ok,Bool.and_eq_true]at h;obtain⟨⟨⟨⟨⟨ht,hm⟩,hall⟩,hl⟩,hlate⟩,hrd⟩:=h;obtain⟨⟨o,hi,hp⟩,hpm⟩:=hp;have hl':l=true↔i∈lt:=by
    have:=eq_of_beq hl;rw[<- this];simp
   have hmm:=(PT.sound2 hs hmv hlt m true (n+1) listed a w hsh hm (λhe=>hC (by simp[PT.allLt,he])) hpm).2;have hheads:∀j∈PT.heads (.alt l i t m),∃o,ops[j]? =some o/\∃m,n+1=m+1/\sOp P ops o (λa' w'=>(j∉lt->C w')/\sAny P ops lt C K m (listed.setIfInBounds j true) a' w') a w:=by
    intro j hj;rcases List.mem_cons.1 hj with rfl | hj
    ·refine⟨o,hi,n,rfl,hp.mono λa' w' hh=>⟨λhn=>hh.1 ?_,(PT.sound2 hs hmv hlt t false n _ a' w' (hsh.set (by simpa using hrd)) ht (λhe=>hh.1 ?_) hh.2).1 rfl⟩⟩
     ·cases l with
      | false=>rfl
      | true=>exact absurd (hl'.1 rfl) hn
     ·cases l with
      | false=>rfl
      | true=>simp only[Bool.not_true,Bool.false_or]at hlate;rw[hlate]at he;cases he
    ·exact hmm j hj
   refine⟨λhfl=>?_,hheads⟩;subst hfl;simp only[Bool.false_or,Bool.and_eq_true,List.all_eq_true]at hall;refine⟨λh0=>absurd hall.1 (by simp[h0]),λj hj=>?_⟩;obtain⟨o,h1,m',h2,h3⟩:=hheads j (by simpa using hall.2 j hj);have:m'=n:=by omega
   subst this;exact⟨o,h1,h3⟩
 | .non,fl,n,listed,a,w,hsh,h,hC,hp=>by
  cases fl with
  | true=>exact⟨(λh=>by cases h),by simp[PT.heads]⟩
  | false=>simp[PT.ok]at h
end
def b2j (o:Oper):Bool:=match o.op with
 | .move _=>true
 | _=>false
def PT.good2 (ops:Array Oper) (lt mv:List Nat) (t:PT):Bool:=Region.noSelect ops&&(mv.all λj=>(ops[j]?.map b2j).getD true)&&lt.all (λj=>mv.contains j||(List.range ops.size).all λi=>lt.contains i||Q4 ops 3 j i)&&t.ok ops lt false ops.size (Array.replicate ops.size false)
theorem a1P {P:Program} {id:Nat} {ops:Array Oper} {C:World->Prop} {Q:Exit->Act->World->Prop} {a:Act} {w:World} (hm:P.follows .mixedOrders=true) (t:PT) (lt mv:List Nat) (ht:t.good2 ops lt mv=true) (hC:C {w with drawn:=w.drawn+1})
  (h:pT P ops C (Q .normal) t a {w with drawn:=w.drawn+1}):(Code.region id ops true).wp P Q a w:=by
 simp only[PT.good2,Bool.and_eq_true,List.all_eq_true,List.mem_range]at ht;obtain⟨⟨⟨h1,h0⟩,h2⟩,h3⟩:=ht;refine wp_region_any hm (sAny.wpAny (λ_ _ h=>h) _ _ _ _ ((PT.sound2 h1 (lt:=lt) (mv:=mv) (λj hj o ho=>?_) (λj hj i hi hn=>?_) t false _ _ a _ (Shut.none _) h3 (λ_=>hC) h).1 rfl))
 ·have:=h0 j hj;rw[ho]at this;simp only[Option.map_some,Option.getD_some]at this;unfold b2j at this;split at this
  ·exact⟨_,by assumption⟩
  ·cases this
 ·have:=h2 j hj;rcases Bool.or_eq_true_iff.1 this with h | h
  ·exact .inl (by simpa using h)
  ·rw[List.all_eq_true]at h;have:=h i (List.mem_range.2 hi);exact .inr (by simpa[hn]using this)
theorem J.plan2 {X:Cx} {K:List KI} {E:Env} {L:List Atom} {id:Nat} {ops:Array Oper} (t:PT) (lt mv ro:List Nat) (hm:X.P.follows .mixedOrders=true) (ht:t.good2 ops lt mv=true) (h:J X (.reg ops (snap L ro) t::K) E L):J X (.code (.region id ops true)::K) E L:=
 λa w hx he hs=>a1P hm t lt mv ht (CAt.snap (w:={w with drawn:=w.drawn+1}) hs ro) (h a _ hx.drew he hs)
theorem H8 (l:List (List UInt8)) (d:List UInt8):t7 l++n6 d=t7 (l++[d]):=by unfold t7;rw[List.flatMap_append];simp
theorem MSl.put17 (d:List UInt8) (o:Bool) (A B:List (List UInt8)) (a1:Option Nat) (c1:Nat) (a2:Option Nat) (c2:Nat) (x:Option Nat×Nat):(MSl.cells ⟨⟨d,o,A,B⟩,a1,c1,a2,c2⟩).set 17 (slv x.1 (A.length+1) x.2)=MSl.cells ⟨⟨d,o,A++[d],B⟩,x.1,x.2,a2,c2⟩:=by
 unfold MSl.cells;dsimp only;rw[List.length_append];rfl
theorem MSl.put18 (d:List UInt8) (o:Bool) (A B:List (List UInt8)) (a1:Option Nat) (c1:Nat) (a2:Option Nat) (c2:Nat) (x:Option Nat×Nat):(MSl.cells ⟨⟨d,o,A,B⟩,a1,c1,a2,c2⟩).set 18 (slv x.1 (B.length+1) x.2)=MSl.cells ⟨⟨d,o,A,B++[d]⟩,a1,c1,x.1,x.2⟩:=by
 unfold MSl.cells;dsimp only;rw[List.length_append];rfl
theorem b1M (q g:Nat) (Z:List MSl) (hn:Z.length<=65536) (hf:∀z∈Z,z.Fine) (i:Int) (d:List UInt8) (hd:d.length=16):FP 42 [pp q,iI i,a3R d] (a5T q g Z) (λv As=>∃Z',v= .bool (Mv.inR (Z.map (·.v)) i)/\As=a5T q g Z'/\Z'.map (·.v)=Mv.write (Z.map (·.v)) i d):=by
 refine FE [2,0,0] Tryz.func42 λX F hX=>?_;refine J.qp (b4Q q g Z.length hn i) [1] λ_=>?_
 by_cases hi:0<=i/\i<(Z.length:Int)
 ·have ha:Mv.adr Z.length g i=some ⟨g,i.toNat*19,none⟩:=by unfold Mv.adr;rw[if_pos hi]
  obtain⟨k,rfl⟩:=Int.eq_ofNat_of_zero_le hi.1;obtain⟨z,hz⟩:∃z,Z[k]? =some z:=⟨_,List.getElem?_eq_getElem (by omega)⟩;obtain⟨f1,f2,f3,f4,f5⟩:=hf z (List.mem_of_getElem? hz);have hin:Mv.inR (Z.map (·.v)) (k:Int)=true:=by unfold Mv.inR;rw[List.length_map,decide_eq_true hi.1,decide_eq_true hi.2];rfl
  rw[ha,Int.toNat_natCast];refine J.qF λ_=>?_;refine J.openAt 3 k rfl rfl (by rw[List.getElem?_map,hz];rfl) rfl ?_;refine J.openAt 4 k rfl rfl (by rw[List.getElem?_map,hz];rfl) rfl ?_;have hl1:k*19+19<=(Z.flatMap MSl.cells).length:=by rw[MSl.flat_len];omega
  have A5:∀y:MSl,(Z.set k y)[k]? =some y:=λy=>by rw[List.getElem?_set,if_pos rfl,if_pos (by omega)]
  refine J.qn 8 λ_=>?_;have hst:((Z.flatMap MSl.cells).take (k*19)++n6 d++(Z.flatMap MSl.cells).drop (k*19+(n6 d).length))=(Z.set k ⟨⟨d,z.v.op,z.v.may,z.v.ever⟩,z.a1,z.c1,z.a2,z.c2⟩).flatMap MSl.cells:=a4H MSl.cells 19 MSl.cells_len (n6 d) hz (by show 16<=19;omega) (y:=⟨⟨d,z.v.op,z.v.may,z.v.ever⟩,z.a1,z.c1,z.a2,z.c2⟩) rfl;refine J.sN (n6 d) 2 ((Z.set k ⟨⟨d,z.v.op,z.v.may,z.v.ever⟩,z.a1,z.c1,z.a2,z.c2⟩).flatMap MSl.cells) ?_ ?_ ?_
  ·show k*19+0+16<=_;omega
  ·rw[Nat.add_zero];exact hst
  refine J.qn 3 λ_=>?_;refine J.s1 2 ((Z.set k ⟨⟨d,false,z.v.may,z.v.ever⟩,z.a1,z.c1,z.a2,z.c2⟩).flatMap MSl.cells) ?_ ?_ ?_
  ·rw[MSl.flat_len,List.length_set,<- MSl.flat_len];omega
  ·exact(u0 MSl.cells 19 MSl.cells_len 16 (y:=⟨⟨d,false,z.v.may,z.v.ever⟩,z.a1,z.c1,z.a2,z.c2⟩) _ (A5 ⟨⟨d,z.v.op,z.v.may,z.v.ever⟩,z.a1,z.c1,z.a2,z.c2⟩) (by omega) rfl).trans (by rw[List.set_set];all_goals rfl)
  refine J.q λ_=>?_;refine J.plan2 (.take true 0 (.take true 1 (.take true 2 (.take true 3 (.take true 4 (.take false 5 (.take false 6 (.take true 9 (.take true 10 (.take true 11 (.take false 12 (.take false 13 (.alt false 7 ((.alt false 8 ((.of [58,62,64,68,75,76,80,87])) (.alt false 14 ((.of [34,62,64,68,75,76,80,87])) .non))) (.alt false 14 ((.of [30,34,62,64,68,75,76,80,87])) .non)))))))))))))) [1,16,17,18,19,20,21] [1] [1,2,3,4,5] (by rw[hX.hP];kernel_rfl) (by kernel_rfl) ?_;have hcell:=λj hj=>S8 MSl.cells 19 MSl.cells_len (A5 ⟨⟨d,false,z.v.may,z.v.ever⟩,z.a1,z.c1,z.a2,z.c2⟩) j hj;refine J.qn 6 λ_=>?_;refine J.vT (slv z.a1 z.v.may.length z.c1) rfl rfl (λhg aa w he hC=>j3 tk rfl rfl he rfl rfl rfl (hC rfl _ (i7 (i:=2) rfl)) (hcell 17 (by omega))) ?_;refine J.qn 4 λ_=>?_;refine J.vT (slv z.a2 z.v.ever.length z.c2) rfl rfl (λhg aa w he hC=>j3 tk rfl rfl he rfl rfl rfl (hC rfl _ (i7 (i:=2) rfl)) (hcell 18 (by omega))) ?_;refine J.qn 1 λ_=>?_;refine J.join (α:=(Option Nat×Nat)×(Option Nat×Nat)) (λ_=>[sv 6 (.bool false)]) (λx=>[.hp F, .pt q 148 [.slice (some ⟨g,0,none⟩) Z.length Z.length], .pt g 150 ((Z.set k ⟨⟨d,false,z.v.may++[d],z.v.ever++[d]⟩,x.1.1,x.1.2,x.2.1,x.2.2⟩).flatMap MSl.cells), .hp (HP.of ((Z.map MSl.m1).set k .emp)), .hp (HP.of ((Z.map MSl.m2).set k .emp)),c9 31 16 x.1.1 (z.v.may.length+1) x.1.2 (t7 (z.v.may++[d])),c9 31 16 x.2.1 (z.v.ever.length+1) x.2.2 (t7 (z.v.ever++[d]))]) (λhj=>?_) (λx=>?_)
  ·refine J.alts ?_ ?_
   ·skip
    refine J.qn 1 λbb=>?_;refine J.alts ?_ ?_
    ·skip
     refine J.ap 6 8 0 (H8 z.v.may d) λa3 c3=>?_;refine J.qn 1 λbc=>?_;refine J.ap 7 9 0 (H8 z.v.ever d) λa4 c4=>?_;refine J.qn 2 λ_=>?_;refine J.s1 2 ((Z.set k ⟨⟨d,false,z.v.may++[d],z.v.ever⟩,a3,c3,z.a2,z.c2⟩).flatMap MSl.cells) ?_ ?_ ?_
     ·rw[MSl.flat_len,List.length_set,<- MSl.flat_len];omega
     ·exact(u0 MSl.cells 19 MSl.cells_len 17 (y:=⟨⟨d,false,z.v.may++[d],z.v.ever⟩,a3,c3,z.a2,z.c2⟩) _ (A5 ⟨⟨d,false,z.v.may,z.v.ever⟩,z.a1,z.c1,z.a2,z.c2⟩) (by omega) (MSl.put17 _ _ _ _ _ _ _ _ (a3,c3))).trans (by rw[List.set_set];all_goals rfl)
     refine J.qn 2 λ_=>?_;refine J.s1 2 ((Z.set k ⟨⟨d,false,z.v.may++[d],z.v.ever++[d]⟩,a3,c3,a4,c4⟩).flatMap MSl.cells) ?_ ?_ ?_
     ·rw[MSl.flat_len,List.length_set,<- MSl.flat_len];omega
     ·exact(u0 MSl.cells 19 MSl.cells_len 18 (y:=⟨⟨d,false,z.v.may++[d],z.v.ever++[d]⟩,a3,c3,a4,c4⟩) _ (A5 ⟨⟨d,false,z.v.may++[d],z.v.ever⟩,a3,c3,z.a2,z.c2⟩) (by omega) (MSl.put18 _ _ _ _ _ _ _ _ (a4,c4))).trans (by rw[List.set_set];all_goals rfl)
     exact J.goto [0,1,2,3,4,6,7] (hj ((a3,c3),(a4,c4))) ⟨rfl,trivial⟩ rfl rfl
    ·skip
     refine J.qn 1 λbc=>?_;refine J.ap 6 8 0 (H8 z.v.may d) λa3 c3=>?_;refine J.ap 7 9 0 (H8 z.v.ever d) λa4 c4=>?_;refine J.qn 2 λ_=>?_;refine J.s1 2 ((Z.set k ⟨⟨d,false,z.v.may++[d],z.v.ever⟩,a3,c3,z.a2,z.c2⟩).flatMap MSl.cells) ?_ ?_ ?_
     ·rw[MSl.flat_len,List.length_set,<- MSl.flat_len];omega
     ·exact(u0 MSl.cells 19 MSl.cells_len 17 (y:=⟨⟨d,false,z.v.may++[d],z.v.ever⟩,a3,c3,z.a2,z.c2⟩) _ (A5 ⟨⟨d,false,z.v.may,z.v.ever⟩,z.a1,z.c1,z.a2,z.c2⟩) (by omega) (MSl.put17 _ _ _ _ _ _ _ _ (a3,c3))).trans (by rw[List.set_set];all_goals rfl)
     refine J.qn 2 λ_=>?_;refine J.s1 2 ((Z.set k ⟨⟨d,false,z.v.may++[d],z.v.ever++[d]⟩,a3,c3,a4,c4⟩).flatMap MSl.cells) ?_ ?_ ?_
     ·rw[MSl.flat_len,List.length_set,<- MSl.flat_len];omega
     ·exact(u0 MSl.cells 19 MSl.cells_len 18 (y:=⟨⟨d,false,z.v.may++[d],z.v.ever++[d]⟩,a3,c3,a4,c4⟩) _ (A5 ⟨⟨d,false,z.v.may++[d],z.v.ever⟩,a3,c3,z.a2,z.c2⟩) (by omega) (MSl.put18 _ _ _ _ _ _ _ _ (a4,c4))).trans (by rw[List.set_set];all_goals rfl)
     exact J.goto [0,1,2,3,4,6,7] (hj ((a3,c3),(a4,c4))) ⟨rfl,trivial⟩ rfl rfl
   ·skip
    refine J.qn 2 λbb=>?_;refine J.ap 6 9 0 (H8 z.v.may d) λa3 c3=>?_;refine J.ap 7 8 0 (H8 z.v.ever d) λa4 c4=>?_;refine J.qn 2 λ_=>?_;refine J.s1 2 ((Z.set k ⟨⟨d,false,z.v.may++[d],z.v.ever⟩,a3,c3,z.a2,z.c2⟩).flatMap MSl.cells) ?_ ?_ ?_
    ·rw[MSl.flat_len,List.length_set,<- MSl.flat_len];omega
    ·exact(u0 MSl.cells 19 MSl.cells_len 17 (y:=⟨⟨d,false,z.v.may++[d],z.v.ever⟩,a3,c3,z.a2,z.c2⟩) _ (A5 ⟨⟨d,false,z.v.may,z.v.ever⟩,z.a1,z.c1,z.a2,z.c2⟩) (by omega) (MSl.put17 _ _ _ _ _ _ _ _ (a3,c3))).trans (by rw[List.set_set];all_goals rfl)
    refine J.qn 2 λ_=>?_;refine J.s1 2 ((Z.set k ⟨⟨d,false,z.v.may++[d],z.v.ever++[d]⟩,a3,c3,a4,c4⟩).flatMap MSl.cells) ?_ ?_ ?_
    ·rw[MSl.flat_len,List.length_set,<- MSl.flat_len];omega
    ·exact(u0 MSl.cells 19 MSl.cells_len 18 (y:=⟨⟨d,false,z.v.may++[d],z.v.ever++[d]⟩,a3,c3,a4,c4⟩) _ (A5 ⟨⟨d,false,z.v.may++[d],z.v.ever⟩,a3,c3,z.a2,z.c2⟩) (by omega) (MSl.put18 _ _ _ _ _ _ _ _ (a4,c4))).trans (by rw[List.set_set];all_goals rfl)
    exact J.goto [0,1,2,3,4,6,7] (hj ((a3,c3),(a4,c4))) ⟨rfl,trivial⟩ rfl rfl
  obtain⟨⟨a3,c3⟩,a4,c4⟩:=x;dsimp only;obtain⟨y,hy⟩:∃y:MSl,y=⟨⟨d,false,z.v.may++[d],z.v.ever++[d]⟩,a3,c3,a4,c4⟩:=⟨_,rfl⟩;rw[<- hy,show c9 31 16 a3 (z.v.may.length+1) c3 (t7 (z.v.may++[d]))=y.m1 from by rw[hy];unfold MSl.m1;rw[List.length_append];rfl,show c9 31 16 a4 (z.v.ever.length+1) c4 (t7 (z.v.ever++[d]))=y.m2 from by rw[hy];unfold MSl.m2;rw[List.length_append];rfl];refine J.closeAt (A:=y.m1) 3 5 k rfl rfl rfl ?_;refine J.closeAt (A:=y.m2) 4 6 k rfl rfl rfl ?_;rw[<- List.map_set,<- List.map_set];refine J.qr [1,2,3,4] λ_=>?_;refine⟨Z.set k y,?_,?_,?_⟩
  ·rw[hin]
  ·unfold a5T;rw[List.length_set];rfl
  ·have hpg:Mv.pg (Z.map (·.v)) (k:Int)=z.v:=by unfold Mv.pg;rw[Int.toNat_natCast,List.getD_eq_getElem?_getD,List.getElem?_map,hz];rfl
   unfold Mv.write;rw[hin,if_pos rfl,hpg,List.map_set,Int.toNat_natCast,hy];rfl
 ·have ha:Mv.adr Z.length g i=none:=by unfold Mv.adr;rw[if_neg hi]
  have hin:Mv.inR (Z.map (·.v)) i=false:=by
   unfold Mv.inR;rw[List.length_map];simp;omega
  rw[ha];refine J.qT λ_=>?_;refine J.qr [1,2,3,4] λ_=>?_;exact⟨Z,by rw[hin],rfl,by unfold Mv.write;rw[hin];rfl⟩
theorem MSl.m1_of {y z:MSl} (ha:y.a1=z.a1) (hc:y.c1=z.c1) (hv:y.v.may=z.v.may):y.m1=z.m1:=by unfold MSl.m1;rw[ha,hc,hv]
theorem MSl.m2_of {y z:MSl} (ha:y.a2=z.a2) (hc:y.c2=z.c2) (hv:y.v.ever=z.v.ever):y.m2=z.m2:=by unfold MSl.m2;rw[ha,hc,hv]
theorem MSl.map_m1 {Z:List MSl} {k:Nat} {z y:MSl} (hz:Z[k]? =some z) (h:y.m1=z.m1):(Z.set k y).map MSl.m1=Z.map MSl.m1:=by rw[List.map_set,h];exact a2v (by rw[List.getElem?_map,hz];rfl)
theorem MSl.map_m2 {Z:List MSl} {k:Nat} {z y:MSl} (hz:Z[k]? =some z) (h:y.m2=z.m2):(Z.set k y).map MSl.m2=Z.map MSl.m2:=by rw[List.map_set,h];exact a2v (by rw[List.getElem?_map,hz];rfl)
theorem b0H {α:Type} {f:α->α} {V Y:List α} {k:Nat} {x:α} (h:Y=(V.take k).map f++V.drop k) (hk:k<V.length) (hx:Y[k]? =some x):Y.set k (f x)=(V.take (k+1)).map f++V.drop (k+1):=by
 have hl:((V.take k).map f).length=k:=by simp;omega
 have hv:V.drop k=V[k]::V.drop (k+1):=List.drop_eq_getElem_cons hk;have he:x=V[k]:=by
  rw[h,List.getElem?_append_right (by omega),hl,Nat.sub_self,hv,List.getElem?_cons_zero]at hx;injection hx with hx;exact hx.symm
 rw[h,hv,List.set_append_right _ _ (by omega),hl,Nat.sub_self,List.set_cons_zero,List.take_succ_eq_append_getElem hk,List.map_append,List.append_assoc,he];rfl
def Mv.cut1 (v:MPv):MPv:={v with op:=true}
theorem b5y (q g:Nat) (Z:List MSl) (hn:Z.length<=65536):FP 43 [pp q] (a5T q g Z) (λv As=>∃Z',v= .tuple #[]/\As=a5T q g Z'/\Z'.map (·.v)=Mv.cut (Z.map (·.v))):=by
 refine FE [2] Tryz.func43 λX F hX=>?_;refine J.qF λ_=>?_;refine J.q λ_=>?_;refine J.l (α:=(Nat×List MSl)) (λz=>z.1<=Z.length/\z.2.length=Z.length/\z.2.map MSl.m1=Z.map MSl.m1/\z.2.map MSl.m2=Z.map MSl.m2/\z.2.map (·.v)=((Z.map (·.v)).take z.1).map Mv.cut1++(Z.map (·.v)).drop z.1) (λz=>[si 10 z.1,si 9 Z.length,⟨0,pp q,2, .tt⟩]) [2] (λz=>[.pt g 150 (z.2.flatMap MSl.cells)]) (λz=>Z.length-z.1) ((0,Z)) (⟨Nat.zero_le _,rfl,rfl,rfl,rfl⟩) λz hI=>?_;obtain⟨k,Y⟩:=z;dsimp only at hI ⊢;obtain⟨hk,hYl,hY1,hY2,hY⟩:=hI;refine J.qd (λ_ h1=>?_) λ_ h1=>?_
 ·simp only[decide_eq_true_eq,Int.ofNat_lt]at h1;obtain⟨z,hz⟩:∃z,Y[k]? =some z:=⟨_,List.getElem?_eq_getElem (by omega)⟩;have hstep:(Y.set k ⟨Mv.cut1 z.v,z.a1,z.c1,z.a2,z.c2⟩).map (·.v)=((Z.map (·.v)).take (k+1)).map Mv.cut1++(Z.map (·.v)).drop (k+1):=by
   rw[List.map_set];exact b0H hY (by simpa using h1) (by rw[List.getElem?_map,hz];rfl)
  refine J.qn 16 λ_=>?_;refine J.s1 2 ((Y.set k ⟨Mv.cut1 z.v,z.a1,z.c1,z.a2,z.c2⟩).flatMap MSl.cells) ?_ ?_ ?_
  ·show 0+(k:Int).toNat*19+16<_;rw[MSl.flat_len];omega
  ·rw[show 0+(k:Int).toNat*19+16=k*19+16 from by omega];exact u0 MSl.cells 19 MSl.cells_len 16 (y:=⟨Mv.cut1 z.v,z.a1,z.c1,z.a2,z.c2⟩) _ hz (by omega) rfl
  refine J.q λ_=>?_;refine J.n ((k+1,Y.set k ⟨Mv.cut1 z.v,z.a1,z.c1,z.a2,z.c2⟩)) (⟨by dsimp only;omega,by dsimp only;rw[List.length_set];exact hYl,(MSl.map_m1 (y:=⟨Mv.cut1 z.v,z.a1,z.c1,z.a2,z.c2⟩) hz (MSl.m1_of rfl rfl rfl)).trans hY1,(MSl.map_m2 (y:=⟨Mv.cut1 z.v,z.a1,z.c1,z.a2,z.c2⟩) hz (MSl.m2_of rfl rfl rfl)).trans hY2,hstep⟩) (by dsimp only;omega) [0,1,2,3,4]
 simp only[decide_eq_false_iff_not,Int.ofNat_lt]at h1;obtain rfl:k=Z.length:=by omega
 refine J.q λ_=>?_;refine J.f [1,2,3,4] ?_;refine⟨Y,rfl,?_,?_⟩
 ·unfold a5T;rw[hYl,hY1,hY2];rfl
 ·rw[hY,List.take_of_length_le (by simp),List.drop_eq_nil_of_le (by simp),List.append_nil];rfl
theorem Fv.allG_keep {k m:Nat}:∀(n:Nat) (i:Int) (Z:Fv),Z.Ok k m->(Fv.allG n i Z).1.Ok k m
 | 0,_,_,h=>h
 | n+1,i,Z,h=>by
  rw[Fv.allG_succ];split
  ·exact(Fv.read_keep h i).1
  ·exact Fv.allG_keep n (i+1) _ (Fv.read_keep h i).1
theorem Fv.all_keep {Z:Fv} {k m:Nat} (h:Z.Ok k m):Z.all.1.Ok k m:=by
 unfold Fv.all;split
 ·exact Fv.allG_keep _ _ _ h
 ·exact Fv.allG_keep _ _ _ h
namespace B21
def d1 (n:UInt8):List UInt8:=n::List.replicate 15 0
def N0:Nand:=Nand.new 3 8 2
def F0:Fv:=Fv.of (y5 N0).1
def F1:Fv×Int:=F0.write 1 (d1 7)
def F2:Fv×Int:=F1.1.trim 2
def F3:Fv×Int:=F2.1.write 3 zd
def F4:Fv×List UInt8×Int:=F3.1.read 1
def F5:Fv×Int:=F4.1.flush
def F6:Fv:=F5.1.setN (F5.1.S.N.setCut (-1) 0)
def F7:Fv×List UInt8×Int:=F6.read 1
def N8:Nand:=F7.1.S.N.onN
def F8:Fv:=Fv.of (y5 N8).1
def F9:Fv×List UInt8×Int:=F8.read 1
def Fa:Fv×List (List UInt8)×Int:=F9.1.all
def P0:Pv:=Pv.new 3 8 2 []
def s1:Stp:=⟨2,0,d1 9,0,0,dF⟩
def s2:Stp:=⟨1,0,zd,0,0,dF⟩
def Z1:Fv:=((F0.setN F0.S.N).write 0 (d1 9)).1
def Z2:Fv:=((Z1.setN Z1.S.N).read 0).1
def Z3:Fv:=((Z2.setN Z2.S.N)).flush.1
theorem m0:(y5 N0).2=0:=by kernel_rfl
theorem v1:F1.2=0:=by kernel_rfl
theorem v2:F2.2=0:=by kernel_rfl
theorem v3:F3.2=3:=by kernel_rfl
theorem v4:F4.2.2=0:=by kernel_rfl
theorem w4:F4.2.1=d1 7:=by kernel_rfl
theorem v5:F5.2=0:=by kernel_rfl
theorem v7:F7.2.2=9:=by kernel_rfl
theorem m8:(y5 N8).2=0:=by kernel_rfl
theorem v9:F9.2.2=0:=by kernel_rfl
theorem w9:F9.2.1=d1 7:=by kernel_rfl
theorem va:Fa.2.1.length=3:=by kernel_rfl
theorem wa:Fa.2.2=0:=by kernel_rfl
theorem z0:P0.Z=some F0:=by kernel_rfl
theorem e1:(P0.step s1).2.err=0:=by kernel_rfl
theorem z1:(P0.step s1).1.Z=some Z1:=by kernel_rfl
def P1:Pv:=(P0.step s1).1
theorem e2:(P1.step s2).2.data=d1 9:=by kernel_rfl
theorem z2:(P1.step s2).1.Z=some Z2:=by kernel_rfl
def P2:Pv:=(P1.step s2).1
theorem z3:(P2.step flS).1.Z=some Z3:=by kernel_rfl
theorem pL1:P1.L=[]:=by kernel_rfl
theorem pl1:P1.log.length=1:=by kernel_rfl
theorem pL2:P2.L=[]:=by kernel_rfl
theorem lg2:P2.log.length=2:=by kernel_rfl
theorem t3:decide ((Z3.ticks 50).2>=0)=true:=by kernel_rfl
theorem lgA:Fa.1.lg=3:=by kernel_rfl
def M0:List MPv:=Mv.new 2
def M1:List MPv:=Mv.cut (Mv.write M0 0 (d1 1))
theorem q1:Mv.may M1 0 zd=true:=by kernel_rfl
theorem q2:Mv.may M1 0 (d1 1)=true:=by kernel_rfl
theorem q3:Mv.may M1 0 (d1 2)=false:=by kernel_rfl
def K (j:Nat):Nat:=(20-j)*10000000000000
theorem ok0:F0.Ok (K 0) 0:=Fv.of_ok (a2S (a2h 3 8 2 rfl _ (by decide))).1 (by decide)
theorem ok1:F1.1.Ok (K 1) 0:=(Fv.write_keep (ok0.less (k':=Fv.cW+(1+K 1)) (by decide)) 1 rfl).1
theorem ok2:F2.1.Ok (K 2) 0:=(Fv.trim_keep (ok1.less (k':=Fv.cW+(1+K 2)) (by decide)) 2).1
theorem ok3:F3.1.Ok (K 3) 0:=(Fv.write_keep (ok2.less (k':=Fv.cW+(1+K 3)) (by decide)) 3 rfl).1
theorem ok4:F4.1.Ok (K 4) 0:=(Fv.read_keep (ok3.less (k':=K 4) (by decide)) 1).1
theorem ok5:F5.1.Ok (K 5) 0:=(Fv.flush_keep (ok4.less (k':=Fv.cW*200+K 5) (by decide))).1
theorem ok6:F6.Ok (K 5) 0:=ok5.setN (Nand.like_cut _ _ _) (ok5.dv.gd.cut (-1) 0 (by decide) (by decide))
theorem ok7:F7.1.Ok (K 5) 0:=(Fv.read_keep ok6 1).1
theorem g8:N8.Gd (Dv.costK+K 6) 0:=(ok7.dv.gd.less (by decide) (Nat.le_refl 0)).on
theorem ok8:F8.Ok (K 6) 0:=Fv.of_ok (a2S g8).1 (by decide)
theorem ok9:F9.1.Ok (K 6) 0:=(Fv.read_keep ok8 1).1
theorem oka:Fa.1.Ok (K 6) 0:=Fv.all_keep ok9
theorem okz1:Z1.Ok (K 1) 0:=(Fv.write_keep ((ok0.setN (Nand.Like.refl _) ok0.dv.gd).less (k':=Fv.cW+(1+K 1)) (by decide)) 0 rfl).1
theorem okz2:Z2.Ok (K 1) 0:=(Fv.read_keep (okz1.setN (Nand.Like.refl _) okz1.dv.gd) 0).1
theorem okz2o:Z2.S.N.off=false:=by kernel_rfl
end B21
end Go.Proofs.YtpohajhbfllbbaaGreat
namespace Go.Proofs.YtpohajhbfllbbaaGreat
open Go Go.RowKit
theorem T3 (q n:Nat) (A:Pad) (P:Pv) (Z:Fv) (hZ:P.Z=some Z):V9 q n A P=[PlQ q n (some Z) A.f (pp A.fp) (slv A.a2 P.log.length A.c2), .pt A.fp 155 [.slice (x9 A.a) P.L.length A.c],rdA (x9 A.a) 7 P.L.length (f9 P.L),c9 40 17 A.a2 P.log.length A.c2 (y9 P.log)]++FvP A.f A.p n A.t A.l A.d Z:=by unfold V9 Z5;rw[hZ];rfl
theorem a2e {Z:List MSl} {M:List MPv} (h:Z.map (·.v)=M) (hM:∀v∈M,v.now.length=16/\(∀x∈v.may,x.length=16)/\(∀x∈v.ever,x.length=16)/\v.may.length<=1000/\v.ever.length<=1000):∀z∈Z,z.Fine:=λz hz=>hM z.v (by rw[<- h];exact List.mem_map.2 ⟨z,hz,rfl⟩)
theorem a9F:FP 44 [] [] (Ps (.bool true) []):=by
 refine FE [] Tryz.func44 λX F hX=>?_;refine J.qp (a9E) [] λ_=>?_;exact J.qx []
open B21
theorem a9B:FP 8 [] [] (Ps (.bool true) []):=by
 have G0:N0.Gd (Dv.costK+0) 0:=a2h 3 8 2 rfl _ (by decide);refine FE [] Tryz.func8 λX F hX=>?_;refine J.qc (a2P 3 8 2 rfl) [] λ_=>?_;rintro v As ⟨n,rfl,rfl⟩;refine⟨_,rfl,trivial,?_⟩;rw[show Nand.new 3 8 2=N0 from rfl];refine J.qc (R8 n N0 0 0 G0 (by decide) rfl) [1] λ_=>?_;rintro v As (⟨_,f,p,t,l,d,rfl,rfl⟩ | ⟨he,rfl,rfl⟩)
 rotate_left
 ·exact absurd m0 he
 refine⟨_,rfl,trivial,?_⟩;rw[show Fv.of (y5 N0).1=F0 from rfl];refine J.qF λ_=>?_;refine J.qp (a0F f p n t l d F0 (K 1) 0 (ok0.less (by decide)) (by decide) 1 (d1 7) rfl) [1,2,3,4,5,6] λ_=>?_;rw[show F0.write 1 (d1 7)=F1 from rfl,v1];refine J.qp (a8H f p n t l d F1.1 (K 2) 0 (ok1.less (by decide)) (by decide) 2) [1,2,3,4,5,6] λ_=>?_;rw[show F1.1.trim 2=F2 from rfl,v2];refine J.qp (a0F f p n t l d F2.1 (K 3) 0 (ok2.less (by decide)) (by decide) 3 zd rfl) [1,2,3,4,5,6] λ_=>?_;rw[show F2.1.write 3 zd=F3 from rfl,v3];refine J.qp (Y8 f p n t l d F3.1 (K 3) 0 ok3 1) [1,2,3,4,5,6] λ_=>?_;rw[show F3.1.read 1=F4 from rfl,v4,w4];refine J.q λc7=>?_;refine J.cb (a3i f p n t l d F4.1 (K 5) 0 (ok4.less (by decide)) (by decide)) [1,2,3,4,5,6] ?_;refine cpq ⟨_,rfl,trivial,?_⟩;rw[show F4.1.flush=F5 from rfl,v5];refine J.qp (a8v n F5.1.S.N (-1) 0) [3] λ_=>?_;refine J.qp (Y8 f p n t l d F6 (K 5) 0 ok6 1) [1,2,3,4,5,6] λ_=>?_;rw[show F6.read 1=F7 from rfl,v7];refine J.q λc10=>?_;refine J.cb (b3T n F7.1.S.N) [3] ?_;refine cpq ⟨_,rfl,trivial,?_⟩;rw[show F7.1.S.N.onN=N8 from rfl];refine J.qc (R8 n N8 (K 6) 0 g8 (by decide) rfl) [3] λ_=>?_;rintro v As (⟨_,f',p',t',l',d',rfl,rfl⟩ | ⟨he,rfl,rfl⟩)
 rotate_left
 ·exact absurd m8 he
 refine⟨_,rfl,trivial,?_⟩;rw[show Fv.of (y5 N8).1=F8 from rfl];refine J.qp (Y8 f' p' n t' l' d' F8 (K 6) 0 ok8 1) [3,9,10,11,12,13] λ_=>?_;rw[show F8.read 1=F9 from rfl,v9,w9];refine J.q λc14=>?_;refine J.cb (b5x 2) [] ?_;rintro v As ⟨mq,mg,MZ,rfl,rfl,hM0⟩;refine⟨_,rfl,trivial,?_⟩;have ml0:MZ.length=2:=by have:=congrArg List.length hM0;rw[List.length_map]at this;exact this
 refine J.qc (b1M mq mg MZ (by omega) (a2e hM0 (by decide)) 0 (d1 1) rfl) [15,16,17,18] λ_=>?_;rintro v As ⟨MZ1,rfl,rfl,hM1⟩;refine⟨_,rfl,trivial,?_⟩;rw[hM0]at hM1;have ml1:MZ1.length=2:=by have:=congrArg List.length hM1;rw[List.length_map]at this;exact this
 refine J.qc (b5y mq mg MZ1 (by omega)) [15,16,17,18] λ_=>?_;rintro v As ⟨MZ2,rfl,rfl,hM2⟩;refine⟨_,rfl,trivial,?_⟩;rw[hM1]at hM2;have hM2:MZ2.map (·.v)=M1:=hM2;have ml2:MZ2.length=2:=by have:=congrArg List.length hM2;rw[List.length_map]at this;exact this
 refine J.q λ_=>?_;refine J.turn1 [] rfl (As:=[rdA none 7 0 (f9 [])]) (λh s=>Sep.one ⟨rfl,λh=>absurd h (by decide)⟩) rfl ?_;refine J.q λ_=>?_;refine J.ca hX (by kernel_rfl) (b5l 3 8 2 rfl (rdA none 7 0 (f9 [])) none 0 0 [] (a5i _ _ _ _) rfl (by decide)) [19] 0 rfl rfl rfl rfl rfl rfl (λ_=>rfl) ?_;rintro v As ⟨q,nn,A0,rfl,hA0,rfl⟩;rw[show Pv.new 3 8 2 []=P0 from rfl]at hA0 ⊢;rw[T3 q nn A0 P0 F0 z0];refine⟨_,rfl,trivial,?_⟩;refine J.q λ_=>?_;have hst1:=a5n q nn A0 P0 hA0 F0 z0 (K 1) 0 (ok0.less (by decide)) (by decide) (by decide) (by decide) s1 rfl;rw[T3 q nn A0 P0 F0 z0]at hst1;refine J.qc (hst1) [20,21,22,23,24,25,26,27,28,29] λ_=>?_;rintro v As ⟨A1,rfl,hA1,rfl⟩;obtain⟨x1,hx1⟩:∃x,(P0.step s1).2=⟨0,x⟩:=⟨(P0.step s1).2.data,by rw[<- e1]⟩;rw[show(P0.step s1).1=P1 from rfl]at hA1 ⊢;rw[T3 q nn A1 P1 B21.Z1 z1,hx1];refine⟨_,rfl,trivial,?_⟩;refine J.q λc18=>?_;have hst2:=a5n q nn A1 P1 hA1 B21.Z1 z1 (K 2) 0 (okz1.less (by decide)) (by rw[pL1];decide) (by rw[pL1];decide) (by rw[pl1];decide) s2 rfl;rw[T3 q nn A1 P1 B21.Z1 z1]at hst2;refine J.qc (hst2) [20,21,22,23,24,25,26,27,28,29] λ_=>?_;rintro v As ⟨A2,rfl,hA2,rfl⟩;obtain⟨x2,hx2⟩:∃x,(P1.step s2).2=⟨x,d1 9⟩:=⟨(P1.step s2).2.err,by rw[<- e2]⟩;rw[show(P1.step s2).1=P2 from rfl]at hA2 ⊢;rw[T3 q nn A2 P2 B21.Z2 z2,hx2];refine⟨_,rfl,trivial,?_⟩;refine J.q λc19=>?_;refine J.cb (b2Q f' p' n t' l' d' F9.1 (K 6) 0 ok9) [3,9,10,11,12,13] ?_;rintro v As ⟨aa,ac,rfl,rfl⟩;refine⟨_,rfl,trivial,?_⟩;rw[show F9.1.all=Fa from rfl,va,wa];refine J.q λ_=>?_;have hz2:P2.Z=some B21.Z2:=z2;have hlog:=b5m q nn A2 P2 (by rw[lg2];decide);rw[hz2]at hlog;refine J.qc (hlog) [20,23] λ_=>?_;rintro v As ⟨la,lc,rfl,rfl⟩;refine⟨_,rfl,trivial,?_⟩;refine J.qp (a9F) [] λ_=>?_;refine J.qn 19 λ_=>?_;refine J.v (.bool true) rfl rfl (λhg aa w he hw=>(C2 (xs:=n6 (d1 7)) (ys:=n6 (d1 7)) rfl rfl rfl he hg rfl U0 (L8 _) (L8 _) mkD gdD).trans (by rw[eqD _ _ rfl rfl];simp)) ?_;refine J.qn 20 λ_=>?_;refine J.v (.bool true) rfl rfl (λhg aa w he hw=>(C2 (xs:=n6 (d1 7)) (ys:=n6 (d1 7)) rfl rfl rfl he hg rfl U0 (L8 _) (L8 _) mkD gdD).trans (by rw[eqD _ _ rfl rfl];simp)) ?_;refine J.qp (J1 f n t l p d (F7.1.setN Fa.1.S.N) oka.dv.gd.ok) [1,10] λ_=>?_;rw[show(F7.1.setN Fa.1.S.N).lg=3 from lgA];refine J.qp (a7A mq mg MZ2 (by omega) (a2e hM2 (by decide)) 0 (zd) rfl) [15,16,17,18] λ_=>?_;rw[hM2,q1];refine J.qp (a7A mq mg MZ2 (by omega) (a2e hM2 (by decide)) 0 (d1 1) rfl) [15,16,17,18] λ_=>?_;rw[hM2,q2];refine J.qp (a7A mq mg MZ2 (by omega) (a2e hM2 (by decide)) 0 (d1 2) rfl) [15,16,17,18] λ_=>?_;rw[hM2,q3];refine J.qn 11 λ_=>?_;refine J.v (.bool true) rfl rfl (λhg aa w he hw=>(C2 (xs:=n6 (d1 9)) (ys:=n6 (d1 9)) rfl rfl rfl he hg rfl U0 (L8 _) (L8 _) mkD gdD).trans (by rw[eqD _ _ rfl rfl];simp)) ?_;refine J.q λ_=>?_;have hrest:=b4C q nn A2 P2 hA2 B21.Z2 z2 50 0 0 (okz2.less (by decide)) okz2o (by rw[pL2];decide) (by rw[pL2];decide) (by rw[lg2];decide) B21.Z3 z3;rw[T3 q nn A2 P2 B21.Z2 z2]at hrest;refine J.qc (hrest) [20,21,22,23,24,25,26,27,28,29] λ_=>?_;rintro v As ⟨A3,rfl,_,rfl⟩;refine⟨_,rfl,trivial,?_⟩;rw[t3];refine J.qp (b5R 3 8 2) [] λ_=>?_;rw[show a8O 3 8 2=616 from rfl];refine J.qr [] λ_=>?_;refine⟨?_,rfl⟩;rw[lg2];rfl
end Go.Proofs.YtpohajhbfllbbaaGreat
namespace Go.Proofs.YtpohajhbfllbbaaGreat
open Go Go.RowKit
theorem a8C {d b p:Nat} (hd:3<=d/\d<=6) (hb:8<=b/\b<=16) (hp:2<=p/\p<=8):1<=lgN d b p/\lgN d b p<=200/\2*lgN d b p<=(b-5)*(p*(d-2))+1:=by
 have h1:(b-5)*p*(d-2)=(b-5)*(p*(d-2)):=Nat.mul_assoc _ _ _;have h2:3*2<=(b-5)*p:=Nat.mul_le_mul (by omega) hp.1;have h3:6*1<=(b-5)*p*(d-2):=Nat.mul_le_mul h2 (by omega);have h4:(b-5)*p<=11*8:=Nat.mul_le_mul (by omega) hp.2;have h5:(b-5)*p*(d-2)<=88*4:=Nat.mul_le_mul h4 (by omega);unfold lgN;omega
theorem a9C:FP 70 [] [] (Ps (.bool true) []):=by
 refine FE [] Tryz.func70 λX F hX=>?_;refine J.qp (a9B) [] λ_=>?_;exact J.qx []
theorem b0K:FP 26 [] [] (Ps (.bool true) []):=by
 refine FE [] Tryz.func26 λX F hX=>?_;refine J.qp (a9C) [] λ_=>?_;exact J.qx []
def D7 (x k:Int):Int:=if x.tmod k<0 then-(x.tmod k)else x.tmod k
theorem Y0 (x:Int) {k:Int} (hk:1<=k):0<=D7 x k/\D7 x k<k:=by
 obtain⟨h2,h1⟩:=a4a x k (by omega);unfold D7;split<;>omega
theorem a6e (x k:Int) (hk:1<=k/\k<=1000000):FP 32 [iI x,iI k] [] (Ps (iI (D7 x k)) []):=by
 obtain⟨h2,h1⟩:=a4a x k (by omega);refine FE [0,0] Tryz.func32 λX F hX=>?_;refine J.qd (λ_ h=>?_) λ_ h=>?_
 ·simp only[decide_eq_true_eq]at h;refine J.qr [] λ_=>?_;unfold D7;rw[if_pos h,Int.zero_sub];exact⟨rfl,rfl⟩
 ·simp only[decide_eq_false_iff_not]at h;refine J.qr [] λ_=>?_;unfold D7;rw[if_neg h];exact⟨rfl,rfl⟩
def Z8 (n:Int):List UInt8:=[u8 n,u8 (n/256),1,u8 (n*7),0,0,0,0,0,0,0,0,0,0,0,0]
theorem b0L (n:Int):(Z8 n).length=16:=rfl
theorem a8f (n:Int) (h0:0<=n/\n<=1000000):FP 71 [iI n] [] (Ps (a3R (Z8 n)) []):=by
 refine FE [0] Tryz.func71 λX F hX=>?_;refine J.qn 7 λ_=>?_;refine J.v (bv (u8 n)) rfl rfl (λhg a w he hs=>by rw[<- a0T n];exact C9 tk rfl rfl he rfl rfl rfl) ?_;refine J.qn 2 λ_=>?_;rw[show n.fdiv (2^min (Int.toNat 8) IntKind.i64.bits)=n/256 from Int.fdiv_eq_ediv_of_nonneg n (by decide:(0:Int)<=256)];refine J.v (bv (u8 (n/256))) rfl rfl (λhg a w he hs=>by rw[<- a0T (n/256)];exact C9 tk rfl rfl he rfl rfl rfl) ?_;refine J.qn 2 λ_=>?_;refine J.v (bv (u8 (n*7))) rfl rfl (λhg a w he hs=>by rw[<- a0T (n*7)];exact C9 tk rfl rfl he rfl rfl rfl) ?_;exact J.qx []
theorem a9c (g0 g1 g2:Int):FP 27 [.agg #[iI g0,iI g1,iI g2]] []
  (λv As=>∃(D B P:Nat) (n f p t l d:Nat) (Z:Fv),v= .tuple #[pp n,pp f]/\(3<=D/\D<=6)/\(8<=B/\B<=16)/\(2<=P/\P<=8)/\Dev D B P Z 200000 (λ_=>zeros16)/\Z.L=[]/\As=FvP f p n t l d Z):=by
 refine FE [0] Tryz.func27 λX F hX=>?_;refine J.qc (b5C g0 g1 g2) [] λ_=>?_;rintro v As ⟨D,B,P,rfl,hD,hB,hP,rfl⟩;refine⟨_,rfl,trivial,?_⟩;have hg:t6 D B P=true:=by simp[t6];omega
 have hgb:=a8C hD hB hP;refine J.qc (a2P D B P hg) [] λ_=>?_;rintro v As ⟨n,rfl,rfl⟩;refine⟨_,rfl,trivial,?_⟩;have hm:=a9z (Dv.Ok.new D B P (lgN D B P) hg 0 (by decide));have hdv:=Dev.new hD hB hP hgb.2.1 hgb.2.2 hg;refine J.q λ_=>?_;refine J.ca hX (by kernel_rfl) (R8 n (Nand.new D B P) 0 0 (a2h D B P hg _ (by decide)) (by decide) rfl) [2] 0 rfl rfl rfl rfl rfl rfl (λ_=>rfl) ?_;rintro v As (⟨_,f,p,t,l,d,rfl,rfl⟩ | ⟨he,rfl,rfl⟩)
 rotate_left
 ·exact absurd (congrArg (·.2) hm) he
 refine⟨_,rfl,trivial,?_⟩;rw[hm];refine J.qF λ_=>?_;refine J.qr [2,3,4,5,6,7] λ_=>?_;exact⟨D,B,P,n,f,p,t,l,d,_,rfl,hD,hB,hP,hdv,rfl,rfl⟩
theorem b3r (f p n t l d:Nat) (Z:Fv) (c:Int) (hc:0<=c/\c<=100000) (lg m:Nat) (hl2:lg<=200) (hm:m<=12) (I:Nat->Fv->Prop) (Jq:Fv->Prop) (h0:I 0 Z)
  (hg:∀i Y,I i Y->Y.lg=(lg:Int)/\Y.S.N.Ok)
  (hw:∀i Y,I i Y->i<lg->Y.Ok (Fv.cW+(1+0)) m/\(Y.write i (Z8 (c+i))).2=0/\I (i+1) (Y.write i (Z8 (c+i))).1)
  (hf:∀Y,I lg Y->Y.Ok (Fv.cW*200+0) m/\Y.flush.2=0/\Jq Y.flush.1):
  FP 28 [pp f,iI c] (FvP f p n t l d Z) (λv As=>∃Y,v= .bool true/\Jq Y/\As=FvP f p n t l d Y):=by
 refine FE [2,0] Tryz.func28 λX F hX=>?_;refine J.q λ_=>?_;refine J.l (α:=(Nat×Fv)) (λz=>z.1<=lg/\I z.1 z.2) (λz=>[si 5 z.1,⟨0,pp f,2, .tt⟩,si 1 c]) [1,2,3,4,5,6] (λz=>FvP f p n t l d z.2) (λz=>lg-z.1) ((0,Z)) (⟨Nat.zero_le _,h0⟩) λz hI=>?_;obtain⟨i,Y⟩:=z;dsimp only at hI ⊢;obtain⟨hi,hY⟩:=hI;have hgY:=hg i Y hY;refine J.qp (J1 f n t l p d Y hgY.2) [1,3] λ_=>?_;rw[hgY.1];refine J.qd (λ_ h1=>?_) λ_ h1=>?_
 ·simp only[decide_eq_true_eq,Int.ofNat_lt]at h1;obtain⟨w1,w2,w3⟩:=hw i Y hY h1;refine J.qp (a8f (c+i) (by omega)) [] λ_=>?_;refine J.qp (a0F f p n t l d Y 0 m w1 hm i (Z8 (c+i)) rfl) [1,2,3,4,5,6] λ_=>?_;rw[w2];refine J.qF λ_=>?_;refine J.q λ_=>?_;refine J.n ((i+1,(Y.write i (Z8 (c+i))).1)) (⟨by dsimp only;omega,w3⟩) (by dsimp only;omega) [0,1,2,3,4,5,6]
 simp only[decide_eq_false_iff_not,Int.ofNat_lt]at h1;obtain rfl:i=lg:=by omega
 obtain⟨f1,f2,f3⟩:=hf Y hY;refine J.qp (a3i f p n t l d Y 0 m f1 hm) [1,2,3,4,5,6] λ_=>?_;rw[f2];refine J.qr [1,2,3,4,5,6] λ_=>?_;exact⟨_,rfl,f3,rfl⟩
theorem a4Y (f p n t l d:Nat) (Z:Fv) (c:Int) (hc:0<=c/\c<=100000) (lg k m:Nat) (hl2:lg<=200) (hO:Z.Ok k m) (hlg:Z.lg=(lg:Int)) (hall:Z.all=(Z,(List.range lg).map (λi:Nat=>Z8 (c+i)),0)):
  FP 30 [pp f,iI c] (FvP f p n t l d Z) (Ps (.bool true) (FvP f p n t l d Z)):=by
 refine FE [2,0] Tryz.func30 λX F hX=>?_;refine J.qc (b2Q f p n t l d Z k m hO) [1,2,3,4,5,6] λ_=>?_;rintro v As ⟨a,cc,rfl,rfl⟩;refine⟨_,rfl,trivial,?_⟩;rw[hall];dsimp only;obtain⟨Q,hQ⟩:∃Q,(List.range lg).map (λi:Nat=>Z8 (c+i))=Q:=⟨_,rfl⟩;have hQl:Q.length=lg:=by rw[<- hQ];simp
 rw[hQ,hQl];refine J.q λ_=>?_;refine J.l (α:=Nat) (λi=>i<=lg) (λi=>[si 7 i,sv 5 (slv a lg cc),si 6 0,⟨0,pp f,2, .tt⟩,si 1 c]) [] (λi=>[]) (λi=>lg-i) (0) (Nat.zero_le _) λi hI=>?_;refine J.qd (λ_ h1=>?_) λ_ h1=>?_
 ·simp only[decide_eq_true_eq,Int.ofNat_lt]at h1;have hx:Q[i]? =some (Z8 (c+i)):=by rw[<- hQ,List.getElem?_map,List.getElem?_range h1];rfl
  refine J.know (λh' s=>i9 (c:=(a,cc)) (by omega) (s.get (i:=7) rfl)) λhg=>?_;obtain⟨g,rfl⟩:=hg;refine J.pq (.of [0,4,8,13,16,20,24,30,32]) [] [7] λ_ _=>?_;refine J.qn 4 λ_=>?_;refine J.vT (a3R (Z8 (c+i))) rfl rfl (λhg aa w he hC=>n8 tk rfl rfl he rfl rfl rfl (hC rfl _ (i7 (i:=7) rfl)) (by rw[show 0+(i:Int).toNat*16=i*16 from by omega];exact X2 n6 16 (λ_=>rfl) Q i _ hx) rfl) ?_;refine J.qp (a8f (c+i) (by omega)) [] λ_=>?_;refine J.vT (.bool false) rfl rfl (λhg aa w he hC=>(a4q (xs:=n6 (Z8 (c+i))) (ys:=n6 (Z8 (c+i))) rfl rfl rfl he rfl rfl U0 (L8 _) (L8 _) mkD gdD).trans (by rw[eqD _ _ rfl rfl,decide_eq_true rfl];rfl)) ?_;refine J.qF λ_=>?_;refine J.q λ_=>?_;refine J.n (i+1) (h1) (by omega) [0,1,2,3,4,5,6,7]
 refine J.qp (J1 f n t l p d Z hO.dv.gd.ok) [1,3] λ_=>?_;rw[hlg];refine J.qr [1,2,3,4,5,6] λ_=>?_;exact⟨by simp,rfl⟩
theorem b0J (f p n t l d:Nat) {D B P k:Nat} {Z:Fv} {c0:Nat->List UInt8} (c:Int) (hc:0<=c/\c<=100000) (h:Dev D B P Z (400+k) c0):
  Fn Tryz.prog 28 [.pointer (some ⟨f,0,none⟩), .int .i64 c] (FvP f p n t l d Z) (λv As=>∃Y,v= .bool true/\(Dev D B P Y k (λj=>Z8 (c+j))/\Y.L=[])/\As=FvP f p n t l d Y):=by
 have hlg:=(Fv.lg_bd (F:=Z) h.ok.dv.gd.ok).2;rw[h.lg]at hlg;have hUN:UN=Fv.cW+1:=rfl;refine b3r f p n t l d Z c hc (lgN D B P) 0 (by omega) (by decide) (λi Y=>Dev D B P Y (200-i+200+k) (λj=>if j<i then Z8 (c+j)else c0 j)) (λY=>Dev D B P Y k (λj=>Z8 (c+j))/\Y.L=[]) ?_ (λi Y hY=>⟨hY.lg,hY.ok.dv.gd.ok⟩) (λi Y hY hi=>?_) λY hY=>?_
 ·exact(h.less (by omega)).congr λi _=>by rw[if_neg (by omega)]
 ·have hY:Dev D B P Y ((200-(i+1)+200+k)+1) _:=hY.less (by omega);have hok:=hY.ok.less (k':=UN) (by rw[Nat.mul_succ];omega);obtain⟨w1,w2,_⟩:=hY.write hi (b0L (c+i));exact⟨hok,w1,w2.congr λj _=>by
   by_cases e:j=i
   ·rw[if_pos e,if_pos (by omega),e]
   ·rw[if_neg e]
    by_cases e2:j<i
    ·rw[if_pos e2,if_pos (by omega)]
    ·rw[if_neg e2,if_neg (by omega)]⟩
 ·have hY:Dev D B P Y (k+200) _:=hY.less (by omega);have hok:=hY.ok.less (k':=Fv.cW*200+0) (by rw[Nat.mul_add];have:=a7h;omega);obtain⟨w1,w2,w3⟩:=hY.flush;exact⟨hok,w1,w2.congr λj hj=>if_pos hj,w3⟩
namespace FdCh
variable {fd : Nat} {N N' : Nand}
end FdCh
namespace DevF
variable {fd : Int} {D B P n m : Nat} {F : Fv} {c : Nat → List UInt8}
end DevF
theorem a1l {α:Type} {p q:α->Bool}:∀{K:List α},(∀x∈K,p x=true->q x=true)->∀{x:α},x∈K->p x=false->q x=true->K.countP p<K.countP q
 | [],_,x,hx,_,_=>by cases hx
 | y::K,h,x,hx,h1,h2=>by
  rw[List.countP_cons,List.countP_cons];have hy:=h y (by simp);rcases List.mem_cons.1 hx with rfl | hx
  ·have:=List.countP_mono_left (l:=K) λz hz=>h z (by simp[hz]);rw[h1,h2];simp only[Bool.false_eq_true,if_false,if_true];omega
  ·have:=a1l (λz hz=>h z (by simp[hz])) hx h1 h2;cases hp:p y with
   | false=>simp only[Bool.false_eq_true,if_false];omega
   | true=>rw[hy hp];simp only[if_true];omega
structure Gh (die:Nat) (O:Int->Bool) (S:Dv):Prop where
 used:∀b,O b=true->S.t.has b=true/\(S.t.at_ b).used=true
 ent:∀i a,Tb.look S.T.at_ i=some a->L.has a.mask (die:Nat)=true->O a.block=true
def a9v (O:Int->Bool) (T:Tb) (i:Int):Bool:=match Tb.look T.at_ i with | some a=>O a.block | none=>false
def a9u (O:Int->Bool) (T:Tb) (K:List Int):Nat:=K.countP (a9v O T)
def pot (O:Int->Bool) (S:Dv) (K:List Int) (P:Nat):Nat:=if O S.op=true then K.length+((P:Int)-S.row).toNat else a9u O S.T K
theorem a5r (O:Int->Bool) (T:Tb) (K:List Int):a9u O T K<=K.length:=List.countP_le_length
theorem R1 {O:Int->Bool} {T:Tb} {i:Int} {a:AtV} (h:Tb.look T.at_ i=some a):a9v O T i=O a.block:=by unfold a9v;rw[h]
def NoD (die:Nat) (S:Dv):Prop:=∀i a,Tb.look S.T.at_ i=some a->L.has a.mask (die:Nat)=false
namespace Gh
variable {die : Nat} {O : Int → Bool} {fd : Int} {U V : Dv} {K I : List Int} {P : Nat}
theorem same (h:Gh die O U) (hT:V.T=U.T) (hop:V.op=U.op) (hrow:V.row=U.row) (hhas:∀b,V.t.has b=U.t.has b) (hi:Inv fd V):∃O',Gh die O' V/\pot O' V K P<=pot O U K P:=by
 refine⟨λb=>O b&&(V.t.at_ b).used,⟨λb hb=>?_,λi a ha hd=>?_⟩,?_⟩
 ·have hb:=Bool.and_eq_true _ _▸hb;exact⟨by rw[hhas];exact(h.used b hb.1).1,hb.2⟩
 ·have h1:=(hi.st i a ha).used;rw[hT]at ha;show(O a.block&&(V.t.at_ a.block).used)=true;rw[h.ent i a ha hd,h1];rfl
 ·unfold pot;rw[hop,hrow,hT];have hmono:a9u (λb=>O b&&(V.t.at_ b).used) U.T K<=a9u O U.T K:=by
   refine List.countP_mono_left λi _ hx=>?_;unfold a9v at hx ⊢;split at hx
   ·exact(Bool.and_eq_true _ _▸hx).1
   ·cases hx
  cases hO:O U.op with
  | false=>
   rw[if_neg (show¬(O U.op&&(V.t.at_ U.op).used)=true by rw[hO];simp),if_neg Bool.false_ne_true];exact hmono
  | true=>
   have hu:(V.t.at_ U.op).used=true:=by
    rcases hi.op with e | e
    ·rw[hop]at e;have:=(h.used _ hO).1;have:=(Tl.has_iff.1 this).1;omega
    ·rw[<- hop];exact e.used
   rw[if_pos (show(O U.op&&(V.t.at_ U.op).used)=true by rw[hO,hu];rfl),if_pos rfl];exact Nat.le_refl _
theorem where_ (h:Gh die O U) {b r:Int} (hf:FreshP U b r) (hO:O b=true):b=U.op/\U.row<=r:=by
 rcases hf with h1 | ⟨_,h2⟩
 ·exact h1
 ·rw[(h.used b hO).2]at h2;cases h2
theorem crd (h:Gh die O U) (hc:Crd fd U I V) (hd:U.N.dead.getD die false=true):Gh die O V/\pot O V K P<=pot O U K P:=by
 refine⟨⟨λb hb=>⟨by rw[hc.has];exact(h.used b hb).1,(hc.sb b (h.used b hb).1).2 (h.used b hb).2⟩,λi a ha hm=>?_⟩,?_⟩
 ·by_cases hi:i∈I
  ·obtain⟨a',a1,_,a3⟩:=hc.pos i hi;rw[ha]at a1;injection a1 with a1;rw[<- a1]at a3;rw[a3 die hd]at hm;cases hm
  ·rw[hc.rest i hi]at ha;exact h.ent i a ha hm
 ·unfold pot;cases hO:O V.op with
  | true=>
   obtain⟨e1,e2⟩:=h.where_ (hc.back V.op V.row (.inl ⟨rfl,Int.le_refl _⟩)) hO;rw[e1]at hO;rw[hO,if_pos rfl,if_pos rfl];omega
  | false=>
   rw[if_neg Bool.false_ne_true];have hle:=a5r O V.T K;cases hU:O U.op with
   | true=>rw[if_pos rfl];omega
   | false=>
    rw[if_neg Bool.false_ne_true];refine List.countP_mono_left λi _ hx=>?_
    by_cases hi:i∈I
    ·obtain⟨a',a1,a2,_⟩:=hc.pos i hi;rw[R1 a1]at hx;rw[(h.where_ a2 hx).1,hU]at hx;cases hx
    ·unfold a9v at hx ⊢;rw[hc.rest i hi]at hx;exact hx
theorem crd_lt (h:Gh die O U) (hc:Crd fd U I V) (hP:V.N.pages=P) {i:Int} {a:AtV} (hi:i∈I) (hK:i∈K) (ha:Tb.look U.T.at_ i=some a) (hOa:O a.block=true):pot O V K P+1<=pot O U K P:=by
 have hin:I≠[]:=λe=>by rw[e]at hi;cases hi
 obtain⟨a',a1,a2,_⟩:=hc.pos i hi;unfold pot;cases hO:O V.op with
 | true=>
  obtain⟨e1,e2⟩:=h.where_ (hc.fresh hin) hO;have hrow:V.row<=P:=by
   rcases hc.inv.op with e | e
   ·rw[e]at hO;have:=(Tl.has_iff.1 (h.used _ hO).1).1;omega
   ·have:=e.row.2;rw[hP]at this;exact this
  rw[e1]at hO;rw[hO,if_pos rfl,if_pos rfl];omega
 | false=>
  rw[if_neg Bool.false_ne_true];have hrw:a'.row<P:=by
   obtain⟨l,g1,_⟩:=(hc.inv.st i a' a1).row;have:=g1.is.row.2;rw[hP]at this;exact this
  cases hU:O U.op with
  | true=>
   rw[if_pos rfl]
   by_cases hr:U.row<P
   ·have:=a5r O V.T K;omega
   ·have h1:a9u O V.T K<K.countP λ_=>true:=a1l (λ_ _ _=>rfl) hK (by
     rw[R1 a1];cases hx:O a'.block with
     | false=>rfl
     | true=>have:=(h.where_ a2 hx).2;omega) rfl
    rw[List.countP_true]at h1;omega
  | false=>
   rw[if_neg Bool.false_ne_true];refine a1l (λj _ hx=>?_) hK ?_ ((R1 ha).trans hOa)
   ·by_cases hj:j∈I
    ·obtain⟨b',b1,b2,_⟩:=hc.pos j hj;rw[R1 b1]at hx;rw[(h.where_ b2 hx).1,hU]at hx;cases hx
    ·unfold a9v at hx ⊢;rw[hc.rest j hj]at hx;exact hx
   ·rw[R1 a1];cases hx:O a'.block with
    | false=>rfl
    | true=>rw[(h.where_ a2 hx).1,hU]at hx;cases hx
end Gh
namespace Mvd
variable {die : Nat} {fd : Int} {S V : Dv} {K : List Int} {P : Nat}
theorem dead (h:Mvd fd S V):V.N.dead=S.N.dead:=by
 induction h with
 | nil=>rfl
 | same _ _ _ _ _ h5 _ ih=>exact h5.trans ih
 | crd _ hc ih=>exact hc.dead.trans ih
theorem gh (h:Mvd fd S V) (hd:S.N.dead.getD die false=true) {O:Int->Bool} (hG:Gh die O S):∃O',Gh die O' V/\pot O' V K P<=pot O S K P:=by
 induction h with
 | nil=>exact⟨O,hG,Nat.le_refl _⟩
 | same _ h1 h2 h3 h4 _ h6 ih=>
  obtain⟨O',g1,g2⟩:=ih;obtain⟨O2,q1,q2⟩:=g1.same (K:=K) (P:=P) h1 h2 h3 h4 h6;exact⟨O2,q1,Nat.le_trans q2 g2⟩
 | crd hm hc ih=>
  obtain⟨O',g1,g2⟩:=ih;obtain⟨q1,q2⟩:=g1.crd (K:=K) (P:=P) hc (by rw[hm.dead];exact hd);exact⟨O',q1,Nat.le_trans q2 g2⟩
theorem crd_noD {U:Dv} {I:List Int} (hn:NoD die U) (hc:Crd fd U I V) (hd:U.N.dead.getD die false=true):NoD die V:=λi a ha=>by
 by_cases hi:i∈I
 ·obtain⟨a',a1,_,a3⟩:=hc.pos i hi;rw[ha]at a1;injection a1 with a1;rw[a1];exact a3 die hd
 ·rw[hc.rest i hi]at ha;exact hn i a ha
theorem noD (h:Mvd fd S V) (hd:S.N.dead.getD die false=true) (hn:NoD die S):NoD die V:=by
 induction h with
 | nil=>exact hn
 | same _ h1 _ _ _ _ _ ih=>exactλi a ha=>ih i a (by rw[<- h1];exact ha)
 | crd hm hc ih=>exact crd_noD ih hc (by rw[hm.dead];exact hd)
end Mvd
end Go.Proofs.YtpohajhbfllbbaaGreat
