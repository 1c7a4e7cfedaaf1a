/- Helpers. No condition. -/
import Derived.Test.YtmafiplddapokaaGreatT12
set_option maxRecDepth 20000
set_option linter.all false
namespace Go.Proofs.YtmafiplddapokaaGreat
open Go Go.RowKit

section
variable {P : Program} {ops : Array Oper}
theorem b7j {o:Oper} {x:Operand} (hx:o.op= .move x) {K:Act->World->Prop} {a:Act} {w:World} (h:sOp P ops o K a w):sOp P ops o (λa' w'=>K a' w'/\w'=w) a w:=by
 unfold sOp at*;split
 ·rename_i hw;rw[d7 hw]at h;have e:execOp a.eval o=pure (.value (a.eval x)):=by unfold execOp;rw[hx]
  rw[e]at h ⊢;exact⟨h,rfl⟩
 ·rename_i hw;rw[d4 hw]at h;exact⟨h,rfl⟩
theorem a6G {lt mv:List Nat} (hmv:∀j∈mv,∀o,ops[j]? =some o->∃x,o.op= .move x) {C D:World->Prop} {K:Act->World->Prop} {i:Nat} {oi:Oper} {v:Value} (hi:ops[i]? =some oi) (hsel:∀(j:Nat) (o:Oper) cs b,ops[j]? =some o->o.op≠ .select cs b)
  (hD:(i∉lt/\(∀w,C w->D w)/\∀j∈lt,j∈mv\/a2M ops 3 j i=true)\/(i∈lt/\∀w,D w)):
  ∀(fuel:Nat) (listed:Array Bool) (a:Act) (w:World),Shut ops listed->
   (∀j oj,ops[j]? =some oj->j≠i->listed.getD j true=false->(∀e∈oj.after,Region.binds .any e=true->e.on≠i)->oi.apart ops oj=true)->
   i∈Region.ready .any ops listed->YldIn P ops D oi v a->D w->(i∉lt->C w)->
   sAny P ops lt C K fuel (listed.setIfInBounds i true) (a.put oi.dst v) w->sAny P ops lt C K (fuel+1) listed a w:=by
 intro fuel
 induction fuel with
 | zero=>
  intro listed a w _ _ hr hy hDw hC H;refine⟨λh=>(by rw[h]at hr;cases hr),λj hj=>?_⟩
  by_cases hji:j=i
  ·subst hji;exact⟨oi,hi,hy.sOp hDw ⟨hC,H⟩⟩
  ·have:=ready_mono hj hji;rw[H.1]at this;cases this
 | succ fuel ih=>
  intro listed a w hsh hfree hr hy hDw hC H;refine⟨λh=>(by rw[h]at hr;cases hr),λj hj=>?_⟩
  by_cases hji:j=i
  ·subst hji;exact⟨oi,hi,hy.sOp hDw ⟨hC,H⟩⟩
  ·obtain⟨oj,hoj,h1⟩:=H.2 j (ready_mono hj hji);obtain⟨hjun,oj',hoj',hall⟩:=mem_ready.1 hj;have:oj'=oj:=by rw[hoj]at hoj';injection hoj' with e;exact e.symm
   subst this;have hiun:listed.getD i false≠true:=λh1=>by
    have h0:=(mem_ready.1 hr).1;rcases L8 i listed.size with h' | h'
    ·simp[h']at h0 h1;rw[h0]at h1;cases h1
    ·simp[Q7 h']at h1
   have hnot:∀e∈oj'.after,Region.binds .any e=true->e.on≠i:=λe he hb heq=>hiun (heq▸hall e he hb);have h2:=b4k (hfree j oj' hoj hji hjun hnot) (λcs b=>hsel i oi cs b hi) (λcs b=>hsel j oj' cs b hoj) hy h1;have hfree':∀k ok,ops[k]? =some ok->k≠i->(listed.setIfInBounds j true).getD k true=false->
     (∀e∈ok.after,Region.binds .any e=true->e.on≠i)->oi.apart ops ok=true:=λk ok hk hki hun hno=>by
    refine hfree k ok hk hki ?_ hno
    by_cases hjk:j=k
    ·subst hjk;exact hjun
    ·rw[getD_set_ne true hjk]at hun;exact hun
   have h2':sOp P ops oj' (λa' w'=>(YldIn P ops D oi v a'/\(j∉lt->C w')/\sAny P ops lt C K fuel ((listed.setIfInBounds i true).setIfInBounds j true) (a'.put oi.dst v) w')/\(j∈mv->w'=w)) a w:=by
    by_cases hm:j∈mv
    ·obtain⟨x,hx⟩:=hmv j hm oj' hoj;exact(b7j hx h2).mono λ_ _ hh=>⟨hh.1,λ_=>hh.2⟩
    ·exact h2.mono λ_ _ hh=>⟨hh,λh=>absurd h hm⟩
   refine⟨oj',hoj,h2'.mono λa' w' ⟨⟨hy',hC',h3⟩,hww⟩=>⟨hC',?_⟩⟩;have hdc:D w'/\(i∉lt->C w'):=by
    rcases hD with⟨hil,hCD,hw⟩ | ⟨hil,hd⟩
    ·by_cases hm:j∈mv
     ·rw[hww hm];exact⟨hDw,hC⟩
     ·have hjl:j∉lt:=λh=>by
       rcases hw j h with h' | h'
       ·exact hm h'
       ·exact hiun (a5m hsh h' hj)
      exact⟨hCD _ (hC' hjl),λ_=>hC' hjl⟩
    ·exact⟨hd _,λh=>absurd hil h⟩
   refine ih (listed.setIfInBounds j true) a' w' (hsh.set hj) hfree' (ready_mono hr (Ne.symm hji)) hy' hdc.1 hdc.2 ?_;rw[Array.setIfInBounds_comm _ _ hji];exact h3
theorem PT.sound2 {lt mv:List Nat} {C:World->Prop} {K:Act->World->Prop} (hs:Region.noSelect ops=true) (hmv:∀j∈mv,∀o,ops[j]? =some o->∃x,o.op= .move x) (hlt:∀j∈lt,∀i,i<ops.size->i∉lt->j∈mv\/a2M ops 3 j i=true):∀(t:PT) (fl:Bool) (n:Nat) (listed:Array Bool) (a:Act) (w:World),Shut ops listed->t.ok ops lt fl n listed=true->(t.allLt lt=false->C w)->pT P ops C K t a w->
  (fl=false->sAny P ops lt C K n listed a w)/\(∀i∈t.heads,∃o,ops[i]? =some o/\∃m,n=m+1/\sOp P ops o (λa' w'=>(i∉lt->C w')/\sAny P ops lt C K m (listed.setIfInBounds i true) a' w') a w)
 | .done,fl,n,listed,a,w,hsh,h,hC,hp=>by
  cases fl with
  | true=>simp[PT.ok]at h
  | false=>exact⟨λ_=>a9J (by simpa[PT.ok]using h) hp n,by simp[PT.heads]⟩
 | .take p i t,fl,n,listed,a,w,hsh,h,hC,hp=>by
  cases fl with
  | true=>simp[PT.ok]at h
  | false=>
   cases n with
   | zero=>simp[PT.ok]at h
   | succ n=>
    simp only[PT.ok,f8]at h;obtain⟨⟨⟨hr,hf⟩,ht⟩,hp2⟩:=h;refine⟨λ_=>?_,by simp[PT.heads]⟩;obtain⟨o,v,hi,hy,hp⟩:=hp;have hisz:i<ops.size:=(Array.getElem?_eq_some_iff.1 hi).1
    by_cases hil:i∈lt
    ·have hpt:p=true:=by simpa[hil]using hp2
     subst hpt;refine a6G hmv hi (Region.noSelect_spec hs) (.inr ⟨hil,λw h=>by cases h⟩) n listed a w hsh (Region.free_spec hi hf) (by simpa using hr) hy (λh=>by cases h) (λh=>absurd hil h) ((PT.sound2 hs hmv hlt t false n _ _ w (hsh.set (by simpa using hr)) ht (λhe=>hC ?_) hp).1 rfl);simp[PT.allLt,he]
    ·have hCw:C w:=hC (by simp[PT.allLt,hil]);exact a6G hmv hi (Region.noSelect_spec hs) (.inl ⟨hil,λw h _=>h,λj hj=>hlt j hj i hisz hil⟩) n listed a w hsh (Region.free_spec hi hf) (by simpa using hr) hy (λ_=>hCw) (λ_=>hCw) ((PT.sound2 hs hmv hlt t false n _ _ w (hsh.set (by simpa using hr)) ht (λ_=>hCw) hp).1 rfl)
 | .alt l i t m,fl,n,listed,a,w,hsh,h,hC,hp=>by
  cases n with
  | zero=>simp[PT.ok]at h
  | succ n=>
   simp only[PT.ok,f8]at h;obtain⟨⟨⟨⟨⟨ht,hm⟩,hall⟩,hl⟩,hlate⟩,hrd⟩:=h;obtain⟨⟨o,hi,hp⟩,hpm⟩:=hp;have hl':l=true↔i∈lt:=by
    have:=a3i hl;rw[<- this];simp
   have hmm:=(PT.sound2 hs hmv hlt m true (n+1) listed a w hsh hm (λhe=>hC (by simp[PT.allLt,he])) hpm).2;have hheads:∀j∈PT.heads (.alt l i t m),∃o,ops[j]? =some o/\∃m,n+1=m+1/\sOp P ops o (λa' w'=>(j∉lt->C w')/\sAny P ops lt C K m (listed.setIfInBounds j true) a' w') a w:=by
    intro j hj;rcases List.mem_cons.1 hj with rfl | hj
    ·refine⟨o,hi,n,rfl,hp.mono λa' w' hh=>⟨λhn=>hh.1 ?_,(PT.sound2 hs hmv hlt t false n _ a' w' (hsh.set (by simpa using hrd)) ht (λhe=>hh.1 ?_) hh.2).1 rfl⟩⟩
     ·cases l with
      | false=>rfl
      | true=>exact absurd (hl'.1 rfl) hn
     ·cases l with
      | false=>rfl
      | true=>simp only[a2r,D6]at hlate;rw[hlate]at he;cases he
    ·exact hmm j hj
   refine⟨λhfl=>?_,hheads⟩;subst hfl;simp only[D6,f8,E8]at hall;refine⟨λh0=>absurd hall.1 (by simp[h0]),λj hj=>?_⟩;obtain⟨o,h1,m',h2,h3⟩:=hheads j (by simpa using hall.2 j hj);have:m'=n:=by omega
   subst this;exact⟨o,h1,h3⟩
 | .non,fl,n,listed,a,w,hsh,h,hC,hp=>by
  cases fl with
  | true=>exact⟨(λh=>by cases h),by simp[PT.heads]⟩
  | false=>simp[PT.ok]at h
end
def b8l (o:Oper):Bool:=match o.op with
 | .move _=>true
 | _=>false
def PT.good2 (ops:Array Oper) (lt mv:List Nat) (t:PT):Bool:=Region.noSelect ops&&(mv.all λj=>(ops[j]?.map b8l).getD true)&&lt.all (λj=>mv.contains j||(List.range ops.size).all λi=>lt.contains i||a2M ops 3 j i)&&t.ok ops lt false ops.size (Array.replicate ops.size false)
theorem a7e {P:Program} {id:Nat} {ops:Array Oper} {C:World->Prop} {Q:Exit->Act->World->Prop} {a:Act} {w:World} (hm:P.follows .mixedOrders=true) (t:PT) (lt mv:List Nat) (ht:t.good2 ops lt mv=true) (hC:C {w with drawn:=w.drawn+1})
  (h:pT P ops C (Q .normal) t a {w with drawn:=w.drawn+1}):(Code.region id ops true).wp P Q a w:=by
 simp only[PT.good2,f8,E8,J4]at ht;obtain⟨⟨⟨h1,h0⟩,h2⟩,h3⟩:=ht;refine wp_region_any hm (sAny.wpAny (λ_ _ h=>h) _ _ _ _ ((PT.sound2 h1 (lt:=lt) (mv:=mv) (λj hj o ho=>?_) (λj hj i hi hn=>?_) t false _ _ a _ (Shut.none _) h3 (λ_=>hC) h).1 rfl))
 ·have:=h0 j hj;rw[ho]at this;simp only[C9,j4]at this;unfold b8l at this;split at this
  ·exact⟨_,by assumption⟩
  ·cases this
 ·have:=h2 j hj;rcases Bool.or_eq_true_iff.1 this with h | h
  ·exact .inl (by simpa using h)
  ·rw[E8]at h;have:=h i (List.mem_range.2 hi);exact .inr (by simpa[hn]using this)
theorem J.plan2 {X:Cx} {K:List KI} {E:Env} {L:List Atom} {id:Nat} {ops:Array Oper} (t:PT) (lt mv ro:List Nat) (hm:X.P.follows .mixedOrders=true) (ht:t.good2 ops lt mv=true) (h:J X (.reg ops (snap L ro) t::K) E L):J X (.code (.region id ops true)::K) E L:=
 λa w hx he hs=>a7e hm t lt mv ht (CAt.snap (w:={w with drawn:=w.drawn+1}) hs ro) (h a _ hx.drew he hs)
theorem R2 (l:List (List UInt8)) (d:List UInt8):H3 l++H4 d=H3 (l++[d]):=by unfold H3;rw[K1];simp
theorem MSl.put17 (d:List UInt8) (o:Bool) (A B:List (List UInt8)) (a1:Option Nat) (c1:Nat) (a2:Option Nat) (c2:Nat) (x:Option Nat×Nat):(MSl.cells ⟨⟨d,o,A,B⟩,a1,c1,a2,c2⟩).set 17 (slv x.1 (A.length+1) x.2)=MSl.cells ⟨⟨d,o,A++[d],B⟩,x.1,x.2,a2,c2⟩:=by
 unfold MSl.cells;dsimp only;rw[d8];rfl
theorem MSl.put18 (d:List UInt8) (o:Bool) (A B:List (List UInt8)) (a1:Option Nat) (c1:Nat) (a2:Option Nat) (c2:Nat) (x:Option Nat×Nat):(MSl.cells ⟨⟨d,o,A,B⟩,a1,c1,a2,c2⟩).set 18 (slv x.1 (B.length+1) x.2)=MSl.cells ⟨⟨d,o,A,B++[d]⟩,a1,c1,x.1,x.2⟩:=by
 unfold MSl.cells;dsimp only;rw[d8];rfl
theorem b7R (q g:Nat) (Z:List MSl) (hn:Z.length<=65536) (hf:∀z∈Z,z.Fine) (i:Int) (d:List UInt8) (hd:d.length=16):FP 38 [pp q,iI i,a5d d] (b1A q g Z) (λv As=>∃Z',v= .bool (Mv.inR (Z.map (·.v)) i)/\As=b1A q g Z'/\Z'.map (·.v)=Mv.write (Z.map (·.v)) i d):=by
 refine FE [2,0,0] Tryz.func38 λX F hX=>?_;refine J.qp (c1j q g Z.length hn i) [1] λ_=>?_
 by_cases hi:0<=i/\i<(Z.length:Int)
 ·have ha:Mv.adr Z.length g i=some ⟨g,i.toNat*19,none⟩:=by unfold Mv.adr;rw[d7 hi]
  obtain⟨k,rfl⟩:=f9 hi.1;obtain⟨z,hz⟩:∃z,Z[k]? =some z:=⟨_,c9 (by omega)⟩;obtain⟨f1,f2,f3,f4,f5⟩:=hf z (j9 hz);have hin:Mv.inR (Z.map (·.v)) (k:Int)=true:=by unfold Mv.inR;rw[j5,i7 hi.1,i7 hi.2];rfl
  rw[ha,i9];refine J.qF λ_=>?_;refine J.openAt 3 k rfl rfl (by rw[i5,hz];rfl) rfl ?_;refine J.openAt 4 k rfl rfl (by rw[i5,hz];rfl) rfl ?_;have hl1:k*19+19<=(Z.flatMap MSl.cells).length:=by rw[MSl.flat_len];omega
  have V3:∀y:MSl,(Z.set k y)[k]? =some y:=λy=>by rw[A9,d7 rfl,d7 (by omega)]
  refine J.qn 8 λ_=>?_;have hst:((Z.flatMap MSl.cells).take (k*19)++H4 d++(Z.flatMap MSl.cells).drop (k*19+(H4 d).length))=(Z.set k ⟨⟨d,z.v.op,z.v.may,z.v.ever⟩,z.a1,z.c1,z.a2,z.c2⟩).flatMap MSl.cells:=a6s MSl.cells 19 MSl.cells_len (H4 d) hz (by show 16<=19;omega) (y:=⟨⟨d,z.v.op,z.v.may,z.v.ever⟩,z.a1,z.c1,z.a2,z.c2⟩) rfl;refine J.sN (H4 d) 2 ((Z.set k ⟨⟨d,z.v.op,z.v.may,z.v.ever⟩,z.a1,z.c1,z.a2,z.c2⟩).flatMap MSl.cells) ?_ ?_ ?_
  ·show k*19+0+16<=_;omega
  ·rw[Q4];exact hst
  refine J.qn 3 λ_=>?_;refine J.s1 2 ((Z.set k ⟨⟨d,false,z.v.may,z.v.ever⟩,z.a1,z.c1,z.a2,z.c2⟩).flatMap MSl.cells) ?_ ?_ ?_
  ·rw[MSl.flat_len,A5,<- MSl.flat_len];omega
  ·exact(Q9 MSl.cells 19 MSl.cells_len 16 (y:=⟨⟨d,false,z.v.may,z.v.ever⟩,z.a1,z.c1,z.a2,z.c2⟩) _ (V3 ⟨⟨d,z.v.op,z.v.may,z.v.ever⟩,z.a1,z.c1,z.a2,z.c2⟩) (by omega) rfl).trans (by rw[a0n];all_goals rfl)
  refine J.q λ_=>?_;refine J.plan2 (.take true 0 (.take true 1 (.take true 2 (.take true 3 (.take true 4 (.take false 5 (.take false 6 (.take true 9 (.take true 10 (.take true 11 (.take false 12 (.take false 13 (.alt false 7 ((.alt false 8 ((.of [58,62,64,68,75,76,80,87])) (.alt false 14 ((.of [34,62,64,68,75,76,80,87])) .non))) (.alt false 14 ((.of [30,34,62,64,68,75,76,80,87])) .non)))))))))))))) [1,16,17,18,19,20,21] [1] [1,2,3,4,5] (by rw[hX.hP];kernel_rfl) (by kernel_rfl) ?_;have hcell:=λj hj=>a1U MSl.cells 19 MSl.cells_len (V3 ⟨⟨d,false,z.v.may,z.v.ever⟩,z.a1,z.c1,z.a2,z.c2⟩) j hj;refine J.qn 6 λ_=>?_;refine J.vT (slv z.a1 z.v.may.length z.c1) rfl rfl (λhg aa w he hC=>B6 tk rfl rfl he rfl rfl rfl (hC rfl _ (C0 (i:=2) rfl)) (hcell 17 (by omega))) ?_;refine J.qn 4 λ_=>?_;refine J.vT (slv z.a2 z.v.ever.length z.c2) rfl rfl (λhg aa w he hC=>B6 tk rfl rfl he rfl rfl rfl (hC rfl _ (C0 (i:=2) rfl)) (hcell 18 (by omega))) ?_;refine J.qn 1 λ_=>?_;refine J.join (α:=(Option Nat×Nat)×(Option Nat×Nat)) (λ_=>[sv 6 (.bool false)]) (λx=>[.hp F, .pt q 151 [.slice (some ⟨g,0,none⟩) Z.length Z.length], .pt g 153 ((Z.set k ⟨⟨d,false,z.v.may++[d],z.v.ever++[d]⟩,x.1.1,x.1.2,x.2.1,x.2.2⟩).flatMap MSl.cells), .hp (HP.of ((Z.map MSl.m1).set k .emp)), .hp (HP.of ((Z.map MSl.m2).set k .emp)),l9 36 16 x.1.1 (z.v.may.length+1) x.1.2 (H3 (z.v.may++[d])),l9 36 16 x.2.1 (z.v.ever.length+1) x.2.2 (H3 (z.v.ever++[d]))]) (λhj=>?_) (λx=>?_)
  ·refine J.alts ?_ ?_
   ·skip
    refine J.qn 1 λbb=>?_;refine J.alts ?_ ?_
    ·skip
     refine J.ap 6 8 0 (R2 z.v.may d) λa3 c3=>?_;refine J.qn 1 λbc=>?_;refine J.ap 7 9 0 (R2 z.v.ever d) λa4 c4=>?_;refine J.qn 2 λ_=>?_;refine J.s1 2 ((Z.set k ⟨⟨d,false,z.v.may++[d],z.v.ever⟩,a3,c3,z.a2,z.c2⟩).flatMap MSl.cells) ?_ ?_ ?_
     ·rw[MSl.flat_len,A5,<- MSl.flat_len];omega
     ·exact(Q9 MSl.cells 19 MSl.cells_len 17 (y:=⟨⟨d,false,z.v.may++[d],z.v.ever⟩,a3,c3,z.a2,z.c2⟩) _ (V3 ⟨⟨d,false,z.v.may,z.v.ever⟩,z.a1,z.c1,z.a2,z.c2⟩) (by omega) (MSl.put17 _ _ _ _ _ _ _ _ (a3,c3))).trans (by rw[a0n];all_goals rfl)
     refine J.qn 2 λ_=>?_;refine J.s1 2 ((Z.set k ⟨⟨d,false,z.v.may++[d],z.v.ever++[d]⟩,a3,c3,a4,c4⟩).flatMap MSl.cells) ?_ ?_ ?_
     ·rw[MSl.flat_len,A5,<- MSl.flat_len];omega
     ·exact(Q9 MSl.cells 19 MSl.cells_len 18 (y:=⟨⟨d,false,z.v.may++[d],z.v.ever++[d]⟩,a3,c3,a4,c4⟩) _ (V3 ⟨⟨d,false,z.v.may++[d],z.v.ever⟩,a3,c3,z.a2,z.c2⟩) (by omega) (MSl.put18 _ _ _ _ _ _ _ _ (a4,c4))).trans (by rw[a0n];all_goals rfl)
     exact J.goto [0,1,2,3,4,6,7] (hj ((a3,c3),(a4,c4))) ⟨rfl,trivial⟩ rfl rfl
    ·skip
     refine J.qn 1 λbc=>?_;refine J.ap 6 8 0 (R2 z.v.may d) λa3 c3=>?_;refine J.ap 7 9 0 (R2 z.v.ever d) λa4 c4=>?_;refine J.qn 2 λ_=>?_;refine J.s1 2 ((Z.set k ⟨⟨d,false,z.v.may++[d],z.v.ever⟩,a3,c3,z.a2,z.c2⟩).flatMap MSl.cells) ?_ ?_ ?_
     ·rw[MSl.flat_len,A5,<- MSl.flat_len];omega
     ·exact(Q9 MSl.cells 19 MSl.cells_len 17 (y:=⟨⟨d,false,z.v.may++[d],z.v.ever⟩,a3,c3,z.a2,z.c2⟩) _ (V3 ⟨⟨d,false,z.v.may,z.v.ever⟩,z.a1,z.c1,z.a2,z.c2⟩) (by omega) (MSl.put17 _ _ _ _ _ _ _ _ (a3,c3))).trans (by rw[a0n];all_goals rfl)
     refine J.qn 2 λ_=>?_;refine J.s1 2 ((Z.set k ⟨⟨d,false,z.v.may++[d],z.v.ever++[d]⟩,a3,c3,a4,c4⟩).flatMap MSl.cells) ?_ ?_ ?_
     ·rw[MSl.flat_len,A5,<- MSl.flat_len];omega
     ·exact(Q9 MSl.cells 19 MSl.cells_len 18 (y:=⟨⟨d,false,z.v.may++[d],z.v.ever++[d]⟩,a3,c3,a4,c4⟩) _ (V3 ⟨⟨d,false,z.v.may++[d],z.v.ever⟩,a3,c3,z.a2,z.c2⟩) (by omega) (MSl.put18 _ _ _ _ _ _ _ _ (a4,c4))).trans (by rw[a0n];all_goals rfl)
     exact J.goto [0,1,2,3,4,6,7] (hj ((a3,c3),(a4,c4))) ⟨rfl,trivial⟩ rfl rfl
   ·skip
    refine J.qn 2 λbb=>?_;refine J.ap 6 9 0 (R2 z.v.may d) λa3 c3=>?_;refine J.ap 7 8 0 (R2 z.v.ever d) λa4 c4=>?_;refine J.qn 2 λ_=>?_;refine J.s1 2 ((Z.set k ⟨⟨d,false,z.v.may++[d],z.v.ever⟩,a3,c3,z.a2,z.c2⟩).flatMap MSl.cells) ?_ ?_ ?_
    ·rw[MSl.flat_len,A5,<- MSl.flat_len];omega
    ·exact(Q9 MSl.cells 19 MSl.cells_len 17 (y:=⟨⟨d,false,z.v.may++[d],z.v.ever⟩,a3,c3,z.a2,z.c2⟩) _ (V3 ⟨⟨d,false,z.v.may,z.v.ever⟩,z.a1,z.c1,z.a2,z.c2⟩) (by omega) (MSl.put17 _ _ _ _ _ _ _ _ (a3,c3))).trans (by rw[a0n];all_goals rfl)
    refine J.qn 2 λ_=>?_;refine J.s1 2 ((Z.set k ⟨⟨d,false,z.v.may++[d],z.v.ever++[d]⟩,a3,c3,a4,c4⟩).flatMap MSl.cells) ?_ ?_ ?_
    ·rw[MSl.flat_len,A5,<- MSl.flat_len];omega
    ·exact(Q9 MSl.cells 19 MSl.cells_len 18 (y:=⟨⟨d,false,z.v.may++[d],z.v.ever++[d]⟩,a3,c3,a4,c4⟩) _ (V3 ⟨⟨d,false,z.v.may++[d],z.v.ever⟩,a3,c3,z.a2,z.c2⟩) (by omega) (MSl.put18 _ _ _ _ _ _ _ _ (a4,c4))).trans (by rw[a0n];all_goals rfl)
    exact J.goto [0,1,2,3,4,6,7] (hj ((a3,c3),(a4,c4))) ⟨rfl,trivial⟩ rfl rfl
  obtain⟨⟨a3,c3⟩,a4,c4⟩:=x;dsimp only;obtain⟨y,hy⟩:∃y:MSl,y=⟨⟨d,false,z.v.may++[d],z.v.ever++[d]⟩,a3,c3,a4,c4⟩:=⟨_,rfl⟩;rw[<- hy,show l9 36 16 a3 (z.v.may.length+1) c3 (H3 (z.v.may++[d]))=y.m1 from by rw[hy];unfold MSl.m1;rw[d8];rfl,show l9 36 16 a4 (z.v.ever.length+1) c4 (H3 (z.v.ever++[d]))=y.m2 from by rw[hy];unfold MSl.m2;rw[d8];rfl];refine J.closeAt (A:=y.m1) 3 5 k rfl rfl rfl ?_;refine J.closeAt (A:=y.m2) 4 6 k rfl rfl rfl ?_;rw[<- A6,<- A6];refine J.qr [1,2,3,4] λ_=>?_;refine⟨Z.set k y,?_,?_,?_⟩
  ·rw[hin]
  ·unfold b1A;rw[A5];rfl
  ·have hpg:Mv.pg (Z.map (·.v)) (k:Int)=z.v:=by unfold Mv.pg;rw[i9,d5,i5,hz];rfl
   unfold Mv.write;rw[hin,d7 rfl,hpg,A6,i9,hy];rfl
 ·have ha:Mv.adr Z.length g i=none:=by unfold Mv.adr;rw[d4 hi]
  have hin:Mv.inR (Z.map (·.v)) i=false:=by
   unfold Mv.inR;rw[j5];simp;omega
  rw[ha];refine J.qT λ_=>?_;refine J.qr [1,2,3,4] λ_=>?_;exact⟨Z,by rw[hin],rfl,by unfold Mv.write;rw[hin];rfl⟩
theorem MSl.m1_of {y z:MSl} (ha:y.a1=z.a1) (hc:y.c1=z.c1) (hv:y.v.may=z.v.may):y.m1=z.m1:=by unfold MSl.m1;rw[ha,hc,hv]
theorem MSl.m2_of {y z:MSl} (ha:y.a2=z.a2) (hc:y.c2=z.c2) (hv:y.v.ever=z.v.ever):y.m2=z.m2:=by unfold MSl.m2;rw[ha,hc,hv]
theorem MSl.map_m1 {Z:List MSl} {k:Nat} {z y:MSl} (hz:Z[k]? =some z) (h:y.m1=z.m1):(Z.set k y).map MSl.m1=Z.map MSl.m1:=by rw[A6,h];exact a1Z (by rw[i5,hz];rfl)
theorem MSl.map_m2 {Z:List MSl} {k:Nat} {z y:MSl} (hz:Z[k]? =some z) (h:y.m2=z.m2):(Z.set k y).map MSl.m2=Z.map MSl.m2:=by rw[A6,h];exact a1Z (by rw[i5,hz];rfl)
theorem a7I {α:Type} {f:α->α} {V Y:List α} {k:Nat} {x:α} (h:Y=(V.take k).map f++V.drop k) (hk:k<V.length) (hx:Y[k]? =some x):Y.set k (f x)=(V.take (k+1)).map f++V.drop (k+1):=by
 have hl:((V.take k).map f).length=k:=by simp;omega
 have hv:V.drop k=V[k]::V.drop (k+1):=y8 hk;have he:x=V[k]:=by
  rw[h,B1 (by omega),hl,U3,hv,M5]at hx;injection hx with hx;exact hx.symm
 rw[h,hv,O9 _ _ (by omega),hl,U3,a0a,List.take_succ_eq_append_getElem hk,s8,m9,he];rfl
def Mv.cut1 (v:MPv):MPv:={v with op:=true}
theorem c1Q (q g:Nat) (Z:List MSl) (hn:Z.length<=65536):FP 39 [pp q] (b1A q g Z) (λv As=>∃Z',v= .tuple #[]/\As=b1A q g Z'/\Z'.map (·.v)=Mv.cut (Z.map (·.v))):=by
 refine FE [2] Tryz.func39 λX F hX=>?_;refine J.qF λ_=>?_;refine J.q λ_=>?_;refine J.l (α:=(Nat×List MSl)) (λz=>z.1<=Z.length/\z.2.length=Z.length/\z.2.map MSl.m1=Z.map MSl.m1/\z.2.map MSl.m2=Z.map MSl.m2/\z.2.map (·.v)=((Z.map (·.v)).take z.1).map Mv.cut1++(Z.map (·.v)).drop z.1) (λz=>[si 10 z.1,si 9 Z.length,⟨0,pp q,2, .tt⟩]) [2] (λz=>[.pt g 153 (z.2.flatMap MSl.cells)]) (λz=>Z.length-z.1) ((0,Z)) (⟨j8 _,rfl,rfl,rfl,rfl⟩) λz hI=>?_;obtain⟨k,Y⟩:=z;dsimp only at hI ⊢;obtain⟨hk,hYl,hY1,hY2,hY⟩:=hI;refine J.qd (λ_ h1=>?_) λ_ h1=>?_
 ·simp only[d6,i6]at h1;obtain⟨z,hz⟩:∃z,Y[k]? =some z:=⟨_,c9 (by omega)⟩;have hstep:(Y.set k ⟨Mv.cut1 z.v,z.a1,z.c1,z.a2,z.c2⟩).map (·.v)=((Z.map (·.v)).take (k+1)).map Mv.cut1++(Z.map (·.v)).drop (k+1):=by
   rw[A6];exact a7I hY (by simpa using h1) (by rw[i5,hz];rfl)
  refine J.qn 16 λ_=>?_;refine J.s1 2 ((Y.set k ⟨Mv.cut1 z.v,z.a1,z.c1,z.a2,z.c2⟩).flatMap MSl.cells) ?_ ?_ ?_
  ·show 0+(k:Int).toNat*19+16<_;rw[MSl.flat_len];omega
  ·rw[show 0+(k:Int).toNat*19+16=k*19+16 from by omega];exact Q9 MSl.cells 19 MSl.cells_len 16 (y:=⟨Mv.cut1 z.v,z.a1,z.c1,z.a2,z.c2⟩) _ hz (by omega) rfl
  refine J.q λ_=>?_;refine J.n ((k+1,Y.set k ⟨Mv.cut1 z.v,z.a1,z.c1,z.a2,z.c2⟩)) (⟨by dsimp only;omega,by dsimp only;rw[A5];exact hYl,(MSl.map_m1 (y:=⟨Mv.cut1 z.v,z.a1,z.c1,z.a2,z.c2⟩) hz (MSl.m1_of rfl rfl rfl)).trans hY1,(MSl.map_m2 (y:=⟨Mv.cut1 z.v,z.a1,z.c1,z.a2,z.c2⟩) hz (MSl.m2_of rfl rfl rfl)).trans hY2,hstep⟩) (by dsimp only;omega) [0,1,2,3,4]
 simp only[c8,i6]at h1;obtain rfl:k=Z.length:=by omega
 refine J.q λ_=>?_;refine J.f [1,2,3,4] ?_;refine⟨Y,rfl,?_,?_⟩
 ·unfold b1A;rw[hYl,hY1,hY2];rfl
 ·rw[hY,x9 (by simp),Y4 (by simp),l8];rfl
def Mv.fl1 (v:MPv):MPv:=if v.op then v else {v with may:=[v.now]}
structure RAd where
 q:Nat
 n:Nat
 o:Nat
 m:Nat
 e:Nat
def a1a (Z:List MSl):List Value:=Z.flatMap λz=>H4 z.v.now
def opC (Z:List MSl):List Value:=Z.map λz=>Value.bool z.v.op
def a0q (Z:List MSl):List Value:=Z.map λz=>slv z.a1 z.v.may.length z.c1
def Y0 (Z:List MSl):List Value:=Z.map λz=>slv z.a2 z.v.ever.length z.c2
def a3G (R:RAd) (Z:List MSl):List Atom:=[.pt R.q 68 [.slice (some ⟨R.n,0,none⟩) Z.length Z.length, .slice (some ⟨R.o,0,none⟩) Z.length Z.length, .slice (some ⟨R.m,0,none⟩) Z.length Z.length, .slice (some ⟨R.e,0,none⟩) Z.length Z.length], .pt R.n 36 (a1a Z), .pt R.o 4 (opC Z), .pt R.m 60 (a0q Z), .pt R.e 60 (Y0 Z), .hp (HP.of (Z.map MSl.m1)), .hp (HP.of (Z.map MSl.m2))]
section
variable {Z : List MSl} {k : Nat} {z : MSl}
theorem a8n (Z:List MSl):(a1a Z).length=Z.length*16:=by
 induction Z with
 | nil=>rfl
 | cons z Z ih=>
  unfold a1a at ih ⊢;rw[z7,d8,ih,l6,P6];show 16+_=_;omega
theorem b4u (h:Z[k]? =some z):((a1a Z).drop (k*16)).take 16=H4 z.v.now:=a2j (λz:MSl=>H4 z.v.now) 16 (λ_=>rfl) Z k z h
theorem b3v (h:Z[k]? =some z):(opC Z)[k]? =some (.bool z.v.op):=by unfold opC;rw[i5,h];rfl
theorem b4C (h:Z[k]? =some z):(a0q Z)[k]? =some (slv z.a1 z.v.may.length z.c1):=by unfold a0q;rw[i5,h];rfl
theorem b8O (h:Z[k]? =some z):(Y0 Z)[k]? =some (slv z.a2 z.v.ever.length z.c2):=by unfold Y0;rw[i5,h];rfl
theorem a4c {β:Type} (f:MSl->β) {y:MSl} (h:Z[k]? =some z) (hf:f y=f z):(Z.set k y).map f=Z.map f:=by
 rw[A6,hf];exact a1Z (by rw[i5,h];rfl)
theorem b0n (f:MSl->List Value) {y:MSl} (h:Z[k]? =some z) (hf:f y=f z):(Z.set k y).flatMap f=Z.flatMap f:=by
 rw[T7,T7,a4c f h hf]
end
theorem c0J (a:Option Nat) (n c:Nat) (l:List (List UInt8)) (hl:l.length=n) (hn:n<=1000000) (d:List UInt8) (hd:d.length=16) (hs:∀x∈l,x.length=16):FP 192 [slv a n c,a5d d] [l9 36 16 a n c (H3 l)] (Ps (.bool (l.contains d)) [l9 36 16 a n c (H3 l)]):=by
 refine FE [0,0] Tryz.func192 λX F hX=>?_;refine J.q λbb=>?_;refine J.l (α:=Nat) (λk=>k<=n/\∀j,j<k->∀x,l[j]? =some x->(x==d)=false) (λk=>[si 5 k,sv 0 (slv a n c),⟨3,pp (bb 0),3, .tt⟩]) [] (λk=>[]) (λk=>n-k) (0) (⟨j8 _,λj hj=>absurd hj (Nat.not_lt_zero _)⟩) λk hI=>?_;obtain⟨hk,hno⟩:=hI;refine J.qd (λ_ h1=>?_) λ_ h1=>?_
 ·simp only[d6,i6]at h1;obtain⟨x,hx⟩:∃x,l[k]? =some x:=⟨_,c9 (by omega)⟩;refine J.know (λh' s=>D7 (c:=(a,c)) (by omega) (s.get (i:=1) rfl)) λhg=>?_;obtain⟨g,rfl⟩:=hg;refine J.pn 4 (.of [0,4,8,13,17,20]) [] [1,2] λ_ _=>?_;have hxl:=hs x (j9 hx);refine J.vT (a5d x) rfl rfl (λhg aa w he hC=>M3 tk rfl rfl he rfl rfl rfl (hC rfl _ (C0 (i:=1) rfl)) (by rw[show 0+(k:Int).toNat*16=k*16 from by omega];exact a2j H4 16 (λ_=>rfl) l k x hx) rfl) ?_;refine J.qn 1 λ_=>?_;refine J.vT (.bool (x==d)) rfl rfl (λhg aa w he hC=>(V8 (xs:=H4 x) (ys:=H4 d) rfl rfl rfl he rfl rfl a2C (a1g _) (a1g _) mkD gdD).trans (by rw[eqD _ _ hxl hd,a8P])) ?_;refine J.qd (λ_ h2=>?_) λ_ h2=>?_
  ·have hm:l.contains d=true:=by
    rw[List.contains_iff_mem,<- a3i h2];exact j9 hx
   refine J.qr [1] λ_=>?_;rw[hm];exact⟨rfl,rfl⟩
  ·refine J.q λ_=>?_;refine J.nS (k+1) (⟨by omega,λj hj y hy=>by
    rcases L8 j k with h | h
    ·exact hno j h y hy
    ·obtain rfl:j=k:=by omega
     rw[hx]at hy;injection hy with hy;rw[<- hy];exact h2⟩) (by omega) [0,1,2] rfl rfl
 simp only[c8,i6]at h1;have hm:l.contains d=false:=by
  rw[Bool.eq_false_iff];intro hc;rw[List.contains_iff_mem]at hc;obtain⟨j,hj⟩:=W7 hc;have:=hno j (by have:=(List.getElem?_eq_some_iff.1 hj).1;omega) d hj;rw[beq_self_eq_true]at this;cases this
 refine J.qr [1] λ_=>?_;rw[hm];exact⟨rfl,rfl⟩
theorem b2K (R:RAd) (Z:List MSl) (hn:Z.length<=65536) (hf:∀z∈Z,z.Fine) (i:Int) (d:List UInt8) (hd:d.length=16):FP 129 [pp R.q,iI i,a5d d] (a3G R Z) (Ps (.bool (Mv.may (Z.map (·.v)) i d)) (a3G R Z)):=by
 refine FE [2,0,0] Tryz.func129 λX F hX=>?_;refine J.q λ_=>?_
 by_cases hi:0<=i/\i<(Z.length:Int)
 ·obtain⟨k,rfl⟩:=f9 hi.1;obtain⟨z,hz⟩:∃z,Z[k]? =some z:=⟨_,c9 (by omega)⟩;obtain⟨f1,f2,f3,f4,f5⟩:=hf z (j9 hz);have hin:Mv.inR (Z.map (·.v)) (k:Int)=true:=by unfold Mv.inR;rw[j5,i7 hi.1,i7 hi.2];rfl
  have hpg:Mv.pg (Z.map (·.v)) (k:Int)=z.v:=by unfold Mv.pg;rw[i9,d5,i5,hz];rfl
  have hmy:Mv.may (Z.map (·.v)) (k:Int) d=if z.v.op then z.v.may.contains d else z.v.now==d:=by unfold Mv.may;rw[hin,hpg,q9]
  rw[n7 (show¬(k:Int)<0 by omega),n7 (show¬(k:Int)>=Z.length by omega)];refine J.qF λ_=>?_;refine J.qn 10 λ_=>?_;refine J.v (.bool z.v.op) rfl rfl (λhg aa w he hw=>B6 tk rfl rfl he rfl rfl rfl (hw.get (i:=3) rfl) (by rw[show 0+(k:Int).toNat*1=k from by omega];exact b3v hz)) ?_;refine J.qd (λ_ h1=>?_) λ_ h1=>?_
  ·rw[d7 h1]at hmy;refine J.openAt 6 k rfl rfl (by rw[i5,hz];rfl) rfl ?_;refine J.pn 6 (.of [0,4,8,13,16,20,25,29,34,36]) [9] [1,2,3,4,5,6,8,9] λ_ _=>?_;refine J.vT (slv z.a1 z.v.may.length z.c1) rfl rfl (λhg aa w he hC=>B6 tk rfl rfl he rfl rfl rfl (hC rfl _ (C0 (i:=4) rfl)) (by rw[show 0+(k:Int).toNat*1=k from by omega];exact b4C hz)) ?_;refine J.qp (c0J z.a1 z.v.may.length z.c1 z.v.may rfl (by omega) d hd f2) [9] λ_=>?_;refine J.q λ_=>?_;refine J.closeAt (A:=z.m1) 6 9 k rfl rfl rfl ?_;have hsame:(Z.map MSl.m1).set k z.m1=Z.map MSl.m1:=a1Z (by rw[i5,hz];rfl);rw[hsame];refine J.qr [1,2,3,4,5,6,7] λ_=>?_;rw[hmy];exact⟨rfl,rfl⟩
  ·rw[d4 (by rw[h1];decide)]at hmy;refine J.pn 6 (.of [0,4,8,13,16,20,25,29,32,36]) [9] [1,2,3,4,5,8] λ_ _=>?_;refine J.vT (a5d z.v.now) rfl rfl (λhg aa w he hC=>H7 tk rfl rfl he rfl rfl rfl (hC rfl _ (C0 (i:=2) rfl)) (by rw[show 0+(k:Int).toNat*16=k*16 from by omega];exact b4u hz) rfl) ?_;refine J.qn 1 λ_=>?_;refine J.vT (.bool (z.v.now==d)) rfl rfl (λhg aa w he hC=>(V8 (xs:=H4 z.v.now) (ys:=H4 d) rfl rfl rfl he rfl rfl a2C (a1g _) (a1g _) mkD gdD).trans (by rw[eqD _ _ f1 hd,a8P])) ?_;refine J.qr [1,2,3,4,5,6,7] λ_=>?_;rw[hmy];exact⟨rfl,rfl⟩
 ·have hmy:Mv.may (Z.map (·.v)) i d=false:=by
   unfold Mv.may Mv.inR;rw[j5];have:(decide (0<=i)&&decide (i<(Z.length:Int)))=false:=by simp;omega
   rw[this];rfl
  refine J.qd (λ_ h1=>?_) λ_ h1=>?_
  ·refine J.qr [1,2,3,4,5,6,7] λ_=>?_;rw[hmy];exact⟨rfl,rfl⟩
  ·exfalso
   simp at h1;omega
structure Fl where
 at_:Int
 kind:Int
 x:Int
 y:Int
 z:Int
 n:Int
 xx:Int
deriving DecidableEq
def dF:Fl:=⟨0,0,0,0,0,0,0⟩
def flC (f:Fl):List Value:=[iI f.at_,iI f.kind,iI f.x,iI f.y,iI f.z,iI f.n,iI f.xx]
def flV (f:Fl):Value:= .agg #[iI f.at_,iI f.kind,iI f.x,iI f.y,iI f.z,iI f.n,iI f.xx]
def A7 (l:List Fl):List Value:=l.flatMap flC
theorem Y3 (l:List Fl):(A7 l).length=l.length*7:=by
 induction l with
 | nil=>rfl
 | cons x l ih=>simp only[A7,z7,d8,l6]at ih ⊢;rw[ih,show(flC x).length=7 from rfl];omega
theorem Y8:∀(l:List Fl) (r:List Value) (k:Nat) (x:Fl),l[k]? =some x->((A7 l++r).drop (k*7)).take 7=flC x
 | [],_,_,_,h=>by simp at h
 | y::l,r,0,x,h=>by simp at h;subst h;simp[A7,flC]
 | y::l,r,k+1,x,h=>by
  have:=Y8 l r k x (by simpa using h);rw[show(k+1)*7=7+k*7 from by omega,<- C2,show(A7 (y::l)++r).drop 7=A7 l++r from rfl];exact this
theorem a1A:∀(l:List Fl) (r:List Value) (k:Nat) (x:Fl),k<l.length->(A7 l++r).take (k*7)++flC x++(A7 l++r).drop (k*7+7)=A7 (l.set k x)++r
 | [],_,_,_,h=>by simp at h
 | y::l,r,0,x,h=>by rw[Q3,a3l];rfl
 | y::l,r,k+1,x,h=>by
  have:=a1A l r k x (by simpa using h);rw[S9,show A7 (y::l)++r=flC y++(A7 l++r)from by simp[A7],show(k+1)*7=(flC y).length+k*7 from by show _=7+k*7;omega,T9,show(flC y).length+k*7+7=(flC y).length+(k*7+7)from by omega,List.drop_length_add_append,m9,m9,<- m9 (List.take _ _),this];simp[A7]
def a9m (l:List Fl) (j:Nat):List Fl:=(l.set j (l.getD (j-1) dF)).set (j-1) (l.getD j dF)
def a7T (f:Fl->Fl->Int):Nat->List Fl->List Fl
 | 0,l=>l
 | j+1,l=>if f (l.getD (j+1) dF) (l.getD j dF)<0 then a7T f j (a9m l (j+1))else l
def a0r (f:Fl->Fl->Int) (l:List Fl):Nat->List Fl
 | 0=>l
 | k+1=>a7T f (k+1) (a0r f l k)
def W8 (f:Fl->Fl->Int) (l:List Fl):List Fl:=a0r f l (l.length-1)
theorem a5r (l:List Fl) (j:Nat):(a9m l j).length=l.length:=by simp[a9m]
theorem b5k (l:List Fl) (j:Nat) (h:j+1<l.length):(a9m l (j+1)).Perm l:=by
 induction l generalizing j with
 | nil=>simp at h
 | cons x l ih=>
  cases j with
  | zero=>
   cases l with
   | nil=>simp at h
   | cons y l=>simp only[a9m,S9,a0a,Q0,J6,List.getD_cons_zero,a5g];exact List.Perm.swap _ _ _
  | succ j=>
   have:=ih j (by simpa using h);simp only[a9m,Q0,S9,a5g]at this ⊢;exact this.cons x
theorem a4T (f:Fl->Fl->Int):∀(j:Nat) (l:List Fl),j<l.length->(a7T f j l).Perm l
 | 0,l,_=>a0F _
 | j+1,l,h=>by
  unfold a7T;split
  ·exact(a4T f j _ (by rw[a5r];omega)).trans (b5k l j h)
  ·exact a0F _
theorem a5C (f:Fl->Fl->Int) (l:List Fl):∀k,k<l.length->(a0r f l k).Perm l/\(a0r f l k).length=l.length
 | 0,_=>⟨a0F _,rfl⟩
 | k+1,h=>by
  obtain⟨h1,h2⟩:=a5C f l k (by omega);exact⟨(a4T f (k+1) _ (by omega)).trans h1,by rw[a0r,(a4T f (k+1) _ (by omega)).length_eq,h2]⟩
theorem a6P (f:Fl->Fl->Int) (l:List Fl):(W8 f l).Perm l:=by
 cases l with
 | nil=>exact a0F _
 | cons x l=>exact(a5C f (x::l) _ (by simp)).1
theorem a9H (f:Fl->Fl->Int):∀(j:Nat) (l:List Fl),(a7T f j l).length=l.length
  | 0,l=>rfl
  | j + 1, l => by unfold a7T; split
                   · rw[a9H f j,a5r]
                   · rfl
theorem a6Q (f:Fl->Fl->Int) (l:List Fl):∀k,(a0r f l k).length=l.length
 | 0=>rfl
 | k+1=>by rw[a0r,a9H,a6Q f l k]
theorem c0B (c:Nat) (f:Fl->Fl->Int) (hcal:K0 Tryz.prog c=true) (hf:∀x y,Fn Tryz.prog c [flV x,flV y] [] (Ps (iI (f x y)) []))
  (g n cap:Nat) (l:List Fl) (hl:l.length=n) (hn:n<=4611686018427387904) (r:List Value):FP 231 [.slice (some ⟨g,0,none⟩) n cap,iI 0,iI n,fnV c] [.pt g 41 (A7 l++r)]
  (Ps (.tuple #[]) [.pt g 41 (A7 (W8 f l)++r)]):=by
 refine FE [2,0,0,0] Tryz.func231 λX F hX=>?_;refine J.q λ_=>?_;refine J.l (α:=Nat) (λi=>1<=i/\i<=max 1 n) (λi=>[si 8 i,⟨0, .slice (some ⟨g,0,none⟩) n cap,2, .tt⟩,si 1 0,si 2 n,⟨3,fnV c,0, .tt⟩]) [1] (λi=>[.pt g 41 (A7 (a0r f l (i-1))++r)]) (λi=>n-i) (1) (⟨by omega,by omega⟩) λi hI=>?_;refine J.qd (λ_ h1=>?_) λ_ h1=>?_
 ·simp only[d6,i6]at h1;refine J.q λ_=>?_;refine J.l (α:=(Nat×List Fl)) (λy=>y.1<=i/\y.2.length=n/\a7T f y.1 y.2=a0r f l i) (λy=>[si 9 y.1,si 8 i,⟨0, .slice (some ⟨g,0,none⟩) n cap,2, .tt⟩,si 1 0,si 2 n,⟨3,fnV c,0, .tt⟩]) [1] (λy=>[.pt g 41 (A7 y.2++r)]) (λy=>y.1) ((i,a0r f l (i-1))) (⟨j3 _,by rw[a6Q,hl],by obtain⟨k,rfl⟩:∃k,i=k+1:=⟨i-1,by omega⟩;rfl⟩) λy hI=>?_;obtain⟨j,m⟩:=y;dsimp only at hI ⊢;have hget:∀e,e<n->m[e]? =some (m.getD e dF):=λe he=>by rw[d5,c9 (by omega),j4]
  rcases P9 j with h2 | h2
  ·subst h2;refine J.pn 4 (.of [0,4,8,12,16,20,24,28,33,36,40,44,48,53,58,60,64]) [] [1] λ_ _=>?_;rw[show decide (((0:Nat):Int)>0)=false from rfl];refine J.q λ_=>?_;refine J.vT (flV dF) rfl rfl (λhg a w he hC=>by simp[G.on]at hg) ?_;refine J.q λ_=>?_;refine J.vT (flV dF) rfl rfl (λhg a w he hC=>by simp[G.on]at hg) ?_;refine J.q λ_=>?_;refine J.gcase hX rfl rfl rfl ⟨rfl,trivial⟩ (λh=>by cases h) (λ_=>?_);refine J.vT (.bool false) rfl rfl (λhg a w he hC=>by simp[G.on]at hg) ?_;refine J.qF λ_=>?_;have hm:m=a0r f l (i+1-1):=hI.2.2;rw[hm];refine J.q λ_=>?_;refine J.n (i+1) (⟨by omega,by omega⟩) (by omega) [0,1]
  ·obtain⟨j,rfl⟩:∃k,j=k+1:=⟨j-1,by omega⟩;refine J.pn 4 (.of [0,4,8,12,16,20,24,28,33,36,40,44,48,53,58,60,64]) [] [1] λ_ _=>?_;rw[show decide (((j+1:Nat):Int)>0)=true from i7 (by omega)];refine J.q λ_=>?_;refine J.vT (flV (m.getD (j+1) dF)) rfl rfl (λhg a w he hC=>?_) ?_
   ·exact H7 tk rfl rfl he hg rfl rfl (hC rfl _ (C0 (i:=1) rfl)) (by rw[show 0+((j+1:Nat):Int).toNat*7=(j+1)*7 from by omega];exact Y8 m r _ _ (hget _ (by omega))) rfl
   refine J.q λ_=>?_;refine J.vT (flV (m.getD j dF)) rfl rfl (λhg a w he hC=>?_) ?_
   ·exact H7 tk rfl rfl he hg rfl rfl (hC rfl _ (C0 (i:=1) rfl)) (by rw[show 0+(((j+1:Nat):Int)-1).toNat*7=j*7 from by omega];exact Y8 m r _ _ (hget _ (by omega))) rfl
   refine J.q λ_=>?_;refine J.call hX hcal (hf (m.getD (j+1) dF) (m.getD j dF)) [] 0 rfl rfl rfl rfl (by(repeat' (first | exact Conj.nil | refine Conj.cons ?_ ?_ | omega | exact hq0 | (simpa using hq0) | (exactλh=>h) | exact rfl | (intro hq;have hq0:=hq;try simp only[f8,j7,d6,i4,c8]at hq) | (simp;done) | (simp;omega) | decide))) rfl rfl (λ_=>rfl) ?_;refine cpq ⟨_,rfl,⟨rfl,trivial⟩,?_⟩;refine J.qd (λ_ h3=>?_) λ_ h3=>?_
   ·simp only[q9,d6]at h3;refine J.pq (.take true 0 (.take true 1 (.take true 2 (.take true 3 (.take true 4 (.take true 5 (.take true 6 (.take true 7 (.take true 8 (.take true 10 (.take true 11 (.take true 12 (.alt false 9 ((.of [54,56,62,64,71])) (.alt false 13 ((.of [38,56,62,64,71])) .non)))))))))))))) [16,17] [] λ_ _=>?_;refine J.alts ?_ ?_
    ·refine J.v (flV (m.getD j dF)) rfl rfl (λhg a w he hs=>?_) ?_
     ·exact H7 tk rfl rfl he hg rfl rfl (hs.get (i:=1) rfl) (by rw[show 0+(((j+1:Nat):Int)-1).toNat*7=j*7 from by omega];exact Y8 m r _ _ (hget _ (by omega))) rfl
     refine J.q λ_=>?_;refine J.v (flV (m.getD (j+1) dF)) rfl rfl (λhg a w he hs=>?_) ?_
     ·exact H7 tk rfl rfl he hg rfl rfl (hs.get (i:=1) rfl) (by rw[show 0+((j+1:Nat):Int).toNat*7=(j+1)*7 from by omega];exact Y8 m r _ _ (hget _ (by omega))) rfl
     refine J.q λ_=>?_;refine J.storeN hX tk 1 rfl rfl rfl rfl rfl rfl rfl rfl rfl rfl rfl rfl rfl ?_ (A7 (m.set (j+1) (m.getD j dF))++r) ?_ rfl (λ_=>rfl) ⟨trivial,?_⟩
     ·rw[d8,Y3];show 0+((j+1:Nat):Int).toNat*7+7<=_;omega
     ·rw[show 0+((j+1:Nat):Int).toNat*7=(j+1)*7 from by omega];exact a1A m r (j+1) _ (by omega)
     refine J.q λ_=>?_;refine J.storeN hX tk 1 rfl rfl rfl rfl rfl rfl rfl rfl rfl rfl rfl rfl rfl ?_ (A7 (a9m m (j+1))++r) ?_ rfl (λ_=>rfl) ⟨trivial,?_⟩
     ·rw[d8,Y3,A5];show 0+(((j+1:Nat):Int)-1).toNat*7+7<=_;omega
     ·rw[show 0+(((j+1:Nat):Int)-1).toNat*7=j*7 from by omega];exact a1A _ r j _ (by rw[A5];omega)
     refine J.q λ_=>?_;rw[show((j+1:Nat):Int)-1=(j:Int)from by omega];refine J.q λ_=>?_;refine J.n ((j,a9m m (j+1))) (⟨by dsimp only;omega,by rw[a5r];exact hI.2.1,by rw[<- hI.2.2];exact(d7 h3).symm⟩) (by dsimp only;omega) [0,1]
    ·refine J.v (flV (m.getD (j+1) dF)) rfl rfl (λhg a w he hs=>?_) ?_
     ·exact H7 tk rfl rfl he hg rfl rfl (hs.get (i:=1) rfl) (by rw[show 0+((j+1:Nat):Int).toNat*7=(j+1)*7 from by omega];exact Y8 m r _ _ (hget _ (by omega))) rfl
     refine J.q λ_=>?_;refine J.v (flV (m.getD j dF)) rfl rfl (λhg a w he hs=>?_) ?_
     ·exact H7 tk rfl rfl he hg rfl rfl (hs.get (i:=1) rfl) (by rw[show 0+(((j+1:Nat):Int)-1).toNat*7=j*7 from by omega];exact Y8 m r _ _ (hget _ (by omega))) rfl
     refine J.q λ_=>?_;refine J.storeN hX tk 1 rfl rfl rfl rfl rfl rfl rfl rfl rfl rfl rfl rfl rfl ?_ (A7 (m.set (j+1) (m.getD j dF))++r) ?_ rfl (λ_=>rfl) ⟨trivial,?_⟩
     ·rw[d8,Y3];show 0+((j+1:Nat):Int).toNat*7+7<=_;omega
     ·rw[show 0+((j+1:Nat):Int).toNat*7=(j+1)*7 from by omega];exact a1A m r (j+1) _ (by omega)
     refine J.q λ_=>?_;refine J.storeN hX tk 1 rfl rfl rfl rfl rfl rfl rfl rfl rfl rfl rfl rfl rfl ?_ (A7 (a9m m (j+1))++r) ?_ rfl (λ_=>rfl) ⟨trivial,?_⟩
     ·rw[d8,Y3,A5];show 0+(((j+1:Nat):Int)-1).toNat*7+7<=_;omega
     ·rw[show 0+(((j+1:Nat):Int)-1).toNat*7=j*7 from by omega];exact a1A _ r j _ (by rw[A5];omega)
     refine J.q λ_=>?_;rw[show((j+1:Nat):Int)-1=(j:Int)from by omega];refine J.q λ_=>?_;refine J.n ((j,a9m m (j+1))) (⟨by dsimp only;omega,by rw[a5r];exact hI.2.1,by rw[<- hI.2.2];exact(d7 h3).symm⟩) (by dsimp only;omega) [0,1]
   ·simp only[q9,c8]at h3;have hm:m=a0r f l (i+1-1):=by rw[show i+1-1=i from rfl,<- hI.2.2];exact(d4 h3).symm
    rw[hm];refine J.q λ_=>?_;refine J.n (i+1) (⟨by omega,by omega⟩) (by omega) [0,1]
 ·simp only[c8,i6]at h1;have hi:a0r f l (i-1)=W8 f l:=by
   rw[W8,hl,show i-1=n-1 from by omega]
  rw[hi];refine J.q λ_=>?_;refine J.f [1] ?_;exact⟨rfl,rfl⟩
theorem c0P (L:List En):dkN L (L.length:Int)=L.length:=by unfold dkN;omega
theorem b1H:∀(f:Nat) (S:Dv) (l:List En),(Dv.write f S l).2.1<=l.length
 | 0,S,l=>by show(0:Int)<=(l.length:Int);omega
 | f+1,S,l=>by
  rw[Dv.write_succ];have hf:=Dv.fit_le S.at1 l;split
  ·show(0:Int)<=(l.length:Int);omega
  split
  ·show(0:Int)<=(l.length:Int);omega
  split
  ·show(0:Int)<=(l.length:Int);omega
  split
  ·show(0:Int)<=(l.length:Int);omega
  split
  ·show(S.at1.fit l:Int)<=(l.length:Int);omega
  split
  ·show(0:Int)<=(l.length:Int);omega
  ·exact b1H f _ l
theorem b0k (f p n t l d:Nat) (Z:Fv) (k m:Nat) (hO:Z.Ok (Fv.cW+k) m) (hm:m<=1000):FP 51 [pp f] (FvP f p n t l d Z)
  (Ps (iI Z.writes.2) (FvP f p n t l d Z.writes.1)):=by
 have hlen:=hO.len;have hQ1:Z.S.Ok (Dv.costM+(8*Dv.fuel+k)) m:=hO.dv.less (by unfold Fv.cW;omega);have hr:=Dv.room_keep hQ1;have hw:Z.writes=(let r:=Z.S.room
  if r.2≠0 then({Z with S:=r.1}.told r.2,r.2)
  else
   let w:=r.1.pen Z.L
   ({Z with S:=w.1,L:=a0J Z.L (Z.L.take w.2.1.toNat)}.told w.2.2,w.2.2)):=rfl
 refine FE [2] Tryz.func51 λX F hX=>?_;refine J.p (.of [0,4,8,13,16,20,24,29,32,36,40,45,48,52,56,61,67,68]) [16,17] [1,6] λ_=>?_;refine J.qp (a5s n t l p Z.S _ m hQ1 hm) [2,3,4,5] λ_=>?_;dsimp only at hw;generalize Z.S.room=W at hw hr ⊢;obtain⟨P,er⟩:=W;dsimp only at hw hr ⊢;rw[show a3H f n t l p d Z=a3H f n t l p d {Z with S:=P}from rfl];refine J.qd (λ_ h2=>?_) λ_ h2=>?_
 ·simp only[G9,I1]at h2;rw[d7 h2]at hw;refine J.qp (b1i f n t l p d {Z with S:=P} er) [1] λ_=>?_;refine J.qr [1,2,3,4,5,6] λ_=>?_;rw[hw];exact⟨rfl,rfl⟩
 simp only[A8]at h2;rw[d4 (by rw[h2];decide)]at hw;refine J.p (.of [0,4,8,13,16,20,24,29,34,38,40]) [10] [1,2,3,4,5,6] λ_=>?_;refine J.qp (b2P d Z.L) [6] λ_=>?_;refine J.qc (b4R d Z.L (by omega) Z.L.length) [6] λ_=>?_;rintro v As ⟨a,c,rfl,rfl⟩;refine⟨_,rfl,stq,?_⟩;rw[c0P,x9 (j3 _)];refine J.know (λh' s=>a0Z (show a1j _ _ a Z.L.length c _ _ from s.get (i:=7) rfl)) λhcap=>?_;rw[a7p];have hpb:0<=(P.pen Z.L).2.1/\(P.pen Z.L).2.1<=7:=a5k _ _ _;have hple:=b1H Dv.fuel P Z.L;have hple:(P.pen Z.L).2.1<=Z.L.length:=hple;refine J.q λ_=>?_;refine J.ca hX (by kernel_rfl) (a4a p n t l P _ m hr.1 (l9 101 19 a Z.L.length c (n9 Z.L)) (oad a) Z.L.length c Z.L (Y6 101 19 a Z.L.length c (n9 Z.L)) rfl (by omega) hO.dat) [2,3,4,5,7] 0 rfl rfl rfl rfl rfl rfl (λ_=>rfl) ?_;refine cpq ⟨_,rfl,trivial,?_⟩;generalize P.pen Z.L=W at hw hpb hple ⊢;obtain⟨Q,kk,er2⟩:=W;dsimp only at hw hpb hple ⊢;obtain⟨v,rfl⟩:=f9 hpb.1;rw[i9]at hw;have hvl:v<=Z.L.length:=by omega
 have hRd:Rd (l9 101 19 a Z.L.length c (n9 Z.L)) (oad a) 19 v (n9 (Z.L.take v)):=by
  have:=(Y6 101 19 a Z.L.length c (n9 Z.L)).take v hvl
  rwa [a3E]at this
 refine J.pn 6 (.of [0,4,8,13,16,20,24,30]) [] [1,2,3,4,5] λ_ _=>?_;refine J.vT (.slice (oad a) v c) rfl rfl (λhg aa w he hC=>a4m tk rfl rfl rfl he rfl rfl rfl rfl (by omega)) ?_;refine J.qc (b8R d Z.L (by omega) (l9 101 19 a Z.L.length c (n9 Z.L)) (oad a) v c (Z.L.take v) hRd (by rw[l5];omega) (by omega)) [6,7] λ_=>?_;rintro v2 As ⟨rfl,rfl⟩;refine⟨_,rfl,stq,?_⟩;rw[show a3H f n t l p d {Z with S:=P}=a3H f n t l p d {Z with S:=Q,L:=a0J Z.L (Z.L.take v)}from rfl];refine J.qc (b1i f n t l p d {Z with S:=Q,L:=a0J Z.L (Z.L.take v)} er2) [1] λ_=>?_;rintro v2 As ⟨rfl,rfl⟩;refine⟨_,rfl,trivial,?_⟩;refine J.qr [1,2,3,4,5,6] λ_=>?_;rw[hw];exact⟨rfl,rfl⟩
theorem b2E (f p n t l d:Nat) (Z:Fv) (k m:Nat) (hO:Z.Ok (Fv.cW+(1+k)) m) (hm:m<=1000) (e:En) (hd:e.data.length=16):FP 48 [pp f,enV e] (FvP f p n t l d Z)
  (Ps (iI (Z.waits e).2) (FvP f p n t l d (Z.waits e).1)):=by
 have hwt:Z.waits e=(if Z.ask.off=true then(Z.ask,9)
  else if e.lpn<0\/e.lpn>=Z.ask.lg then(Z.ask,3)
  else if(Z.ask.L.length:Int)>=Z.ask.S.slots then
   let w:=Z.ask.writes
   if w.2≠0 then w else(w.1.put e,0)
  else(Z.ask.put e,0)):=rfl
 have hlen:=hO.len;refine FE [2,0] Tryz.func48 λX F hX=>?_;refine J.q λbz=>?_;refine J.cb (a2i f n t l p d Z) [1,3] ?_;refine cpq ⟨_,rfl,trivial,?_⟩;have hOY:=hO.ask;obtain⟨Y,hY⟩:∃Y,Y=Z.ask:=⟨_,rfl⟩;have e1:Z.S=Y.S:=by rw[hY];rfl
 have e2:Z.L=Y.L:=by rw[hY];rfl
 rw[<- hY]at hwt hOY;rw[<- hY,e1,e2];rw[e2]at hlen;have hN:=hOY.dv.gd.ok;cases ho:Y.off with
 | true=>
  rw[ho,d7 rfl]at hwt;refine J.qT λ_=>?_;refine J.qr [1,2,3,4,5,6] λ_=>?_;rw[hwt];exact⟨rfl,rfl⟩
 | false=>
  rw[ho,d4 l4]at hwt;refine J.qF λ_=>?_;refine J.pq (.of [0,5,8,12,16,21,24,30,32,36]) [] [1,2,3,4,5,6,7] λ_ _=>?_;have hput:∀W:{W:Fv//Z.waits e=(W.put e,0)/\W.L.length<=200/\0<=W.nx/\W.nx<=4611686018427387904},Z.waits e=(W.1.put e,0):=λW=>W.2.1;refine J.gcase hX rfl rfl rfl stq (λhb=>?_) (λhb=>?_)
  ·have hi:decide (e.lpn<0)=false:=by simpa using hb
   rw[hi];refine J.qp (a3x f n t l p d Y hN) [1,3] λ_=>?_;simp only[c8]at hi;refine J.qd (λ_ h1=>?_) λ_ h1=>?_
   ·simp only[D6,a1e,d6]at h1;rw[d7 (.inr h1)]at hwt;refine J.qr [1,2,3,4,5,6] λ_=>?_;rw[hwt];exact⟨rfl,rfl⟩
   simp only[D6,a1e,c8]at h1;rw[d4 (by omega)]at hwt;have hbb:Y.S.t.b<=1000:=by have:=hOY.dv.t.b;have:=hN.bd16;omega
   refine J.p (.of [0,4,8,13,20,24,28,33,18,38,40]) [] [1,2,3,4,5,6,7] λ_=>?_;refine J.qp (b2P d Y.L) [6] λ_=>?_;refine J.qp (b2d p n t l Y.S hbb hOY.dv.t.len) [2,3,4,5] λ_=>?_;refine J.q λ_=>?_;refine J.join (α:={W:Fv//Z.waits e=(W.put e,0)/\W.L.length<=200/\0<=W.nx/\W.nx<=4611686018427387904}) (λ_=>[⟨0,pp f,2, .tt⟩,⟨3,pp (bz 0),8, .tt⟩]) (λW=>[.hp F,a3H f n t l p d W.1,a2o p n t l W.1.S,C3 n W.1.S.N,TlA t W.1.S.t,TbA l W.1.S.T,a1N d W.1.L, .pt (bz 0) 101 (enL e)]) (λhj=>?_) (λW=>?_)
   ·refine J.qd (λ_ h2=>?_) λ_ h2=>?_
    ·simp only[a1e,d6]at h2;rw[d7 h2]at hwt;have hkw:=Fv.writes_keep hOY;refine J.qp (b0k f p n t l d Y (1+k) m hOY hm) [1,2,3,4,5,6] λ_=>?_;dsimp only at hwt;generalize Y.writes=w at hwt hkw ⊢;obtain⟨V,er⟩:=w;dsimp only at hwt hkw ⊢;refine J.qd (λ_ h3=>?_) λ_ h3=>?_
     ·simp only[G9,I1]at h3;rw[d7 h3]at hwt;refine J.qr [1,2,3,4,5,6] λ_=>?_;rw[hwt];exact⟨rfl,rfl⟩
     ·simp only[A8]at h3;rw[d4 (by rw[h3];decide)]at hwt;have hnx:=hkw.1.nx;refine J.qn 1 λ_=>?_;exact J.goto [0,1,2,3,4,5,6,7] (hj ⟨V,hwt,hkw.1.len,by omega,by omega⟩) ⟨rfl,rfl,trivial⟩ rfl rfl
    ·simp only[a1e,c8]at h2;rw[d4 h2]at hwt;have hnx:=hOY.nx;refine J.qn 1 λ_=>?_;exact J.goto [0,1,2,3,4,5,6,7] (hj ⟨Y,hwt,hlen,by omega,by omega⟩) ⟨rfl,rfl,trivial⟩ rfl rfl
   obtain⟨W,hw1,hw2,hw3,hw4⟩:=W;dsimp only;refine J.p (.of [0,4,8,13,17,22]) [] [1,2,3,4,5,7] λ_=>?_;refine J.qp (b4Q d W.L (by omega) {e with seq:=W.nx}) [6] λ_=>?_;refine J.qr [1,2,3,4,5,6] λ_=>?_;rw[hw1];exact⟨rfl,rfl⟩
  ·have hi:decide (e.lpn<0)=true:=by simpa using hb
   rw[hi];refine J.q λ_=>?_;refine J.vT (.bool false) rfl rfl (λhg a w he hC=>by simp[G.on]at hg) ?_;simp only[d6]at hi;rw[d7 (.inl hi)]at hwt;refine J.qT λ_=>?_;refine J.qr [1,2,3,4,5,6] λ_=>?_;rw[hwt];exact⟨rfl,rfl⟩
theorem a8G (f p n t l d:Nat) (Z:Fv) (k m:Nat) (hO:Z.Ok (Fv.cW+(1+k)) m) (hm:m<=1000) (i:Int) (x:List UInt8) (hx:x.length=16):FP 11 [pp f,iI i,a5d x] (FvP f p n t l d Z)
  (λv As=>v=iI (Z.write i x).2/\As=FvP f p n t l d (Z.write i x).1):=by
 refine FE [2,0,0] Tryz.func11 λX F hX=>?_;refine J.qp (b2E f p n t l d Z k m hO hm ⟨i,0,1,x⟩ hx) [1,2,3,4,5,6] λ_=>?_;exact J.qx [1,2,3,4,5,6]
theorem b4M (f p n t l d:Nat) (Z:Fv) (k m:Nat) (hO:Z.Ok (Fv.cW+(1+k)) m) (hm:m<=1000) (i:Int):FP 36 [pp f,iI i] (FvP f p n t l d Z)
  (λv As=>v=iI (Z.trim i).2/\As=FvP f p n t l d (Z.trim i).1):=by
 refine FE [2,0] Tryz.func36 λX F hX=>?_;refine J.qp (b2E f p n t l d Z k m hO hm ⟨i,0,2,zeros16⟩ rfl) [1,2,3,4,5,6] λ_=>?_;exact J.qx [1,2,3,4,5,6]
theorem b2G (f p n t l d:Nat) (Z:Fv) (k m:Nat) (hO:Z.Ok (Fv.cW*200+k) m) (hm:m<=1000):FP 12 [pp f] (FvP f p n t l d Z)
  (λv As=>v=iI Z.flush.2/\As=FvP f p n t l d Z.flush.1):=by
 have hfl:Z.flush=(if Z.ask.off=true then(Z.ask,9)else Fv.flushGo Z.ask.L.length Z.ask):=rfl;have hlen:=hO.len;refine FE [2] Tryz.func12 λX F hX=>?_;refine J.qp (a2i f n t l p d Z) [1,3] λ_=>?_;have hOY:=hO.ask;obtain⟨Y,hY⟩:∃Y,Y=Z.ask:=⟨_,rfl⟩;have e1:Z.S=Y.S:=by rw[hY];rfl
 have e2:Z.L=Y.L:=by rw[hY];rfl
 rw[<- hY]at hfl hOY;rw[<- hY,e1,e2];rw[e2]at hlen;cases ho:Y.off with
 | true=>
  rw[ho,d7 rfl]at hfl;refine J.qT λ_=>?_;refine J.qr [1,2,3,4,5,6] λ_=>?_;rw[hfl];exact⟨rfl,rfl⟩
 | false=>
  rw[ho,d4 l4]at hfl;refine J.qF λ_=>?_;have hmul:Fv.cW*Y.L.length<=Fv.cW*200:=y9 _ hlen;refine J.q λ_=>?_;refine J.l (α:=(Nat×Fv)) (λz=>z.2.Ok (Fv.cW*z.1+k) m/\z.2.L.length<=z.1/\Fv.flushGo z.1 z.2=Z.flush) (λz=>[⟨0,pp f,2, .tt⟩]) [1,2,3,4,5,6] (λz=>FvP f p n t l d z.2) (λz=>z.1) ((Y.L.length,Y)) (⟨hOY.less (by dsimp only;omega),j3 _,hfl.symm⟩) λz hI=>?_;obtain⟨j,V⟩:=z;dsimp only at hI ⊢;obtain⟨hV,hj,hw⟩:=hI;refine J.qp (b2P d V.L) [6] λ_=>?_;refine J.qd (λ_ h1=>?_) λ_ h1=>?_
  ·simp only[gt_iff_lt,d6]at h1;have hL0:V.L.length≠0:=by omega
   obtain⟨j,rfl⟩:∃i,j=i+1:=⟨j-1,by omega⟩;rw[Fv.flushGo,d4 hL0]at hw;have hV1:V.Ok (Fv.cW+(Fv.cW*j+k)) m:=hV.less (by rw[J7];omega);have hkw:=Fv.writes_keep hV1;refine J.qp (b0k f p n t l d V _ m hV1 hm) [1,2,3,4,5,6] λ_=>?_;dsimp only at hw;generalize V.writes=w at hw hkw ⊢;obtain⟨U,er⟩:=w;dsimp only at hw hkw ⊢;refine J.qd (λ_ h2=>?_) λ_ h2=>?_
   ·simp only[G9,I1]at h2;rw[d7 h2]at hw;refine J.qr [1,2,3,4,5,6] λ_=>?_;rw[<- hw];exact⟨rfl,rfl⟩
   ·simp only[A8]at h2;rw[d4 (by rw[h2];decide)]at hw;have:=hkw.2.2.2 h2 hL0;refine J.q λ_=>?_;refine J.n ((j,U)) (⟨hkw.1,by dsimp only;omega,hw⟩) (by dsimp only;omega) [0,1,2,3,4,5,6]
  ·simp only[gt_iff_lt,c8]at h1;have hz:Fv.flushGo j V=(V,0):=by
    cases j with
    | zero=>rfl
    | succ j=>rw[Fv.flushGo,d7 (by omega)]
   refine J.qr [1,2,3,4,5,6] λ_=>?_;rw[<- hw,hz];exact⟨rfl,rfl⟩
theorem b4N (f p n t l d:Nat) (Z:Fv) (k m:Nat) (hO:Z.Ok (Dv.costS+k) m) (hm:m<=1000):FP 16 [pp f] (FvP f p n t l d Z)
  (λv As=>v=iI Z.tick.2/\As=FvP f p n t l d Z.tick.1):=by
 have htk:Z.tick=(if Z.ask.off=true then(Z.ask,9)else({Z.ask with S:=(Z.ask.S.step 4).1}.told (Z.ask.S.step 4).2.2,(Z.ask.S.step 4).2.2)):=rfl;refine FE [2] Tryz.func16 λX F hX=>?_;refine J.qp (a2i f n t l p d Z) [1,3] λ_=>?_;have hOY:=hO.ask;obtain⟨Y,hY⟩:∃Y,Y=Z.ask:=⟨_,rfl⟩;have e1:Z.S=Y.S:=by rw[hY];rfl
 have e2:Z.L=Y.L:=by rw[hY];rfl
 rw[<- hY]at htk hOY;rw[<- hY,e1,e2];cases ho:Y.off with
 | true=>
  rw[ho,d7 rfl]at htk;refine J.qT λ_=>?_;refine J.qr [1,2,3,4,5,6] λ_=>?_;rw[htk];exact⟨rfl,rfl⟩
 | false=>
  rw[ho,d4 l4]at htk;refine J.qF λ_=>?_;refine J.p (.of [0,4,8,13,16,20,24,29,32,36,40,45,48,52,56,61,66,68,72,76,80,84]) [21] [1,6] λ_=>?_;refine J.qp (b4y n t l p Y.S _ m hOY.dv hm 4) [2,3,4,5] λ_=>?_;generalize Y.S.step 4=w at htk ⊢;obtain⟨V,nn,er⟩:=w;dsimp only at htk ⊢;rw[show a3H f n t l p d Y=a3H f n t l p d {Y with S:=V}from rfl];refine J.qp (b1i f n t l p d {Y with S:=V} er) [1] λ_=>?_;refine J.qr [1,2,3,4,5,6] λ_=>?_;rw[htk];exact⟨rfl,rfl⟩
theorem b2F (f p n t l d:Nat) (Z:Fv) (k m:Nat) (hO:Z.Ok k m):FP 28 [pp f] (FvP f p n t l d Z)
  (λv As=>v= .bool Z.whole.2/\As=FvP f p n t l d Z.whole.1):=by
 have hwh:Z.whole=(if Z.ask.off=true then(Z.ask,false)else({Z.ask with S:=Z.ask.S.seen},Z.ask.S.seen.leftN==0)):=rfl;refine FE [2] Tryz.func28 λX F hX=>?_;refine J.qp (a2i f n t l p d Z) [1,3] λ_=>?_;have hOY:=hO.ask;obtain⟨Y,hY⟩:∃Y,Y=Z.ask:=⟨_,rfl⟩;have e1:Z.S=Y.S:=by rw[hY];rfl
 have e2:Z.L=Y.L:=by rw[hY];rfl
 rw[<- hY]at hwh hOY;rw[<- hY,e1,e2];have hbd:=hOY.dv.gd.ok.bd16;have htd:=hOY.dv.t.d;cases ho:Y.off with
 | true=>
  rw[ho,d7 rfl]at hwh;refine J.qT λ_=>?_;refine J.qr [1,2,3,4,5,6] λ_=>?_;rw[hwh];exact⟨rfl,rfl⟩
 | false=>
  rw[ho,d4 l4]at hwh;refine J.qF λ_=>?_;refine J.qp (a2V n Y.S.N) [3] λ_=>?_;refine J.q λ_=>?_;refine J.l (α:=(Nat×Tl)) (λz=>z.1<=Y.S.N.dies/\(List.range z.1).foldl (λt (d:Nat)=>if Y.S.N.deadAt d then t.die d else t) Y.S.t=z.2/\z.2.Fit Y.S.N) (λz=>[si 13 z.1,si 12 Y.S.N.dies,⟨0,pp f,2, .tt⟩]) [4] (λz=>[TlA t z.2]) (λz=>Y.S.N.dies-z.1) ((0,Y.S.t)) (⟨j8 _,rfl,hOY.dv.t⟩) λz hI=>?_;obtain⟨i,U⟩:=z;dsimp only at hI ⊢;obtain⟨hd,hfo,hU⟩:=hI;refine J.qd (λ_ h1=>?_) λ_ h1=>?_
  ·simp only[d6,i6]at h1;have hsu:(List.range (i+1)).foldl (λt (d:Nat)=>if Y.S.N.deadAt d then t.die d else t) Y.S.t=if Y.S.N.deadAt i then U.die i else U:=by rw[t6,B8,hfo];rfl
   refine J.qp (a8p n Y.S.N hOY.dv.gd.ok i) [3] λ_=>?_;refine J.qd (λ_ h2=>?_) λ_ h2=>?_
   ·rw[d7 h2]at hsu;refine J.qp (a5p t U i) [4] λ_=>?_;refine J.q λ_=>?_;refine J.n ((i+1,U.die i)) (⟨by dsimp only;omega,hsu,hU.die i⟩) (by dsimp only;omega) [0,1,2,3,4,5,6]
   ·rw[d4 (by rw[h2];decide)]at hsu;refine J.q λ_=>?_;refine J.n ((i+1,U)) (⟨by dsimp only;omega,hsu,hU⟩) (by dsimp only;omega) [0,1,2,3,4,5,6]
  simp only[c8,i6]at h1;obtain rfl:i=Y.S.N.dies:=by omega
  have hseen:Y.S.seen={Y.S with t:=U}:=by unfold Dv.seen Dv.seeDead;rw[htd,hfo]
  obtain⟨Q,hQ⟩:∃Q,Q=Y.S.seen:=⟨_,rfl⟩;have hQO:Q.Ok k m:=by rw[hQ];exact hOY.dv.seen
  have eT:Y.S.T=Q.T:=by rw[hQ];rfl
  have eU:U=Q.t:=by rw[hQ,hseen]
  rw[eT,eU];refine J.p (.of [0,4,8,13,16,20,24,29,34,36,40]) [10] [1,2,3,4,5,6] λ_=>?_;refine J.qp (b4z t l Q k m hQO) [4,5] λ_=>?_;refine J.qr [1,2,3,4,5,6] λ_=>?_;rw[hwh,<- hQ];refine⟨rfl,?_⟩;unfold FvP;dsimp only;rw[show a2o p n t l Y.S=a2o p n t l Q from by rw[hQ];rfl,show C3 n Y.S.N=C3 n Q.N from by rw[hQ];rfl];rfl
theorem Tl.seeDead_succ (N:Nand) (t:Tl) (i:Nat):(List.range (i+1)).foldl (λt (d:Nat)=>if N.deadAt d then t.die d else t) t=if N.deadAt i then((List.range i).foldl (λt (d:Nat)=>if N.deadAt d then t.die d else t) t).die i else(List.range i).foldl (λt (d:Nat)=>if N.deadAt d then t.die d else t) t:=by rw[t6,B8];rfl
theorem Tl.ofB_succ (N:Nand) (t:Tl) (b i:Nat):(List.range (i+1)).foldl (Tl.ofD N b) t=Tl.ofD N b ((List.range i).foldl (Tl.ofD N b) t) i:=by rw[t6,B8];rfl
theorem Tl.of_succ (N:Nand) (t:Tl) (i:Nat):(List.range (i+1)).foldl (Tl.ofB N) t=Tl.ofB N ((List.range i).foldl (Tl.ofB N) t) i:=by rw[t6,B8];rfl
theorem c2H (n:Nat) (N:Nand) (hN:N.Ok):FP 58 [pp n] [C3 n N] (λv As=>∃q,v=pp q/\As=[C3 n N,TlA q (Tl.of N)]):=by
 have hbd:=hN.bd16;refine FE [2] Tryz.func58 λX F hX=>?_;refine J.qp (a2V n N) [1] λ_=>?_;refine J.q λ_=>?_;refine J.ca hX (by kernel_rfl) (b3j N.dies N.blocks N.pages hN.geo) [] 3 rfl rfl rfl rfl rfl rfl (λ_=>rfl) ?_;rintro v As ⟨q,rfl,rfl⟩;refine⟨_,rfl,trivial,?_⟩;refine J.qF λ_=>?_;refine J.o (α:=Nat) 2 λg=>?_;refine J.q λ_=>?_;refine J.cl (λg:Nat=>TlP q (Tl.new N.dies N.blocks N.pages) g) (g) [2,3] ?_;refine J.q λ_=>?_;refine J.l (α:=(Nat×Tl)) (λz=>z.1<=N.dies/\(List.range z.1).foldl (λt (d:Nat)=>if N.deadAt d then t.die d else t) (Tl.new N.dies N.blocks N.pages)=z.2/\z.2.Fit N) (λz=>[si 17 z.1,si 16 N.dies,⟨0,pp n,2, .tt⟩,⟨3,pp q,3, .tt⟩]) [2] (λz=>[TlA q z.2]) (λz=>N.dies-z.1) ((0,Tl.new N.dies N.blocks N.pages)) (⟨j8 _,rfl,Tl.Fit.new N⟩) λz hI=>?_;obtain⟨i,U⟩:=z;dsimp only at hI ⊢;obtain⟨hd,hfo,hU⟩:=hI;refine J.qd (λ_ h1=>?_) λ_ h1=>?_
 ·simp only[d6,i6]at h1;have hsu:=Tl.seeDead_succ N (Tl.new N.dies N.blocks N.pages) i;rw[hfo]at hsu;refine J.qp (a8p n N hN i) [1] λ_=>?_;refine J.qd (λ_ h2=>?_) λ_ h2=>?_
  ·rw[d7 h2]at hsu;refine J.qp (a5p q U i) [2] λ_=>?_;refine J.q λ_=>?_;refine J.n ((i+1,U.die i)) (⟨by dsimp only;omega,hsu,hU.die i⟩) (by dsimp only;omega) [0,1,2,3]
  ·rw[d4 (by rw[h2];decide)]at hsu;refine J.q λ_=>?_;refine J.n ((i+1,U)) (⟨by dsimp only;omega,hsu,hU⟩) (by dsimp only;omega) [0,1,2,3]
 simp only[c8,i6]at h1;obtain rfl:i=N.dies:=by omega
 have hsee:U=Dv.seeDead N (Tl.new N.dies N.blocks N.pages):=hfo.symm;have hUb:=hU.b;refine J.o (α:=Nat) 2 λg2=>?_;refine J.q λ_=>?_;refine J.cl (λg:Nat=>TlP q U g) (g2) [2,4] ?_;rw[hUb];refine J.q λ_=>?_;refine J.l (α:=(Nat×Tl)) (λz=>z.1<=N.blocks/\(List.range z.1).foldl (Tl.ofB N) U=z.2/\z.2.Fit N) (λz=>[si 32 z.1,si 31 N.blocks,⟨0,pp n,2, .tt⟩,⟨3,pp q,3, .tt⟩]) [2] (λz=>[TlA q z.2]) (λz=>N.blocks-z.1) ((0,U)) (⟨j8 _,rfl,hU⟩) λz hI=>?_;obtain⟨b,T⟩:=z;dsimp only at hI ⊢;obtain⟨hb,hfb,hT⟩:=hI;refine J.qd (λ_ h3=>?_) λ_ h3=>?_
 ·simp only[d6,i6]at h3;have hsu:=Tl.of_succ N U b;rw[hfb]at hsu;have hTd:=hT.d;refine J.o (α:=Nat) 2 λg3=>?_;refine J.q λ_=>?_;refine J.cl (λg:Nat=>TlP q T g) (g3) [2,5] ?_;rw[hTd];refine J.q λ_=>?_;refine J.l (α:=(Nat×Tl)) (λz=>z.1<=N.dies/\(List.range z.1).foldl (Tl.ofD N b) T=z.2/\z.2.Fit N) (λz=>[si 40 z.1,si 39 N.dies,si 32 b,si 31 N.blocks,si 5 b,⟨0,pp n,2, .tt⟩,⟨3,pp q,3, .tt⟩]) [2] (λz=>[TlA q z.2]) (λz=>N.dies-z.1) ((0,T)) (⟨j8 _,rfl,hT⟩) λz hI=>?_;obtain⟨d,V⟩:=z;dsimp only at hI ⊢;obtain⟨hd,hfd,hV⟩:=hI;refine J.qd (λ_ h4=>?_) λ_ h4=>?_
  ·simp only[d6,i6]at h4;have hsd:=Tl.ofB_succ N T b d;rw[hfd]at hsd;have hVb:=hV.b;have hod:Tl.ofD N b V d=if(L.has ((V.wore b (N.wornAt d b)).mask b) d&&decide ((N.next d b:Int)>0))=true then(V.wore b (N.wornAt d b)).clean b false else V.wore b (N.wornAt d b):=rfl
   rw[hod]at hsd;have hW:=hV.wore b (N.wornAt d b);refine J.qp (b3y n N hN d b) [1] λ_=>?_;refine J.qp (b0I q V (by omega) hV.len b (N.wornAt d b)) [2] λ_=>?_;obtain⟨Q,hQ⟩:∃Q,V.wore b (N.wornAt d b)=Q:=⟨_,rfl⟩;rw[hQ]at hsd hW ⊢;have hQb:=hW.b;refine J.qp (a2w q Q (by omega) hW.len b) [2] λ_=>?_;refine J.qp (b0c (Q.mask b) d) [] λ_=>?_;refine J.q λ_=>?_;refine J.gcase hX rfl rfl rfl trivial (λhb2=>?_) (λhb2=>?_)
   ·rw[hb2]at hsd ⊢;refine J.qp (b7L n N hN d b) [1] λ_=>?_;refine J.qd (λ_ h5=>?_) λ_ h5=>?_
    ·simp only[q9]at h5 hsd;rw[d7 h5]at hsd;refine J.qp (a7N q Q (by omega) hW.len b false) [2] λ_=>?_;refine J.q λ_=>?_;refine J.n ((d+1,Q.clean b false)) (⟨by dsimp only;omega,hsd,hW.clean b false⟩) (by dsimp only;omega) [0,1,2,3,4,5]
    ·simp only[q9]at h5 hsd;rw[d4 (by rw[h5];decide)]at hsd;refine J.q λ_=>?_;refine J.n ((d+1,Q)) (⟨by dsimp only;omega,hsd,hW⟩) (by dsimp only;omega) [0,1,2,3,4,5]
   ·rw[hb2]at hsd ⊢;rw[a0c,d4 l4]at hsd;refine J.q λ_=>?_;refine J.v (.bool false) rfl rfl (λhg a w he hw=>by simp[G.on]at hg) ?_;refine J.qF λ_=>?_;refine J.q λ_=>?_;refine J.n ((d+1,Q)) (⟨by dsimp only;omega,hsd,hW⟩) (by dsimp only;omega) [0,1,2,3,4,5]
  simp only[c8,i6]at h4;obtain rfl:d=N.dies:=by omega
  have hsu2:(List.range (b+1)).foldl (Tl.ofB N) U=V:=by rw[hsu,<- hfd];rfl
  refine J.q λ_=>?_;refine J.n ((b+1,V)) (⟨by dsimp only;omega,hsu2,hV⟩) (by dsimp only;omega) [0,1,2,3,4]
 simp only[c8,i6]at h3;obtain rfl:b=N.blocks:=by omega
 have hof:T=Tl.of N:=by rw[<- hfb,hsee];rfl
 refine J.qr [1,2] λ_=>?_;exact⟨q,rfl,by rw[<- hof];rfl⟩
theorem b4g (q:Nat) (t:Tl) (hb:t.b<=1000) (hl:t.l.length=t.b) (k:Int) (on:Bool):FP 61 [pp q,iI k, .bool on] [TlA q t] (Ps (.tuple #[]) [TlA q (t.hold k on)]):=by
 refine FE [2,0,0] Tryz.func61 λX F hX=>?_;refine J.o (α:=Nat) 1 λg=>?_;refine J.qp (a6D q t hb g k) [1,2] λ_=>?_;cases hh:t.has k with
 | false=>
  rw[Tl.adr,hh,d4 (by simp)];refine J.qF λ_=>?_;refine J.q λ_=>?_;refine J.cl (λg:Nat=>TlP q t g) g [1,2] ?_;refine J.q λ_=>?_;refine J.f [1] ?_;exact⟨rfl,by rw[Tl.hold,Tl.set,hh];rfl⟩
 | true=>
  rw[Tl.adr,hh,d7 rfl];refine J.qT λ_=>?_;refine J.q λ_=>?_;refine J.s1 2 ((t.hold k on).l.flatMap sbL) ?_ ?_ ?_
  ·rw[t.len_l,hl];simp only[Tl.has,f8,d6]at hh;omega
  ·exact t.set_at hl hh 3 (by omega) _ _ rfl
  refine J.close (f:=λg:Nat=>TlP q (t.hold k on) g) g [1,2] rfl (by simp only[TlP,Tl.hold,Tl.set_d,Tl.set_b,Tl.set_p,Tl.set_dead];rfl) rfl ?_;refine J.q λ_=>?_;refine J.f [1] ?_;exact⟨rfl,rfl⟩
theorem b0i (t:Tl) (l:List Int) (on:Bool) {i:Nat} {x:Int} (h:l[i]? =some x):(l.take (i+1)).foldl (λt b=>t.hold b on) t=((l.take i).foldl (λt b=>t.hold b on) t).hold x on:=by
 rw[D2,h,K8,B8];rfl
theorem b4r (a:Option Nat):oad a=R6 (a.map λg=>(g,0)):=by cases a<;>rfl
theorem a4i (n:Nat) (N:Nand) (k m:Nat) (hG:N.Gd (Dv.costK+k) m) (hm:m<=1000) (hoff:N.off=false):FP 18 [pp n] [C3 n N]
  (λv As=>(O4 N).2=0/\(∃f p t l d,v= .tuple #[pp f,iI 0]/\As=FvP f p n t l d (Fv.of (O4 N).1))\/(O4 N).2≠0/\v= .tuple #[.pointer none,iI (O4 N).2]/\As=[C3 n (O4 N).1.N]):=by
 have hN:=hG.ok;have hbd:=hN.bd16;have hlg:=b3G N.dies N.blocks N.pages (by omega) (by omega);refine FE [2] Tryz.func18 λX F hX=>?_;refine J.qp (a2V n N) [1] λ_=>?_;refine J.qp (a6q N.dies N.blocks N.pages hN.geo) [] λ_=>?_;rw[hlg];refine J.qc (b6N n N hN hG.room hoff (lgN N.dies N.blocks N.pages)) [1] λ_=>?_;rintro v As ⟨q,a1,c1,a2,c2,rfl,rfl⟩;refine⟨_,rfl,trivial,?_⟩;obtain⟨en1,en2,en3,en4⟩:=b0N hN (lgN N.dies N.blocks N.pages);have h200:=a1P hN;obtain⟨tn1,tn2,tn3,tn4⟩:=a9I (N:=N) (m:=lgN N.dies N.blocks N.pages) (by omega);have hheld:=b5o hN (lgN N.dies N.blocks N.pages);have h0:=Dv.Ok.mt0 hG;have hmt:=a8r N;have e0:Dv.mt0 N=⟨N,Tl.of N,(V.scan N (lgN N.dies N.blocks N.pages)).tb,-1,0,0,max (V.scan N (lgN N.dies N.blocks N.pages)).next 1⟩:=rfl;obtain⟨sc,hsc⟩:∃sc,V.scan N (lgN N.dies N.blocks N.pages)=sc:=⟨_,rfl⟩;rw[hsc]at en1 en2 en3 en4 tn1 tn2 tn3 tn4 hheld hmt e0 ⊢;refine J.q λbs=>?_;refine J.cF ?_;refine J.know (λh' s=>a0Z (show a1j _ _ a1 sc.torn.length c1 _ _ from s.get (i:=3) rfl)) λhcap1=>?_;refine J.know (λh' s=>a8k (show a1j _ _ a1 sc.torn.length c1 _ _ from s.get (i:=3) rfl)) λhnil1=>?_;refine J.know (λh' s=>a0Z (show a1j _ _ a2 sc.held.length c2 _ _ from s.get (i:=4) rfl)) λhcap2=>?_;refine J.p (.of [0,4,12,17,10,22,24,31,32]) [6,7,8] [1,2,3,4,5] λ_=>?_;refine J.qc (c2H n N hN) [1] λ_=>?_;rintro v As ⟨t,rfl,rfl⟩;refine⟨_,rfl,stq,?_⟩;refine J.qc (c1l) [] λ_=>?_;rintro v As ⟨d,rfl,rfl⟩;refine⟨_,rfl,stq,?_⟩;refine J.q λbf=>?_;rw[a7p,b4r];refine J.p (.of [0,4,8,12,16,21,24,28,32,37,40,45,50,52,56,63]) [13,14,15] [1,2,3,4,5,6,7,8] λ_=>?_;refine J.qc (b7s n t q sc.next (by omega) N (Tl.of N) sc.tb) [] λ_=>?_;rintro v As ⟨p,rfl,rfl⟩;refine⟨_,rfl,stq,?_⟩;rw[<- e0];rw[show TlA t (Tl.of N)=TlA t (Dv.mt0 N).t from rfl,show C3 n N=C3 n (Dv.mt0 N).N from rfl,show TbA q sc.tb=TbA q (Dv.mt0 N).T from by rw[e0]];generalize Dv.mt0 N=S0 at h0 hmt ⊢;refine J.q λ_=>?_;refine J.l (α:=(Nat×Tl)) (λz=>z.1<=sc.held.length/\(sc.held.take z.1).foldl (λt b=>t.hold b true) S0.t=z.2/\z.2.Fit S0.N) (λz=>[si 52 z.1,si 51 sc.held.length,sv 50 (slv a2 sc.held.length c2),⟨0,pp n,2, .tt⟩,⟨4,pp (bs 0),6, .tt⟩,⟨6,pp (bf 0),9, .tt⟩]) [6] (λz=>[TlA t z.2]) (λz=>sc.held.length-z.1) ((0,S0.t)) (⟨j8 _,rfl,h0.t⟩) λz hI=>?_;obtain⟨i,U⟩:=z;dsimp only at hI ⊢;obtain⟨hi,hfo,hU⟩:=hI;have hUb:=hU.b;have hS0:=h0.gd.ok.bd16;refine J.qd (λ_ h1=>?_) λ_ h1=>?_
 ·simp only[d6,i6]at h1;obtain⟨x,hx⟩:∃x,sc.held[i]? =some x:=⟨_,c9 h1⟩;have hsu:=b0i S0.t sc.held true hx;rw[hfo]at hsu;refine J.know (λh' s=>D7 (c:=(a2,c2)) (by omega) (s.get (i:=4) rfl)) λhg=>?_;obtain⟨g,rfl⟩:=hg;refine J.q λ_=>?_;refine J.v (iI x) rfl rfl (λhg aa w he hw=>I4 tk rfl rfl he rfl rfl rfl (hw.get (i:=4) rfl) (by rw[show 0+(i:Int).toNat*1=i from by omega,B2,i5,hx];rfl)) ?_;refine J.qp (b4g t U (by omega) hU.len x true) [6] λ_=>?_;refine J.q λ_=>?_;refine J.n ((i+1,U.hold x true)) (⟨by dsimp only;omega,hsu,hU.hold x true⟩) (by dsimp only;omega) [0,1,2,3,4,5,6,7,8,9]
 simp only[c8,i6]at h1;obtain rfl:i=sc.held.length:=by omega
 rw[x9 (j3 _)]at hfo;have hA:S0.holds sc.held true={S0 with t:=U}:=by unfold Dv.holds;rw[hfo]
 have hAO:=h0.holds sc.held true;dsimp only at hmt;obtain⟨Q,hQ⟩:∃Q,Q=S0.holds sc.held true:=⟨_,rfl⟩;rw[<- hQ]at hAO hmt;rw[show C3 n S0.N=C3 n Q.N from by rw[hQ];rfl,show TbA q S0.T=TbA q Q.T from by rw[hQ];rfl,show TlA t U=TlA t Q.t from by rw[hQ,hA],show a2o p n t q S0=a2o p n t q Q from by rw[hQ];rfl];have hf200:sc.first<=200:=by rw[l5]at tn2;omega
 have hRdA:Rd (l9 101 19 a1 sc.torn.length c1 (n9 sc.torn)) (R6 (a1.map λg=>(g,0))) 19 sc.torn.length (n9 sc.torn):=by
  have:=Y6 101 19 a1 sc.torn.length c1 (n9 sc.torn)
  rwa [b4r]at this
 have hRd1:Rd (l9 101 19 a1 sc.torn.length c1 (n9 sc.torn)) (R6 (a1.map λg=>(g,0))) 19 sc.first (n9 (sc.torn.take sc.first)):=by
  have:=hRdA.take sc.first tn1
  rwa [a3E]at this
 have hnil2:(a1.map λg=>(g,0))=none->c1=0:=λe=>hnil1 (by cases a1 with | none=>rfl | some g=>cases e);have hd1:∀s∈sc.torn.take sc.first,s.data.length=16:=λs hs=>en3 s (I7 hs);have hd2:∀s∈sc.torn.drop sc.first,s.data.length=16:=λs hs=>en3 s (W6 hs);have hct1:Dv.costT*sc.first<=Dv.costT*200:=y9 _ hf200;have hlt1:(sc.torn.take sc.first).length=sc.first:=by rw[l5];omega
 have hAO1:Q.Ok (Dv.costT*sc.first+(96+(Dv.costT*200+(Dv.costM+k)))) m:=hAO.less (by unfold Dv.costK;omega);have hka:=Dv.torn_keep (k:=96+(Dv.costT*200+(Dv.costM+k))) (c:=sc.first) hAO1 (by omega) hd1;refine J.pn 17 (.of [0,4,8,12,17,20,24,28,33,36,40,44,49,52,57,60,65,68,75,76]) [18,19] [5,8] λ_ _=>?_;refine J.vT (.slice (R6 (a1.map λg=>(g,0))) sc.first c1) rfl rfl (λhg aa w he hC=>a4m tk rfl rfl rfl he rfl rfl rfl rfl (by omega)) ?_;refine J.q λ_=>?_;refine J.ca hX (by kernel_rfl) (b0Z n t q p Q _ m (l9 101 19 a1 sc.torn.length c1 (n9 sc.torn)) (a1.map λg=>(g,0)) sc.first c1 (sc.torn.take sc.first) hRd1 hlt1 (by omega) (by omega) hnil2 hd1 hAO1 hm) [9,1,6,2,3] 0 rfl rfl rfl rfl rfl rfl (λ_=>rfl) ?_;refine cpq ⟨_,rfl,stq,?_⟩;clear hAO hAO1;generalize Q.torn (sc.torn.take sc.first)=W at hmt hka ⊢;obtain⟨P,er⟩:=W;dsimp only at hmt hka ⊢;refine J.qd (λ_ h2=>?_) λ_ h2=>?_
 ·simp only[G9,I1]at h2;rw[d7 h2]at hmt;refine J.qr [1] λ_=>?_;rw[hmt];exact .inr ⟨h2,rfl,rfl⟩
 simp only[A8]at h2;rw[d4 (by rw[h2];decide)]at hmt;have hPO:=hka.1;clear hka hU hUb hfo hA hQ h0 e0;refine J.q λ_=>?_;refine J.l (α:=(Nat×Tl)) (λz=>z.1<=sc.held.length/\(sc.held.take z.1).foldl (λt b=>t.hold b false) P.t=z.2/\z.2.Fit P.N) (λz=>[si 88 z.1,si 87 sc.held.length,sv 86 (slv a2 sc.held.length c2),⟨0,pp n,2, .tt⟩,⟨4,pp (bs 0),6, .tt⟩,⟨6,pp (bf 0),9, .tt⟩]) [6] (λz=>[TlA t z.2]) (λz=>sc.held.length-z.1) ((0,P.t)) (⟨j8 _,rfl,hPO.t⟩) λz hI=>?_;obtain⟨i,U2⟩:=z;dsimp only at hI ⊢;obtain⟨hi2,hfo,hU⟩:=hI;have hUb:=hU.b;have hP0:=hPO.gd.ok.bd16;refine J.qd (λ_ h3=>?_) λ_ h3=>?_
 ·simp only[d6,i6]at h3;obtain⟨x,hx⟩:∃x,sc.held[i]? =some x:=⟨_,c9 h3⟩;have hsu:=b0i P.t sc.held false hx;rw[hfo]at hsu;refine J.know (λh' s=>D7 (c:=(a2,c2)) (by omega) (s.get (i:=4) rfl)) λhg=>?_;obtain⟨g,rfl⟩:=hg;refine J.q λ_=>?_;refine J.v (iI x) rfl rfl (λhg aa w he hw=>I4 tk rfl rfl he rfl rfl rfl (hw.get (i:=4) rfl) (by rw[show 0+(i:Int).toNat*1=i from by omega,B2,i5,hx];rfl)) ?_;refine J.qp (b4g t U2 (by omega) hU.len x false) [6] λ_=>?_;refine J.q λ_=>?_;refine J.n ((i+1,U2.hold x false)) (⟨by dsimp only;omega,hsu,hU.hold x false⟩) (by dsimp only;omega) [0,1,2,3,4,5,6,7,8,9]
 simp only[c8,i6]at h3;obtain rfl:i=sc.held.length:=by omega
 rw[x9 (j3 _)]at hfo;have hA:P.holds sc.held false={P with t:=U2}:=by unfold Dv.holds;rw[hfo]
 have hBO:=hPO.holds sc.held false;obtain⟨B,hB⟩:∃B,B=P.holds sc.held false:=⟨_,rfl⟩;rw[<- hB]at hBO hmt;rw[show C3 n P.N=C3 n B.N from by rw[hB];rfl,show TbA q P.T=TbA q B.T from by rw[hB];rfl,show TlA t U2=TlA t B.t from by rw[hB,hA],show a2o p n t q P=a2o p n t q B from by rw[hB];rfl];clear hPO hU hUb hfo hA hB;have hkb:=Dv.clear_keep hBO;have hcl:B.clear=({B with N:=(Dv.clearX B.N B.t B.T B.op).1,t:=(Dv.clearX B.N B.t B.T B.op).2.1},(Dv.clearX B.N B.t B.T B.op).2.2):=rfl;rw[hcl]at hmt hkb;dsimp only at hmt hkb;refine J.p (.of [0,4,8,12,17,20,24,28,33,36,40,44,49,54,58,60]) [15] [5,8] λ_=>?_;refine J.qp (a3o p n t q B) [9] λ_=>?_;refine J.qp (a5t n t q B.N B.t B.T _ m hBO.gd hm hBO.t B.op) [1,6,2] λ_=>?_;generalize Dv.clearX B.N B.t B.T B.op=W at hmt hkb ⊢;obtain⟨N1,t1,er1⟩:=W;dsimp only at hmt hkb ⊢;obtain⟨D,hD⟩:∃D:Dv,D={B with N:=N1,t:=t1}:=⟨_,rfl⟩;rw[<- hD]at hmt hkb;have hDO:=hkb.1;rw[show C3 n N1=C3 n D.N from by rw[hD],show TbA q B.T=TbA q D.T from by rw[hD],show TlA t t1=TlA t D.t from by rw[hD],show a2o p n t q B=a2o p n t q D from by rw[hD];rfl];clear hBO hkb hD hcl;refine J.qd (λ_ h4=>?_) λ_ h4=>?_
 ·simp only[G9,I1]at h4;rw[d7 h4]at hmt;refine J.qr [1] λ_=>?_;rw[hmt];exact .inr ⟨h4,rfl,rfl⟩
 simp only[A8]at h4;rw[d4 (by rw[h4];decide)]at hmt;have hlt2:(sc.torn.drop sc.first).length=sc.torn.length-sc.first:=C5;have hl200:(sc.torn.drop sc.first).length<=200:=by omega
 have hct2:Dv.costT*(sc.torn.drop sc.first).length<=Dv.costT*200:=y9 _ hl200;have hDO1:D.Ok (Dv.costT*(sc.torn.drop sc.first).length+(Dv.costM+k)) m:=hDO.less (by omega);have hkc:=Dv.torn_keep (k:=Dv.costM+k) (c:=(sc.torn.drop sc.first).length) hDO1 (j3 _) hd2;have hRd2:Rd (l9 101 19 a1 sc.torn.length c1 (n9 sc.torn)) (R6 (a3e (a1.map λg=>(g,0)) 19 sc.first c1)) 19 (sc.torn.drop sc.first).length (n9 (sc.torn.drop sc.first)):=λh s=>b4m (hRdA h s) rfl tn1 hcap1;refine J.pn 17 (.of [0,4,8,12,17,20,24,28,33,36,40,44,49,52,57,60,65,68,75,76]) [18,19] [5,8] λ_ _=>?_;refine J.vT (.slice (R6 (a3e (a1.map λg=>(g,0)) 19 sc.first c1)) (sc.torn.length-sc.first) (c1-sc.first)) rfl rfl (λhg aa w he hC=>a3B tk rfl rfl rfl he rfl rfl rfl rfl rfl tn1) ?_;rw[<- hlt2];refine J.q λ_=>?_;refine J.ca hX (by kernel_rfl) (b0Z n t q p D _ m (l9 101 19 a1 sc.torn.length c1 (n9 sc.torn)) (a3e (a1.map λg=>(g,0)) 19 sc.first c1) (sc.torn.drop sc.first).length (c1-sc.first) (sc.torn.drop sc.first) hRd2 rfl (by omega) (by omega) (a4E hnil2) hd2 hDO1 hm) [9,1,6,2,3] 0 rfl rfl rfl rfl rfl rfl (λ_=>rfl) ?_;refine cpq ⟨_,rfl,stq,?_⟩;clear hDO hDO1;generalize D.torn (sc.torn.drop sc.first)=W at hmt hkc ⊢;obtain⟨P2,er2⟩:=W;dsimp only at hmt hkc ⊢;refine J.qd (λ_ h5=>?_) λ_ h5=>?_
 ·simp only[G9,I1]at h5;rw[d7 h5]at hmt;refine J.qr [1] λ_=>?_;rw[hmt];exact .inr ⟨h5,rfl,rfl⟩
 simp only[A8]at h5;rw[d4 (by rw[h5];decide)]at hmt;refine J.p (.of [0,4,8,12,17,20,24,28,33,36,40,44,49,55,56]) [13,14] [5,8] λ_=>?_;refine J.qp (a5s n t q p P2 _ m hkc.1 hm) [9,1,6,2] λ_=>?_;generalize P2.room=W at hmt ⊢;obtain⟨P3,er3⟩:=W;dsimp only at hmt ⊢;refine J.qd (λ_ h6=>?_) λ_ h6=>?_
 ·simp only[G9,I1]at h6;refine J.qr [1] λ_=>?_;rw[hmt];exact .inr ⟨h6,rfl,rfl⟩
 simp only[A8]at h6;refine J.qr [8,9,1,6,2,7] λ_=>?_;rw[hmt];exact .inl ⟨h6,bf 0,p,t,q,d,rfl,rfl⟩
def Fl.turn (f:Fl):Bool:=if f.kind≠5 then decide (f.n=0)&&decide (f.xx=0)else decide (f.n>=0)&&decide (f.n<32)&&decide (f.xx>=1)&&decide (f.xx<=255)
def Fl.may (D B P:Nat) (f:Fl):Bool:=decide (f.at_>=0)&&decide (f.kind>=1)&&decide (f.kind<=5)&&X4 D B P f.x f.y f.z&&f.turn
theorem c1v (x y:Fl):FP 134 [flV x,flV y] [] (Ps (iI (R7 x.at_ y.at_)) []):=by
 refine FE [0,0] Tryz.func134 λX F hX=>?_;refine J.qp (a1p x.at_ y.at_) [] λ_=>?_;exact J.qx []
theorem c2F (D B P:Nat) (hD:D<=1000) (hB:B<=1000) (hP:P<=1000) (f:Fl):FP 132 [.agg #[iI D,iI B,iI P],flV f] [] (Ps (.bool (f.may D B P)) []):=by
 refine FE [0,0] Tryz.func132 λX F hX=>?_;have fin:∀(T:Bool),T=f.turn->Fl.may D B P f=(decide (f.at_>=0)&&decide (f.kind>=1)&&decide (f.kind<=5)&&X4 D B P f.x f.y f.z&&T):=λT h=>by rw[h];rfl
 refine J.run hX tk 400 (λb4=>rfl) (λb4=>?_) (λb4=>?_)
 ·(repeat' (first | exact Conj.nil | refine Conj.cons ?_ ?_ | exact rfl | exact hq | (exact Bool.noConfusion hq) | (rw[hq];rfl) | (rw[(i4 _).mp hq]) | intro hq | omega | (simp;done)))
 refine J.qd (λ_ h1=>?_) λ_ h1=>?_
 ·have hk:f.kind≠5:=by simpa using h1
  have hT:(decide (f.n=0)&&decide (f.xx=0))=f.turn:=by unfold Fl.turn;rw[d7 hk]
  have fin:=fin _ hT;refine J.run hX tk 400 (λb6=>rfl) (λb6=>?_) (λb6=>?_)
  ·(repeat' (first | exact Conj.nil | refine Conj.cons ?_ ?_ | exact rfl | exact hq | (exact Bool.noConfusion hq) | (rw[hq];rfl) | (rw[(i4 _).mp hq]) | intro hq | omega | (simp;done)))
  cases hb:(decide (f.at_>=0)&&decide (f.kind>=1)&&decide (f.kind<=5))with
  | true=>
   rw[hb,q9]at fin;refine J.qp (b2J D B P f.x f.y f.z (by omega) (by omega) (by omega)) [] λ_=>?_;refine J.run hX tk 400 (λb8=>rfl) (λb8=>?_) (λb8=>?_)
   ·(repeat' (first | exact Conj.nil | refine Conj.cons ?_ ?_ | exact rfl | exact hq | (exact Bool.noConfusion hq) | (rw[hq];rfl) | (rw[(i4 _).mp hq]) | intro hq | omega | (simp;done)))
   refine J.qr [] λ_=>?_;exact⟨by rw[fin];rfl,rfl⟩
  | false=>
   rw[hb,a0c,a0c]at fin;refine J.v (.bool false) rfl rfl (λhg a w he hw=>by simp[G.on]at hg) ?_;refine J.run hX tk 400 (λb10=>rfl) (λb10=>?_) (λb10=>?_)
   ·(repeat' (first | exact Conj.nil | refine Conj.cons ?_ ?_ | exact rfl | exact hq | (exact Bool.noConfusion hq) | (rw[hq];rfl) | (rw[(i4 _).mp hq]) | intro hq | omega | (simp;done)))
   refine J.qr [] λ_=>?_;exact⟨by rw[fin];rfl,rfl⟩
 ·have hk:¬f.kind≠5:=by simpa using h1
  have hT:(decide (f.n>=0)&&decide (f.n<32)&&decide (f.xx>=1)&&decide (f.xx<=255))=f.turn:=by unfold Fl.turn;rw[d4 hk]
  have fin:=fin _ hT;refine J.run hX tk 400 (λb12=>rfl) (λb12=>?_) (λb12=>?_)
  ·(repeat' (first | exact Conj.nil | refine Conj.cons ?_ ?_ | exact rfl | exact hq | (exact Bool.noConfusion hq) | (rw[hq];rfl) | (rw[(i4 _).mp hq]) | intro hq | omega | (simp;done)))
  cases hb:(decide (f.at_>=0)&&decide (f.kind>=1)&&decide (f.kind<=5))with
  | true=>
   rw[hb,q9]at fin;refine J.qp (b2J D B P f.x f.y f.z (by omega) (by omega) (by omega)) [] λ_=>?_;refine J.run hX tk 400 (λb14=>rfl) (λb14=>?_) (λb14=>?_)
   ·(repeat' (first | exact Conj.nil | refine Conj.cons ?_ ?_ | exact rfl | exact hq | (exact Bool.noConfusion hq) | (rw[hq];rfl) | (rw[(i4 _).mp hq]) | intro hq | omega | (simp;done)))
   refine J.qr [] λ_=>?_;exact⟨by rw[fin];rfl,rfl⟩
  | false=>
   rw[hb,a0c,a0c]at fin;refine J.v (.bool false) rfl rfl (λhg a w he hw=>by simp[G.on]at hg) ?_;refine J.run hX tk 400 (λb16=>rfl) (λb16=>?_) (λb16=>?_)
   ·(repeat' (first | exact Conj.nil | refine Conj.cons ?_ ?_ | exact rfl | exact hq | (exact Bool.noConfusion hq) | (rw[hq];rfl) | (rw[(i4 _).mp hq]) | intro hq | omega | (simp;done)))
   refine J.qr [] λ_=>?_;exact⟨by rw[fin];rfl,rfl⟩
theorem b8v (c:Nat) (a:Option Nat) (cap:Nat):FP 231 [slv a 0 cap,iI 0,iI 0,fnV c] [] (Ps (.tuple #[]) []):=by
 refine FE [0,0,0,0] Tryz.func231 λX F hX=>?_;refine J.q λ_=>?_;refine J.l (α:=Unit) (λ_u=>True) (λ_u=>[si 8 1,si 2 0]) [] (λ_u=>[]) (λ_u=>0) (()) (trivial) λ_u hI=>?_;refine J.qF λ_=>?_;refine J.q λ_=>?_;refine J.f [] ?_;exact⟨rfl,rfl⟩
def a3C (x y:Fl):Int:=R7 x.at_ y.at_
theorem b6O (g n cap:Nat) (l:List Fl) (hl:l.length=n) (hn:n<=15) (r:List Value):FP 193 [.slice (some ⟨g,0,none⟩) n cap,iI n,fnV 134] [.pt g 41 (A7 l++r)] (Ps (.tuple #[]) [.pt g 41 (A7 (W8 a3C l)++r)]):=by
 refine FE [2,0,0] Tryz.func193 λX F hX=>?_;refine J.q λ_=>?_;refine J.l (α:=Unit) (λ_u=>True) (λ_u=>[si 8 20,si 7 0,si 6 20,⟨0, .slice (some ⟨g,0,none⟩) n cap,2, .tt⟩,si 1 n,⟨2,fnV 134,0, .tt⟩]) [] (λ_u=>[]) (λ_u=>0) (()) (trivial) λ_u hI=>?_;refine J.qd (λ_ h1=>?_) λ_ h1=>?_
 ·simp only[d6]at h1;omega
 refine J.qp (c0B 134 a3C (by kernel_rfl) c1v g n cap l hl (by omega) r) [1] λ_=>?_;refine J.q λ_=>?_;refine J.l (α:=Unit) (λ_u=>True) (λ_u=>[si 6 20,⟨0, .slice (some ⟨g,0,none⟩) n cap,2, .tt⟩,si 1 n,⟨2,fnV 134,0, .tt⟩]) [] (λ_u=>[]) (λ_u=>0) (()) (trivial) λ_u hI=>?_;refine J.qd (λ_ h2=>?_) λ_ h2=>?_
 ·simp only[d6]at h2;omega
 refine J.q λ_=>?_;refine J.f [1] ?_;exact⟨rfl,rfl⟩
theorem b5h (a:Option Nat) (cap:Nat):FP 193 [slv a 0 cap,iI 0,fnV 134] [] (Ps (.tuple #[]) []):=by
 refine FE [0,0,0] Tryz.func193 λX F hX=>?_;refine J.q λ_=>?_;refine J.l (α:=Unit) (λ_u=>True) (λ_u=>[si 8 20,si 7 0,si 6 20,sv 0 (slv a 0 cap),si 1 0,⟨2,fnV 134,0, .tt⟩]) [] (λ_u=>[]) (λ_u=>0) (()) (trivial) λ_u hI=>?_;refine J.qF λ_=>?_;refine J.qp (b8v 134 a cap) [] λ_=>?_;refine J.q λ_=>?_;refine J.l (α:=Unit) (λ_u=>True) (λ_u=>[si 6 20,si 1 0]) [] (λ_u=>[]) (λ_u=>0) (()) (trivial) λ_u hI=>?_;refine J.qF λ_=>?_;refine J.q λ_=>?_;refine J.f [] ?_;exact⟨rfl,rfl⟩
theorem c1u (a:Option Nat) (n cap:Nat) (l:List Fl) (hl:l.length=n) (hn:n<=15):FP 133 [slv a n cap,fnV 134] [l9 41 7 a n cap (A7 l)] (Ps (.tuple #[]) [l9 41 7 a n cap (A7 (W8 a3C l))]):=by
 refine FE [0,0] Tryz.func133 λX F hX=>?_;refine J.q λ_=>?_;rcases P9 n with h0 | h0
 ·subst h0;obtain rfl:l=[]:=List.length_eq_zero_iff.1 hl;refine J.qp (b5h a cap) [] λ_=>?_;refine J.q λ_=>?_;refine J.f [1] ?_;exact⟨rfl,rfl⟩
 refine J.know (λh' s=>D7 (c:=(a,cap)) (by omega) (s.get (i:=1) rfl)) λhg=>?_;obtain⟨g,rfl⟩:=hg;refine J.openOwn 1 rfl rfl (λ_=>rfl) λr q1 q2 q3 q4=>?_;refine J.qp (b6O g n cap l hl hn r) [1] λ_=>?_;have hlen:(W8 a3C l).length=n:=by rw[(a6P a3C l).length_eq,hl]
 refine J.closeOwn (e:=41) (size:=7) (n:=n) (cap:=cap) (xs:=A7 (W8 a3C l)) 1 rfl rfl (by rw[Y3,hlen]) q2 q3 (by rw[d8,Y3,hlen];rw[Y3,hl]at q4;exact q4) (D9 (by rw[Y3,hlen])) rfl ?_;refine J.q λ_=>?_;refine J.f [1] ?_;exact⟨rfl,rfl⟩
def plF (D B P:Nat) (l:List Fl):List Fl:=l.filter (Fl.may D B P)
theorem b7t (D B P:Nat) (l:List Fl) (k:Nat) (x:Fl) (h:l[k]? =some x):plF D B P (l.take (k+1))=if x.may D B P then plF D B P (l.take k)++[x]else plF D B P (l.take k):=by
 unfold plF;rw[D2,h,K8,T3]
 by_cases hx:x.may D B P
 ·rw[d7 hx,a2Q hx];rfl
 ·rw[d4 hx,T8 hx,List.filter_nil,l8]
theorem b7u (D B P:Nat) (l:List Fl):(plF D B P l).length<=l.length:=J8 _ _
theorem a5O (l:List Fl) (x:Fl):A7 l++flC x=A7 (l++[x]):=by unfold A7;rw[K1];simp
theorem c0Z (D B P:Nat) (hD:D<=1000) (hB:B<=1000) (hP:P<=1000) (A:Atom) (ad:Option Addr) (n c:Nat) (l:List Fl) (hA:Rd A ad 7 n (A7 l)) (hl:l.length=n) (hn:n<=15):FP 85 [.agg #[iI D,iI B,iI P], .slice ad n c] [A]
  (λv As=>∃p a c,v=pp p/\As=[A, .pt p 218 [slv a (plF D B P l).length c],l9 41 7 a (plF D B P l).length c (A7 (W8 a3C (plF D B P l)))]):=by
 refine FE [0,0] Tryz.func85 λX F hX=>?_;refine J.q λbp=>?_;refine J.turn1 [] rfl (As:=[l9 41 7 none 0 0 (A7 [])]) (λh s=>Sep.one ⟨rfl,rfl,rfl⟩) rfl ?_;refine J.q λ_=>?_;refine J.l (α:=(Nat×Option Nat×Nat)) (λz=>z.1<=n) (λz=>[si 12 z.1,si 11 n,sv 10 (.slice ad n c),⟨5,pp (bp (0+1)),4, .tt⟩,⟨2,pp (bp 0),3, .tt⟩]) [3,4] (λz=>[.pt (bp (0+1)) 218 [slv z.2.1 (plF D B P (l.take z.1)).length z.2.2],l9 41 7 z.2.1 (plF D B P (l.take z.1)).length z.2.2 (A7 (plF D B P (l.take z.1)))]) (λz=>n-z.1) ((0,none,0)) (j8 _) λz hI=>?_;obtain⟨k,ga,ca⟩:=z;dsimp only at hI ⊢;refine J.qd (λ_ h1=>?_) λ_ h1=>?_
 ·simp only[d6,i6]at h1;obtain⟨x,hx⟩:∃x,l[k]? =some x:=⟨_,c9 (by omega)⟩;have hsn:=b7t D B P l k x hx;have hle:=b7u D B P (l.take k);rw[l5]at hle;refine J.know (p:=∃g o,ad=some ⟨g,o,none⟩) (λh' s=>Rd.addr (hA _ (s.get (i:=1) rfl)) (by omega)) λhk2=>?_;obtain⟨g,o,rfl⟩:=hk2;refine J.q λ_=>?_;refine J.v (flV x) rfl rfl (λhg a w he hw=>?_) ?_
  ·exact a2x tk rfl rfl he rfl rfl rfl (hA _ (hw.get (i:=1) rfl)) (by omega) (j:=k*7) (by omega) (by have:=Y8 l [] k _ hx;rwa [l8]at this) rfl
  refine J.qp (c2F D B P hD hB hP x) [] λ_=>?_;refine J.qd (λ_ h2=>?_) λ_ h2=>?_
  ·rw[d7 h2]at hsn;refine J.pq (.of [0,4,8,12,17,21,26,30,32,36,43]) [8,9,10] [3,5] λ_ _=>?_;refine J.ap 4 6 0 (a5O (plF D B P (l.take k)) x) λa3 c3=>?_;refine J.q λ_=>?_;rw[show(plF D B P (l.take k)).length+1=(plF D B P (l.take (k+1))).length from by rw[hsn,d8];rfl,<- hsn];refine J.q λ_=>?_;refine J.n ((k+1,a3,c3)) (by dsimp only;omega) (by dsimp only;omega) [0,1,2,3,4]
  ·rw[d4 (by rw[h2];decide)]at hsn;refine J.q λ_=>?_;rw[<- hsn];refine J.q λ_=>?_;refine J.n ((k+1,ga,ca)) (by dsimp only;omega) (by dsimp only;omega) [0,1,2,3,4]
 simp only[c8,i6]at h1;obtain rfl:k=n:=by omega
 rw[x9 (by omega)];have hle:=b7u D B P l;refine J.q λ_=>?_;refine J.ca hX (by kernel_rfl) (c1u ga _ ca (plF D B P l) rfl (by omega)) [4] 0 rfl rfl rfl rfl rfl rfl (λ_=>rfl) ?_;refine cpq ⟨_,rfl,trivial,?_⟩;refine J.qr [1,3,4] λ_=>?_;exact⟨bp (0+1),ga,ca,rfl,rfl⟩
end Go.Proofs.YtmafiplddapokaaGreat
