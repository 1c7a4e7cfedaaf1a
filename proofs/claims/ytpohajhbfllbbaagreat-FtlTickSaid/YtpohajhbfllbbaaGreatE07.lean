/- Helpers. No condition. -/
import Derived.Test.YtpohajhbfllbbaaGreatE01
import Derived.Test.YtpohajhbfllbbaaGreatE04
import Derived.Test.YtpohajhbfllbbaaGreatE06
import Derived.Maps.RangeRun
set_option maxRecDepth 20000
set_option linter.all false
namespace Go.Proofs.YtpohajhbfllbbaaGreat
open Go Go.RowKit
def itP {K:Type} (bm r:Nat) (kv:K->Value) (l:List (K×Value)) (is:List Nat) (h:Hl):Prop:=
 ∃es clock seen,h bm=some (.map es clock)/\h r=some (.mapIter (some bm) clock seen clock)/\es.toList.map (λe=>(e.key,e.val))=l.map (λx=>(kv x.1,x.2))/\(es.toList.map (·.born)).Nodup/\(∀e∈es.toList,e.born<clock)/\
  is.Nodup/\(∀i∈is,i<l.length)/\seen.toList=is.map (λi=>(es.toList.map (·.born)).getD i 0)
def itA {K:Type} (bm r:Nat) (kv:K->Value) (l:List (K×Value)) (is:List Nat):Atom:= .hp ⟨itP bm r kv l is,λ_ _ u ⟨es,c,s,h1,h2,h3⟩=>⟨es,c,s,u _ _ h1,u _ _ h2,h3⟩⟩
theorem b3g {K:Type} {bm r:Nat} {kv:K->Value} {l:List (K×Value)} {is:List Nat} {h:Hl} (s:Sep [itA bm r kv l is] h):Sep [B4 bm kv l] h:=by
 obtain⟨es,c,sn,h1,h2,h3,h4,h5,_⟩:=s.get (i:=0) rfl;exact Sep.one ⟨es,c,h1,h3,h4,h5⟩
theorem b0D {α:Type} {l:List α} (h:l.Nodup) {i j:Nat} (hi:i<l.length) (hj:j<l.length) (e:l[i]=l[j]):i=j:=by
 have h':=List.pairwise_iff_getElem.1 h;rcases Nat.lt_trichotomy i j with h1 | h1 | h1
 ·exact absurd e (h' i j hi hj h1)
 ·exact h1
 ·exact absurd e.symm (h' j i hj hi h1)
theorem b3Y {n:Nat} {is:List Nat} (hn:is.Nodup) (hl:∀i∈is,i<n) (hall:∀i,i<n->i∈is):is.Perm (List.range n):=by
 rw[List.perm_iff_count];intro a;rw[List.Nodup.count hn,List.Nodup.count List.nodup_range]
 by_cases h:a∈is
 ·rw[if_pos h,if_pos (List.mem_range.2 (hl a h))]
 ·rw[if_neg h,if_neg (λh2=>h (hall a (List.mem_range.1 h2)))]
theorem Sep.part {L:List Atom} {h:Hl} (s:Sep L h) {i b:Nat} {o':Obj} {A A':Atom} (hA:L[i]? =some A) (hs:∀h',A.sat h'->∃o,h' b=some o) (hs':∀h',Hle h' h->A.sat h'->A'.sat (A9 h' b o')):Sep (L.set i A') (A9 h b o'):=by
 obtain⟨own,hw⟩:=s;obtain⟨o,ho⟩:=hs _ (hw i A hA);have hb:=res_some.1 ho;have hi:i<L.length:=(List.getElem?_eq_some_iff.1 hA).1;refine⟨own,λj B hB=>?_⟩;rw[List.getElem?_set]at hB;split at hB
 ·rename_i e;injection hB with hB;subst hB;subst e;refine Atom.up (λx u hx=>?_) (hs' _ (λb o hb=>(res_some.1 hb).2) (hw _ A hA));rw[res_some];unfold A9 at hx ⊢;split at hx
  ·rename_i e;subst e;exact⟨hb.1,by simpa using hx⟩
  ·rename_i e;rw[res_some]at hx;exact⟨hx.1,by rw[if_neg e];exact hx.2⟩
 ·rename_i e;refine Atom.up (λx u hx=>?_) (hw j B hB);rw[res_some]at hx ⊢;refine⟨hx.1,?_⟩;unfold A9;rw[if_neg]
  ·exact hx.2
  ·rintro rfl;exact e (hb.1.symm.trans hx.1)
theorem Sep.grow {L:List Atom} {h:Hl} (s:Sep L h) {i b:Nat} {o':Obj} {A A':Atom} (hA:L[i]? =some A) (hn:h b=none) (hs':∀h',Hle h' h->h' b=none->A.sat h'->A'.sat (A9 h' b o')):Sep (L.set i A') (A9 h b o'):=by
 obtain⟨own,hw⟩:=s;have hi:i<L.length:=(List.getElem?_eq_some_iff.1 hA).1;have hres:∀k,res h own k b=none:=λk=>by unfold res;split<;>first | exact hn | rfl
 refine⟨λx=>if x=b then i else own x,λj B hB=>?_⟩;rw[List.getElem?_set]at hB;split at hB
 ·rename_i e;injection hB with hB;subst hB;subst e;refine Atom.up (λx u hx=>?_) (hs' _ (λb o hb=>(res_some.1 hb).2) (hres _) (hw _ A hA));rw[res_some];unfold A9 at hx ⊢;split at hx
  ·rename_i e;subst e;exact⟨by simp,by simpa using hx⟩
  ·rename_i e;rw[res_some]at hx;exact⟨by rw[if_neg e];exact hx.1,by rw[if_neg e];exact hx.2⟩
 ·rename_i e;refine Atom.up (λx u hx=>?_) (hw j B hB);rw[res_some]at hx ⊢;have hxb:x≠b:=by rintro rfl;rw[hn]at hx;cases hx.2
  refine⟨by rw[if_neg hxb];exact hx.1,?_⟩;unfold A9;rw[if_neg hxb];exact hx.2
theorem a7D {w:World} {r:Nat} {o o':Obj} (h:hl w r=some o):hl (Go.ChangeMaps.setBlock w r o')=A9 (hl w) r o':=by
 funext x;unfold hl A9 Go.ChangeMaps.setBlock;simp only[Array.getElem?_setIfInBounds]
 by_cases e:x=r
 ·subst e;have hlt:x<w.heap.size:=by
   rcases Nat.lt_or_ge x w.heap.size with h1 | h1
   ·exact h1
   ·simp only[hl]at h;rw[Array.getElem?_eq_none h1]at h;cases h
  simp[hlt]
 ·rw[if_neg (Ne.symm e),if_neg e]
section
variable {X : Cx} {P : Program} {T : Tab} {K : List KI} {E : Env} {L : List Atom} {N : Nat} {F : HP} {Post : Value → List Atom → Prop} {rs : List ResultVar} {KK : Type} {kv : KK → Value}
theorem J.rangeMap (hX:IsCx X P rs N F Post) {ops:Array Oper} {C:Cl} {lt:Bool} {i:Nat} {t:PT} {o:Oper} {g:G} {MT KT ET:TypeId} {x:Operand} {k1 t1 bm:Nat} {g1:G} {l:List (KK×Value)} {E':Value->Env} {L2:Nat->List Atom} (im:Nat)
  (hm:P.underlying MT=some (.map KT ET)) (ho:n7 ops.toList i=some o) (hg:gd ops.toList E o=some g) (hgo:g.on=true) (hop:o.op= .range MT x) (hx:ev E x=some ⟨k1, .map (some bm),t1,g1⟩) (v1:g1.on=true)
  (hL:n7 L im=some (B4 bm kv l)) (hL2:∀r,A8 L im (itA bm r kv l [])=some (L2 r)) (hd:∀v,C6 N o.dst v 0 .tt E=some (E' v))
  (hJ:∀r,Conj (q9 lt C (L2 r))/\J X (.reg ops C t::K) (E' (.pointer (some ⟨r,0,none⟩))) (L2 r)):J X (.reg ops C (.alt lt i t .non)::K) E L:=by
 refine J.op hX (S:=λv' L'=>∃r,v'= .pointer (some ⟨r,0,none⟩)/\L'=L.set im (itA bm r kv l [])) 0 ho hg hgo (λa0 w hen hs=>?_) hd (λv L' ⟨r,e1,e2⟩=>by subst e1;subst e2;rw[<- A7 (hL2 r)];exact hJ r);rw[m9]at hL;have ex:=i6 hen hx;simp only[Slot.val,v1]at ex;obtain⟨es,clock,h1,h2,h3,h4⟩:a8y bm kv l (hl w):=hs.get hL;have hr:=run_range_map (P:=P) w MT KT ET bm es clock hm h1;have hbm:bm≠w.heap.size:=λe=>by
  have:=h1;simp only[hl]at this;rw[e,Array.getElem?_eq_none (Nat.le_refl _)]at this;cases this
 refine⟨_,_, .value (.pointer (some ⟨w.heap.size,0,none⟩)),w.alloc (.mapIter (some bm) clock #[] clock),⟨w.heap.size,rfl,rfl⟩,?_, .inl rfl,?_,⟨rfl,rfl,rfl,by show w.heap.size<=(w.heap.push _).size;simp⟩⟩
 ·simp only[execOp,hop,ex,hr,Sem.run_bind,Result.andThen_ok,Sem.run_pure]
 ·show Sep _ (hl {w with heap:=w.heap.push (Obj.mapIter (some bm) clock #[] clock)});rw[a1e];refine Sep.grow hs hL (a1f w) (λh' hle hn ⟨es',c',q1,q2,q3,q4⟩=>?_);have e1:=(hle _ _ q1).symm.trans h1;simp only[Option.some.injEq,Obj.map.injEq]at e1;obtain⟨rfl,rfl⟩:=e1;exact⟨es',c',#[],by unfold A9;rw[if_neg hbm];exact q1,by unfold A9;rw[if_pos rfl],q2,q3,q4,List.nodup_nil,by simp,rfl⟩
theorem J.rangeNext (hX:IsCx X P rs N F Post) {ops:Array Oper} {C:Cl} {lt:Bool} {i:Nat} {t:PT} {o:Oper} {g:G} {x:Operand} {k1 t1 bm r:Nat} {g1:G} {l:List (KK×Value)} {is:List Nat} {E':Value->Env} {L2:Nat->List Atom} (im:Nat)
  (ho:n7 ops.toList i=some o) (hg:gd ops.toList E o=some g) (hgo:g.on=true) (hop:o.op= .next x false) (hx:ev E x=some ⟨k1, .pointer (some ⟨r,0,none⟩),t1,g1⟩) (v1:g1.on=true)
  (hL:n7 L im=some (itA bm r kv l is)) (hL2:∀j,A8 L im (itA bm r kv l (is++[j]))=some (L2 j)) (hd:∀v,C6 N o.dst v 0 .tt E=some (E' v))
  (h0:is.Perm (List.range l.length)->Conj (q9 lt C L)/\J X (.reg ops C t::K) (E' (.tuple #[.bool false])) L)
  (h1:∀j y,j∉is->l[j]? =some y->Conj (q9 lt C (L2 j))/\J X (.reg ops C t::K) (E' (.tuple #[.bool true,kv y.1,y.2])) (L2 j)):J X (.reg ops C (.alt lt i t .non)::K) E L:=by
 refine J.op hX (S:=λv' L'=>(is.Perm (List.range l.length)/\v'= .tuple #[.bool false]/\L'=L)\/∃j y,j∉is/\l[j]? =some y/\v'= .tuple #[.bool true,kv y.1,y.2]/\L'=L.set im (itA bm r kv l (is++[j]))) 0 ho hg hgo (λa0 w hen hs=>?_) hd (λv L' hS=>by
  rcases hS with⟨e0,e1,e2⟩ | ⟨j,y,e0,e1,e2,e3⟩
  ·subst e1;subst e2;exact h0 e0
  ·subst e2;subst e3;rw[<- A7 (hL2 j)];exact h1 j y e0 e1)
 rw[m9]at hL;have ex:=i6 hen hx;simp only[Slot.val,v1]at ex;obtain⟨es,clock,seen,q1,q2,q3,q4,q5,q6,q7,q8⟩:itP bm r kv l is (hl w):=hs.get hL;have hlen:es.toList.length=l.length:=by have:=congrArg List.length q3;simpa using this
 rcases run_next_at (P:=P) w o.type r bm clock clock seen es clock q2 q1 q5 (Nat.le_refl _)with⟨z1,z2⟩ | ⟨e,z1,w1,z2,z3⟩
 ·refine⟨.tuple #[.bool false],L, .value (.tuple #[.bool false]),w, .inl ⟨?_,rfl,rfl⟩,?_, .inl rfl,hs,Ext.refl _⟩
  ·refine b3Y q6 q7 (λj hj=>?_);have hj':j<es.toList.length:=by omega
   have h0:leftOf es seen= #[]:=Array.eq_empty_of_size_eq_zero z1;have hm:es.toList[j]∈es.toList:=List.getElem_mem hj';have hs1:seen.contains (es.toList[j]).born=true:=by
    cases hc:seen.contains (es.toList[j]).born with
    | true=>rfl
    | false=>
     exfalso
     have:es.toList[j]∈leftOf es seen:=by
      unfold leftOf;rw[Array.mem_filter];exact⟨by simpa using hm,by rw[hc];rfl⟩
     rw[h0]at this;simp at this
   have hs2:(es.toList[j]).born∈seen.toList:=by simpa using hs1
   rw[q8,List.mem_map]at hs2;obtain⟨i',hi',e⟩:=hs2;have hi2:i'<es.toList.length:=by have:=q7 i' hi';omega
   have e2:(es.toList.map (·.born))[i']'(by simpa using hi2)=(es.toList.map (·.born))[j]'(by simpa using hj'):=by
    rw[List.getD_eq_getElem?_getD,List.getElem?_eq_getElem (by simpa using hi2),Option.getD_some]at e;rw[e,List.getElem_map]
   have:=b0D q4 _ _ e2;subst this;exact hi'
  ·simp only[execOp,hop,ex,z2,Sem.run_bind,Result.andThen_ok,Sem.run_pure]
 ·have hle:e∈es.toList/\seen.contains e.born=false:=by
   have:e∈leftOf es seen:=by simpa using z1
   unfold leftOf at this;rw[Array.mem_filter]at this;exact⟨by simpa using this.1,by simpa using this.2⟩
  obtain⟨j,hj,hje⟩:=List.mem_iff_getElem.1 hle.1;have hjl:j<l.length:=by omega
  have hkv:(e.key,e.val)=(kv l[j].1,l[j].2):=by
   have h2:(es.toList.map λe=>(e.key,e.val))[j]'(by simpa using hj)=(l.map λx=>(kv x.1,x.2))[j]'(by simpa using hjl):=by simp only[q3]
   rw[List.getElem_map,List.getElem_map,hje]at h2;exact h2
  simp only[Prod.mk.injEq]at hkv;have hbj:(es.toList.map (·.born)).getD j 0=e.born:=by
   rw[List.getD_eq_getElem?_getD,List.getElem?_eq_getElem (by simpa using hj),Option.getD_some,List.getElem_map,hje]
  have hnj:j∉is:=λhm=>by
   have:e.born∈seen.toList:=by rw[q8,List.mem_map];exact⟨j,hm,hbj⟩
   have h2:seen.contains e.born=true:=by simpa using this
   rw[hle.2]at h2;cases h2
  have hw1:hl w1=hl w:=by rcases z2 with rfl | rfl<;>rfl
  have hx1:Ext w w1:=by rcases z2 with rfl | rfl<;>exact⟨rfl,rfl,rfl,Nat.le_refl _⟩
  refine⟨.tuple #[.bool true,kv l[j].1,l[j].2],L.set im (itA bm r kv l (is++[j])), .value (.tuple #[.bool true,e.key,e.val]),Go.ChangeMaps.setBlock w1 r (.mapIter (some bm) clock (seen.push e.born) clock), .inr ⟨j,l[j],hnj,List.getElem?_eq_getElem hjl,rfl,rfl⟩,?_, .inl (by rw[hkv.1,hkv.2]),?_,?_⟩
  ·simp only[execOp,hop,ex,z3,Sem.run_bind,Result.andThen_ok,Sem.run_pure]
  ·rw[a7D (by rw[hw1];exact q2),hw1];refine Sep.part hs hL (λh' ⟨_,_,_,_,u,_⟩=>⟨_,u⟩) (λh' hh ⟨es',c',sn',u1,u2,u3⟩=>?_);have e1:=(hh _ _ u1).symm.trans q1;have e2:=(hh _ _ u2).symm.trans q2;simp only[Option.some.injEq,Obj.map.injEq]at e1;simp only[Option.some.injEq,Obj.mapIter.injEq]at e2;obtain⟨rfl,rfl⟩:=e1;obtain⟨-,-,rfl,-⟩:=e2;have hne:bm≠r:=by rintro rfl;rw[q1]at q2;cases q2
   refine⟨es',c',sn'.push e.born,by unfold A9;rw[if_neg hne];exact u1,by unfold A9;rw[if_pos rfl],q3,q4,q5,?_,?_,?_⟩
   ·rw[List.nodup_append];exact⟨q6,by simp,λa ha b hb=>by simp at hb;subst hb;rintro rfl;exact hnj ha⟩
   ·intro a ha;rw[List.mem_append]at ha;rcases ha with ha | ha
    ·exact q7 a ha
    ·simp at ha;subst ha;exact hjl
   ·rw[Array.toList_push,q8,List.map_append,List.map_cons,List.map_nil,hbj]
  ·exact⟨hx1.os,hx1.tape,hx1.output,Nat.le_trans hx1.size (by simp[Go.ChangeMaps.setBlock])⟩
theorem J.rangeEntry (hX:IsCx X P rs N F Post) {ops:Array Oper} {C:Cl} {lt:Bool} {i:Nat} {t:PT} {o:Oper} {g:G} {x:Operand} {k1 t1 bm r:Nat} {g1:G} {l:List (KK×Value)} {is:List Nat} {j:Nat} {y:KK×Value} {E':Env} (im:Nat)
  (ho:n7 ops.toList i=some o) (hg:gd ops.toList E o=some g) (hgo:g.on=true) (hop:o.op= .entry x) (hx:ev E x=some ⟨k1, .pointer (some ⟨r,0,none⟩),t1,g1⟩) (v1:g1.on=true)
  (hL:n7 L im=some (itA bm r kv l (is++[j]))) (hy:l[j]? =some y) (hd:C6 N o.dst (.tuple #[kv y.1,y.2]) 0 g E=some E')
  (hJ:Conj (q9 lt C L)/\J X (.reg ops C t::K) E' L):J X (.reg ops C (.alt lt i t .non)::K) E L:=by
 refine J.val hX _ 0 ho hg (λ_ a w hen hs=>?_) hd hJ.1 hJ.2;rw[m9]at hL;have ex:=i6 hen hx;simp only[Slot.val,v1]at ex;obtain⟨es,clock,seen,q1,q2,q3,q4,q5,q6,q7,q8⟩:itP bm r kv l (is++[j]) (hl w):=hs.get hL;have hjl:j<l.length:=(List.getElem?_eq_some_iff.1 hy).1;have hlen:es.toList.length=l.length:=by have:=congrArg List.length q3;simpa using this
 have hj:j<es.toList.length:=by omega
 have hkv:((es.toList[j]).key,(es.toList[j]).val)=(kv y.1,y.2):=by
  have h2:(es.toList.map λe=>(e.key,e.val))[j]'(by simpa using hj)=(l.map λx=>(kv x.1,x.2))[j]'(by simpa using hjl):=by simp only[q3]
  rw[List.getElem_map,List.getElem_map,(List.getElem?_eq_some_iff.1 hy).2]at h2;exact h2
 simp only[Prod.mk.injEq]at hkv;have hs:seen=(is.map (λi=>(es.toList.map (·.born)).getD i 0)).toArray.push (es.toList[j]).born:=by
  apply Array.toList_inj.1;rw[q8,Array.toList_push,List.map_append,List.map_cons,List.map_nil,List.getD_eq_getElem?_getD,List.getElem?_eq_getElem (by simpa using hj),Option.getD_some,List.getElem_map]
 have hr:=run_entry_at (P:=P) w r bm clock (is.map (λi=>(es.toList.map (·.born)).getD i 0)).toArray es clock (es.toList[j]) (by rw[<- hs];exact q2) q1 (List.getElem_mem hj) q4;simp only[execOp,hop,ex,hr,Sem.run_bind,Result.andThen_ok,Sem.run_pure,hkv.1,hkv.2]
end
theorem i7 {e size:Nat} {c:Option Nat×Nat} {n:Nat} {xs:List Value} (hn:0<n) {h:Hl} (s:(c9 e size c.1 n c.2 xs).sat h):∃g,c.1=some g:=by
 obtain⟨_,h2⟩:=s;cases hc:c.1 with
 | none=>rw[hc]at h2;omega
 | some g=>exact⟨g,rfl⟩
theorem J.cg {X:Cx} {K:List KI} {E E':Env} {L:List Atom} {N:Nat} {F:HP} {Post:Value->List Atom->Prop} {rs:List ResultVar} (hX:IsCx X Tryz.prog rs N F Post) {ops:Array Oper} {C:Cl} {l:Bool} {i:Nat} {t:PT} {o:Oper} {b:Bool} {f:FuncId} {vs:List Value} {ob:List Prop} {V:Value}
  (c:Fn Tryz.prog f vs [] (Ps V [])) (hJ:J X (.reg ops C t::K) E' L) (hf:n9 Tryz.prog f=true:=by kernel_rfl) (ho:n7 ops.toList i=some o:=by exact rfl) (hg:gd ops.toList E o=some (.when b):=by exact rfl) (hc:a2r E o.op=some (f,vs,ob):=by exact rfl) (hob:b=true->Conj ob:=by intro hq;(repeat' (first | exact Conj.nil | refine Conj.cons ?_ ?_ | omega | exact hq0 | (simpa using hq0) | (exactλh=>h) | exact rfl | (intro hq;have hq0:=hq;try simp only[Bool.and_eq_true,Bool.or_eq_true,decide_eq_true_eq,Bool.not_eq_true',decide_eq_false_iff_not]at hq) | (simp;done) | (simp;omega) | decide)))
  (hd:C6 N o.dst V 0 (.when b) E=some E':=by exact rfl) (ok:x5 L []=true:=by exact rfl) (h0:K4 L [] []=some L:=by exact rfl) (hst:Conj (q9 l C L):=by first | exact trivial | (repeat' (first | exact trivial | refine⟨rfl,?_⟩))):J X (.reg ops C (.alt l i t .non)::K) E L:=by
 intro a w hx he hs;rw[m9]at ho;have ho':ops[i]? =some o:=by simpa using ho
 refine⟨⟨o,ho',?_⟩,trivial⟩;have hw:=L5 he hg;unfold sOp;cases b with
 | true=>
  rw[if_pos (by rw[hw];rfl),a5D (P:=X.P) he (by rw[hX.hP];exact hf) hc (hob rfl)];have hcall:=c (HP.of (J7 L [])) w (hs.split ok);rw[<- hX.hP]at hcall;refine Calls.mono hcall λe w' ⟨v,As,he',⟨e1,e2⟩,hs',hx'⟩=>⟨v,he',?_⟩;subst e1 e2;have hs2:=Sep.back ok hs';rw[<- V7 (I0 ok).1 h0]at hs2;exact⟨x7 hst hs2,hJ _ w' (hx.trans hx') (A5 he (by rw[hX.hN];exact hd) _ rfl) hs2⟩
 | false=>
  rw[if_neg (by rw[hw];simp[G.on])];exact⟨x7 hst hs,hJ _ w hx (A5 he (by rw[hX.hN];exact hd) _ rfl) hs⟩
theorem b3t (m d:Int) (h0:0<=m) (h1:m<256):(bits .and .i64 m (L.one d) !=0)=L.has m d:=by
 obtain⟨m,rfl⟩:=Int.eq_ofNat_of_zero_le h0
 by_cases hd:0<=d/\d<8
 ·obtain⟨d,rfl⟩:=Int.eq_ofNat_of_zero_le hd.1;exact(by decide+kernel:∀m,m<256->∀d,d<8->(bits .and .i64 ((m:Nat):Int) (L.one (d:Nat)) !=0)=L.has m d) m (by omega) d (by omega)
 ·have h4:L.has (m:Int) d=false:=by
   simp only[L.has,Bool.and_eq_false_iff,decide_eq_false_iff_not];omega
  rw[h4,L.one,if_neg hd];exact(by decide+kernel:∀m,m<256->(bits .and .i64 ((m:Nat):Int) 0 !=0)=false) m (by omega)
theorem b0A (d:Int):L.one d=0\/∃k:Nat,k<8/\d=k/\L.one d=((2^k:Nat):Int):=by
 by_cases hd:0<=d/\d<8
 ·obtain⟨d,rfl⟩:=Int.eq_ofNat_of_zero_le hd.1;exact .inr ⟨d,by omega,rfl,by simp only[L.one,hd,and_self,if_true,Int.toNat_natCast]⟩
 ·exact .inl (by simp[L.one,hd])
theorem without_dec:∀m,m<256->∀k,k<8->bits .andNot .i64 ((m:Nat):Int) ((2^k:Nat):Int)=((m&&& (255-2^k):Nat):Int):=by decide+kernel
theorem with_dec:∀m,m<256->∀k,k<8->bits .or .i64 ((m:Nat):Int) ((2^k:Nat):Int)=((m||| 2^k:Nat):Int):=by decide+kernel
theorem b0b:∀m,m<256->bits .or .i64 ((m:Nat):Int) 0=((m||| 0:Nat):Int)/\bits .andNot .i64 ((m:Nat):Int) 0=((m&&& 255:Nat):Int):=by decide+kernel
theorem a4H (m d:Int) (h0:0<=m) (h1:m<256):bits .or .i64 m (L.one d)=L.with_ m d/\bits .andNot .i64 m (L.one d)=L.without m d:=by
 obtain⟨m,rfl⟩:=Int.eq_ofNat_of_zero_le h0;have hs:L.set (m:Int)=true:=by simp[L.set];omega
 simp only[L.with_,L.without,hs,if_true];rcases b0A d with h | ⟨k,hk,_,h⟩
 ·rw[h];exact b0b m (by omega)
 ·rw[h];exact⟨with_dec m (by omega) k hk,without_dec m (by omega) k hk⟩
theorem a9G (m:Int):FP 155 [iI m] [] (Ps (.bool (L.set m)) []):=by
 refine FE [0] Tryz.func155 λX F hX=>?_;exact J.qx []
theorem b2V (d:Int):FP 156 [iI d] [] (Ps (iI (L.one d)) []):=by
 refine FE [0] Tryz.func156 λX F hX=>?_;refine J.qd (λ_ h=>?_) λ_ h=>?_
 ·simp only[Bool.or_eq_true,decide_eq_true_eq]at h;refine J.qr [] λ_=>?_;exact⟨by rw[L.one,if_neg (by omega)],rfl⟩
 ·simp only[Bool.or_eq_false_iff,decide_eq_false_iff_not]at h;obtain⟨d,rfl⟩:=Int.eq_ofNat_of_zero_le (by omega:0<=d)
  match d,(by omega:d<8)with
  | 0,_ | 1,_ | 2,_ | 3,_ | 4,_ | 5,_ | 6,_ | 7,_=>
   exact J.qx []
theorem a7y (n:Int):FP 153 [iI n] [] (Ps (iI (L.all n)) []):=by
 refine FE [0] Tryz.func153 λX F hX=>?_;refine J.qd (λ_ h=>?_) λ_ h=>?_
 ·simp only[Bool.or_eq_true,decide_eq_true_eq]at h;refine J.qr [] λ_=>?_;exact⟨by rw[L.all,if_neg (by omega)],rfl⟩
 ·simp only[Bool.or_eq_false_iff,decide_eq_false_iff_not]at h;obtain⟨d,rfl⟩:=Int.eq_ofNat_of_zero_le (by omega:0<=n)
  match d,(by omega:d<9)with
  | 0,_ | 1,_ | 2,_ | 3,_ | 4,_ | 5,_ | 6,_ | 7,_ | 8,_=>
   exact J.qx []
theorem a5i (m d:Int):FP 122 [iI m,iI d] [] (Ps (.bool (L.has m d)) []):=by
 refine FE [0,0] Tryz.func122 λX F hX=>?_;refine J.qp (a9G m) [] λ_=>?_;cases h:L.set m with
 | false=>
  refine J.q λ_=>?_;refine J.v (iI 0) rfl rfl (λhg a w he hw=>by simp[G.on]at hg) ?_;refine J.qr [] λ_=>?_;exact⟨by simp[L.has,h],rfl⟩
 | true=>
  refine J.qp (b2V d) [] λ_=>?_;refine J.qr [] λ_=>?_;exact⟨congrArg Value.bool (b3t m d ((L.set_iff m).1 h).1 ((L.set_iff m).1 h).2),rfl⟩
theorem a6j (m d:Int):FP 103 [iI m,iI d] [] (Ps (iI (L.with_ m d)) []):=by
 refine FE [0,0] Tryz.func103 λX F hX=>?_;refine J.qp (a9G m) [] λ_=>?_;cases h:L.set m with
 | false=>
  refine J.qT λ_=>?_;refine J.qr [] λ_=>?_;exact⟨by simp[L.with_,h],rfl⟩
 | true=>
  refine J.qF λ_=>?_;refine J.qp (b2V d) [] λ_=>?_;refine J.qr [] λ_=>?_;exact⟨congrArg (Value.int .i64) (a4H m d ((L.set_iff m).1 h).1 ((L.set_iff m).1 h).2).1,rfl⟩
theorem a0q (m d:Int):FP 195 [iI m,iI d] [] (Ps (iI (L.without m d)) []):=by
 refine FE [0,0] Tryz.func195 λX F hX=>?_;refine J.qp (a9G m) [] λ_=>?_;cases h:L.set m with
 | false=>
  refine J.qT λ_=>?_;refine J.qr [] λ_=>?_;exact⟨by simp[L.without,h],rfl⟩
 | true=>
  refine J.qF λ_=>?_;refine J.qp (b2V d) [] λ_=>?_;refine J.qr [] λ_=>?_;exact⟨congrArg (Value.int .i64) (a4H m d ((L.set_iff m).1 h).1 ((L.set_iff m).1 h).2).2,rfl⟩
def oc1 (m:Int):Int:=IntKind.u64.wrap (bits BinOp.and IntKind.u64 (m/2) 6148914691236517205+bits BinOp.and IntKind.u64 m 6148914691236517205)
def oc2 (x:Int):Int:=IntKind.u64.wrap (bits BinOp.and IntKind.u64 (x/4) 3689348814741910323+bits BinOp.and IntKind.u64 x 3689348814741910323)
def oc3 (x:Int):Int:=bits BinOp.and IntKind.u64 (IntKind.u64.wrap (x/16+x)) 1085102592571150095
def oc4 (x:Int):Int:=IntKind.u64.wrap (x+x/256)
def oc5 (x:Int):Int:=IntKind.u64.wrap (x+x/65536)
def oc6 (x:Int):Int:=IntKind.u64.wrap (x+x/4294967296)
def oc (m:Int):Int:=bits BinOp.and IntKind.i64 (wrap64 (oc6 (oc5 (oc4 (oc3 (oc2 (oc1 m))))))) 127
theorem b6G:∀m,m<256->oc ((m:Nat):Int)=(L.count (m:Int):Int):=by decide+kernel
set_option maxHeartbeats 400000 in
theorem b6E (m:Int) (h0:0<=m) (h1:m<256) (w:World):
  Calls Tryz.prog 255 #[.int .u64 m] w λe w'=>e= .returned (iI (L.count m))/\w=w':=by
 obtain⟨k,rfl⟩:=Int.eq_ofNat_of_zero_le h0;have hoc:=Lib.hid (b6G k (by omega))
 go_enter Tryz.func255,Tryz.ntmps255
 go_wp2
 go_ret
 exact⟨b7B hoc.out,rfl⟩
theorem b6L (m:Int) (h0:0<=m) (h1:m<256):FP 227 [.int .u64 m] [] (Ps (iI (L.count m)) []):=by
 refine FE [0] Tryz.func227 λX F hX=>?_;refine J.qF λ_=>?_;refine J.qp ((Fn.of_same (b6E m h0 h1))) [] λ_=>?_;exact J.qx []
theorem a1c (m:Int):FP 191 [iI m] [] (Ps (iI (L.count m)) []):=by
 refine FE [0] Tryz.func191 λX F hX=>?_;refine J.qp (a9G m) [] λ_=>?_;cases h:L.set m with
 | false=>
  refine J.qT λ_=>?_;refine J.qr [] λ_=>?_;exact⟨by simp[L.count,L.dies,h],rfl⟩
 | true=>
  obtain⟨h0,h1⟩:=(L.set_iff m).1 h;refine J.qF λ_=>?_;refine J.qp (b6L m h0 h1) [] λ_=>?_;exact J.qx []
theorem b6M (m i:Int) (h0: -1000000<=i) (h1:i<=1000000):FP 194 [iI m,iI i] [] (Ps (iI (L.at_ m i)) []):=by
 refine FE [0,0] Tryz.func194 λX F hX=>?_;have hz:=L.below_zero m;refine J.q λ_=>?_;refine J.l (α:=(Nat×Int)) (λz=>z.1<=8/\z.2=i-L.below m z.1/\(0<=i->(L.below m z.1:Int)<=i)) (λz=>[si 6 z.1,si 1 z.2,si 0 m]) [] (λz=>[]) (λz=>8-z.1) ((0,i)) (⟨Nat.zero_le _,by dsimp only;omega,λ_=>by dsimp only;omega⟩) λz hI=>?_;obtain⟨k,x⟩:=z;dsimp only at hI ⊢;obtain⟨hk,hx,hi⟩:=hI;have hb:L.below m k<=8:=Nat.le_trans (List.length_filter_le _ _) (by simp);refine J.qd (λ_ h=>?_) λ_ h=>?_
 ·simp only[decide_eq_true_eq]at h;have hs:=L.below_succ m k (by omega);have ha:=L.at_below m k (by omega);refine J.qp (a5i m k) [] λ_=>?_;cases hh:L.has m k with
  | false=>
   rw[hh]at hs;refine J.qT λ_=>?_;refine J.q λ_=>?_;refine J.n ((k+1,x)) (⟨by dsimp only;omega,by dsimp only;rw[hs];simpa using hx,by dsimp only;rw[hs];simpa using hi⟩) (by dsimp only;omega) [0]
  | true=>
   rw[hh,if_pos rfl]at hs;refine J.qF λ_=>?_;refine J.qd (λ_ h2=>?_) λ_ h2=>?_
   ·simp only[beq_iff_eq]at h2;refine J.qr [] λ_=>?_;exact⟨by rw[<- ha hh,show(L.below m k:Int)=i from by omega],rfl⟩
   ·simp only[beq_eq_false_iff_ne,ne_eq]at h2;refine J.q λ_=>?_;refine J.n ((k+1,x-1)) (⟨by dsimp only;omega,by dsimp only;omega,λh=>by have:=hi h;dsimp only;omega⟩) (by dsimp only;omega) [0]
 ·simp only[decide_eq_false_iff_not]at h;obtain rfl:k=8:=by omega
  rw[L.below_eight]at hi;refine J.qr [] λ_=>?_;exact⟨by rw[L.at_ge m i (by omega)],rfl⟩
theorem all_dec:∀m,m<256->∀d,d<8->L.has (m:Nat) (d:Nat)=true->(L.count (bits .and .i64 ((m:Nat):Int) (L.all (d:Nat))):Int)=L.spot (m:Nat) (d:Nat):=by decide+kernel
theorem b2W (m d:Int):FP 310 [iI m,iI d] [] (Ps (iI (L.spot m d)) []):=by
 refine FE [0,0] Tryz.func310 λX F hX=>?_;refine J.qp (a5i m d) [] λ_=>?_;cases h:L.has m d with
 | false=>
  refine J.qT λ_=>?_;refine J.qr [] λ_=>?_;exact⟨by simp[L.spot,h],rfl⟩
 | true=>
  obtain⟨h1,h2,h3,h4⟩:=L.has_lt m d h;obtain⟨m,rfl⟩:=Int.eq_ofNat_of_zero_le h3;obtain⟨d,rfl⟩:=Int.eq_ofNat_of_zero_le h1;refine J.qF λ_=>?_;refine J.qp (a7y d) [] λ_=>?_;refine J.qp (a1c _) [] λ_=>?_;refine J.qr [] λ_=>?_;exact⟨congrArg (Value.int .i64) (all_dec m (by omega) d (by omega) h),rfl⟩
theorem L6 (m:Int):FP 131 [iI m] [] (Ps (iI (G.slots m)) []):=by
 have:=L.count_le m;refine FE [0] Tryz.func131 λX F hX=>?_;refine J.qp (a1c m) [] λ_=>?_;refine J.qd (λ_ h=>?_) λ_ h=>?_
 ·simp only[decide_eq_true_eq]at h;refine J.qr [] λ_=>?_;exact⟨by rw[G.slots,if_pos (by omega)],rfl⟩
 ·simp only[decide_eq_false_iff_not]at h;refine J.qr [] λ_=>?_;exact⟨by rw[G.slots,if_neg (by omega)],rfl⟩
theorem M3 (m b r:Int):FP 171 [iI m,iI b,iI r] [] (Ps (iI (G.parity m b r)) []):=by
 have hc:=L.count_le m;refine FE [0,0,0] Tryz.func171 λX F hX=>?_;refine J.qp (a1c m) [] λ_=>?_;refine J.qd (λ_ h=>?_) λ_ h=>?_
 ·simp only[Bool.or_eq_true,decide_eq_true_eq]at h;refine J.qr [] λ_=>?_;exact⟨by rw[G.parity,if_pos (by omega)],rfl⟩
 ·simp only[Bool.or_eq_false_iff,decide_eq_false_iff_not]at h;have hn0:(L.count m:Int)≠0:=by omega
  have hn1:(0:Int)<L.count m:=by omega
  have h1:=Int.emod_nonneg b hn0;have h2:=Int.emod_lt_of_pos b hn1;have h3:=Int.emod_nonneg r hn0;have h4:=Int.emod_lt_of_pos r hn1;have h5:=Int.emod_nonneg (b+r) hn0;have h6:=Int.emod_lt_of_pos (b+r) hn1;have e1:b.tmod (L.count m:Int)=b % (L.count m:Int):=Int.tmod_eq_emod_of_nonneg (by omega);have e2:r.tmod (L.count m:Int)=r % (L.count m:Int):=Int.tmod_eq_emod_of_nonneg (by omega);have e3:(b.tmod (L.count m:Int)+r.tmod (L.count m:Int)).tmod (L.count m:Int)=(b+r) % (L.count m:Int):=by rw[e1,e2,Int.tmod_eq_emod_of_nonneg (by omega),<- Int.add_emod]
  refine J.pq (.of [0,4,8,12,16,20,24,28,32,36,43,44]) [10,11] [] λ_ _=>?_;rw[e3];refine J.q λ_=>?_;refine J.ca hX (by kernel_rfl) (b6M m _ (by omega) (by omega)) [] 0 rfl rfl rfl rfl rfl rfl (λ_=>rfl) ?_;refine cpq ⟨_,rfl,trivial,?_⟩;refine J.qr [] λ_=>?_;exact⟨by rw[G.parity,if_neg (by omega)],rfl⟩
theorem a9I (m b r s:Int) (h0: -1000000<=s) (h1:s<=1000000):FP 136 [iI m,iI b,iI r,iI s] [] (Ps (iI (G.die m b r s)) []):=by
 refine FE [0,0,0,0] Tryz.func136 λX F hX=>?_;refine J.qp (M3 m b r) [] λ_=>?_;refine J.qd (λ_ h=>?_) λ_ h=>?_
 ·simp only[decide_eq_true_eq]at h;refine J.qr [] λ_=>?_;exact⟨by rw[G.die,if_pos h],rfl⟩
 ·simp only[decide_eq_false_iff_not]at h;refine J.qp (a0q m _) [] λ_=>?_;refine J.qp (b6M _ s h0 h1) [] λ_=>?_;refine J.qr [] λ_=>?_;exact⟨by rw[G.die,if_neg h],rfl⟩
theorem b3B (m b r s:Int):FP 306 [iI m,iI b,iI r,iI s] [] (Ps (iI (G.slot m b r s)) []):=by
 refine FE [0,0,0,0] Tryz.func306 λX F hX=>?_;refine J.qp (M3 m b r) [] λ_=>?_;refine J.qd (λ_ h=>?_) λ_ h=>?_
 ·simp only[decide_eq_true_eq]at h;refine J.qr [] λ_=>?_;exact⟨by rw[G.slot,if_pos h],rfl⟩
 ·simp only[decide_eq_false_iff_not]at h;refine J.qp (a0q m _) [] λ_=>?_;refine J.qp (b2W _ s) [] λ_=>?_;refine J.qr [] λ_=>?_;exact⟨by rw[G.slot,if_neg h],rfl⟩
theorem U6 (n a b:Int):FP 108 [iI n,iI a,iI b] [] (Ps (.bool (decide (a<=n)&&decide (n<=b))) []):=by
 refine FE [0,0,0] Tryz.func108 λX F hX=>?_;exact J.qx []
theorem a2n (d b p:Int):FP 68 [.agg #[iI d,iI b,iI p]] [] (Ps (.bool (p9 d b p)) []):=by
 have hs:p9 d b p=(((decide (3<=d)&&decide (d<=6))&&(decide (8<=b)&&decide (b<=16)))&&(decide (2<=p)&&decide (p<=8))):=by simp[p9,Bool.decide_and]
 refine FE [0] Tryz.func68 λX F hX=>?_;refine J.qp (U6 d 3 6) [] λ_=>?_;refine J.q λ_=>?_;refine J.cg hX (U6 b 8 16) ?_;refine J.q λ_=>?_;refine J.cg hX (U6 p 2 8) ?_;refine J.qr [] λ_=>?_;exact⟨by rw[hs],rfl⟩
theorem a7L (d b p x y z:Int) (hd:0<=d/\d<=1000000) (hb:0<=b/\b<=1000000) (hp:0<=p/\p<=1000000):FP 109 [.agg #[iI d,iI b,iI p], .agg #[iI x,iI y,iI z]] [] (Ps (.bool (C0 d b p x y z)) []):=by
 have e:∀u v:Int,decide (0<=u/\u<v)=(decide (0<=u)&&decide (u<=v-1)):=λu v=>by rw[Bool.eq_iff_iff];simp;omega
 have hs:C0 d b p x y z=(((decide (0<=x)&&decide (x<=d-1))&&(decide (0<=y)&&decide (y<=b-1)))&&(decide (0<=z)&&decide (z<=p-1))):=by simp only[C0,e]
 refine FE [0,0] Tryz.func109 λX F hX=>?_;refine J.qp (U6 x 0 (d-1)) [] λ_=>?_;refine J.q λ_=>?_;refine J.cg hX (U6 y 0 (b-1)) ?_;refine J.q λ_=>?_;refine J.cg hX (U6 z 0 (p-1)) ?_;refine J.qr [] λ_=>?_;exact⟨by rw[hs],rfl⟩
def byC (l:List UInt8) (k:Nat):Value:=bv (l.getD k 0)
def j3 (l:List UInt8):List Value:=[byC l 0,byC l 1,byC l 2,byC l 3,byC l 4,byC l 5,byC l 6,byC l 7,byC l 8,byC l 9,byC l 10,byC l 11,byC l 12,byC l 13,byC l 14,byC l 15]
def y8 (l:List UInt8):List Value:=[byC l 0,byC l 1,byC l 2,byC l 3,byC l 4,byC l 5,byC l 6,byC l 7,byC l 8,byC l 9,byC l 10,byC l 11,byC l 12,byC l 13,byC l 14,byC l 15,byC l 16,byC l 17,byC l 18,byC l 19,byC l 20,byC l 21,byC l 22,byC l 23,byC l 24,byC l 25,byC l 26,byC l 27,byC l 28,byC l 29,byC l 30,byC l 31]
def NCell.vals (c:NCell):List Value:=[byC c.p 0,byC c.p 1,byC c.p 2,byC c.p 3,byC c.p 4,byC c.p 5,byC c.p 6,byC c.p 7,byC c.p 8,byC c.p 9,byC c.p 10,byC c.p 11,byC c.p 12,byC c.p 13,byC c.p 14,byC c.p 15,byC c.p 16,byC c.p 17,byC c.p 18,byC c.p 19,byC c.p 20,byC c.p 21,byC c.p 22,byC c.p 23,byC c.p 24,byC c.p 25,byC c.p 26,byC c.p 27,byC c.p 28,byC c.p 29,byC c.p 30,byC c.p 31, .bool c.lost, .bool c.turned]
def s8 (l:List NCell):List Value:=l.flatMap NCell.vals
structure NLoc where
 r:Nat
 q:Nat
 d:Nat
 bp:Nat->Nat
def Nand.mainV (N:Nand) (Y:NLoc):List Value:=
 [iI N.dies,iI N.blocks,iI N.pages, .map (some Y.r),pp Y.q, .slice (some ⟨Y.d,0,none⟩) N.dies N.dies, .bool N.off,iI N.ops,iI N.broken, .bool N.cuts,iI N.left,iI N.keep]
def a4C (b:Nat) (B:NBlock):Atom:=exA λa:Option Nat×Nat=>
 [.pt b 118 [slv a.1 B.cells.length a.2,iI B.worn, .bool B.fails, .bool B.met],c9 178 34 a.1 B.cells.length a.2 (s8 B.cells)]
def a0j (nb n:Nat) (bp:Nat->Nat):List (A3×Value):=(List.range n).map λk=>((((k/nb:Nat):Int),((k % nb:Nat):Int),0),pp (bp k))
def J1 (nb n:Nat) (bp:Nat->Nat) (f:Nat->Nat->NBlock):List Atom:=(List.range n).map λk=>a4C (bp k) (f (k/nb) (k % nb))
def I4 (p:Nat) (N:Nand) (Y:NLoc):List Atom:=
 [.pt p 94 (N.mainV Y),B4 Y.r a3v (a0j N.blocks (N.dies*N.blocks) Y.bp),O2 Y.q N.plan, .pt Y.d 4 (N.dead.map Value.bool), .hp (HP.of (J1 N.blocks (N.dies*N.blocks) Y.bp N.blk))]
def i5 (p:Nat) (N:Nand):Atom:=exA (I4 p N)
theorem a8W (nb:Nat) (bp:Nat->Nat) (i j:Nat) (hj:j<nb):∀n,y6 (a0j nb n bp) ((i:Int),(j:Int),0)=if i*nb+j<n then some (pp (bp (i*nb+j)))else none:=by
 have hnb:0<nb:=by omega
 have key:∀(m k:Nat),y6 ((List.range' m k).map λk=>((((k/nb:Nat):Int),((k % nb:Nat):Int),(0:Int)),Value.pointer (some ⟨bp k,0,none⟩))) ((i:Int),(j:Int),0)=if m<=i*nb+j/\i*nb+j<m+k then some (pp (bp (i*nb+j)))else none:=by
  intro m k
  induction k generalizing m with
  | zero=>simp[y6]
  | succ k ih=>
   rw[List.range'_succ,List.map_cons,y6]
   by_cases e:m=i*nb+j
   ·subst e;rw[if_pos,if_pos (by omega)];have h1:(i*nb+j)/nb=i:=by rw[Nat.add_comm,Nat.mul_comm,Nat.add_mul_div_left _ _ hnb,Nat.div_eq_of_lt hj,Nat.zero_add]
    have h2:(i*nb+j) % nb=j:=by rw[Nat.add_comm,Nat.add_mul_mod_self_right];exact Nat.mod_eq_of_lt hj
    rw[h1,h2]
   ·rw[if_neg,ih]
    ·by_cases h:m+1<=i*nb+j/\i*nb+j<m+1+k
     ·rw[if_pos h,if_pos (by omega)]
     ·rw[if_neg h,if_neg (by omega)]
    ·intro h;simp only[Prod.mk.injEq,Int.natCast_inj,and_true]at h;apply e;rw[h.1,h.2,Nat.mul_comm];exact(Nat.div_add_mod m nb).symm
 intro n;have:=key 0 n;simpa[a0j,List.range_eq_range']using this
theorem a4l (nb:Nat) (hnb:0<nb) (bp:Nat->Nat) (a:A3) (n:Nat) (h:∀i j:Nat,i*nb+j<n->j<nb->a≠((i:Int),(j:Int),0)):y6 (a0j nb n bp) a=none:=by
 have key:∀(l:List Nat),(∀k∈l,k<n)->y6 (l.map λk=>((((k/nb:Nat):Int),((k % nb:Nat):Int),(0:Int)),Value.pointer (some ⟨bp k,0,none⟩))) a=none:=by
  intro l
  induction l with
  | nil=>intro _;rfl
  | cons k l ih=>
   intro hl;rw[List.map_cons,y6,if_neg,ih (λk' hk'=>hl k' (List.mem_cons_of_mem _ hk'))];refine h (k/nb) (k % nb) ?_ (Nat.mod_lt _ hnb);have:=Nat.div_add_mod k nb;rw[Nat.mul_comm]at this;rw[this];exact hl k (List.mem_cons_self ..)
 exact key _ (λk hk=>by simpa using hk)
theorem Sep.openAt {BL:List Atom} {h:Hl} {k:Nat} {A:Atom} (s:Sep [.hp (HP.of BL)] h) (hk:BL[k]? =some A):Sep [.hp (HP.of (BL.set k .emp)),A] h:=by
 obtain⟨own,hw⟩:=Sep.hpOf.1 s;refine⟨λb=>if own b=k then 1 else 0,λj B hB=>?_⟩
 match j with
 | 0=>
  simp at hB;subst hB;refine⟨own,λi C hC=>?_⟩;rw[List.getElem?_set]at hC;split at hC
  ·split at hC
   ·simp at hC;subst hC;trivial
   ·cases hC
  ·rename_i hne;refine Atom.up (λb o hb=>?_) (hw i C hC);rw[res_some]at hb ⊢;exact⟨hb.1,res_some.2 ⟨by rw[if_neg (by rw[hb.1];exactλe=>hne e.symm)],hb.2⟩⟩
 | 1=>
  simp at hB;subst hB;refine Atom.up (λb o hb=>?_) (hw k _ hk);rw[res_some]at hb ⊢;exact⟨by rw[if_pos hb.1],hb.2⟩
 | j+2=>simp at hB
theorem Sep.closeAt {BL:List Atom} {h:Hl} {k:Nat} {A:Atom} (s:Sep [.hp (HP.of (BL.set k .emp)),A] h):Sep [.hp (HP.of (BL.set k A))] h:=by
 obtain⟨own,hw⟩:=s;obtain⟨own2,hw2⟩:=hw 0 _ rfl;refine Sep.hpOf.2 ⟨λb=>if own b=0 then own2 b else k,λj B hB=>?_⟩;rw[List.getElem?_set]at hB;split at hB
 ·rename_i e;split at hB
  ·injection hB with hB;subst hB;subst e;refine Atom.up (λb o hb=>?_) (hw 1 _ rfl);rw[res_some]at hb ⊢;exact⟨by rw[if_neg (by omega)],hb.2⟩
  ·cases hB
 ·rename_i hne;refine Atom.up (λb o hb=>?_) (hw2 j B (by rw[List.getElem?_set,if_neg hne];exact hB));rw[res_some]at hb ⊢;have:=res_some.1 hb.2;exact⟨by rw[if_pos this.1];exact hb.1,this.2⟩
section
variable {X : Cx} {K : List KI} {E : Env} {L : List Atom}
theorem J.openAt {BL L':List Atom} (i k:Nat) {A:Atom} (ok:x5 L [i]=true) (hp:s6 L [i]=[.hp (HP.of BL)]) (hk:BL[k]? =some A) (hL:K4 L [i] [.hp (HP.of (BL.set k .emp)),A]=some L') (h:J X K E L'):J X K E L:=
 J.turn1 [i] ok (λh' s=>by rw[hp]at s;exact s.openAt hk) hL h
theorem J.closeAt {BL L':List Atom} (i j k:Nat) {A:Atom} (ok:x5 L [i,j]=true) (hp:s6 L [i,j]=[.hp (HP.of (BL.set k .emp)),A]) (hL:K4 L [i,j] [.hp (HP.of (BL.set k A))]=some L') (h:J X K E L'):J X K E L:=
 J.turn1 [i,j] ok (λh' s=>by rw[hp]at s;exact s.closeAt) hL h
end
theorem L4 (nb n:Nat) (bp:Nat->Nat) (f:Nat->Nat->NBlock) (k:Nat) (h:k<n):(J1 nb n bp f)[k]? =some (a4C (bp k) (f (k/nb) (k % nb))):=by simp[J1,h]
theorem H3 {i j nb:Nat} (hj:j<nb):(i*nb+j)/nb=i/\(i*nb+j) % nb=j:=by
 have hnb:0<nb:=by omega
 exact⟨by rw[Nat.add_comm,Nat.mul_comm,Nat.add_mul_div_left _ _ hnb,Nat.div_eq_of_lt hj,Nat.zero_add],by rw[Nat.add_comm,Nat.add_mul_mod_self_right];exact Nat.mod_eq_of_lt hj⟩
theorem a3H {i j d nb:Nat} (hi:i<d) (hj:j<nb):i*nb+j<d*nb:=by
 have:(i+1)*nb<=d*nb:=Nat.mul_le_mul_right nb hi;rw[Nat.succ_mul]at this;omega
theorem b1q (nb n:Nat) (bp:Nat->Nat) (f:Nat->Nat->NBlock) (i j:Nat) (B:NBlock) (hj:j<nb):(J1 nb n bp f).set (i*nb+j) (a4C (bp (i*nb+j)) B)=J1 nb n bp (λa b=>if a=i/\b=j then B else f a b):=by
 apply List.ext_getElem?;intro k;rw[List.getElem?_set];have hlen:(J1 nb n bp f).length=n:=by simp[J1]
 have hg:∀g k,(J1 nb n bp g)[k]? =if k<n then some (a4C (bp k) (g (k/nb) (k % nb)))else none:=λg k=>by
  by_cases hk:k<n
  ·rw[L4 _ _ _ _ _ hk,if_pos hk]
  ·rw[if_neg hk,List.getElem?_eq_none (by simp[J1];omega)]
 rw[hlen,hg,hg]
 by_cases e:i*nb+j=k
 ·subst e;rw[if_pos rfl]
  by_cases hk:i*nb+j<n
  ·rw[if_pos hk,if_pos hk,(H3 hj).1,(H3 hj).2,if_pos ⟨rfl,rfl⟩]
  ·rw[if_neg hk,if_neg hk]
 ·rw[if_neg e]
  by_cases hk:k<n
  ·rw[if_pos hk,if_pos hk,if_neg];rintro⟨rfl,rfl⟩;apply e;have:=Nat.div_add_mod k nb;rw[Nat.mul_comm]at this;exact this
  ·rw[if_neg hk,if_neg hk]
theorem M4 (l:List UInt8) (h:l.length=16):j3 l=l.map bv:=by
 match l,h with
 | [a0,a1,a2,a3,a4,a5,a6,a7,a8,a9,a10,a11,a12,a13,a14,a15],_=>rfl
theorem B6 (l:List UInt8) (h:l.length=32):y8 l=l.map bv:=by
 match l,h with
 | [a0,a1,a2,a3,a4,a5,a6,a7,a8,a9,a10,a11,a12,a13,a14,a15,a16,a17,a18,a19,a20,a21,a22,a23,a24,a25,a26,a27,a28,a29,a30,a31],_=>rfl
theorem l9:∀(l:List NCell),(s8 l).length=l.length*34
 | []=>rfl
 | c::l=>by
  have:=l9 l;simp only[s8,List.flatMap_cons,List.length_append,List.length_cons]at this ⊢;rw[this,show c.vals.length=34 from rfl];omega
theorem a1R:∀(l:List NCell) (r:List Value) (z:Nat) (c:NCell),l[z]? =some c->((s8 l++r).drop (z*34)).take 34=c.vals
 | [],r,z,c,h=>by simp at h
 | x::l,r,0,c,h=>by
  simp at h;subst h;simp only[s8,List.flatMap_cons,List.append_assoc,Nat.zero_mul,List.drop_zero];have:=List.take_left (l₁:=x.vals) (l₂:=List.flatMap NCell.vals l++r);exact this
 | x::l,r,z+1,c,h=>by
  have:=a1R l r z c (by simpa using h);simp only[s8,List.flatMap_cons,List.append_assoc,Nat.succ_mul]at this ⊢;rw[show z*34+34=x.vals.length+z*34 from by show _=34+_;omega,<- List.drop_drop,List.drop_left];exact this
theorem a7T {l:List NCell} {z:Nat} {c:NCell} (h:l[z]? =some c):((s8 l).drop (z*34)).take 32=y8 c.p:=by
 have h1:=a1R l [] z c h;rw[List.append_nil]at h1;have:=congrArg (List.take 32) h1;rw[List.take_take]at this;exact this
theorem a2q {l:List NCell} {z k:Nat} {c:NCell} (h:l[z]? =some c) (hk:k<34):(s8 l)[z*34+k]? =c.vals[k]?:=by
 have h1:=a1R l [] z c h;rw[List.append_nil]at h1;rw[<- h1,List.getElem?_take,if_pos hk,List.getElem?_drop]
theorem J.closeN {X:Cx} {K:List KI} {E:Env} {L L':List Atom} (p:Nat) (N N':Nand) (Y:NLoc) (i j:Nat) (hj:j<N.blocks) (B:NBlock) (c:Option Nat×Nat) (is:List Nat) (ok:x5 L is=true)
  (hp:s6 L is=[.pt p 94 (N'.mainV Y),B4 Y.r a3v (a0j N.blocks (N.dies*N.blocks) Y.bp),O2 Y.q N'.plan, .pt Y.d 4 (N'.dead.map Value.bool), .hp (HP.of ((J1 N.blocks (N.dies*N.blocks) Y.bp N.blk).set (i*N.blocks+j) .emp)),
   .pt (Y.bp (i*N.blocks+j)) 118 [slv c.1 B.cells.length c.2,iI B.worn, .bool B.fails, .bool B.met],c9 178 34 c.1 B.cells.length c.2 (s8 B.cells)])
  (h1:N'.dies=N.dies) (h2:N'.blocks=N.blocks) (hB:N'.blk=λa b=>if a=i/\b=j then B else N.blk a b) (hL:K4 L is [i5 p N']=some L') (h:J X K E L'):J X K E L:=by
 refine J.turn1 is ok (λh' s=>?_) hL h;rw[hp]at s;have s1:=s.turn1 [5,6] rfl (As:=[a4C (Y.bp (i*N.blocks+j)) B]) (λh2 s2=>⟨λ_=>0,λk A hA=>by
  cases k with
  | zero=>simp at hA;subst hA;exact⟨c,s2.up λb o hb=>res_some.2 ⟨rfl,hb⟩⟩
  | succ k=>simp at hA⟩)
 have s2:=s1.turn1 [4,5] rfl (As:=[.hp (HP.of ((J1 N.blocks (N.dies*N.blocks) Y.bp N.blk).set (i*N.blocks+j) (a4C (Y.bp (i*N.blocks+j)) B)))]) (λh2 s2=>Sep.closeAt s2);rw[b1q _ _ _ _ _ _ _ hj,<- hB]at s2;have s3:=s2.sub [0,1,2,3,4] rfl;refine⟨λ_=>0,λk A hA=>?_⟩;cases k with
 | zero=>
  simp at hA;subst hA;refine⟨Y,?_⟩;have:I4 p N' Y=[.pt p 94 (N'.mainV Y),B4 Y.r a3v (a0j N.blocks (N.dies*N.blocks) Y.bp),O2 Y.q N'.plan, .pt Y.d 4 (N'.dead.map Value.bool), .hp (HP.of (J1 N.blocks (N.dies*N.blocks) Y.bp N'.blk))]:=by rw[I4,h1,h2]
  rw[this];exact s3.up λb o hb=>res_some.2 ⟨rfl,hb⟩
 | succ k=>simp at hA
theorem C2 (f:Nat->Nat->NBlock) (i j:Nat):f=λa b=>if a=i/\b=j then f i j else f a b:=by
 funext a b;split
 ·rename_i h;rw[h.1,h.2]
 ·rfl
theorem Nand.Ok.bd {N:Nand} (h:N.Ok):(3<=N.dies/\N.dies<=6)/\(8<=N.blocks/\N.blocks<=16)/\(2<=N.pages/\N.pages<=8):=by
 have:=h.geo;simp[p9]at this;omega
theorem a1C (p:Nat) (N:Nand) (hN:N.Ok) (x y z:Int):FP 221 [pp p, .agg #[iI x,iI y,iI z]] [i5 p N] (Ps (iI (N.refuses x y z)) [i5 p N]):=by
 have hbd:=hN.bd;refine FE [2,0] Tryz.func221 λX F hX=>?_;refine J.o (α:=NLoc) 1 λY=>?_;refine J.qF λ_=>?_;refine J.qd (λ_ h1=>?_) λ_ h1=>?_
 ·refine J.q λ_=>?_;refine J.cl (I4 p N) (Y) [1,2,3,4,5] ?_;refine J.qr [1] λ_=>?_;exact⟨by simp[Nand.refuses,h1],rfl⟩
 refine J.pq (.of [0,4,8,13,17,22,24,28]) [] [1,2,3,4,5,6] λ_ _=>?_;refine J.ca hX (by kernel_rfl) (a7L _ _ _ x y z (by omega) (by omega) (by omega)) [] 0 rfl rfl rfl rfl rfl rfl (λ_=>rfl) ?_;refine cpq ⟨_,rfl,⟨rfl,rfl,rfl,rfl,rfl,rfl,trivial⟩,?_⟩;refine J.qd (λ_ h2=>?_) λ_ h2=>?_
 ·refine J.q λ_=>?_;refine J.cl (I4 p N) (Y) [1,2,3,4,5] ?_;refine J.qr [1] λ_=>?_;simp only[Bool.not_eq_true']at h2;exact⟨by simp[Nand.refuses,h1,h2],rfl⟩
 simp only[Bool.not_eq_false']at h2;have h3:(0<=x/\x<N.dies):=by simp[C0]at h2;omega
 obtain⟨i,rfl⟩:=Int.eq_ofNat_of_zero_le h3.1;have h4:i<N.dead.length:=by rw[hN.dead];omega
 refine J.pq (.of [0,4,8,13,16,21,24,29,32]) [] [1,2,3,4,5,6] λ_ _=>?_;refine J.vT (.bool N.dead[i]) rfl rfl (λ_ a w he hC=>?_) ?_
 ·exact i4 tk rfl rfl he rfl rfl rfl (hC rfl _ (g7 (i:=4) rfl)) (by simp[h4])
 refine J.qd (λ_ h5=>?_) λ_ h5=>?_
 ·refine J.q λ_=>?_;refine J.cl (I4 p N) (Y) [1,2,3,4,5] ?_;refine J.qr [1] λ_=>?_;exact⟨by simp[Nand.refuses,h1,h2,h4,h5],rfl⟩
 refine J.q λ_=>?_;refine J.cl (I4 p N) (Y) [1,2,3,4,5] ?_;refine J.qr [1] λ_=>?_;exact⟨by simp[Nand.refuses,h1,h2,h4,h5],rfl⟩
theorem T9 (x y:Int):FP 74 [iI x,iI y] [] (Ps (.agg #[iI x,iI y,iI 0]) []):=by
 refine FE [] Tryz.func74 λX F hX=>?_;exact J.qx []
theorem X5:Tryz.prog.underlying 90=some (.map 33 115):=by kernel_rfl
end Go.Proofs.YtpohajhbfllbbaaGreat
