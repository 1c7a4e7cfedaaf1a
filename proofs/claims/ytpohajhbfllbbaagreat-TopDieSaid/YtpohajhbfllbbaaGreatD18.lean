/- Helpers. No condition. -/
import Derived.Test.YtpohajhbfllbbaaGreatD06
import Derived.Test.YtpohajhbfllbbaaGreatD08
import Derived.Test.YtpohajhbfllbbaaGreatD10
import Derived.Test.YtpohajhbfllbbaaGreatD11
import Derived.Test.YtpohajhbfllbbaaGreatD13
import Derived.Test.YtpohajhbfllbbaaGreatD14
import Derived.Test.YtpohajhbfllbbaaGreatD17
set_option maxRecDepth 20000
set_option linter.all false
namespace Go.Proofs.YtpohajhbfllbbaaGreat
open Go Go.RowKit
theorem a5w {T:Tb} (h:T.Ok) {x:Int×AtV} (hx:x∈T.at_):Tb.look T.at_ x.1=some x.2:=by
 cases hh:Tb.look T.at_ x.1 with
 | none=>rw[Tb.look_none]at hh;exact absurd (List.mem_map.2 ⟨x,hx,rfl⟩) hh
 | some a=>
  have hm:=Tb.look_mem hh;obtain⟨i1,g1,e1⟩:=List.mem_iff_getElem.1 hm;obtain⟨i2,g2,e2⟩:=List.mem_iff_getElem.1 hx;have:i1=i2:=(List.getElem?_inj (by rw[List.length_map];exact g1) h.keys).1 (by rw[List.getElem?_map,List.getElem?_map,List.getElem?_eq_getElem g1,List.getElem?_eq_getElem g2,e1,e2];rfl);subst this;rw[e1]at e2;rw[<- e2]
theorem a0Y {T:Tb} {b r mk:Int} {es:List En}:∀n:Nat,(∀j,j<n->Tb.ok T (es.getD j En.zero)=true)->(∀j,j<n->∀a,Tb.look T.at_ (es.getD j En.zero).lpn=some a->a.seq<=(es.getD j En.zero).seq)->(∀i j,i<j->j<n->(es.getD i En.zero).lpn≠(es.getD j En.zero).lpn)->
  (∀j,j<n->Tb.look (Dv.puts T b r mk es n).at_ (es.getD j En.zero).lpn=some ⟨b,r,j,mk,(es.getD j En.zero).seq,(es.getD j En.zero).role⟩)/\(∀i,(∀j,j<n->(es.getD j En.zero).lpn≠i)->Tb.look (Dv.puts T b r mk es n).at_ i=Tb.look T.at_ i)
 | 0,_,_,_=>⟨λj hj=>by omega,λi _=>rfl⟩
 | n+1,h1,h2,h3=>by
  obtain⟨i1,i2⟩:=a0Y n (λj hj=>h1 j (by omega)) (λj hj=>h2 j (by omega)) (λi j hij hj=>h3 i j hij (by omega));have hlog:(Dv.puts T b r mk es n).logical=T.logical:=by
   clear i1 i2 h1 h2 h3
   induction n with
   | zero=>rfl
   | succ n ih=>rw[Dv.puts_succ,Tb.put_logical];exact ih
  have hlk:Tb.look (Dv.puts T b r mk es n).at_ (es.getD n En.zero).lpn=Tb.look T.at_ (es.getD n En.zero).lpn:=i2 _ λj hj=>h3 j n hj (by omega);have hp:Tb.putB (Dv.puts T b r mk es n) (es.getD n En.zero)=true:=by
   unfold Tb.putB;have e1:Tb.ok (Dv.puts T b r mk es n) (es.getD n En.zero)=Tb.ok T (es.getD n En.zero):=by unfold Tb.ok;rw[hlog]
   have e2:Tb.elder (Dv.puts T b r mk es n) (es.getD n En.zero)=false:=by
    unfold Tb.elder;rw[hlk];cases hh:Tb.look T.at_ (es.getD n En.zero).lpn with
    | none=>rfl
    | some a=>have:=h2 n (by omega) a hh;exact decide_eq_false (by omega)
   rw[e1,e2,h1 n (by omega)];rfl
  rw[Dv.puts_succ];refine⟨λj hj=>?_,λi hi=>?_⟩
  ·rw[V.look_put]
   by_cases e:j=n
   ·subst e;rw[if_pos ⟨hp,rfl⟩]
   ·rw[if_neg (λhh=>h3 j n (by omega) (by omega) hh.2)];exact i1 j (by omega)
  ·rw[V.look_put,if_neg (λhh=>hi n (by omega) hh.2.symm)];exact i2 i λj hj=>hi j (by omega)
namespace Last
variable {fd : Int} {Q : Dv} {l : List En} {k m : Nat}
theorem opn (h:Last fd Q l) (hQ:Inv fd Q):Opn fd Q:=hQ.opn h.left
theorem seqs (_h:Last fd Q l) (hO:Q.Ok k m) {i:Nat} (hi:i<Q.fit l):i<l.length/\(Q.es l).getD i En.zero={l.getD i En.zero with seq:=Q.next+i}/\i<(Q.es l).length:=by
 have:=Dv.fit_le Q l;have hs:=Dv.slots_le Q.mask;have hi2:i<(G.slots Q.mask).toNat:=by omega
 refine⟨by omega,?_,by rw[Dv.es_len];exact hi2⟩;unfold Dv.es;rw[b3S hi2];unfold Dv.numAt;rw[if_pos (by omega)]
theorem inv (h:Last fd Q l) (hQ:Inv fd Q) (hO:Q.Ok k m):Inv fd (s7 Q l):=by
 have ho:=h.opn hQ;have hnx:=hO.next;have hf:=Dv.fit_le Q l;have he:=Dv.es_len Q l;have:=h.turn.inv.puts h.turn.full (show((Q.wrote l).t.at_ Q.op).used=true from ho.used) (λ_=>by show Q.row<Q.row+1;omega) Q.T rfl (Q.fit l) (by omega) (λi hi=>by
  obtain⟨_,e2,_⟩:=h.seqs hO hi;rw[e2];show 1<=Q.next+(i:Int)/\Q.next+(i:Int)<Q.next+(Q.fit l:Int);omega)
 exact this
theorem look (h:Last fd Q l) (hQ:Inv fd Q) (hO:Q.Ok k m) (hf:∀e∈l,FitR e) (hlg:∀e∈l,e.lpn<Q.T.logical) (hnd:(l.map (·.lpn)).Nodup):
  (∀j,j<Q.fit l->Tb.look (s7 Q l).T.at_ (l.getD j En.zero).lpn=some ⟨Q.op,Q.row,j,Q.mask,Q.next+j,(l.getD j En.zero).role⟩)/\(∀i,(∀j,j<Q.fit l->(l.getD j En.zero).lpn≠i)->Tb.look (s7 Q l).T.at_ i=Tb.look Q.T.at_ i):=by
 have hes:=λj (hj:j<Q.fit l)=>h.seqs hO hj;have hmem:∀j,j<Q.fit l->l.getD j En.zero∈l:=λj hj=>I3 (hes j hj).1;obtain⟨a1,a2⟩:=a0Y (T:=Q.T) (b:=Q.op) (r:=Q.row) (mk:=Q.mask) (es:=Q.es l) (Q.fit l) (λj hj=>by
   rw[(hes j hj).2.1];have hfe:=hf _ (hmem j hj);have:=hlg _ (hmem j hj);unfold Tb.ok;have e1:decide (({l.getD j En.zero with seq:=Q.next+(j:Int)}:En).lpn<0)=false:=decide_eq_false (by have:=hfe.lpn;show¬(l.getD j En.zero).lpn<0;omega);have e2:decide (({l.getD j En.zero with seq:=Q.next+(j:Int)}:En).lpn>=Q.T.logical)=false:=decide_eq_false (by show¬(l.getD j En.zero).lpn>=Q.T.logical;omega);rw[e1,e2];show(!(false||false||((l.getD j En.zero).role !=1&&(l.getD j En.zero).role !=2&&(l.getD j En.zero).role !=4)))=true;rcases hfe.role with e | ⟨e | e,_⟩<;>rw[e]<;>rfl)
  (λj hj a ha=>by
   rw[(hes j hj).2.1]at ha ⊢;have:=(hQ.st _ a ha).seq;show a.seq<=Q.next+(j:Int);omega)
  (λi j hij hj=>by
   rw[(hes j hj).2.1,(hes i (by omega)).2.1];show(l.getD i En.zero).lpn≠(l.getD j En.zero).lpn;intro e;have g1:=(hes j hj).1;have g2:=(hes i (by omega)).1;have:(l.map (·.lpn))[i]? =(l.map (·.lpn))[j]?:=by
    rw[List.getElem?_map,List.getElem?_map,List.getElem?_eq_getElem g1,List.getElem?_eq_getElem g2];rw[List.getD_eq_getElem?_getD,List.getD_eq_getElem?_getD,List.getElem?_eq_getElem g1,List.getElem?_eq_getElem g2]at e;exact congrArg some e
   have:=(List.getElem?_inj (by rw[List.length_map];exact g2) hnd).1 this;omega)
 refine⟨λj hj=>?_,λi hi=>?_⟩
 ·have:=a1 j hj;rw[(hes j hj).2.1]at this;exact this
 ·refine a2 i λj hj=>?_;rw[(hes j hj).2.1];exact hi j hj
theorem stay (h:Last fd Q l) (hQ:Inv fd Q) (hO:Q.Ok k m) (hf:∀e∈l,FitR e) {i:Int} {a:AtV} (ha:Std fd Q i a):R.read (s7 Q l).N a.block a.row a.slot a.mask=R.read Q.N a.block a.row a.slot a.mask:=
 (hQ.turn_std h.turn hO h.left hf h.bd ha).2
theorem reads (h:Last fd Q l) (hQ:Inv fd Q) (hO:Q.Ok k m) {j:Nat} (hj:j<Q.fit l):R.read (s7 Q l).N Q.op Q.row j Q.mask=({l.getD j En.zero with seq:=Q.next+j},0):=by
 obtain⟨_,e2,e3⟩:=h.seqs hO hj;rw[<- e2];exact h.turn.full.read h.turn.inv.lit.off h.turn.inv.dead e3
theorem rows (h:Last fd Q l) (hQ:Inv fd Q):(s7 Q l).rows+1=Q.rows:=by
 have ho:=h.opn hQ;have hs:=Dv.left_spec h.left;unfold Dv.rows;have e1:(s7 Q l).N.pages=Q.N.pages:=h.turn.like.pages;have e2:(s7 Q l).t=Q.t:=rfl;have e3:(s7 Q l).op=Q.op:=rfl;have e4:(s7 Q l).row=Q.row+1:=rfl;rw[e1,e2,e3,e4,if_pos (by omega),if_pos (by omega)];have:=ho.row;omega
end Last
theorem NoF.went {fd:Int} {S Q:Dv} {β:Nat} (h:NoF S) (w:Went fd S Q β):NoF Q:=
 ⟨λi=>by rw[w.dead];exact h.dead i,List.eq_nil_iff_forall_not_mem.2 λa ha=>(by have:=w.plan a ha;rw[h.plan]at this;cases this),λi j=>by rw[(w.flags i j).1];exact h.met i j⟩
theorem NoF.wrote {fd:Int} {Q:Dv} {l:List En} (h:NoF Q) (w:Last fd Q l):NoF (s7 Q l):=
 ⟨λi=>by show(Q.wrote l).N.dead.getD i false=false;rw[w.turn.dead];exact h.dead i,List.eq_nil_iff_forall_not_mem.2 λa ha=>(by have:=w.turn.plan a ha;rw[h.plan]at this;cases this),λi j=>by show((Q.wrote l).N.blk i j).met=false;rw[(w.turn.flags i j).1];exact h.met i j⟩
theorem NoF.new (d b p:Nat) (lg:Int):NoF (Dv.mk (Nand.new d b p) (Tl.new d b p) (Tb.new lg) (-1) 0 0 1):=
 ⟨λi=>by
  show(List.replicate d false).getD i false=false;rw[List.getD_eq_getElem?_getD,List.getElem?_replicate];split<;>rfl,rfl,λ_ _=>rfl⟩
theorem Inv.new (fd:Int) (d b p:Nat) (lg:Int):Inv fd (Dv.mk (Nand.new d b p) (Tl.new d b p) (Tb.new lg) (-1) 0 0 1):=by
 refine⟨Nand.Lit.new d b p,λi _=>(NoF.new d b p lg).dead i,λa ha=>(by cases ha),λ_ _ _=>⟨rfl,rfl⟩,⟨by show L.set 0=true;decide,λd hd=>(by have:L.has 0 d=true:=hd;rw[L.has_zero]at this;cases this)⟩,λbb hb=>?_, .inl rfl,λbb hb hu e he=>rfl,λi a ha=>(by cases ha)⟩;have:(Tl.new d b p).at_ bb=Sb.zero:=by
  unfold Tl.new Tl.at_;dsimp only;rw[List.getD_eq_getElem?_getD,List.getElem?_replicate];split<;>rfl
 show L.set ((Tl.new d b p).at_ bb).bad=true/\_;rw[this];refine⟨by decide,λe he=>?_⟩;have he:L.has 0 e=true:=he;rw[L.has_zero]at he;cases he
namespace V
end V
theorem a2n (q:Nat) (t:Tl) (hb:t.b<=1000) (hl:t.l.length=t.b) (k:Int) (on:Bool):FP 125 [pp q,iI k, .bool on] [TlA q t] (Ps (.tuple #[]) [TlA q (t.clean k on)]):=by
 refine FE [2,0,0] Tryz.func125 λX F hX=>?_;refine J.o (α:=Nat) 1 λg=>?_;refine J.qp (a1q q t hb g k) [1,2] λ_=>?_;cases hh:t.has k with
 | false=>
  rw[Tl.adr,hh,if_neg (by simp)];refine J.qF λ_=>?_;refine J.q λ_=>?_;refine J.cl (λg:Nat=>TlP q t g) g [1,2] ?_;refine J.q λ_=>?_;refine J.f [1] ?_;exact⟨rfl,by rw[Tl.clean,Tl.set,hh];rfl⟩
 | true=>
  rw[Tl.adr,hh,if_pos rfl];refine J.qT λ_=>?_;refine J.q λ_=>?_;refine J.s1 2 ((t.clean k on).l.flatMap sbL) ?_ ?_ ?_
  ·rw[t.len_l,hl];simp only[Tl.has,Bool.and_eq_true,decide_eq_true_eq]at hh;omega
  ·exact t.set_at hl hh 2 (by omega) _ _ rfl
  refine J.close (f:=λg:Nat=>TlP q (t.clean k on) g) g [1,2] rfl (by simp only[TlP,Tl.clean,Tl.set_d,Tl.set_b,Tl.set_p,Tl.set_dead];rfl) rfl ?_;refine J.q λ_=>?_;refine J.f [1] ?_;exact⟨rfl,rfl⟩
theorem a0q (q:Nat) (t:Tl) (d:Int):FP 64 [pp q,iI d] [TlA q t] (Ps (.tuple #[]) [TlA q (t.die d)]):=by
 refine FE [2,0] Tryz.func64 λX F hX=>?_;refine J.o (α:=Nat) 1 λg=>?_;refine J.qp (b0N q t g d) [1,2] λ_=>?_;refine J.qd (λ_ h1=>?_) λ_ h1=>?_
 ·refine J.qp (a5y t.dead d) [] λ_=>?_;have he:t.die d=⟨t.d,t.b,t.p,t.l,L.with_ t.dead d⟩:=by rw[Tl.die,if_pos h1]
  refine J.q λ_=>?_;refine J.close (f:=λg:Nat=>TlP q (t.die d) g) g [1,2] rfl (by rw[he];rfl) rfl ?_;refine J.q λ_=>?_;refine J.f [1] ?_;exact⟨rfl,rfl⟩
 ·refine J.q λ_=>?_;refine J.cl (λg:Nat=>TlP q t g) g [1,2] ?_;refine J.q λ_=>?_;refine J.f [1] ?_;exact⟨rfl,by rw[Tl.die,if_neg (by rw[h1];simp)];rfl⟩
theorem b5o (a b:Int):(if b>a then b else a)=max a b:=by split<;>omega
def P4 (p n t l:Nat) (S:Dv):Atom:= .pt p 201 [pp n,pp t,pp l,iI S.op,iI S.row,iI S.mask,iI S.next]
def DvP (p n t l:Nat) (S:Dv):List Atom:=[P4 p n t l S,i5 n S.N,TlA t S.t,TbA l S.T]
theorem b1q (n t l:Nat) (next:Int) (h: -9223372036854775808<=next/\next<=9223372036854775807) (N:Nand) (tl:Tl) (T:Tb):FP 78 [pp n,pp t,pp l,iI next] [] (λv As=>∃p,v=pp p/\As=[P4 p n t l ⟨N,tl,T,-1,0,0,max next 1⟩]):=by
 refine FE [0,0,0,0] Tryz.func78 λX F hX=>?_;refine J.q λbb=>?_;rw[b5o];refine J.qr [1] λ_=>?_;exact⟨bb 0,rfl,rfl⟩
theorem T5 (p n t l:Nat) (S:Dv):FP 82 [pp p] [P4 p n t l S] (Ps (iI S.op) [P4 p n t l S]):=by
 refine FE [2] Tryz.func82 λX F hX=>?_;refine J.qF λ_=>?_;exact J.qx [1]
theorem a8o (p n t l:Nat) (S:Dv):FP 158 [pp p] (DvP p n t l S) (Ps (.bool S.left) (DvP p n t l S)):=by
 refine FE [2] Tryz.func158 λX F hX=>?_;refine J.pn 6 (.of [0,4,8,13,16,20,24,28,32,37,40,44,48,53,58,60,64,68,72,76,80,84,89,94,96,100,104]) [26] [1,2,3,4] λ_ _=>?_;cases h1:decide (S.op>=0)with
 | false=>
  refine J.q λ_=>?_;refine J.val hX (.agg #[iI 0,iI 0,iI 0]) 0 rfl rfl (λhg a w he hs=>absurd hg (by simp[G.on])) rfl stq ?_;refine J.q λ_=>?_;refine J.val hX (iI 0) 0 rfl rfl (λhg a w he hs=>absurd hg (by simp[G.on])) rfl stq ?_;refine J.qr [1,2,3,4] λ_=>?_;exact⟨by unfold Dv.left;rw[h1];rfl,rfl⟩
 | true=>
  refine J.qp (M8 n S.N) [2] λ_=>?_;refine J.qn 2 λ_=>?_;cases h2:decide (S.row<(S.N.pages:Int))with
  | false=>
   refine J.q λ_=>?_;refine J.val hX (iI 0) 0 rfl rfl (λhg a w he hs=>absurd hg (by simp[G.on])) rfl stq ?_;refine J.qr [1,2,3,4] λ_=>?_;exact⟨by unfold Dv.left;rw[h1,h2];rfl,rfl⟩
  | true=>
   refine J.qp (J6 S.mask) [] λ_=>?_;refine J.qr [1,2,3,4] λ_=>?_;exact⟨by unfold Dv.left;rw[h1,h2],rfl⟩
theorem a6r (p n t l:Nat) (S:Dv) (hb:S.t.b<=1000) (hl:S.t.l.length=S.t.b):FP 132 [pp p] (DvP p n t l S) (Ps (iI S.slots) (DvP p n t l S)):=by
 refine FE [2] Tryz.func132 λX F hX=>?_;refine J.qF λ_=>?_;refine J.qp (a8o p n t l S) [1,2,3,4] λ_=>?_;refine J.qd (λ_ h1=>?_) λ_ h1=>?_
 ·refine J.qp (J6 S.mask) [] λ_=>?_;refine J.qr [1,2,3,4] λ_=>?_;exact⟨by unfold Dv.slots;rw[if_pos h1],rfl⟩
 refine J.p (.of [0,4,8,13,16,20,24,29,32,36,40,45,48,52,56,61,66,70,74,76]) [19] [1,2,3,4] λ_=>?_;refine J.qp (a7v t S.t hb hl l S.T S.op) [3,4] λ_=>?_;refine J.qp (P5 t S.t hb hl S.pick) [3] λ_=>?_;refine J.qp (J6 (S.t.mask S.pick)) [] λ_=>?_;refine J.qr [1,2,3,4] λ_=>?_;exact⟨by unfold Dv.slots;rw[if_neg (by rw[h1];decide)],rfl⟩
theorem a6p (p n t l:Nat) (S:Dv) (hb:S.t.b<=1000) (hl:S.t.l.length=S.t.b):FP 159 [pp p] (DvP p n t l S) (Ps (iI (if S.pick<0 then 11 else 0)) (DvP p n t l (if S.pick<0 then S else S.opened))):=by
 refine FE [2] Tryz.func159 λX F hX=>?_;refine J.p (.of [0,4,8,13,16,20,24,29,32,36,40,45,51,52]) [12,13] [1,2,3,4] λ_=>?_;refine J.qp (a7v t S.t hb hl l S.T S.op) [3,4] λ_=>?_;refine J.qd (λ_ h1=>?_) λ_ h1=>?_
 ·simp only[decide_eq_true_eq]at h1;have h1:S.pick<0:=h1;refine J.qr [1,2,3,4] λ_=>?_;rw[if_pos h1,if_pos h1];exact⟨rfl,rfl⟩
 simp only[decide_eq_false_iff_not]at h1;have h1:¬S.pick<0:=h1;refine J.qp (a2n t S.t hb hl S.pick false) [3] λ_=>?_;refine J.qp (P5 t (S.t.clean S.pick false) (by unfold Tl.clean;rw[Tl.set_b];exact hb) (by unfold Tl.clean;rw[Tl.set_len,Tl.set_b];exact hl) S.pick) [3] λ_=>?_;refine J.qr [1,2,3,4] λ_=>?_;rw[if_neg h1,if_neg h1];exact⟨rfl,rfl⟩
theorem b1p (p n t l:Nat) (S:Dv) (hN:S.N.Ok) (hF:S.t.Fit S.N) (f:Int):FP 162 [pp p,iI f] (DvP p n t l S) (Ps (.tuple #[]) (DvP p n t l (S.loses f))):=by
 have hbd:=hN.bd16;refine FE [2,0] Tryz.func162 λX F hX=>?_;refine J.qp (M8 n S.N) [2] λ_=>?_;refine J.q λ_=>?_;refine J.l (α:=(Nat×Dv)) (λz=>z.1<=S.N.dies/\z.2=(List.range z.1).foldl (Dv.lose f) S) (λz=>[si 11 z.1,si 10 S.N.dies,⟨0,pp p,2, .tt⟩,si 1 f]) [1,2,3,4] (λz=>DvP p n t l z.2) (λz=>S.N.dies-z.1) ((0,S)) (⟨Nat.zero_le _,rfl⟩) λz hI=>?_;obtain⟨k,Q⟩:=z;dsimp only at hI ⊢;obtain⟨hk,hQ⟩:=hI;obtain⟨q1,q2,q3,q4,q5,q6,q7⟩:=Dv.foldl_lose f (List.range k) S hF;rw[<- hQ]at q1 q2 q3 q4 q5 q6 q7;have hlb:Q.t.l.length=Q.t.b:=q6.len;have hbb:Q.t.b<=1000:=by have:=q6.b;omega
 refine J.qd (λ_ h1=>?_) λ_ h1=>?_
 ·simp only[decide_eq_true_eq,Int.ofNat_lt]at h1;have hs:(List.range (k+1)).foldl (Dv.lose f) S=Dv.lose f Q k:=by rw[List.range_succ,List.foldl_append,<- hQ];rfl
  refine J.qp (a4w f k) [] λ_=>?_;refine J.qd (λ_ h2=>?_) λ_ h2=>?_
  ·simp only[Bool.not_eq_true']at h2;have hz:Dv.lose f Q k=Q:=by unfold Dv.lose;rw[if_neg (by rw[h2];decide)]
   refine J.q λ_=>?_;refine J.n ((k+1,Q)) (⟨by dsimp only;omega,by dsimp only;rw[hs,hz]⟩) (by dsimp only;omega) [0,1,2,3,4]
  simp only[Bool.not_eq_false']at h2;refine J.qp (a2Q n Q.N (by rw[q1];exact hN) k) [2] λ_=>?_;refine J.qd (λ_ h3=>?_) λ_ h3=>?_
  ·have hz:Dv.lose f Q k={Q with t:=Q.t.die k,mask:=L.without Q.mask k}:=by unfold Dv.lose;rw[if_pos h2,if_pos h3]
   refine J.qp (a0q t Q.t k) [3] λ_=>?_;refine J.qp (Y7 Q.mask k) [] λ_=>?_;refine J.q λ_=>?_;refine J.n ((k+1,{Q with t:=Q.t.die k,mask:=L.without Q.mask k})) (⟨by dsimp only;omega,by dsimp only;rw[hs,hz]⟩) (by dsimp only;omega) [0,1,2,3,4]
  ·have hz:Dv.lose f Q k={Q with t:=Q.t.bad k Q.op,mask:=L.without Q.mask k}:=by unfold Dv.lose;rw[if_pos h2,if_neg (by rw[h3];decide)]
   refine J.p (.of [0,4,8,13,16,20,24,28,33,38]) [] [1,2,4] λ_=>?_;refine J.qp (a7m t Q.t hbb hlb k Q.op) [3] λ_=>?_;refine J.qp (Y7 Q.mask k) [] λ_=>?_;refine J.q λ_=>?_;refine J.n ((k+1,{Q with t:=Q.t.bad k Q.op,mask:=L.without Q.mask k})) (⟨by dsimp only;omega,by dsimp only;rw[hs,hz]⟩) (by dsimp only;omega) [0,1,2,3,4]
 ·simp only[decide_eq_false_iff_not,Int.ofNat_lt]at h1;obtain rfl:k=S.N.dies:=by omega
  refine J.q λ_=>?_;refine J.f [1,2,3,4] ?_;exact⟨rfl,by rw[hQ];rfl⟩
theorem a3w:∀(l:List En) (r:List Value) (k:Nat) (x:En),k<l.length->(d6 l++r).take (k*19)++enL x++(d6 l++r).drop (k*19+19)=d6 (l.set k x)++r
 | [],_,_,_,h=>by simp at h
 | y::l,r,0,x,h=>by simp[d6,enL]
 | y::l,r,k+1,x,h=>by
  have:=a3w l r k x (by simpa using h);have hy:(enL y).length=19:=rfl;have e1:d6 (y::l)++r=enL y++(d6 l++r):=by simp[d6]
  have e2:d6 ((y::l).set (k+1) x)++r=enL y++(d6 (l.set k x)++r):=by simp[d6]
  rw[e1,e2,<- this,show(k+1)*19=(enL y).length+k*19 from by omega,List.take_length_add_append,show(enL y).length+k*19+19=(enL y).length+(k*19+19)from by omega,<- List.drop_drop,List.drop_left' rfl];simp only[List.append_assoc]
theorem D1:∀l:List En,(d6 l).length=l.length*19
 | []=>rfl
 | x::l=>by
  have:=D1 l;have e1:d6 (x::l)=enL x++d6 l:=by simp[d6]
  have hy:(enL x).length=19:=rfl;rw[e1,List.length_append,this,hy,List.length_cons];omega
def a3P (p:En->Bool) (l:List En):Int:=match l.findIdx? p with
 | some k=>k
 | none=> -1
theorem a4z {p:En->Bool} {l:List En} {k:Nat} {x:En} (h:l[k]? =some x) (h0:∀i<k,p (l.getD i En.zero)=false) (hp:p x=true):l.findIdx? p=some k:=by
 rw[List.findIdx?_eq_some_iff_getElem];obtain⟨h1,h2⟩:=List.getElem?_eq_some_iff.1 h;refine⟨h1,by rw[h2];exact hp,λj hj=>?_⟩;have:=h0 j hj;rw[List.getD_eq_getElem?_getD,List.getElem?_eq_getElem (by omega),Option.getD_some]at this;simp[this]
theorem a4A {p:En->Bool} {l:List En} (h0:∀i<l.length,p (l.getD i En.zero)=false):l.findIdx? p=none:=by
 rw[List.findIdx?_eq_none_iff];intro x hx;obtain⟨i,hi,rfl⟩:=List.mem_iff_getElem.1 hx;have:=h0 i hi
 rwa [List.getD_eq_getElem?_getD,List.getElem?_eq_getElem hi,Option.getD_some]at this
theorem b2r (p:En->Bool) (l:List En):decide (a3P p l>=0)=l.any p:=by
 unfold a3P;cases h:l.findIdx? p with
 | none=>
  rw[List.findIdx?_eq_none_iff]at h;have:l.any p=false:=by rw[List.any_eq_false];exactλx hx=>by simp[h x hx]
  rw[this];rfl
 | some k=>
  rw[List.findIdx?_eq_some_iff_getElem]at h;obtain⟨h1,h2,_⟩:=h;have:l.any p=true:=List.any_eq_true.2 ⟨l[k],List.getElem_mem _,h2⟩;rw[this];simp
theorem a5U (c:Nat) (cs:List Value) (p:En->Bool) (A:Atom) (hcal:n5 Tryz.prog c=true) (l:List En) (hf:∀x∈l,Fn Tryz.prog c (enV x::cs) [A] (λv As=>v= .bool (p x)/\As=[A]))
  (a:Option Nat) (n cap:Nat) (hl:l.length=n) (hn:n<=4611686018427387904):FP 134 [slv a n cap,fnC c cs] [c9 135 19 a n cap (d6 l),A]
  (λv As=>v=iI (a3P p l)/\As=[c9 135 19 a n cap (d6 l),A]):=by
 refine FE [0,0] Tryz.func134 λX F hX=>?_;refine J.q λ_=>?_;refine J.l (α:=Nat) (λk=>k<=n/\∀i<k,p (l.getD i En.zero)=false) (λk=>[si 8 k,si 7 n,sv 0 (slv a n cap),⟨1,fnC c cs,0, .tt⟩]) [] (λk=>[]) (λk=>n-k) (0) (⟨by omega,by omega⟩) λk hI=>?_;refine J.qd (λ_ h1=>?_) λ_ h1=>?_
 ·simp only[decide_eq_true_eq,Int.ofNat_lt]at h1;cases a with
  | none=>
   refine J.know (λh' s=>(s.get (i:=1) rfl).2.1) λhn0=>?_;omega
  | some g=>
   have hk:l[k]? =some (l.getD k En.zero):=by rw[List.getD_eq_getElem?_getD,List.getElem?_eq_getElem (by omega),Option.getD_some]
   refine J.q λ_=>?_;refine J.v (enV (l.getD k En.zero)) rfl rfl (λhg a w he hs=>?_) ?_
   ·exact n8 tk rfl rfl he rfl rfl rfl (hs.get (i:=1) rfl) (by rw[show 0+(k:Int).toNat*19=k*19 from by omega];have:=D4 l [] k _ hk;rwa [List.append_nil]at this) rfl
   refine J.q λ_=>?_;refine J.call hX hcal (hf (l.getD k En.zero) (List.mem_of_getElem? hk)) [2] 0 rfl rfl rfl rfl (by(repeat' (first | exact Conj.nil | refine Conj.cons ?_ ?_ | omega | exact hq0 | (simpa using hq0) | (exactλh=>h) | exact rfl | (intro hq;have hq0:=hq;try simp only[Bool.and_eq_true,Bool.or_eq_true,decide_eq_true_eq,Bool.not_eq_true',decide_eq_false_iff_not]at hq) | (simp;done) | (simp;omega) | decide))) rfl rfl (λ_=>rfl) ?_;refine cpq ⟨_,rfl,trivial,?_⟩;refine J.qd (λ_ h2=>?_) λ_ h2=>?_
   ·refine J.qr [1,2] λ_=>?_;exact⟨by rw[a3P,a4z hk hI.2 h2],rfl⟩
   ·refine J.q λ_=>?_;refine J.nx (k+1) (⟨by omega,λi hi=>by
     rcases Nat.lt_succ_iff_lt_or_eq.1 hi with h3 | h3
     ·exact hI.2 i h3
     ·rw[h3];exact h2⟩) (by omega) (λ_ s=>s)
 ·simp only[decide_eq_false_iff_not,Int.ofNat_lt]at h1;refine J.qr [1,2] λ_=>?_;exact⟨by rw[a3P,a4A (λi hi=>hI.2 i (by omega))],rfl⟩
theorem a3x (l:List En):∀u∈d6 l,u.oneCell'=true:=by
 intro u hu;simp only[d6,List.mem_flatMap]at hu;obtain⟨s,_,hu⟩:=hu;simp only[enL,List.mem_cons,List.not_mem_nil,or_false]at hu;rcases hu with rfl | rfl | rfl | rfl | rfl | rfl | rfl | rfl | rfl | rfl | rfl | rfl | rfl | rfl | rfl | rfl | rfl | rfl | rfl<;>rfl
def DelE (p:En->Bool) (l m:List En) (i j:Nat):Prop:=m.length=l.length/\i<j/\j<=l.length/\m.drop j=l.drop j/\m.take i++(l.drop j).filter (λx=>!p x)=l.filter (λx=>!p x)
theorem DelE.start {p:En->Bool} {l:List En} {k:Nat} (h:l.findIdx? p=some k):DelE p l l k (k+1):=by
 rw[List.findIdx?_eq_some_iff_getElem]at h;obtain⟨h1,h2,h3⟩:=h;refine⟨rfl,by omega,by omega,rfl,?_⟩;have e:l=l.take k++l[k]::l.drop (k+1):=by rw[<- List.drop_eq_getElem_cons h1,List.take_append_drop]
 have e2:(l.take k).filter (λx=>!p x)=l.take k:=by
  rw[List.filter_eq_self];intro x hx;obtain⟨i,hi,rfl⟩:=List.mem_iff_getElem.1 hx;rw[List.getElem_take];have:=h3 i (by simp at hi;omega);simpa using this
 conv=>rhs;rw[e]
 rw[List.filter_append,e2,List.filter_cons_of_neg (by simp[h2])]
theorem DelE.skip {p:En->Bool} {l m:List En} {i j:Nat} (h:DelE p l m i j) (hj:j<l.length) (hp:p (m.getD j En.zero)=true):DelE p l m i (j+1):=by
 obtain⟨h1,h2,h3,h4,h5⟩:=h;have e1:m[j]? =l[j]?:=by have:=congrArg (λz=>z[0]?) h4;simpa using this
 have hx:l[j]=m.getD j En.zero:=by rw[List.getD_eq_getElem?_getD,e1,List.getElem?_eq_getElem hj,Option.getD_some]
 refine⟨h1,by omega,by omega,?_,?_⟩
 ·have:=congrArg (List.drop 1) h4;simpa[List.drop_drop]using this
 ·rw[<- h5,List.drop_eq_getElem_cons hj,List.filter_cons_of_neg (by rw[hx,hp];simp)]
theorem DelE.keep {p:En->Bool} {l m:List En} {i j:Nat} (h:DelE p l m i j) (hj:j<l.length) (hp:p (m.getD j En.zero)=false):DelE p l (m.set i (m.getD j En.zero)) (i+1) (j+1):=by
 obtain⟨h1,h2,h3,h4,h5⟩:=h;have e1:m[j]? =l[j]?:=by have:=congrArg (λz=>z[0]?) h4;simpa using this
 have hx:l[j]=m.getD j En.zero:=by rw[List.getD_eq_getElem?_getD,e1,List.getElem?_eq_getElem hj,Option.getD_some]
 refine⟨by simp[h1],by omega,by omega,?_,?_⟩
 ·rw[List.drop_set_of_lt (by omega)];have:=congrArg (List.drop 1) h4;simpa[List.drop_drop]using this
 ·rw[<- h5,List.drop_eq_getElem_cons hj,List.filter_cons_of_pos (by rw[hx,hp];simp),hx,List.take_set,List.take_add_one,List.getElem?_eq_getElem (by omega)];rw[List.set_append_right _ _ (by simp;omega)];simp[List.length_take,Nat.min_eq_left (show i<=m.length by omega)]
theorem a3V (c:Nat) (cs:List Value) (p:En->Bool) (A:Atom) (hcal:n5 Tryz.prog c=true) (hf:∀x,Fn Tryz.prog c (enV x::cs) [A] (λv As=>v= .bool (p x)/\As=[A]))
  (a:Option Nat) (n cap:Nat) (l:List En) (hl:l.length=n) (hn:n<=4611686018427387904):FP 163 [slv a n cap,fnC c cs] [c9 135 19 a n cap (d6 l),A]
  (λv As=>∃l',l'=l.filter (λx=>!p x)/\v=slv a l'.length cap/\As=[c9 135 19 a l'.length cap (d6 l'),A]):=by
 refine FE [0,0] Tryz.func163 λX F hX=>?_;refine J.qp (a5U c cs p A hcal l (λx _=>hf x) a n cap hl hn) [1,2] λ_=>?_;rw[a3P];cases hx:l.findIdx? p with
 | none=>
  dsimp only;refine J.qT λ_=>?_;refine J.qr [1,2] λ_=>?_;have:l.filter (λx=>!p x)=l:=by
   rw[List.filter_eq_self];intro x hm;rw[List.findIdx?_eq_none_iff]at hx;simp[hx x hm]
  exact⟨l,this.symm,by rw[hl],by rw[hl];rfl⟩
 | some k=>
  dsimp only;refine J.qd (λ_ h0=>?_) λ_ h0=>?_
  ·simp only[beq_iff_eq]at h0;omega
  have hk:k<n:=by rw[List.findIdx?_eq_some_iff_getElem]at hx;obtain⟨h1,_⟩:=hx;omega
  cases a with
  | none=>
   refine J.know (λh' s=>(s.get (i:=1) rfl).2.1) λhn0=>?_;omega
  | some g=>
   refine J.openOwn 1 rfl rfl (λ_=>rfl) λr q1 q2 q3 q4=>?_;refine J.q λ_=>?_;rw[show(k:Int)+1=((k+1:Nat):Int)from by omega];refine J.q λ_=>?_;refine J.l (α:=(Nat×Nat×List En)) (λx=>DelE p l x.2.2 x.1 x.2.1) (λx=>[si 6 x.2.1,si 5 x.1,sv 0 (slv (some g) n cap),⟨1,fnC c cs,0, .tt⟩]) [1] (λx=>[.pt g 135 (d6 x.2.2++r)]) (λx=>n-x.2.1) ((k,k+1,l)) (DelE.start hx) λx hI=>?_;obtain⟨i,j,m⟩:=x;dsimp only at hI ⊢;have hml:m.length=n:=hI.1.trans hl;have hij:i<j:=hI.2.1;have hjn:j<=n:=by have:=hI.2.2.1;omega
   refine J.qd (λ_ h1=>?_) λ_ h1=>?_
   ·simp only[decide_eq_true_eq,Int.ofNat_lt]at h1;have hget:m[j]? =some (m.getD j En.zero):=by rw[List.getD_eq_getElem?_getD,List.getElem?_eq_getElem (by omega),Option.getD_some]
    refine J.q λ_=>?_;refine J.v (enV (m.getD j En.zero)) rfl rfl (λhg a w he hs=>?_) ?_
    ·exact j8 tk rfl rfl he rfl rfl rfl (hs.get (i:=1) rfl) (by rw[show 0+(j:Int).toNat*19=j*19 from by omega];exact D4 m r _ _ hget) rfl
    refine J.q λ_=>?_;refine J.call hX hcal (hf (m.getD j En.zero)) [2] 0 rfl rfl rfl rfl (by(repeat' (first | exact Conj.nil | refine Conj.cons ?_ ?_ | omega | exact hq0 | (simpa using hq0) | (exactλh=>h) | exact rfl | (intro hq;have hq0:=hq;try simp only[Bool.and_eq_true,Bool.or_eq_true,decide_eq_true_eq,Bool.not_eq_true',decide_eq_false_iff_not]at hq) | (simp;done) | (simp;omega) | decide))) rfl rfl (λ_=>rfl) ?_;refine cpq ⟨_,rfl,trivial,?_⟩;refine J.qd (λ_ h2=>?_) λ_ h2=>?_
    ·simp only[Bool.not_eq_true']at h2;refine J.q λ_=>?_;refine J.storeN hX tk 1 rfl rfl rfl rfl rfl rfl rfl rfl rfl rfl rfl rfl rfl ?_ (d6 (m.set i (m.getD j En.zero))++r) ?_ rfl (λ_=>rfl) ⟨trivial,?_⟩
     ·rw[List.length_append,D1];show 0+(i:Int).toNat*19+19<=_;omega
     ·rw[show 0+(i:Int).toNat*19=i*19 from by omega];exact a3w m r i _ (by omega)
     refine J.q λ_=>?_;refine J.n ((i+1,j+1,m.set i (m.getD j En.zero))) (hI.keep (by omega) h2) (by dsimp only;omega) [0,1,2]
    ·simp only[Bool.not_eq_false']at h2;refine J.q λ_=>?_;refine J.n ((i,j+1,m)) (hI.skip (by omega) h2) (by dsimp only;omega) [0,1,2]
   ·simp only[decide_eq_false_iff_not,Int.ofNat_lt]at h1;obtain rfl:j=n:=by omega
    have hfil:m.take i=l.filter (λx=>!p x):=by
     have h5:=hI.2.2.2.2;rw[List.drop_of_length_le (by omega)]at h5;simpa using h5
    refine J.q λ_=>?_;refine J.clear hX tk 1 rfl rfl rfl rfl rfl rfl rfl rfl rfl rfl rfl ?_ (λ_=>rfl) (λ_=>rfl) λcs' z1 z2=>⟨trivial,?_⟩
    ·rw[List.length_append,D1];rw[D1]at q4;show 0+(i:Int).toNat*19+(j-(i:Int).toNat)*19<=_;have:(i:Int).toNat=i:=by omega
     rw[this];omega
    have hilen:(l.filter (λx=>!p x)).length=i:=by rw[<- hfil,List.length_take];omega
    refine J.closeOwn (e:=135) (size:=19) (n:=i) (cap:=cap) (xs:=d6 (l.filter (λx=>!p x))) 1 rfl rfl (by rw[D1,hilen]) (by omega) q3 (by rw[z1,List.length_append,D1,hml];rw[D1,hl]at q4;exact q4) ?_ rfl ?_
    ·have z3:(0+(i:Int).toNat*19)=i*19:=by omega
     rw[z3]at z2;rw[z2,<- hfil];have e:d6 m=d6 (m.take i)++d6 (m.drop i):=by
      conv=>lhs;rw[<- List.take_append_drop i m]
      simp only[d6,List.flatMap_append]
     rw[e,List.append_assoc,List.take_left' (by rw[D1,List.length_take,Nat.min_eq_left (by omega)])]
    refine J.qr [1,2] λ_=>?_;exact⟨_,rfl,by rw[hilen];rfl,by rw[hilen];rfl⟩
theorem b2O {E:Env} {n:Nat} {ac:Act} {w:World} {o:Oper} {x y:Operand} {k1 k2 t1 t2:Nat} {g1 g2:G} {a:Option Addr} {m c h:Nat} {kk:IntKind} {hI:Int} (hop:o.op= .slice 120 x none (some y) none) (hx:ev E x=some ⟨k1, .slice a m c,t1,g1⟩) (hy:ev E y=some ⟨k2, .int kk hI,t2,g2⟩) (he:EnvOK n E ac) (v1:g1.on=true) (v2:g2.on=true) (hh:hI=(h:Int)) (hc:h<=c):
  (execOp ac.eval o).run Tryz.prog w= .ok (.value (.slice a h c)) w:=by
 subst hh;have e1:=i6 he hx;have e2:=i6 he hy;simp only[Slot.val,v1,v2]at e1 e2;obtain⟨d,f,zv,ok⟩:=g7 (tk.get (t:=120) rfl);obtain⟨fe,rfl,g1,g2⟩:=ok.slice rfl;have h0:∀ad:Addr,ad.add 0=ad:=λad=>by unfold Addr.add;rw[if_pos rfl]
 cases a with
 | none=>
  simp only[execOp,hop,Option.map_some,Option.map_none,e1,e2,Instr.sliceAt,Instr.slice,Instr.sliceBounds,Instr.sliceBound,asIntOf,Sem.run_bind,Sem.run_pure,Result.andThen_ok,d7 ok.hd,m6 g1,g2];simp[hc,h0]
 | some ad=>
  simp only[execOp,hop,Option.map_some,Option.map_none,e1,e2,Instr.sliceAt,Instr.slice,Instr.sliceBounds,Instr.sliceBound,asIntOf,Sem.run_bind,Sem.run_pure,Result.andThen_ok,d7 ok.hd,m6 g1,g2];simp[hc,h0]
theorem I2 {e size:Nat} {a:Option Nat} {n cap:Nat} {xs:List Value} {h:Hl} (s:K9 e size a n cap xs h):n<=cap:=by
 obtain⟨_,s⟩:=s;cases a with
 | none=>obtain⟨rfl,rfl⟩:=s;exact Nat.le_refl _
 | some g=>obtain⟨_,_,h,_⟩:=s;exact h
theorem U8 (l:List En):∀k,(d6 l).take (k*19)=d6 (l.take k):=by
 induction l with
 | nil=>intro k;simp[d6]
 | cons x l ih=>
  intro k;cases k with
  | zero=>simp[d6]
  | succ k=>
   have e1:d6 (x::l)=enL x++d6 l:=by simp[d6]
   have e2:d6 (x::l.take k)=enL x++d6 (l.take k):=by simp[d6]
   rw[e1,List.take_succ_cons,e2,<- ih k,show(k+1)*19=(enL x).length+k*19 from by show _=19+k*19;omega,List.take_length_add_append]
theorem H7 (l:List En) (e:En):d6 l++enL e=d6 (l++[e]):=by simp[d6]
theorem b0y (a:Option Nat) (N cap cap2 k:Nat) (l:List En) (hl:l.length=N) (hk:k<=N) (hn:N<=1000000):FP 157 [slv a k cap2] [c9 135 19 a N cap (d6 l)]
  (λv As=>∃a' c',v=slv a' k c'/\As=[c9 135 19 a N cap (d6 l),c9 135 19 a' k c' (d6 (l.take k))]):=by
 refine FE [0] Tryz.func157 λX F hX=>?_;cases a with
 | none=>
  refine J.know (λh' s=>(s.get (i:=1) rfl).2) λhn0=>?_;obtain⟨rfl,rfl⟩:=hn0;obtain rfl:k=0:=by omega
  have:l=[]:=List.eq_nil_of_length_eq_zero hl;subst this;refine J.qT λ_=>?_;refine J.turn1 [] rfl (As:=[c9 135 19 none 0 0 (d6 [])]) (λh s=>Sep.one ⟨rfl,rfl,rfl⟩) rfl ?_;refine J.qr [1,2] λ_=>?_;exact⟨none,0,rfl,rfl⟩
 | some g=>
  refine J.qF λ_=>?_;refine J.qn 5 λbb=>?_;refine J.closeOwn (e:=135) (size:=19) (n:=0) (cap:=0) (xs:=[]) 2 rfl rfl rfl (Nat.le_refl _) (Nat.zero_le _) rfl rfl rfl ?_;refine J.q λ_=>?_;have hRd:Rd (c9 135 19 (some g) N cap (d6 l)) (some ⟨g,0,none⟩) 19 k (d6 (l.take k)):=by
   have:=(C6 135 19 (some g) N cap (d6 l)).take k hk
   rwa [U8]at this
  refine J.appendR hX tk (a:=some (bb 0)) (n:=0) (cap:=0) (xs:=[]) (oo:=0) (Ay:=c9 135 19 (some g) N cap (d6 l)) 2 1 0 rfl rfl rfl rfl rfl rfl rfl rfl rfl rfl hRd rfl rfl rfl rfl (a3x _) ?_ ?_ (λ_=>rfl) λa' c'=>⟨_,rfl,trivial,?_⟩
  ·simp only[maxLen];omega
  ·omega
  rw[Nat.zero_add k,List.nil_append];refine J.qr [1,2] λ_=>?_;exact⟨a',c',rfl,rfl⟩
theorem b0u (c:Nat) (cs:List Value) (p:En->Bool) (A B:Atom) (hcal:n5 Tryz.prog c=true) (l:List En) (hf:∀x∈l,Fn Tryz.prog c (enV x::cs) [A] (Ps (.bool (p x)) [A]))
  (a:Option Addr) (n cap:Nat) (hB:Rd B a 19 n (d6 l)) (hl:l.length=n) (hn:n<=4611686018427387904):FP 134 [.slice a n cap,fnC c cs] [B,A]
  (Ps (iI (a3P p l)) [B,A]):=by
 refine FE [0,0] Tryz.func134 λX F hX=>?_;refine J.q λ_=>?_;refine J.l (α:=Nat) (λk=>k<=n/\∀i<k,p (l.getD i En.zero)=false) (λk=>[si 8 k,si 7 n,sv 0 (.slice a n cap),⟨1,fnC c cs,0, .tt⟩]) [] (λk=>[]) (λk=>n-k) (0) (⟨by omega,by omega⟩) λk hI=>?_;refine J.qd (λ_ h1=>?_) λ_ h1=>?_
 ·simp only[decide_eq_true_eq,Int.ofNat_lt]at h1;refine J.know (p:=∃g o,a=some ⟨g,o,none⟩) (λh' s=>Rd.addr (hB _ (s.get (i:=1) rfl)) (by omega)) λhk=>?_;obtain⟨g,o,rfl⟩:=hk;have hk:l[k]? =some (l.getD k En.zero):=by rw[List.getD_eq_getElem?_getD,List.getElem?_eq_getElem (by omega),Option.getD_some]
  refine J.q λ_=>?_;refine J.v (enV (l.getD k En.zero)) rfl rfl (λhg a w he hs=>?_) ?_
  ·exact Y3 tk rfl rfl he rfl rfl rfl (hB _ (hs.get (i:=1) rfl)) (by omega) (j:=k*19) (by omega) (by have:=D4 l [] k _ hk;rwa [List.append_nil]at this) rfl
  refine J.q λ_=>?_;refine J.call hX hcal (hf (l.getD k En.zero) (List.mem_of_getElem? hk)) [2] 0 rfl rfl rfl rfl (by(repeat' (first | exact Conj.nil | refine Conj.cons ?_ ?_ | omega | exact hq0 | (simpa using hq0) | (exactλh=>h) | exact rfl | (intro hq;have hq0:=hq;try simp only[Bool.and_eq_true,Bool.or_eq_true,decide_eq_true_eq,Bool.not_eq_true',decide_eq_false_iff_not]at hq) | (simp;done) | (simp;omega) | decide))) rfl rfl (λ_=>rfl) ?_;refine cpq ⟨_,rfl,trivial,?_⟩;refine J.qd (λ_ h2=>?_) λ_ h2=>?_
  ·refine J.qr [1,2] λ_=>?_;exact⟨by rw[a3P,a4z hk hI.2 h2],rfl⟩
  ·refine J.q λ_=>?_;refine J.nx (k+1) (⟨by omega,λi hi=>by
    rcases Nat.lt_succ_iff_lt_or_eq.1 hi with h3 | h3
    ·exact hI.2 i h3
    ·rw[h3];exact h2⟩) (by omega) (λ_ s=>s)
 ·simp only[decide_eq_false_iff_not,Int.ofNat_lt]at h1;refine J.qr [1,2] λ_=>?_;exact⟨by rw[a3P,a4A (λi hi=>hI.2 i (by omega))],rfl⟩
theorem a5X (c:Nat) (cs:List Value) (p:En->Bool) (A B:Atom) (hcal:n5 Tryz.prog c=true) (l:List En) (hf:∀x∈l,Fn Tryz.prog c (enV x::cs) [A] (Ps (.bool (p x)) [A]))
  (a:Option Addr) (n cap:Nat) (hB:Rd B a 19 n (d6 l)) (hl:l.length=n) (hn:n<=4611686018427387904):FP 165 [.slice a n cap,fnC c cs] [B,A]
  (Ps (.bool (l.any p)) [B,A]):=by
 refine FE [0,0] Tryz.func165 λX F hX=>?_;refine J.qp (b0u c cs p A B hcal l hf a n cap hB hl hn) [1,2] λ_=>?_;refine J.qr [1,2] λ_=>?_;exact⟨by rw[<- b2r],rfl⟩
def Q3 (d:Nat) (L:List En):Atom:=exA λx:Option Nat×Nat=>[.pt d 167 [slv x.1 L.length x.2],c9 135 19 x.1 L.length x.2 (d6 L)]
theorem b4S:FP 77 [] [] (λv As=>∃d,v=pp d/\As=[Q3 d []]):=by
 refine FE [] Tryz.func77 λX F hX=>?_;refine J.q λbs=>?_;refine J.turn1 [] rfl (As:=[c9 135 19 none 0 0 (d6 [])]) (λh s=>Sep.one ⟨rfl,rfl,rfl⟩) rfl ?_;refine J.cl (λx:Option Nat×Nat=>[.pt (bs 0) 167 [slv x.1 ([]:List En).length x.2],c9 135 19 x.1 ([]:List En).length x.2 (d6 [])]) (none,0) [1,2] ?_;refine J.qr [1] λ_=>?_;exact⟨bs 0,rfl,rfl⟩
theorem a8M (d:Nat) (L:List En):FP 66 [pp d] [Q3 d L] (Ps (iI L.length) [Q3 d L]):=by
 refine FE [2] Tryz.func66 λX F hX=>?_;refine J.o (α:=(Option Nat×Nat)) 1 λx=>?_;refine J.qF λ_=>?_;refine J.q λ_=>?_;refine J.cl (λx:Option Nat×Nat=>[.pt d 167 [slv x.1 L.length x.2],c9 135 19 x.1 L.length x.2 (d6 L)]) x [1,2] ?_;exact J.qx [1]
theorem b5O (b:Nat) (e x:En):FP 193 [enV x,pp b] [.pt b 135 (enL e)] (Ps (.bool (x.lpn==e.lpn)) [.pt b 135 (enL e)]):=by
 refine FE [0,2] Tryz.func193 λX F hX=>?_;exact J.qx [1]
def H5 (L:List En) (e:En):List En:=(L.filter λx=>!(x.lpn==e.lpn))++[e]
theorem a8L (d:Nat) (L:List En) (hL:L.length<=100000) (e:En):FP 133 [pp d,enV e] [Q3 d L] (Ps (.tuple #[]) [Q3 d (H5 L e)]):=by
 refine FE [2,0] Tryz.func133 λX F hX=>?_;refine J.o (α:=(Option Nat×Nat)) 1 λx=>?_;obtain⟨a,c⟩:=x;refine J.q λbb=>?_;refine J.cF ?_;refine J.qc (a3V 193 [pp (bb 0)] (λx=>x.lpn==e.lpn) (.pt (bb 0) 135 (enL e)) (by kernel_rfl) (λx=>b5O (bb 0) e x) a L.length c L rfl (by omega)) [2,3] λ_=>?_;rintro v As ⟨l',hl',rfl,rfl⟩;refine⟨_,rfl,trivial,?_⟩;have hll:l'.length<=L.length:=by rw[hl'];exact List.length_filter_le _ _
 have hput:H5 L e=l'++[e]:=by unfold H5;rw[hl']
 refine J.pq (.of [0,4,8,12,17,21,26,30,32,36,43]) [8,9,10] [1,3] λ_ _=>?_;refine J.ap 2 4 0 (H7 l' e) λa2 c2=>?_;refine J.q λ_=>?_;rw[show l'.length+1=(H5 L e).length from by rw[hput];simp,<- hput];refine J.cl (λx:Option Nat×Nat=>[.pt d 167 [slv x.1 (H5 L e).length x.2],c9 135 19 x.1 (H5 L e).length x.2 (d6 (H5 L e))]) (a2,c2) [1,2] ?_;refine J.q λ_=>?_;refine J.f [1] ?_;exact⟨rfl,rfl⟩
theorem b5P (b:Nat) (k:Int) (x:En):FP 135 [enV x,pp b] [.pt b 3 [iI k]] (Ps (.bool (x.lpn==k)) [.pt b 3 [iI k]]):=by
 refine FE [0,2] Tryz.func135 λX F hX=>?_;exact J.qx [1]
def Q0 (L:List En) (k:Int):En×Bool:=match L.find? (λx=>x.lpn==k)with
 | some e=>(e,true)
 | none=>(En.zero,false)
theorem b2E {p:En->Bool} {l:List En} {k:Nat} (h:l.findIdx? p=some k):l.find? p=some (l.getD k En.zero)/\l[k]? =some (l.getD k En.zero):=by
 rw[List.findIdx?_eq_some_iff_getElem]at h;obtain⟨h1,h2,h3⟩:=h;have e:l[k]? =some (l.getD k En.zero):=by rw[List.getD_eq_getElem?_getD,List.getElem?_eq_getElem h1,Option.getD_some]
 refine⟨?_,e⟩;have e2:l.getD k En.zero=l[k]:=by rw[List.getElem?_eq_getElem h1]at e;injection e with e;exact e.symm
 rw[List.find?_eq_some_iff_getElem,e2];exact⟨h2,k,h1,rfl,λj hj=>by simpa using h3 j hj⟩
theorem b4T (d:Nat) (L:List En) (hL:L.length<=100000) (k:Int):FP 85 [pp d,iI k] [Q3 d L] (Ps (.tuple #[enV (Q0 L k).1, .bool (Q0 L k).2]) [Q3 d L]):=by
 refine FE [2,0] Tryz.func85 λX F hX=>?_;refine J.o (α:=(Option Nat×Nat)) 1 λx=>?_;obtain⟨a,c⟩:=x;refine J.q λbb=>?_;refine J.cF ?_;refine J.q λ_=>?_;refine J.ca hX (by kernel_rfl) (a5U 135 [pp (bb 0)] (λx=>x.lpn==k) (.pt (bb 0) 3 [iI k]) (by kernel_rfl) L (λx _=>b5P (bb 0) k x) a L.length c rfl (by omega)) [2,3] 0 rfl rfl rfl rfl rfl rfl (λ_=>rfl) ?_;refine cpq ⟨_,rfl,trivial,?_⟩;rw[a3P];cases hx:L.findIdx? (λx=>x.lpn==k)with
 | none=>
  dsimp only;refine J.qT λ_=>?_;refine J.cl (λx:Option Nat×Nat=>[.pt d 167 [slv x.1 L.length x.2],c9 135 19 x.1 L.length x.2 (d6 L)]) (a,c) [1,2] ?_;refine J.qr [1] λ_=>?_;have:Q0 L k=(En.zero,false):=by
   unfold Q0;rw[List.find?_eq_none.2 (λx hm=>by rw[List.findIdx?_eq_none_iff]at hx;simp[hx x hm])]
  rw[this];exact⟨rfl,rfl⟩
 | some i=>
  dsimp only;obtain⟨f1,f2⟩:=b2E hx;have hi:i<L.length:=(List.getElem?_eq_some_iff.1 f2).1;refine J.qd (λ_ h0=>?_) λ_ h0=>?_
  ·simp only[decide_eq_true_eq]at h0;omega
  cases a with
  | none=>
   refine J.know (λh' s=>(s.get (i:=2) rfl).2.1) λhn0=>?_;omega
  | some g=>
   refine J.q λ_=>?_;refine J.v (enV (L.getD i En.zero)) rfl rfl (λhg a w he hs=>?_) ?_
   ·exact n8 tk rfl rfl he rfl rfl rfl (hs.get (i:=2) rfl) (by rw[show 0+(i:Int).toNat*19=i*19 from by omega];have:=D4 L [] i _ f2;rwa [List.append_nil]at this) rfl
   refine J.cl (λx:Option Nat×Nat=>[.pt d 167 [slv x.1 L.length x.2],c9 135 19 x.1 L.length x.2 (d6 L)]) (some g,c) [1,2] ?_;refine J.qr [1] λ_=>?_;have:Q0 L k=(L.getD i En.zero,true):=by
    unfold Q0;rw[f1]
   rw[this];exact⟨rfl,rfl⟩
def dkN (L:List En) (n:Int):Nat:=min n.toNat L.length
theorem a8N (d:Nat) (L:List En) (hL:L.length<=100000) (n:Int):FP 105 [pp d,iI n] [Q3 d L] (λv As=>∃a' c',v=slv a' (dkN L n) c'/\As=[Q3 d L,c9 135 19 a' (dkN L n) c' (d6 (L.take (dkN L n)))]):=by
 refine FE [2,0] Tryz.func105 λX F hX=>?_;refine J.o (α:=(Option Nat×Nat)) 1 λx=>?_;obtain⟨a,c⟩:=x;refine J.qF λ_=>?_;refine J.know (λh' s=>I2 (s.get (i:=2) rfl)) λhcap=>?_;dsimp only at hcap;have hmin:(if(L.length:Int)<(if(0:Int)>n then 0 else n)then(L.length:Int)else(if(0:Int)>n then 0 else n))=(dkN L n:Int):=by
  unfold dkN
  by_cases h:(0:Int)>n
  ·simp only[if_pos h];rw[if_neg (by omega)];omega
  ·simp only[if_neg h];split<;>omega
 have hk:dkN L n<=L.length:=Nat.min_le_right _ _;refine J.pn 12 (.of [0,4,8,13,16,20,24,28,32,37,40,44,48,54,56]) [14] [1,2] λ_ _=>?_;refine J.vT (slv a (dkN L n) c) rfl rfl (λhg aa w he hC=>?_) ?_
 ·exact b2O rfl rfl rfl he rfl rfl hmin (by omega)
 refine J.qc (b0y a L.length c c (dkN L n) L rfl hk (by omega)) [2] λ_=>?_;rintro v As ⟨a',c',rfl,rfl⟩;refine⟨_,rfl,⟨rfl,rfl,trivial⟩,?_⟩;refine J.q λ_=>?_;refine J.cl (λx:Option Nat×Nat=>[.pt d 167 [slv x.1 L.length x.2],c9 135 19 x.1 L.length x.2 (d6 L)]) (a,c) [1,2] ?_;refine J.qr [1,3] λ_=>?_;exact⟨a',c',rfl,rfl⟩
theorem b4y (b be:Nat) (x e:En):FP 166 [enV e,pp b] [.pt b 135 (enL x)] (Ps (.bool (e.lpn==x.lpn&&e.seq==x.seq)) [.pt b 135 (enL x)]):=by
 refine FE [0,2] Tryz.func166 λX F hX=>?_;exact J.qx [1]
theorem b4z (b:Nat) (B:Atom) (al:Option Addr) (nl cl:Nat) (l:List En) (hB:Rd B al 19 nl (d6 l)) (hl:l.length=nl) (hn:nl<=4611686018427387904) (x:En):FP 164 [enV x,pp b] [.pt b 120 [.slice al nl cl],B] (λv As=>v= .bool (l.any λe=>e.lpn==x.lpn&&e.seq==x.seq)/\As=[.pt b 120 [.slice al nl cl],B]):=by
 refine FE [0,2] Tryz.func164 λX F hX=>?_;refine J.q λbb=>?_;refine J.ca hX (by kernel_rfl) (a5X 166 [pp (bb 0)] (λe=>e.lpn==x.lpn&&e.seq==x.seq) (.pt (bb 0) 135 (enL x)) B (by kernel_rfl) l (λe _=>b4y (bb 0) 0 x e) al nl cl hB hl hn) [2,3] 0 rfl rfl rfl rfl rfl rfl (λ_=>rfl) ?_;refine cpq ⟨_,rfl,trivial,?_⟩;exact J.qx [1,2]
def I5 (L l:List En):List En:=L.filter λx=>!(l.any λe=>e.lpn==x.lpn&&e.seq==x.seq)
theorem b2N (d:Nat) (L:List En) (hL:L.length<=100000) (B:Atom) (al:Option Addr) (nl cl:Nat) (l:List En) (hB:Rd B al 19 nl (d6 l)) (hl:l.length=nl) (hn:nl<=4611686018427387904):FP 107 [pp d, .slice al nl cl] [Q3 d L,B] (Ps (iI ((L.length:Int)-(I5 L l).length)) [Q3 d (I5 L l),B]):=by
 refine FE [2,0] Tryz.func107 λX F hX=>?_;refine J.o (α:=(Option Nat×Nat)) 1 λx=>?_;obtain⟨a,c⟩:=x;refine J.q λbb=>?_;refine J.cF ?_;refine J.q λ_=>?_;refine J.turn1 [4,2] rfl (As:=[.hp (HP.of [.pt (bb 0) 120 [.slice al nl cl],B])]) (λh s=>Sep.hpOf.2 s) rfl ?_;refine J.q λ_=>?_;refine J.ca hX (by kernel_rfl) (a3V 164 [pp (bb 0)] (λx=>l.any λe=>e.lpn==x.lpn&&e.seq==x.seq) _ (by kernel_rfl) (λx=>Fn.pack (b4z (bb 0) B al nl cl l hB hl hn x)) a L.length c L rfl (by omega)) [3,4] 0 rfl rfl rfl rfl rfl rfl (λ_=>rfl) ?_;rintro v As ⟨l',hl',rfl,rfl⟩;refine⟨_,rfl,trivial,?_⟩;have hll:l'.length<=L.length:=by rw[hl'];exact List.length_filter_le _ _
 have hdn:I5 L l=l':=hl'.symm;refine J.q λ_=>?_;refine J.turn1 [4] rfl (As:=[.pt (bb 0) 120 [.slice al nl cl],B]) (λh s=>Sep.hpOf.1 s) rfl ?_;refine J.cl (λx:Option Nat×Nat=>[.pt d 167 [slv x.1 l'.length x.2],c9 135 19 x.1 l'.length x.2 (d6 l')]) (a,c) [1,3] ?_;refine J.qr [1,5] λ_=>?_;rw[hdn];exact⟨rfl,rfl⟩
end Go.Proofs.YtpohajhbfllbbaaGreat
