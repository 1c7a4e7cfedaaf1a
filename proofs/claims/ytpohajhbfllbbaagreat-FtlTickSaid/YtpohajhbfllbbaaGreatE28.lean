/- Helpers. No condition. -/
import Derived.Test.YtpohajhbfllbbaaGreatE17
import Derived.Test.YtpohajhbfllbbaaGreatE27
set_option maxRecDepth 20000
set_option linter.all false
namespace Go.Proofs.YtpohajhbfllbbaaGreat
open Go
namespace Inv
variable {fd : Int} {S : Dv} {k m : Nat} {l : List En}
theorem full (h:Inv fd S) (hO:S.Ok k m) (hr:S.rows=0):S.left=false/\S.pick<0:=by
 have hg:=hO.gd.ok.bd16;unfold Dv.rows at hr;have h1:S.N.pages*S.t.blanks=0:=by omega
 have h2:S.t.blanks=0:=by
  rcases Nat.mul_eq_zero.1 h1 with e | e
  ·omega
  ·exact e
 refine⟨?_,?_⟩
 ·cases hl:S.left with
  | false=>rfl
  | true=>
   have:=Dv.left_spec hl;rw[if_pos (by omega)]at hr;omega
 ·refine Classical.byContradiction λhp=>?_;have:=Tl.blanks_open hO.t.len (Dv.pick_blank hp);omega
end Inv
namespace Tb
theorem put1_keys2 {α β:Type} (k:Int) (v:α) (v':β):∀(l:List (Int×α)) (l':List (Int×β)),l.map (·.1)=l'.map (·.1)->(put1 l k v).map (·.1)=(put1 l' k v').map (·.1)
 | [],[],_=>rfl
 | [],y::l',h=>by cases h
 | x::l,[],h=>by cases h
 | x::l,y::l',h=>by
  simp only[List.map_cons,List.cons.injEq]at h;simp only[put1];rw[h.1];split
  ·simp only[List.map_cons,h.2]
  ·simp only[List.map_cons,h.1,put1_keys2 k v v' l l' h.2]
end Tb
def M8 (W:List (Int×En)) (l:List En) (n:Nat):List (Int×En):=(List.range n).foldl (λW (i:Nat)=>Tb.put1 W (l.getD i En.zero).lpn (l.getD i En.zero)) W
theorem O7 (W:List (Int×En)) (l:List En) (n:Nat):M8 W l (n+1)=Tb.put1 (M8 W l n) (l.getD n En.zero).lpn (l.getD n En.zero):=by unfold M8;rw[List.range_succ,List.foldl_append];rfl
theorem K0 {W:List (Int×En)} {l:List En}:∀n:Nat,(∀i j,i<j->j<n->(l.getD i En.zero).lpn≠(l.getD j En.zero).lpn)->(∀j,j<n->Tb.look (M8 W l n) (l.getD j En.zero).lpn=some (l.getD j En.zero))/\∀i,(∀j,j<n->(l.getD j En.zero).lpn≠i)->Tb.look (M8 W l n) i=Tb.look W i
 | 0,_=>⟨λj hj=>by omega,λi _=>rfl⟩
 | n+1,h=>by
  obtain⟨i1,i2⟩:=K0 (W:=W) n λi j hij hj=>h i j hij (by omega);rw[O7];refine⟨λj hj=>?_,λi hi=>?_⟩
  ·rw[Tb.look_put1]
   by_cases e:j=n
   ·subst e;rw[if_pos rfl]
   ·rw[if_neg (h j n (by omega) (by omega))];exact i1 j (by omega)
  ·rw[Tb.look_put1,if_neg (λe=>hi n (by omega) e.symm)];exact i2 i λj hj=>hi j (by omega)
structure Hd (S:Dv) (W:List (Int×En)):Prop where
 keys:S.T.at_.map (·.1)=W.map (·.1)
 each:∀i e,Tb.look W i=some e->e.data.length=16/\∃a,Tb.look S.T.at_ i=some a/\R.read S.N a.block a.row a.slot a.mask=({e with seq:=a.seq},0)
namespace Hd
variable {fd : Int} {S Q : Dv} {W : List (Int × En)} {k m : Nat} {l : List En}
theorem went (h:Hd S W) (hi:Inv fd S) {β:Nat} (w:Went fd S Q β):Hd Q W:=by
 refine⟨by rw[w.T];exact h.keys,λi e he=>?_⟩;obtain⟨h1,a,h2,h3⟩:=h.each i e he;exact⟨h1,a,by rw[w.T];exact h2,by rw[w.reads i a (hi.st i a h2)];exact h3⟩
theorem none (h:Hd S W) {i:Int} (hi:Tb.look W i= .none):Tb.look S.T.at_ i= .none:=by
 rw[Tb.look_none]at hi ⊢;rw[h.keys];exact hi
theorem wrote (h:Hd Q W) (hQ:Inv fd Q) (hO:Q.Ok k m) (hl:Last fd Q l) (hf:∀e∈l,FitR e) (hlg:∀e∈l,e.lpn<Q.T.logical) (hnd:(l.map (·.lpn)).Nodup):Hd (t6 Q l) (M8 W l (Q.fit l)):=by
 obtain⟨l1,l2⟩:=hl.look hQ hO hf hlg hnd;have hes:=λj (hj:j<Q.fit l)=>hl.seqs hO hj;have hdis:∀i j,i<j->j<Q.fit l->(l.getD i En.zero).lpn≠(l.getD j En.zero).lpn:=λi j hij hj e=>by
  have g1:=(hes j hj).1;have g2:=(hes i (by omega)).1;have:(l.map (·.lpn))[i]? =(l.map (·.lpn))[j]?:=by
   rw[List.getElem?_map,List.getElem?_map,List.getElem?_eq_getElem g1,List.getElem?_eq_getElem g2];rw[List.getD_eq_getElem?_getD,List.getD_eq_getElem?_getD,List.getElem?_eq_getElem g1,List.getElem?_eq_getElem g2]at e;exact congrArg some e
  have:=(List.getElem?_inj (by rw[List.length_map];exact g2) hnd).1 this;omega
 obtain⟨w1,w2⟩:=K0 (W:=W) (l:=l) (Q.fit l) hdis;refine⟨?_,λi e he=>?_⟩
 ·have key:∀n,n<=Q.fit l->(Dv.puts Q.T Q.op Q.row Q.mask (Q.es l) n).at_.map (·.1)=(M8 W l n).map (·.1):=by
   intro n
   induction n with
   | zero=>intro _;exact h.keys
   | succ n ih=>
    intro hn;have hb:=(hes n (by omega));have hin:=D6 hb.1;have hfe:=hf _ hin;have hl2:Tb.look (Dv.puts Q.T Q.op Q.row Q.mask (Q.es l) n).at_ (l.getD n En.zero).lpn=Tb.look Q.T.at_ (l.getD n En.zero).lpn:=by
     have hp:=(a1A (T:=Q.T) (b:=Q.op) (r:=Q.row) (mk:=Q.mask) (es:=Q.es l) n (λj hj=>?_) (λj hj a ha=>?_) (λi j hij hj=>?_)).2
     ·refine hp _ λj hj=>?_;rw[(hes j (by omega)).2.1];exact hdis j n hj (by omega)
     ·rw[(hes j (by omega)).2.1];have hfe:=hf _ (D6 (hes j (by omega)).1);have:=hlg _ (D6 (hes j (by omega)).1);unfold Tb.ok;have e1:decide (({l.getD j En.zero with seq:=Q.next+(j:Int)}:En).lpn<0)=false:=decide_eq_false (by have:=hfe.lpn;show¬(l.getD j En.zero).lpn<0;omega);have e2:decide (({l.getD j En.zero with seq:=Q.next+(j:Int)}:En).lpn>=Q.T.logical)=false:=decide_eq_false (by show¬(l.getD j En.zero).lpn>=Q.T.logical;omega);rw[e1,e2];show(!(false||false||((l.getD j En.zero).role !=1&&(l.getD j En.zero).role !=2&&(l.getD j En.zero).role !=4)))=true;rcases hfe.role with e | ⟨e | e,_⟩<;>rw[e]<;>rfl
     ·rw[(hes j (by omega)).2.1]at ha ⊢;have:=(hQ.st _ a ha).seq;show a.seq<=Q.next+(j:Int);omega
     ·rw[(hes j (by omega)).2.1,(hes i (by omega)).2.1];exact hdis i j hij (by omega)
    have hp:Tb.putB (Dv.puts Q.T Q.op Q.row Q.mask (Q.es l) n) ((Q.es l).getD n En.zero)=true:=by
     have hlog:∀n,(Dv.puts Q.T Q.op Q.row Q.mask (Q.es l) n).logical=Q.T.logical:=by
      intro n
      induction n with
      | zero=>rfl
      | succ n ih=>rw[Dv.puts_succ,Tb.put_logical];exact ih
     rw[hb.2.1];have:=hlg _ hin;have e1:Tb.ok (Dv.puts Q.T Q.op Q.row Q.mask (Q.es l) n) ({l.getD n En.zero with seq:=Q.next+(n:Int)}:En)=true:=by
      unfold Tb.ok;rw[hlog];have e1:decide (({l.getD n En.zero with seq:=Q.next+(n:Int)}:En).lpn<0)=false:=decide_eq_false (by have:=hfe.lpn;show¬(l.getD n En.zero).lpn<0;omega);have e2:decide (({l.getD n En.zero with seq:=Q.next+(n:Int)}:En).lpn>=Q.T.logical)=false:=decide_eq_false (by show¬(l.getD n En.zero).lpn>=Q.T.logical;omega);rw[e1,e2];show(!(false||false||((l.getD n En.zero).role !=1&&(l.getD n En.zero).role !=2&&(l.getD n En.zero).role !=4)))=true;rcases hfe.role with e | ⟨e | e,_⟩<;>rw[e]<;>rfl
     have e2:Tb.elder (Dv.puts Q.T Q.op Q.row Q.mask (Q.es l) n) ({l.getD n En.zero with seq:=Q.next+(n:Int)}:En)=false:=by
      unfold Tb.elder;rw[show({l.getD n En.zero with seq:=Q.next+(n:Int)}:En).lpn=(l.getD n En.zero).lpn from rfl,hl2];cases hh:Tb.look Q.T.at_ (l.getD n En.zero).lpn with
      | none=>rfl
      | some a=>have:=(hQ.st _ a hh).seq;exact decide_eq_false (by show¬(Q.next+(n:Int))<a.seq;omega)
     unfold Tb.putB;rw[e1,e2];rfl
    rw[Dv.puts_succ,O7];unfold Tb.put;rw[if_pos hp];show(Tb.put1 _ _ _).map (·.1)=_;rw[hb.2.1];exact Tb.put1_keys2 _ _ _ _ _ (ih (by omega))
  exact key _ (Nat.le_refl _)
 ·by_cases hex:∃j,j<Q.fit l/\(l.getD j En.zero).lpn=i
  ·obtain⟨j,hj,rfl⟩:=hex;rw[w1 j hj]at he;injection he with he;subst he;refine⟨(hf _ (D6 (hes j hj).1)).len,_,l1 j hj,?_⟩;exact hl.reads hQ hO hj
  ·have hno:∀j,j<Q.fit l->(l.getD j En.zero).lpn≠i:=λj hj e=>hex ⟨j,hj,e⟩;rw[w2 i hno]at he;obtain⟨h1,a,h2,h3⟩:=h.each i e he;refine⟨h1,a,by rw[l2 i hno];exact h2,?_⟩;rw[hl.stay hQ hO hf (hQ.st i a h2)];exact h3
end Hd
theorem b0p (D B P:Nat) (lg:Int):(Dv.new D B P lg).rows=P*B:=by
 unfold Dv.rows;have e1:(Dv.new D B P lg).op= -1:=rfl;have e2:(Dv.new D B P lg).t.blanks=B:=by
  show(List.replicate B Sb.zero).countP _=B;rw[List.countP_replicate];rfl
 have e3:(Dv.new D B P lg).N.pages=P:=rfl;rw[e1,e2,e3,if_neg (by decide)];omega
def FreshP (S:Dv) (b r:Int):Prop:=(b=S.op/\S.row<=r)\/(S.t.has b=true/\(S.t.at_ b).used=false)
namespace Dv
theorem loses_used {S:Dv} {f:Int} (hF:S.t.Fit S.N) (h8:S.t.d<=8) (hs:L.set S.t.dead=true) (b:Int) (hb:S.t.has b=true):((S.loses f).t.at_ b).used=(S.t.at_ b).used/\(S.loses f).t.has b=true:=by
 have h:=loses_sb (f:=f) (List.range S.N.dies) S hF h8 hs;exact⟨(h.2.1 b hb).2.2,(h.1 b).trans hb⟩
end Dv
namespace Inv
variable {fd : Int} {S : Dv} {k m : Nat} {l : List En}
theorem write_op:∀(f:Nat) (S:Dv) (k:Nat),Inv fd S->S.Ok (8*f+k) m->(∀e∈l,FitR e)->S.next+7*(f:Int)<=1099511627775->0<(Dv.write f S l).2.1->
  FreshP S (Dv.write f S l).1.op ((Dv.write f S l).1.row-1)
 | 0,S,k,_,_,_,_,h0=>by exact absurd h0 (by show¬(0:Int)<0;omega)
 | f+1,S,k,h,hO,hf,hnx,h0=>by
  have hd:∀s∈l,s.data.length=16:=λe he=>(hf e he).len;have hg:=hO.gd.ok.bd16;rw[Dv.write_succ]at h0 ⊢
  by_cases hl0:l.length=0
  ·rw[if_pos hl0]at h0;exact absurd h0 (by show¬(0:Int)<0;omega)
  rw[if_neg hl0]at h0 ⊢
  by_cases hns:S.left=false/\S.pick<0
  ·rw[if_pos hns]at h0;exact absurd h0 (by show¬(0:Int)<0;omega)
  rw[if_neg hns]at h0 ⊢;have hl:S.at1.left=true:=Dv.at1_left' hO hns;have w1:=h.went1 hO hl;have hQO:=hO.at1;have hfit:=Dv.fit_le S.at1 l;have hn:¬S.at1.next>1099511627775-(S.at1.fit l:Int)+1:=by rw[(Dv.at1_like S).2.2];omega
  have ht:=w1.inv.turn hQO hl hf hn;rw[if_neg hn]at h0 ⊢
  --where the one that is open stands
  have hat:FreshP S S.at1.op S.at1.row/\∀b,S.t.has b=true->(S.at1.t.at_ b).used=false->(S.t.at_ b).used=false:=by
   unfold Dv.at1;split
   ·exact⟨.inl ⟨rfl,Int.le_refl _⟩,λ_ _ h=>h⟩
   ·rename_i hh;have hlf:S.left=false:=by simpa using hh
    have hp:¬S.pick<0:=λe=>hns ⟨hlf,e⟩;rcases S.pick_spec with e | ⟨p1,p2,_,_⟩
    ·omega
    ·have hhas:S.t.has S.pick=true:=Tl.has_iff.2 ⟨p1,p2⟩;have hbl:=Dv.pick_blank hp;have hunu:(S.t.at_ S.pick).used=false:=by simp only[Tl.blank,Bool.and_eq_true,Bool.not_eq_true']at hbl;exact hbl.2
     refine⟨.inr ⟨hhas,hunu⟩,λb hb hu=>?_⟩;have hu:((S.t.clean S.pick false).at_ b).used=false:=hu;unfold Tl.clean at hu;rw[Tl.at_set hO.t.len _ hhas hb]at hu;split at hu
     ·cases hu
     ·exact hu
  have hhas1:∀b,S.at1.t.has b=S.t.has b:=has_same hO.t hQO.t w1.like
  by_cases he:(S.at1.wr l).2.1=0
  ·have herr:=ht.err;rw[if_pos he]at herr;rw[if_neg (by rw[herr];decide),if_pos herr];show FreshP S S.at1.op (S.at1.row+1-1);rw[show S.at1.row+1-1=S.at1.row from by omega];exact hat.1
  ·have herr:=ht.err;rw[if_neg he]at herr;rw[if_neg (by rw[herr];decide),if_neg (by rw[herr];decide),if_neg (by rw[herr];decide)]at h0 ⊢;have hQO8:S.at1.Ok (8+(8*f+k)) m:=hQO.less (by omega);obtain⟨b1,_,_,b4,b5,_⟩:=w1.inv.burn hQO8 hl hf hn he;have hWO:=(hQO8.wrote hd (Dv.left_spec hl).2.1 hn).loses (S.at1.wr l).2.1;have hWt:=(hQO8.wrote hd (Dv.left_spec hl).2.1 hn).t;have hus:=λb hb=>Dv.loses_used (S:=S.at1.wrote l) (f:=(S.at1.wr l).2.1) hWt (by have:=hQO.t.d;have:=hQO.gd.ok.bd16;show S.at1.t.d<=8;omega) w1.inv.tdead.1 b hb;have hnx2:=b1.next;have hnx1:=(Dv.at1_like S).2.2;have ih:=write_op f _ k b1.inv hWO hf (by rw[hnx1]at hnx2;omega) h0;rcases ih with⟨e1,e2⟩ | ⟨e1,e2⟩
   ·rw[b5]at e1;rw[b4]at e2;rw[e1];rcases hat.1 with⟨x1,x2⟩ | x
    ·exact .inl ⟨x1,by omega⟩
    ·exact .inr x
   ·right;have hh:S.t.has (Dv.write f ((S.at1.wrote l).loses (S.at1.wr l).2.1) l).1.op=true:=by
     rw[<- hhas1];have:=Dv.loses_sb (f:=(S.at1.wr l).2.1) (List.range (S.at1.wrote l).N.dies) (S.at1.wrote l) hWt (by have:=hQO.t.d;have:=hQO.gd.ok.bd16;show S.at1.t.d<=8;omega) w1.inv.tdead.1;have e1:(((List.range (S.at1.wrote l).N.dies).foldl (Dv.lose (S.at1.wr l).2.1) (S.at1.wrote l)).t).has _=true:=e1;rw[this.1]at e1;exact e1
    refine⟨hh,hat.2 _ hh ?_⟩;have:=(hus _ (show(S.at1.wrote l).t.has _=true by show S.at1.t.has _=true;rw[hhas1];exact hh)).1;rw[e2]at this;exact this.symm
end Inv
def WOk (W:List (Int×En)):Prop:=∀i e,Tb.look W i=some e->e.lpn=i/\FitR e
namespace Hd
variable {S : Dv} {W : List (Int × En)}
theorem rd (h:Hd S W) (hW:WOk W) {i:Int} {e:En} (he:Tb.look W i=some e):∃sq,S.rd i=({e with seq:=sq},0):=by
 obtain⟨_,a,h2,h3⟩:=h.each i e he;refine⟨a.seq,?_⟩;unfold Dv.rd;rw[h2];dsimp only;rw[Option.getD_some,h3];dsimp only;rw[if_neg (by decide),if_neg];rintro(x | x | x)
 ·exact x rfl
 ·exact x (hW i e he).1
 ·exact x rfl
theorem rds (h:Hd S W) (hW:WOk W):∀L:List Int,(∀i∈L,(Tb.look W i).isSome=true)->∃E:List En,S.rds L=(E,0)/\E.length=L.length/\E.map (·.lpn)=L/\(∀e∈E,FitR e)/\∀j,j<L.length->∃e sq,Tb.look W (E.getD j En.zero).lpn=some e/\E.getD j En.zero={e with seq:=sq}
 | [],_=>⟨[],rfl,rfl,rfl,λ_ h=>(by cases h),λj hj=>by simp at hj⟩
 | i::L,hL=>by
  obtain⟨E,e1,e2,e3,e4,e5⟩:=rds h hW L λx hx=>hL x (by simp[hx]);obtain⟨e,he⟩:=Option.isSome_iff_exists.1 (hL i (by simp));obtain⟨sq,hr⟩:=h.rd hW he;have hw:=hW i e he;refine⟨{e with seq:=sq}::E,?_,by simp[e2],by simp[e3,hw.1],λx hx=>?_,λj hj=>?_⟩
  ·rw[Dv.rds,hr,if_neg (by simp),e1]
  ·rcases List.mem_cons.1 hx with rfl | hx
   ·exact⟨hw.2.lpn,hw.2.role,hw.2.len⟩
   ·exact e4 x hx
  ·cases j with
   | zero=>exact⟨e,sq,by show Tb.look W e.lpn=_;rw[hw.1];exact he,rfl⟩
   | succ j=>exact e5 j (by simpa using hj)
theorem swap {E:List En} {n:Nat} (h:Hd S (M8 W E n)) (hE:∀j,j<n->∃e sq,Tb.look W (E.getD j En.zero).lpn=some e/\E.getD j En.zero={e with seq:=sq}) (hd:∀i j,i<j->j<n->(E.getD i En.zero).lpn≠(E.getD j En.zero).lpn):Hd S W:=by
 obtain⟨w1,w2⟩:=K0 (W:=W) (l:=E) n hd;refine⟨?_,λi e he=>?_⟩
 ·rw[h.keys];clear h w1 w2
  induction n with
  | zero=>rfl
  | succ n ih=>
   rw[O7];have hk:=(K0 (W:=W) (l:=E) n λi j hij hj=>hd i j hij (by omega)).2 (E.getD n En.zero).lpn λj hj=>hd j n hj (by omega);obtain⟨e,sq,h1,_⟩:=hE n (by omega);rw[<- ih (λj hj=>hE j (by omega)) (λi j hij hj=>hd i j hij (by omega))];refine Tb.put1_keys (by rw[hk,h1];simp)
 ·by_cases hex:∃j,j<n/\(E.getD j En.zero).lpn=i
  ·obtain⟨j,hj,rfl⟩:=hex;obtain⟨e',sq,h1,h2⟩:=hE j hj;rw[he]at h1;injection h1 with h1;obtain⟨g1,a,g2,g3⟩:=h.each _ _ (w1 j hj);rw[h2]at g1 g3;subst h1;exact⟨g1,a,g2,g3⟩
  ·exact h.each i e (by rw[w2 i λj hj hh=>hex ⟨j,hj,hh⟩];exact he)
end Hd
inductive Hot2 (fd:Int) (S:Dv):Nat->Prop
 | calm:NoF S->Hot2 fd S 0
 | cold:L.has S.t.dead fd=true->L.has S.mask fd=false->Hot2 fd S 0
 | once:L.has S.t.dead fd=true->Hot2 fd S 1
theorem Hot2.hot {fd:Int} {S:Dv} {β:Nat} (h:Hot2 fd S β):Hot fd S β:=by
 cases h with
 | calm h=>exact .calm h
 | cold h1 h2=>exact .cold h1 h2
 | once h=>exact .once h
theorem Hot2.nof {S:Dv} {β:Nat} (h:Hot2 (-1) S β):NoF S:=by
 cases h with
 | calm h=>exact h
 | cold h _=>have:=L.has_lt _ _ h;omega
 | once h=>have:=L.has_lt _ _ h;omega
structure Pnd (fd:Int) (S:Dv) (E:List En) (V:Dv) (n γ:Nat):Prop where
 inv:Inv fd V
 n1:n<=E.length
 n2:min E.length (S.N.dies-2)<=n
 n3:1<=n
 rows:V.rows+1+γ=S.rows
 pos:∀j,j<n->∃a,Tb.look V.T.at_ (E.getD j En.zero).lpn=some a/\FreshP S a.block a.row/\∀d:Nat,S.N.dead.getD d false=true->L.has a.mask (d:Nat)=false
 rest:∀i,(∀j,j<n->(E.getD j En.zero).lpn≠i)->Tb.look V.T.at_ i=Tb.look S.T.at_ i
 logical:V.T.logical=S.T.logical
 next:S.next<=V.next/\V.next<=S.next+14
 dead:V.N.dead=S.N.dead
 broken:V.N.broken=S.N.broken
 like:S.N.Like V.N
 plan:∀a∈V.N.plan,a∈S.N.plan
 flags:∀i j,(V.N.blk i j).met=(S.N.blk i j).met/\(V.N.blk i j).fails=(S.N.blk i j).fails
 has:∀b,V.t.has b=S.t.has b
 sb:∀b,S.t.has b=true->(V.t.at_ b).held=(S.t.at_ b).held/\((S.t.at_ b).used=true->(V.t.at_ b).used=true)
 td:∀d:Int,L.has S.t.dead d=true->L.has V.t.dead d=true
 fresh:FreshP S V.op (V.row-1)
 hot:∀β,Hot2 fd S β->γ<=β/\Hot2 fd V (β-γ)
 mask:L.has S.t.dead fd=true->L.has S.mask fd=false->L.has V.mask fd=false
theorem Inv.pen_step {fd:Int} {S:Dv} {k m β:Nat} {E:List En} {W:List (Int×En)} (h:Inv fd S) (hO:S.Ok (8*Dv.fuel+k) m) (hH:Hot2 fd S β) (hr:β<S.rows) (hf:∀e∈E,FitR e) (hl0:E.length≠0) (hnd:(E.map (·.lpn)).Nodup) (hlg:∀e∈E,e.lpn<S.T.logical) (hnx:S.next<=1099511627775-1200) (hW:Hd S W):
  ∃(V:Dv) (n γ:Nat),S.pen E=(V,(n:Int),(0:Int))/\Pnd fd S E V n γ/\V.Ok k m/\Hd V (M8 W E n):=by
 have hβ:β<=1:=by cases hH<;>omega
 have hg:=hO.gd.ok.bd16;obtain⟨γ,Q,w1,w2,w3,w4,w5,w6,w7,w8,_⟩:=h.write_go (l:=E) β (159-β) S k (m:=m) (by rw[show 159-β+β+1=Dv.fuel from by unfold Dv.fuel;omega];exact hO) hH.hot hr hf hl0 (by omega);rw[show 159-β+β+1=Dv.fuel from by unfold Dv.fuel;omega]at w5;have hpen:S.pen E=(t6 Q E,(Q.fit E:Int),(0:Int)):=w5;have hok:=(Dv.pen_keep hO λe he=>(hf e he).len).1;rw[hpen]at hok;have hqo:=w4.opn w2.inv;have hms:=hqo.mask.pos (show 3<=Q.N.dies/\Q.N.dies<=6 by rw[w2.like.dies];exact hg.1);have hdQ:Q.N.dies=S.N.dies:=w2.like.dies;rw[hdQ]at hms;have hfit:min E.length (S.N.dies-2)<=Q.fit E/\Q.fit E<=E.length/\1<=Q.fit E/\Q.fit E<=7:=by
  have:=Dv.fit_le Q E;unfold Dv.fit at this ⊢;omega
 have hfr:=h.write_op (l:=E) Dv.fuel S k hO hf (by unfold Dv.fuel;omega) (by show 0<(S.pen E).2.1;rw[hpen];show(0:Int)<(Q.fit E:Int);omega);have hfr:FreshP S (S.pen E).1.op ((S.pen E).1.row-1):=hfr;rw[hpen]at hfr;obtain⟨l1,l2⟩:=w4.look w2.inv w3 hf (λe he=>by rw[w2.T];exact hlg e he) hnd;have hHd:=(hW.went h w2).wrote w2.inv w3 w4 hf (λe he=>by rw[w2.T];exact hlg e he) hnd;have hrows:=w4.rows w2.inv;have hrw:=w2.rows;have hnext:=w2.next;have ht:=w4.turn;have hmk:∀d:Nat,S.N.dead.getD d false=true->L.has Q.mask (d:Nat)=false:=λd hd=>by
  cases hh:L.has Q.mask (d:Nat)with
  | false=>rfl
  | true=>
   have h1:=ht.fail d hh;rw[w4.err,L.has_zero]at h1;unfold Nand.failB at h1;rw[Int.toNat_natCast,w2.dead,hd,Bool.true_or]at h1;cases h1
 have hlogW:(t6 Q E).T.logical=S.T.logical:=by
  have:=(Dv.pen_keep hO λe he=>(hf e he).len).2.2;rw[hpen]at this;exact this
 refine⟨t6 Q E,Q.fit E,γ,hpen,⟨w4.inv w2.inv w3,hfit.2.1,hfit.1,hfit.2.2.1,by omega,λj hj=>⟨_,l1 j hj,?_,hmk⟩,λi hi=>?_,hlogW,?_,?_,?_,?_,λa ha=>w2.plan a (ht.plan a ha),λi j=>?_,λb=>?_,λb hb=>⟨(w2.sb b hb).2.1,(w2.sb b hb).2.2⟩,w2.td,hfr,λβ2 hb2=>?_,λh1 h2=>w8 fd h1 h2⟩,hok,hHd⟩
 ·have:(t6 Q E).row-1=Q.row:=by show Q.row+1-1=Q.row;omega
  rw[this]at hfr;exact hfr
 ·rw[l2 i hi,w2.T]
 ·show S.next<=Q.next+(Q.fit E:Int)/\Q.next+(Q.fit E:Int)<=S.next+14;omega
 ·exact ht.dead.trans w2.dead
 ·exact ht.broken.trans w2.broken
 ·exact w2.like.trans ht.like
 ·have a1:=ht.flags i j;have a2:=w2.flags i j;exact⟨a1.1.trans a2.1,a1.2.1.trans a2.2.1⟩
 ·exact Inv.has_same hO.t w3.t w2.like b
 ·cases hb2 with
  | calm hno=>
   obtain⟨e1,e2⟩:=w6 hno;subst e2;exact⟨by omega, .calm ((hno.went w2).wrote w4)⟩
  | cold h1 h2=>
   have hq:=w8 fd h1 h2;have hγ:γ=0:=by
    obtain⟨γ2,Q2,z1,z2,z3,z4,z5,_⟩:=h.write_go (l:=E) 0 159 S k (m:=m) hO (.cold h1 h2) (by omega) hf hl0 (by omega);have z5:S.pen E=(t6 Q2 E,(Q2.fit E:Int),(0:Int)):=z5;rw[hpen]at z5;have:=congrArg (λx=>x.1) z5;have z6:t6 Q E=t6 Q2 E:=this;have z7:=z4.rows z2.inv;have z8:=z2.rows;rw[<- z6]at z7;omega
   subst hγ;exact⟨Nat.le_refl _, .cold (w2.td fd h1) hq⟩
  | once h1=>
   rcases Nat.eq_zero_or_pos γ with e | e
   ·subst e;exact⟨by omega, .once (w2.td fd h1)⟩
   ·refine⟨by omega,?_⟩;rw[show 1-γ=0 from by omega];exact .cold (w2.td fd h1) (w7 e h1)
theorem FreshP.mono {S:Dv} {b r r':Int} (h:FreshP S b r) (hr:r<=r'):FreshP S b r':=by
 rcases h with⟨h1,h2⟩ | h
 ·exact .inl ⟨h1,by omega⟩
 ·exact .inr h
theorem FreshP.back {S V:Dv} {b r:Int} (h:FreshP V b r) (hf:FreshP S V.op (V.row-1)) (hh:∀b,V.t.has b=S.t.has b) (hu:∀b,S.t.has b=true->(S.t.at_ b).used=true->(V.t.at_ b).used=true):FreshP S b r:=by
 rcases h with⟨h1,h2⟩ | ⟨h1,h2⟩
 ·rw[h1];exact hf.mono (by omega)
 ·rw[hh]at h1;right;refine⟨h1,?_⟩;cases hx:(S.t.at_ b).used with
  | false=>rfl
  | true=>rw[hu b h1 hx]at h2;cases h2
structure Crd (fd:Int) (S:Dv) (I:List Int) (V:Dv):Prop where
 inv:Inv fd V
 pos:∀i∈I,∃a,Tb.look V.T.at_ i=some a/\FreshP S a.block a.row/\∀d:Nat,S.N.dead.getD d false=true->L.has a.mask (d:Nat)=false
 rest:∀i,i∉I->Tb.look V.T.at_ i=Tb.look S.T.at_ i
 logical:V.T.logical=S.T.logical
 next:S.next<=V.next/\V.next<=S.next+14*(I.length:Int)
 dead:V.N.dead=S.N.dead
 broken:V.N.broken=S.N.broken
 like:S.N.Like V.N
 plan:∀a∈V.N.plan,a∈S.N.plan
 flags:∀i j,(V.N.blk i j).met=(S.N.blk i j).met/\(V.N.blk i j).fails=(S.N.blk i j).fails
 has:∀b,V.t.has b=S.t.has b
 sb:∀b,S.t.has b=true->(V.t.at_ b).held=(S.t.at_ b).held/\((S.t.at_ b).used=true->(V.t.at_ b).used=true)
 td:∀d:Int,L.has S.t.dead d=true->L.has V.t.dead d=true
 rowsle:V.rows<=S.rows
 back:∀b r,FreshP V b r->FreshP S b r
 fresh:I≠[]->FreshP S V.op (V.row-1)
theorem Crd.nil {fd:Int} {S:Dv} (h:Inv fd S):Crd fd S [] S:=
 ⟨h,λi hi=>(by cases hi),λ_ _=>rfl,rfl,by simp,rfl,rfl,Nand.Like.refl _,λ_ h=>h,λ_ _=>⟨rfl,rfl⟩,λ_=>rfl,λ_ _=>⟨rfl,λh=>h⟩,λ_ h=>h,Nat.le_refl _,λ_ _ h=>h,λh=>absurd rfl h⟩
namespace Inv
variable {fd : Int} {m : Nat}
theorem slots_pos {S:Dv} {k:Nat} (h:Inv fd S) (hO:S.Ok k m) (hr:0<S.rows):(S.N.dies:Int)-2<=S.slots/\1<=S.slots:=by
 have hg:=hO.gd.ok.bd16;unfold Dv.slots;rcases h.rows_pos hO hr with hl | hp
 ·rw[if_pos hl];have:=(h.opn hl).mask.pos hg.1;omega
 ·split
  ·rename_i hl;have:=(h.opn hl).mask.pos hg.1;omega
  ·rcases S.pick_spec with e | ⟨p1,p2,_,_⟩
   ·omega
   ·have:=(h.msk hO (Tl.has_iff.2 ⟨p1,p2⟩)).pos hg.1;omega
theorem carry_go:∀(f:Nat) (S:Dv) (I:List Int) (done:Int) (W:List (Int×En)) (β ρ k:Nat),Inv fd S->S.Ok (Dv.cost*f+k) m->I.length<=f->Hd S W->WOk W->(∀i∈I,(Tb.look W i).isSome=true)->I.Nodup->Hot2 fd S β->I.length<=(S.N.dies-2)*ρ->ρ+β<=S.rows->S.next+14*(f:Int)<=1099511627775-1300->
  ∃(V:Dv) (β':Nat),Dv.carryGo f S I done=(V,done+(I.length:Int),(0:Int))/\Crd fd S I V/\Hd V W/\Hot2 fd V β'/\β'<=β/\S.rows+β'<=V.rows+ρ+β/\V.Ok k m
 | 0,S,I,done,W,β,ρ,k,h,hO,hL,hH,hW,hin,hnd,hot,hlen,hrw,hnx=>by
  have:I=[]:=List.eq_nil_of_length_eq_zero (by omega);subst this;exact⟨S,β,by show(S,done,(0:Int))=_;simp,Crd.nil h,hH,hot,Nat.le_refl _,by omega,hO.less (by omega)⟩
 | f+1,S,I,done,W,β,ρ,k,h,hO,hL,hH,hW,hin,hnd,hot,hlen,hrw,hnx=>by
  by_cases hl0:I.length=0
  ·have:I=[]:=List.eq_nil_of_length_eq_zero hl0;subst this;exact⟨S,β,by rw[Dv.carryGo,if_pos (show([]:List Int).length=0 from rfl)];simp,Crd.nil h,hH,hot,Nat.le_refl _,by omega,hO.less (by omega)⟩
  ·have hg:=hO.gd.ok.bd16;have hρ:1<=ρ:=by
    rcases Nat.eq_zero_or_pos ρ with e | e
    ·subst e;omega
    ·exact e
   have hβr:β<S.rows:=by omega
   obtain⟨s1,s2⟩:=h.slots_pos hO (by omega);obtain⟨c,hc⟩:∃c,(max S.slots 1).toNat=c:=⟨_,rfl⟩;have hc2:S.N.dies-2<=c/\1<=c:=by omega
   obtain⟨E,e1,e2,e3,e4,e5⟩:=hH.rds hW (I.take c) λi hi=>hin i (List.mem_of_mem_take hi);have hEl:E.length=min c I.length:=by rw[e2,List.length_take]
   have hnd2:(E.map (·.lpn)).Nodup:=by rw[e3];exact hnd.sublist (List.take_sublist _ _)
   have hget:∀j,j<E.length->(E.getD j En.zero).lpn=I.getD j 0:=λj hj=>by
    have h1:(E.map (·.lpn))[j]? =(I.take c)[j]?:=by rw[e3]
    rw[List.getElem?_map,List.getElem?_take,if_pos (by omega),List.getElem?_eq_getElem hj]at h1;rw[List.getD_eq_getElem?_getD,List.getD_eq_getElem?_getD,List.getElem?_eq_getElem hj,<- h1];rfl
   have hlgE:∀e∈E,e.lpn<S.T.logical:=λe he=>by
    have:e.lpn∈I.take c:=by rw[<- e3];exact List.mem_map_of_mem he
    have h1:=hin _ (List.mem_of_mem_take this);obtain⟨w,hw⟩:=Option.isSome_iff_exists.1 h1;obtain⟨_,a,ha,_⟩:=hH.each _ _ hw;exact(hO.T.rng _ (Tb.look_mem ha)).2
   obtain⟨V,n,γ,p1,p2,p3,p4⟩:=h.pen_step (β:=β) (k:=Dv.cost*f+k) (by have:Dv.cost*(f+1)=Dv.cost*f+Dv.cost:=Nat.mul_succ _ _;exact hO.less (by unfold Dv.cost at this ⊢;omega)) hot hβr e4 (by omega) hnd2 hlgE (by omega) hH;have hn1:=p2.n1;have hn2:=p2.n2;have hn3:=p2.n3;have hdisj:∀i j,i<j->j<n->(E.getD i En.zero).lpn≠(E.getD j En.zero).lpn:=λi j hij hj e=>by
    rw[hget i (by omega),hget j (by omega)]at e;have g1:i<I.length:=by omega
    have g2:j<I.length:=by omega
    rw[List.getD_eq_getElem?_getD,List.getD_eq_getElem?_getD,List.getElem?_eq_getElem g1,List.getElem?_eq_getElem g2]at e;have h3:I[i]? =I[j]?:=by rw[List.getElem?_eq_getElem g1,List.getElem?_eq_getElem g2];simpa using e
    have:=(List.getElem?_inj g1 hnd).1 h3;omega
   have hHV:Hd V W:=p4.swap (λj hj=>e5 j (by rw[<- e2];omega)) hdisj;obtain⟨hγ,hot2⟩:=p2.hot β hot;have hdl:(I.drop n).length=I.length-n:=List.length_drop;have hmul:(S.N.dies-2)*ρ=(S.N.dies-2)*(ρ-1)+(S.N.dies-2):=by
    obtain⟨z,rfl⟩:∃z,ρ=z+1:=⟨ρ-1,by omega⟩;rw[Nat.mul_succ];rfl
   have hpr:=p2.rows;have hnxV:=p2.next;obtain⟨V2,β',r1,r2,r3,r4,r5,r6,r7⟩:=carry_go f V (I.drop n) (done+(n:Int)) W (β-γ) (ρ-1) k p2.inv p3 (by omega) hHV hW (λi hi=>hin i (List.mem_of_mem_drop hi)) (hnd.sublist (List.drop_sublist _ _)) hot2 (by rw[p2.like.dies];omega) (by omega) (by omega);have hnext2:=r2.next;have hback:∀b r,FreshP V b r->FreshP S b r:=λb r hb=>hb.back p2.fresh p2.has λb hb=>(p2.sb b hb).2;have hfr:FreshP S V2.op (V2.row-1):=by
    rcases r2.back V2.op V2.row (.inl ⟨rfl,Int.le_refl _⟩)with⟨x1,x2⟩ | ⟨x1,x2⟩
    ·rcases p2.fresh with⟨y1,y2⟩ | y
     ·exact .inl ⟨x1.trans y1,by omega⟩
     ·rw[x1];exact .inr y
    ·rw[p2.has]at x1;right;refine⟨x1,?_⟩;cases hx:(S.t.at_ V2.op).used with
     | false=>rfl
     | true=>rw[(p2.sb _ x1).2 hx]at x2;cases x2
   refine⟨V2,β',?_,⟨r2.inv,λi hi=>?_,λi hi=>?_,r2.logical.trans p2.logical,⟨by omega,by omega⟩,r2.dead.trans p2.dead,r2.broken.trans p2.broken,p2.like.trans r2.like,λa ha=>p2.plan a (r2.plan a ha),λi j=>?_,λb=>(r2.has b).trans (p2.has b),λb hb=>?_,λd hd=>r2.td d (p2.td d hd),by have:=r2.rowsle;omega,λb r hb=>hback b r (r2.back b r hb),λ_=>hfr⟩,r3,r4,by omega,by omega,r7⟩
   ·rw[Dv.carryGo,if_neg hl0,hc];dsimp only;rw[e1];dsimp only;rw[if_neg (by decide),p1];dsimp only;rw[if_neg (by decide),Int.toNat_natCast,r1,hdl];have:done+(n:Int)+((I.length-n:Nat):Int)=done+(I.length:Int):=by omega
    rw[this]
   ·by_cases hd:i∈I.drop n
    ·obtain⟨a,a1,a2,a3⟩:=r2.pos i hd;exact⟨a,a1,hback _ _ a2,λd hd=>a3 d (by rw[p2.dead];exact hd)⟩
    ·have hmem:i∈I.take n:=by
      rw[<- List.take_append_drop n I]at hi;rcases List.mem_append.1 hi with h1 | h1
      ·exact h1
      ·exact absurd h1 hd
     obtain⟨j,hj,hji⟩:=List.mem_iff_getElem.1 hmem;rw[List.length_take]at hj;have hjE:(E.getD j En.zero).lpn=i:=by
      rw[hget j (by omega),List.getD_eq_getElem?_getD,List.getElem?_eq_getElem (by omega),Option.getD_some,<- hji,List.getElem_take]
     obtain⟨a,a1,a2,a3⟩:=p2.pos j (by omega);rw[hjE]at a1;exact⟨a,by rw[r2.rest i hd];exact a1,a2,a3⟩
   ·have h1:i∉I.drop n:=λhd=>hi (List.mem_of_mem_drop hd);rw[r2.rest i h1];refine p2.rest i λj hj e=>hi ?_;rw[<- e,hget j (by omega),List.getD_eq_getElem?_getD,List.getElem?_eq_getElem (by omega)];exact List.getElem_mem _
   ·have a1:=r2.flags i j;have a2:=p2.flags i j;exact⟨a1.1.trans a2.1,a1.2.trans a2.2⟩
   ·have a1:=p2.sb b hb;have a2:=r2.sb b (by rw[p2.has];exact hb);exact⟨a2.1.trans a1.1,λhu=>a2.2 (a1.2 hu)⟩
end Inv
structure TlMore (fd:Int) (t t':Tl):Prop where
 has:∀b,t'.has b=t.has b
 d:t'.d=t.d
 used:∀b,t.has b=true->(t'.at_ b).used=(t.at_ b).used
 held:∀b,t.has b=true->(t'.at_ b).held=(t.at_ b).held
 tdead:L.set t'.dead=true/\∀d:Int,L.has t'.dead d=true->d=fd
 tbad:∀b,t.has b=true->L.set (t'.at_ b).bad=true/\∀d:Int,L.has (t'.at_ b).bad d=true->d=fd
 mask:∀b,t.has b=true->∀e:Int,L.has (t'.mask b) e=true->L.has (t.mask b) e=true
 td:∀e:Int,L.has t.dead e=true->L.has t'.dead e=true
theorem TlMore.refl {fd:Int} {t:Tl} (h1:L.set t.dead=true/\∀d:Int,L.has t.dead d=true->d=fd) (h2:∀b,t.has b=true->L.set (t.at_ b).bad=true/\∀d:Int,L.has (t.at_ b).bad d=true->d=fd):TlMore fd t t:=
 ⟨λ_=>rfl,rfl,λ_ _=>rfl,λ_ _=>rfl,h1,h2,λ_ _ _ h=>h,λ_ h=>h⟩
theorem TlMore.trans {fd:Int} {a b c:Tl} (h:TlMore fd a b) (g:TlMore fd b c):TlMore fd a c:=
 ⟨λx=>(g.has x).trans (h.has x),g.d.trans h.d,λx hx=>(g.used x (by rw[h.has];exact hx)).trans (h.used x hx),λx hx=>(g.held x (by rw[h.has];exact hx)).trans (h.held x hx),g.tdead,λx hx=>g.tbad x (by rw[h.has];exact hx),λx hx e he=>h.mask x hx e (g.mask x (by rw[h.has];exact hx) e he),λe he=>g.td e (h.td e he)⟩
theorem b2I {fd:Int} {t:Tl} (h8:t.d<=8) (h1:L.set t.dead=true/\∀d:Int,L.has t.dead d=true->d=fd) (h2:∀b,t.has b=true->L.set (t.at_ b).bad=true/\∀d:Int,L.has (t.at_ b).bad d=true->d=fd) {d:Nat} (hd:d<8) (hfd:(d:Int)=fd):TlMore fd t (t.die d)/\(d<t.d->∀b,t.has b=true->L.has ((t.die d).mask b) fd=false):=by
 unfold Tl.die;split
 ·have hw:=L.set_with h1.1 (d:=(d:Int)) (by omega);have hwh:=L.with_has h1.1 (d:=(d:Int)) (by omega);have hmk:∀b,t.has b=true->∀e:Int,L.has (Tl.mask ⟨t.d,t.b,t.p,t.l,L.with_ t.dead d⟩ b) e=((decide (0<=e)&&decide (e<t.d))&& !L.has (L.with_ t.dead (d:Int)) e&& !L.has (t.at_ b).bad e):=λb hb e=>(A6 (t:=⟨t.d,t.b,t.p,t.l,L.with_ t.dead d⟩) (b:=b) h8 hb hw (h2 b hb).1).2 e;refine⟨⟨λb=>rfl,rfl,λb hb=>rfl,λb hb=>rfl,⟨hw,λe he=>?_⟩,h2,λb hb e he=>?_,λe he=>?_⟩,λ_ b hb=>?_⟩
  ·have he:L.has (L.with_ t.dead (d:Int)) e=true:=he;rw[hwh]at he;rcases Bool.or_eq_true _ _▸he with he | he
   ·exact h1.2 e he
   ·simp only[decide_eq_true_eq]at he;omega
  ·rw[hmk b hb,hwh]at he;rw[(A6 h8 hb h1.1 (h2 b hb).1).2];simp only[Bool.and_eq_true,Bool.not_eq_true',Bool.or_eq_false_iff]at he ⊢;exact⟨⟨he.1.1,he.1.2.1⟩,he.2⟩
  ·show L.has (L.with_ t.dead (d:Int)) e=true;rw[hwh,he];rfl
  ·rw[hmk b hb,hwh,decide_eq_true hfd.symm];simp
 ·rename_i hh;refine⟨TlMore.refl h1 h2,λhlt=>?_⟩;simp only[Tl.hasDie,Bool.and_eq_true,decide_eq_true_eq]at hh;omega
theorem b2J {fd:Int} {t:Tl} (hl:t.l.length=t.b) (h8:t.d<=8) (h1:L.set t.dead=true/\∀d:Int,L.has t.dead d=true->d=fd) (h2:∀b,t.has b=true->L.set (t.at_ b).bad=true/\∀d:Int,L.has (t.at_ b).bad d=true->d=fd) {d:Nat} (hd:d<8) (hfd:(d:Int)=fd) (k:Int):TlMore fd t (t.bad d k)/\(d<t.d->t.has k=true->L.has ((t.bad d k).mask k) fd=false):=by
 unfold Tl.bad;split
 ·cases hop:t.has k with
  | false=>
   rw[Tl.set_no _ hop];exact⟨TlMore.refl h1 h2,λ_ h=>by cases h⟩
  | true=>
   have hb0:=h2 k hop;have hw:=L.set_with hb0.1 (d:=(d:Int)) (by omega);have hwh:=L.with_has hb0.1 (d:=(d:Int)) (by omega);have hat:∀b,t.has b=true->(t.set k {t.at_ k with bad:=L.with_ (t.at_ k).bad d}).at_ b=if b=k then {t.at_ k with bad:=L.with_ (t.at_ k).bad d}else t.at_ b:=λb hb=>Tl.at_set hl _ hop hb
   have hbad:∀b,t.has b=true->L.set ((t.set k {t.at_ k with bad:=L.with_ (t.at_ k).bad d}).at_ b).bad=true/\(∀e:Int,L.has ((t.set k {t.at_ k with bad:=L.with_ (t.at_ k).bad d}).at_ b).bad e=true->e=fd)/\(∀e:Int,L.has (t.at_ b).bad e=true->L.has ((t.set k {t.at_ k with bad:=L.with_ (t.at_ k).bad d}).at_ b).bad e=true):=λb hb=>by
    rw[hat b hb];split
    ·rename_i e;subst e;dsimp only;refine⟨hw,λe he=>?_,λe he=>?_⟩
     ·rw[hwh]at he;rcases Bool.or_eq_true _ _▸he with he | he
      ·exact hb0.2 e he
      ·simp only[decide_eq_true_eq]at he;omega
     ·rw[hwh,he];rfl
    ·exact⟨(h2 b hb).1,(h2 b hb).2,λe he=>he⟩
   have hmk:∀b,t.has b=true->∀e:Int,L.has ((t.set k {t.at_ k with bad:=L.with_ (t.at_ k).bad d}).mask b) e=((decide (0<=e)&&decide (e<t.d))&& !L.has t.dead e&& !L.has ((t.set k {t.at_ k with bad:=L.with_ (t.at_ k).bad d}).at_ b).bad e):=λb hb e=>by
    have:=(A6 (t:=t.set k {t.at_ k with bad:=L.with_ (t.at_ k).bad d}) (b:=b) (by rw[Tl.set_d];exact h8) (by rw[Tl.has_set];exact hb) (by rw[Tl.set_dead];exact h1.1) (hbad b hb).1).2 e
    rwa [Tl.set_d,Tl.set_dead]at this
   refine⟨⟨λb=>Tl.has_set _ _ _ _,Tl.set_d _ _ _,λb hb=>?_,λb hb=>?_,by rw[Tl.set_dead];exact h1,λb hb=>⟨(hbad b hb).1,(hbad b hb).2.1⟩,λb hb e he=>?_,λe he=>by rw[Tl.set_dead];exact he⟩,λ_ _=>?_⟩
   ·rw[hat b hb];split
    ·rename_i e;rw[e]
    ·rfl
   ·rw[hat b hb];split
    ·rename_i e;rw[e]
    ·rfl
   ·rw[hmk b hb]at he;rw[(A6 h8 hb h1.1 (h2 b hb).1).2];simp only[Bool.and_eq_true,Bool.not_eq_true']at he ⊢;refine⟨he.1,?_⟩;cases hx:L.has (t.at_ b).bad e with
    | false=>rfl
    | true=>rw[(hbad b hb).2.2 e hx]at he;exact absurd he.2 (by decide)
   ·rw[hmk k hop,hat k hop,if_pos rfl,hwh,decide_eq_true hfd.symm];simp
 ·rename_i hh;refine⟨TlMore.refl h1 h2,λhlt=>?_⟩;simp only[Tl.hasDie,Bool.and_eq_true,decide_eq_true_eq]at hh;omega
namespace Inv
variable {fd : Int} {S : Dv} {k m : Nat}
def Empty (S:Dv) (b:Int):Prop:=∀i a,Tb.look S.T.at_ i=some a->a.block≠b
structure ErN (fd:Int) (N N':Nand) (b:Int):Prop where
 lit:N'.Lit
 like:N.Like N'
 dead:N'.dead=N.dead
 broken:N'.broken=N.broken
 plan:∀a∈N'.plan,a∈N.plan
 rest:∀i j,j≠b.toNat->N'.blk i j=N.blk i j
 flags:∀i j:Nat,(i:Int)≠fd->(N'.blk i j).met=(N.blk i j).met/\(N'.blk i j).fails=(N.blk i j).fails
 nof:(∀i j,(N.blk i j).fails=false)->∀i j,(N'.blk i j).met=(N.blk i j).met/\(N'.blk i j).fails=false
theorem ErN.refl (fd:Int) {N:Nand} (h:N.Lit) (b:Int):ErN fd N N b:=⟨h,Nand.Like.refl _,rfl,rfl,λ_ h=>h,λ_ _ _=>rfl,λ_ _ _=>⟨rfl,rfl⟩,λh i j=>⟨rfl,h i j⟩⟩
theorem ErN.trans {fd:Int} {A B C:Nand} {b:Int} (h:ErN fd A B b) (g:ErN fd B C b):ErN fd A C b:=
 ⟨g.lit,h.like.trans g.like,g.dead.trans h.dead,g.broken.trans h.broken,λa ha=>h.plan a (g.plan a ha),λi j hj=>(g.rest i j hj).trans (h.rest i j hj),λi j hi=>⟨(g.flags i j hi).1.trans (h.flags i j hi).1,(g.flags i j hi).2.trans (h.flags i j hi).2⟩,λhf i j=>⟨(g.nof (λi j=>(h.nof hf i j).2) i j).1.trans (h.nof hf i j).1,(g.nof (λi j=>(h.nof hf i j).2) i j).2⟩⟩
theorem er_one {N:Nand} (hl:N.Lit) {d:Nat} {b:Int} (hd:d<N.dies) (hb:0<=b/\b<N.blocks) (hp:0<N.pages) (hfl:(d:Int)≠fd->N.dead.getD d false=false/\(N.blk d b.toNat).fails=false):
  ErN fd N (N.eraseN d b) b/\(N.eraseE d b=0\/(N.eraseE d b=8\/N.eraseE d b=7)/\(d:Int)=fd)/\(N.eraseE d b=0->((N.eraseN d b).blk d b.toNat).cells=[])/\(∀i:Nat,i≠d->(N.eraseN d b).blk i b.toNat=N.blk i b.toNat)/\((N.dead.getD d false=false/\(N.blk d b.toNat).fails=false)->N.eraseE d b=0/\((N.eraseN d b).blk d b.toNat).worn=(N.blk d b.toNat).worn+1/\(N.eraseN d b).ops=N.ops+1):=by
 have hr:N.refuses d b 0=if N.dead.getD d false then 8 else 0:=by
  have:=hl.refuses (x:=(d:Int)) (y:=b) (z:=0) (by omega) hb (by omega)
  rwa [Int.toNat_natCast]at this
 cases hdd:N.dead.getD d false with
 | true=>
  rw[hdd,if_pos rfl]at hr;have e1:N.eraseE d b=8:=by unfold Nand.eraseE;rw[hr];rfl
  have e2:N.eraseN d b=N:=by unfold Nand.eraseN;dsimp only;rw[if_pos (by rw[hr];decide)]
  have hfd:(d:Int)=fd:=by
   by_cases e:(d:Int)=fd
   ·exact e
   ·have:=(hfl e).1;rw[hdd]at this;cases this
  rw[e1,e2];exact⟨ErN.refl fd hl b, .inr ⟨.inl rfl,hfd⟩,λh=>(by cases h),λ_ _=>rfl,λh=>(by cases h.1)⟩
 | false=>
  rw[hdd,if_neg Bool.false_ne_true]at hr;have hcb:=hl.cutB;cases hf:(N.blk d b.toNat).fails with
  | true=>
   have e1:N.eraseE d b=7:=by unfold Nand.eraseE;rw[hr,hcb,Int.toNat_natCast,hf];rfl
   have hfd:(d:Int)=fd:=by
    by_cases e:(d:Int)=fd
    ·exact e
    ·have:=(hfl e).2;rw[hf]at this;cases this
   have e2:N.eraseN d b=N.cutN.setBlk d b.toNat {N.blk d b.toNat with met:=true}:=by
    unfold Nand.eraseN;dsimp only;rw[if_neg (by rw[hr];decide),if_neg (by rw[hcb];decide),Int.toNat_natCast,if_pos hf]
   have hb:∀i j,(N.eraseN d b).blk i j=if i=d/\j=b.toNat then {N.blk d b.toNat with met:=true}else N.blk i j:=λi j=>by rw[e2];rfl
   refine⟨⟨hl.erase _ _,Nand.like_erase _ _ _,by rw[e2];rfl,by rw[e2];rfl,λa ha=>by rw[e2]at ha;exact ha,λi j hj=>by rw[hb,if_neg (by omega)],λi j hi=>?_,λhall=>(by have:=hall d b.toNat;rw[hf]at this;cases this)⟩, .inr ⟨.inr e1,hfd⟩,λh=>(by rw[e1]at h;cases h),λi hi=>by rw[hb,if_neg (by omega)],λh=>(by cases h.2)⟩;rw[hb,if_neg (by omega)];exact⟨rfl,rfl⟩
  | false=>
   have e1:N.eraseE d b=0:=by unfold Nand.eraseE;rw[hr,hcb,Int.toNat_natCast,hf];rfl
   have e2:N.eraseN d b={N.cutN.setBlk d b.toNat {N.blk d b.toNat with cells:=[],worn:=(N.blk d b.toNat).worn+1}with plan:=N.plan.filter λa=>!(decide (a.1=(d:Int))&&decide (a.2.1=b))}:=by
    unfold Nand.eraseN;dsimp only;rw[if_neg (by rw[hr];decide),if_neg (by rw[hcb];decide),Int.toNat_natCast,if_neg (by rw[hf];decide)]
   have hb:∀i j,(N.eraseN d b).blk i j=if i=d/\j=b.toNat then {N.blk d b.toNat with cells:=[],worn:=(N.blk d b.toNat).worn+1}else N.blk i j:=λi j=>by rw[e2];rfl
   refine⟨⟨hl.erase _ _,Nand.like_erase _ _ _,by rw[e2];rfl,by rw[e2];rfl,λa ha=>by rw[e2]at ha;exact(List.mem_filter.1 ha).1,λi j hj=>by rw[hb,if_neg (by omega)],λi j hi=>?_,λhall i j=>?_⟩, .inl e1,λ_=>by rw[hb,if_pos ⟨rfl,rfl⟩],λi hi=>by rw[hb,if_neg (by omega)],λ_=>⟨e1,by rw[hb,if_pos ⟨rfl,rfl⟩],by rw[e2];rfl⟩⟩
   ·rw[hb];split
    ·rename_i e;rw[e.1,e.2];exact⟨rfl,rfl⟩
    ·exact⟨rfl,rfl⟩
   ·rw[hb];split
    ·rename_i e;rw[e.1,e.2];exact⟨rfl,hall d b.toNat⟩
    ·exact⟨rfl,hall i j⟩
theorem put_er (h:Inv fd S) (hF:S.t.Fit S.N) {N':Nand} {t':Tl} {b:Int} (hE:ErN fd S.N N' b) (hT:TlMore fd S.t t') (hb:S.t.has b=true) (hne:b≠S.op) (hemp:Empty S b) (hu:(S.t.at_ b).used=true):Inv fd {S with N:=N',t:=t'}/\∀i a,Std fd S i a->a.block≠b->Std fd {S with N:=N',t:=t'} i a/\R.read N' a.block a.row a.slot a.mask=R.read S.N a.block a.row a.slot a.mask:=by
 have hst:∀i a,Std fd S i a->a.block≠b->Std fd {S with N:=N',t:=t'} i a/\R.read N' a.block a.row a.slot a.mask=R.read S.N a.block a.row a.slot a.mask:=λi a ha hab=>by
  obtain⟨lr,g1,g2,g3,g4,g5,g6⟩:=ha.row;have hblk:=g1.is.blk;have hbr:=(Tl.has_iff.1 hb).1;have hk:Full fd N' a.block a.row a.mask lr:=g1.keep hE.like λx hx=>by
   unfold Nand.pageAt;rw[hE.rest _ _ (by omega)]
  have hhas:S.t.has a.block=true:=Tl.has_iff.2 (by have:=hF.b;omega);refine⟨⟨⟨lr,hk,g2,g3,g4,g5,g6⟩,by show(t'.at_ a.block).used=true;rw[hT.used _ hhas];exact ha.used,ha.below,ha.seq⟩,?_⟩;have r1:=hk.read hE.lit.off (λi hi=>by rw[hE.dead];exact h.dead i hi) g3;have r2:=g1.read h.lit.off h.dead g3;rw[show((a.slot.toNat:Nat):Int)=a.slot from by omega]at r1 r2;rw[r1,r2]
 refine⟨⟨hE.lit,λi hi=>by show N'.dead.getD i false=false;rw[hE.dead];exact h.dead i hi,λa ha=>h.plan a (hE.plan a ha),λi j hi=>by have:=hE.flags i j hi;show(N'.blk i j).met=false/\(N'.blk i j).fails=false;rw[this.1,this.2];exact h.flags i j hi,hT.tdead,λx hx=>hT.tbad x (by rw[<- hT.has];exact hx),?_,λx hx hxu d hd=>?_,λi a ha=>(hst i a (h.st i a ha) (hemp i a ha)).1⟩,λi a ha hab=>hst i a ha hab⟩
 ·rcases h.op with e | e
  ·exact .inl e
  ·right;have hhas:S.t.has S.op=true:=Tl.has_iff.2 (by have:=e.blk;have:=hF.b;omega);refine⟨by show 0<=S.op/\S.op<N'.blocks;rw[hE.like.blocks];exact e.blk,by show(t'.at_ S.op).used=true;rw[hT.used _ hhas];exact e.used,by show 0<=S.row/\S.row<=N'.pages;rw[hE.like.pages];exact e.row,by show Msk N'.dies fd S.mask;rw[hE.like.dies];exact e.mask,λd hd=>?_⟩;show((N'.blk d S.op.toNat).cells.length:Int)<=S.row/\(N'.dead.getD d false=false->((N'.blk d S.op.toNat).cells.length:Int)=S.row);have hbr:=(Tl.has_iff.1 hb).1;rw[hE.rest _ _ (by have:=e.blk;omega),hE.dead];exact e.cells d hd
 ·have hx':S.t.has x=true:=by rw[<- hT.has];exact hx
  have hxu':(S.t.at_ x).used=false:=by rw[<- hT.used x hx'];exact hxu
  have hxb:x≠b:=λe=>by rw[e,hu]at hxu';cases hxu'
  show(N'.blk d x.toNat).cells=[];rw[hE.rest _ _ (by have:=(Tl.has_iff.1 hb).1;have:=(Tl.has_iff.1 hx').1;omega)];exact h.blank x hx' hxu' d (hT.mask x hx' _ hd)
end Inv
def a9a (N:Nand):Prop:=(∀i:Nat,N.dead.getD i false=false)/\∀i j:Nat,(N.blk i j).fails=false
def a4B (m:Int) (q:List Nat):Nat:=(q.filter λd=>L.has m (d:Nat)).length
theorem b0c {fd:Int} {t:Tl} (hl:t.l.length=t.b) (h8:t.d<=8) (h1:L.set t.dead=true/\∀d:Int,L.has t.dead d=true->d=fd) (h2:∀b,t.has b=true->L.set (t.at_ b).bad=true/\∀d:Int,L.has (t.at_ b).bad d=true->d=fd) (k:Int) (s:Sb) (hs:t.has k=true->s.bad=(t.at_ k).bad/\s.used=(t.at_ k).used/\s.held=(t.at_ k).held):TlMore fd t (t.set k s):=by
 cases hop:t.has k with
 | false=>rw[Tl.set_no _ hop];exact TlMore.refl h1 h2
 | true=>
  obtain⟨s1,s2,s3⟩:=hs hop;have hat:∀b,t.has b=true->((t.set k s).at_ b).bad=(t.at_ b).bad/\((t.set k s).at_ b).used=(t.at_ b).used/\((t.set k s).at_ b).held=(t.at_ b).held:=λb hb=>by
   rw[Tl.at_set hl _ hop hb];split
   ·rename_i e;rw[e];exact⟨s1,s2,s3⟩
   ·exact⟨rfl,rfl,rfl⟩
  have hb2:∀b,t.has b=true->L.set ((t.set k s).at_ b).bad=true/\∀d:Int,L.has ((t.set k s).at_ b).bad d=true->d=fd:=λb hb=>by rw[(hat b hb).1];exact h2 b hb
  refine⟨λb=>Tl.has_set _ _ _ _,Tl.set_d _ _ _,λb hb=>(hat b hb).2.1,λb hb=>(hat b hb).2.2,by rw[Tl.set_dead];exact h1,hb2,λb hb e he=>?_,λe he=>by rw[Tl.set_dead];exact he⟩;have hm:=(A6 (t:=t.set k s) (b:=b) (by rw[Tl.set_d];exact h8) (by rw[Tl.has_set];exact hb) (by rw[Tl.set_dead];exact h1.1) (hb2 b hb).1).2 e;rw[hm,Tl.set_d,Tl.set_dead,(hat b hb).1]at he;rw[(A6 h8 hb h1.1 (h2 b hb).1).2];exact he
namespace Inv
variable {fd : Int} {S : Dv} {k m : Nat}
structure Er (fd:Int) (S:Dv) (b:Int):Prop where
 inv:Inv fd S
 fit:S.t.Fit S.N
 has:S.t.has b=true
 ne:b≠S.op
 emp:Empty S b
 used:(S.t.at_ b).used=true
 six:3<=S.N.dies/\S.N.dies<=6
 pages:0<S.N.pages
structure Erd (fd:Int) (S:Dv) (b mk:Int) (q:List Nat) (N':Nand) (t':Tl):Prop where
 er:ErN fd S.N N' b
 more:TlMore fd S.t t'
 fit:t'.Fit S.N
 done:∀d∈q,L.has mk (d:Nat)=true->(N'.blk d b.toNat).cells=[]\/L.has (t'.mask b) (d:Nat)=false
 rest:∀i:Nat,i∉q->N'.blk i b.toNat=S.N.blk i b.toNat
 exact_:a9a S.N->t'=S.t/\a9a N'/\N'.ops=S.N.ops+(a4B mk q:Int)/\∀d∈q,L.has mk (d:Nat)=true->(N'.blk d b.toNat).worn=(S.N.blk d b.toNat).worn+1
theorem Er.put {b:Int} (h:Er fd S b) {N':Nand} {t':Tl} (hE:ErN fd S.N N' b) (hT:TlMore fd S.t t') (hF:t'.Fit S.N):Er fd {S with N:=N',t:=t'} b/\∀i a,Std fd S i a->a.block≠b->Std fd {S with N:=N',t:=t'} i a/\R.read N' a.block a.row a.slot a.mask=R.read S.N a.block a.row a.slot a.mask:=by
 have hp:=h.inv.put_er h.fit hE hT h.has h.ne h.emp h.used;refine⟨⟨hp.1,hF.like hE.like,by show t'.has b=true;rw[hT.has];exact h.has,h.ne,h.emp,by show(t'.at_ b).used=true;rw[hT.used b h.has];exact h.used,by show 3<=N'.dies/\N'.dies<=6;rw[hE.like.dies];exact h.six,by show 0<N'.pages;rw[hE.like.pages];exact h.pages⟩,hp.2⟩
theorem eraseD_spec {b mk:Int} (h:Er fd S b) {d:Nat} (hd:d<S.N.dies):∃N' t',Dv.eraseD b mk (S.N,S.t,0) d=(N',t',0)/\Erd fd S b mk [d] N' t':=by
 have hsix:=h.six;have hblk:0<=b/\b<S.N.blocks:=by have:=Tl.has_iff.1 h.has;have:=h.fit.b;omega
 have h8:S.t.d<=8:=by have:=h.fit.d;omega
 have hdt:d<S.t.d:=by have:=h.fit.d;omega
 unfold Dv.eraseD;rw[if_neg (by simp)];cases hh:L.has mk (d:Nat)with
 | false=>
  rw[if_pos rfl];refine⟨S.N,S.t,rfl,ErN.refl fd h.inv.lit b,TlMore.refl h.inv.tdead h.inv.tbad,h.fit,λe he hm=>?_,λ_ _=>rfl,λhn=>⟨rfl,hn,?_,λe he hm=>?_⟩⟩
  ·rw[List.mem_singleton.1 he,hh]at hm;cases hm
  ·show _=S.N.ops+(([d].filter λd=>L.has mk (d:Nat)).length:Int);rw[List.filter_cons,hh];simp
  ·rw[List.mem_singleton.1 he,hh]at hm;cases hm
 | true=>
  rw[if_neg (by decide)];dsimp only;obtain⟨e1,e2,e3,e4,e5⟩:=er_one (fd:=fd) h.inv.lit hd hblk h.pages (λhne=>⟨h.inv.dead d hne,(h.inv.flags d b.toNat hne).2⟩);have hcnt:(a4B mk [d]:Int)=1:=by unfold a4B;rw[List.filter_cons,hh];rfl
  rcases e2 with e2 | ⟨e2,hfd⟩
  ·refine⟨S.N.eraseN d b,S.t,?_,e1,TlMore.refl h.inv.tdead h.inv.tbad,h.fit,λe he _=> .inl (by rw[List.mem_singleton.1 he];exact e3 e2),λi hi=>e4 i (λe=>hi (by rw[e];exact List.mem_singleton.2 rfl)),λhn=>?_⟩
   ·rw[if_pos e2,if_neg (by rw[e2];decide)]
   ·obtain⟨x1,x2,x3⟩:=e5 ⟨hn.1 d,hn.2 d b.toNat⟩;refine⟨rfl,⟨λi=>by rw[e1.dead];exact hn.1 i,λi j=>(e1.nof hn.2 i j).2⟩,by rw[x3,hcnt],λe he _=>by rw[List.mem_singleton.1 he];exact x2⟩
  ·have hnn:¬a9a S.N:=λhn=>by
    have:=(e5 ⟨hn.1 d,hn.2 d b.toNat⟩).1;omega
   rcases e2 with e2 | e2
   ·obtain⟨m1,m2⟩:=b2I h8 h.inv.tdead h.inv.tbad (d:=d) (by omega) hfd;refine⟨S.N.eraseN d b,S.t.die d,?_,e1,m1,h.fit.die d,λe he _=> .inr (by rw[List.mem_singleton.1 he];have:=m2 hdt b h.has;rwa [<- hfd]at this),λi hi=>e4 i (λe=>hi (by rw[e];exact List.mem_singleton.2 rfl)),λhn=>absurd hn hnn⟩;rw[if_neg (by omega),if_neg (by omega),if_pos e2,if_neg (by omega)]
   ·obtain⟨m1,m2⟩:=b2J h.fit.len h8 h.inv.tdead h.inv.tbad (d:=d) (by omega) hfd b;refine⟨S.N.eraseN d b,S.t.bad d b,?_,e1,m1,h.fit.bad d b,λe he _=> .inr (by rw[List.mem_singleton.1 he];have:=m2 hdt h.has;rwa [<- hfd]at this),λi hi=>e4 i (λe=>hi (by rw[e];exact List.mem_singleton.2 rfl)),λhn=>absurd hn hnn⟩;rw[if_neg (by omega),if_neg (by omega),if_neg (by omega),if_neg (by omega)]
theorem eraseQ_spec {b mk:Int}:∀(q:List Nat) (S:Dv),Er fd S b->(∀d∈q,d<S.N.dies)->q.Nodup->∃N' t',q.foldl (Dv.eraseD b mk) (S.N,S.t,0)=(N',t',0)/\Erd fd S b mk q N' t'
 | [],S,h,_,_=>⟨S.N,S.t,rfl,ErN.refl fd h.inv.lit b,TlMore.refl h.inv.tdead h.inv.tbad,h.fit,λd hd=>(by cases hd),λ_ _=>rfl,λhn=>⟨rfl,hn,by simp[a4B],λd hd=>(by cases hd)⟩⟩
 | d::q,S,h,hq,hnd=>by
  obtain⟨N1,t1,f1,g1⟩:=eraseD_spec (mk:=mk) h (hq d (by simp));obtain⟨p1,_⟩:=h.put g1.er g1.more g1.fit;have hnd2:=List.nodup_cons.1 hnd;obtain⟨N2,t2,f2,g2⟩:=eraseQ_spec (mk:=mk) q _ p1 (λe he=>by show e<N1.dies;rw[g1.er.like.dies];exact hq e (by simp[he])) hnd2.2;have e2:ErN fd N1 N2 b:=g2.er;have m2:TlMore fd t1 t2:=g2.more;have hF2:t2.Fit S.N:=⟨g2.fit.d.trans g1.er.like.dies,g2.fit.b.trans g1.er.like.blocks,g2.fit.p.trans g1.er.like.pages,g2.fit.len⟩;refine⟨N2,t2,by rw[List.foldl_cons,f1];exact f2,g1.er.trans e2,g1.more.trans m2,hF2,λe he hm=>?_,λi hi=>?_,λhn=>?_⟩
  ·rcases List.mem_cons.1 he with rfl | he
   ·rcases g1.done e (List.mem_singleton.2 rfl) hm with hc | hc
    ·left;have:N2.blk e b.toNat=N1.blk e b.toNat:=g2.rest e hnd2.1;rw[this];exact hc
    ·right;cases hx:L.has (t2.mask b) (e:Nat)with
     | false=>rfl
     | true=>
      have:=m2.mask b (by rw[g1.more.has];exact h.has) _ hx;rw[hc]at this;cases this
   ·exact g2.done e he hm
  ·have h1:N2.blk i b.toNat=N1.blk i b.toNat:=g2.rest i (λe=>hi (by simp[e]));have h2:=g1.rest i (λe=>hi (by rw[List.mem_singleton.1 e];simp));rw[h1,h2]
  ·obtain⟨x1,x2,x3,x4⟩:=g1.exact_ hn;obtain⟨y1,y2,y3,y4⟩:=g2.exact_ x2;have y3:N2.ops=N1.ops+(a4B mk q:Int):=y3;refine⟨y1.trans x1,y2,?_,λe he hm=>?_⟩
   ·have:a4B mk (d::q)=a4B mk [d]+a4B mk q:=by
     unfold a4B;rw[<- List.length_append,<- List.filter_append];rfl
    rw[y3,x3,this];omega
   ·rcases List.mem_cons.1 he with rfl | he
    ·have:N2.blk e b.toNat=N1.blk e b.toNat:=g2.rest e hnd2.1;rw[this];exact x4 e (List.mem_singleton.2 rfl) hm
    ·have hne:e≠d:=λe2=>hnd2.1 (by rw[<- e2];exact he);have:=y4 e he hm;have h3:N1.blk e b.toNat=S.N.blk e b.toNat:=g1.rest e (λe2=>hne (List.mem_singleton.1 e2));have this:(N2.blk e b.toNat).worn=(N1.blk e b.toNat).worn+1:=this;rw[this,h3]
end Inv
end Go.Proofs.YtpohajhbfllbbaaGreat
