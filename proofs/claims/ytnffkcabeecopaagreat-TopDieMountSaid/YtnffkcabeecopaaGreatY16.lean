/- Helpers. No condition. -/
import Derived.Test.YtnffkcabeecopaaGreatY04
import Derived.Test.YtnffkcabeecopaaGreatY05
import Derived.Test.YtnffkcabeecopaaGreatY11
import Derived.Test.YtnffkcabeecopaaGreatY14
import Derived.Test.YtnffkcabeecopaaGreatY15
set_option maxRecDepth 20000
set_option linter.all false
namespace Go.Proofs.YtnffkcabeecopaaGreat
open Go Go.RowKit
theorem Tl.set_dead2 (t:Tl) (k:Int) (s:Sb):(t.set k s).dead=t.dead/\(t.set k s).d=t.d/\(t.set k s).b=t.b:=by unfold Tl.set;split<;>exact⟨rfl,rfl,rfl⟩
theorem a5O {N:Nand} {t:Tl} (hd:t.d=N.dies) (h6:N.dies<=6) (hs:L.set t.dead=true):L.set (Dv.seeDead N t).dead=true/\(∀e:Int,L.has (Dv.seeDead N t).dead e=(L.has t.dead e||N.deadAt e))/\(Dv.seeDead N t).l=t.l/\(Dv.seeDead N t).b=t.b/\(Dv.seeDead N t).d=t.d:=by
 have key:∀n,n<=t.d->∀u,u=(List.range n).foldl (λ(t:Tl) (d:Nat)=>if N.deadAt d then t.die d else t) t->L.set u.dead=true/\(∀e:Int,L.has u.dead e=(L.has t.dead e||(decide (e<n)&&N.deadAt e)))/\u.l=t.l/\u.b=t.b/\u.d=t.d:=by
  intro n
  induction n with
  | zero=>
   intro _ u hu;subst hu;refine⟨hs,λe=>?_,rfl,rfl,rfl⟩;have:(decide (e<((0:Nat):Int))&&N.deadAt e)=false:=by
    cases h:N.deadAt e with
    | false=>simp
    | true=>
     unfold Nand.deadAt at h;simp only[Bool.and_eq_true,decide_eq_true_eq]at h;rw[decide_eq_false (by omega),Bool.false_and]
   rw[this,Bool.or_false]
  | succ n ih=>
   intro hn u hu;rw[List.range_succ,List.foldl_append]at hu;obtain⟨v,hv⟩:∃v,v=(List.range n).foldl (λ(t:Tl) (d:Nat)=>if N.deadAt d then t.die d else t) t:=⟨_,rfl⟩;rw[<- hv]at hu;obtain⟨a1,a2,a3,a4,a5⟩:=ih (by omega) v hv;have hu:u=if N.deadAt n then v.die n else v:=hu
   cases hdd:N.deadAt n with
   | false=>
    rw[hdd,if_neg Bool.false_ne_true]at hu;rw[hu];refine⟨a1,λe=>?_,a3,a4,a5⟩;rw[a2]
    by_cases he:e=(n:Int)
    ·rw[he,hdd];simp
    ·have:decide (e<((n+1:Nat):Int))=decide (e<(n:Int)):=by
      by_cases h:e<(n:Int)
      ·rw[decide_eq_true h,decide_eq_true (by omega)]
      ·rw[decide_eq_false h,decide_eq_false (by omega)]
     rw[this]
   | true=>
    rw[hdd,if_pos rfl]at hu;have hdie:v.die n=⟨v.d,v.b,v.p,v.l,L.with_ v.dead n⟩:=by
     unfold Tl.die;rw[if_pos];unfold Tl.hasDie;rw[decide_eq_true (by omega),decide_eq_true (by omega)];rfl
    rw[hdie]at hu;rw[hu];refine⟨L.set_with a1 (by omega),λe=>?_,a3,a4,a5⟩;show L.has (L.with_ v.dead n) e=_;rw[L.with_has a1 (by omega),a2]
    by_cases he:e=(n:Int)
    ·rw[he,hdd,decide_eq_true (show(n:Int)<((n+1:Nat):Int)by omega)];simp
    ·have:decide (e<((n+1:Nat):Int))=decide (e<(n:Int)):=by
      by_cases h:e<(n:Int)
      ·rw[decide_eq_true h,decide_eq_true (by omega)]
      ·rw[decide_eq_false h,decide_eq_false (by omega)]
     rw[this,decide_eq_false he,Bool.or_false]
 obtain⟨b1,b2,b3,b4,b5⟩:=key t.d (Nat.le_refl _) _ rfl;refine⟨b1,λe=>?_,b3,b4,b5⟩;show L.has ((List.range t.d).foldl (λ(t:Tl) (d:Nat)=>if N.deadAt d then t.die d else t) t).dead e=_;rw[b2];cases h:N.deadAt e with
 | false=>simp
 | true=>
  unfold Nand.deadAt at h;simp only[Bool.and_eq_true,decide_eq_true_eq]at h;rw[decide_eq_true (by omega)];rfl
def a1N (dd:Int) (N:Nand) (b k:Nat):Bool:=(List.range k).any λd=>!L.has dd (d:Nat)&&decide ((N.blk d b).cells≠[])
theorem a8c (dd:Int) (N:Nand) (b k:Nat):a1N dd N b (k+1)=(a1N dd N b k||(!L.has dd (k:Nat)&&decide ((N.blk k b).cells≠[]))):=by
 unfold a1N;rw[List.range_succ,List.any_append];simp
namespace Tl
variable {N : Nand} {t : Tl}
theorem ofD_spec (hF:t.Fit N) (h6:N.dies<=6) (hs:L.set t.dead=true) {b d:Nat} (hb:b<N.blocks) (hbad:(t.at_ b).bad=0) (hd:d<N.dies):
  (ofD N b t d).dead=t.dead/\(ofD N b t d).Fit N/\(∀x:Nat,x<N.blocks->x≠b->(ofD N b t d).at_ x=t.at_ x)/\((ofD N b t d).at_ b).bad=0/\((ofD N b t d).at_ b).held=(t.at_ b).held/\((ofD N b t d).at_ b).used=((t.at_ b).used||(!L.has t.dead (d:Nat)&&decide ((N.blk d b).cells≠[]))):=by
 have hh:∀x:Nat,x<N.blocks->t.has (x:Int)=true:=λx hx=>Tl.has_iff.2 (by have:=hF.b;omega);obtain⟨u,hu⟩:∃u,t.wore b (N.wornAt d b)=u:=⟨_,rfl⟩;have hud:u.dead=t.dead/\u.d=t.d/\u.b=t.b:=by rw[<- hu];exact Tl.set_dead2 _ _ _
 have huF:u.Fit N:=by rw[<- hu];exact hF.wore _ _
 have huh:∀x:Nat,x<N.blocks->u.has (x:Int)=true:=λx hx=>Tl.has_iff.2 (by have:=huF.b;omega);have hua:∀x:Nat,x<N.blocks->u.at_ x=if(x:Int)=(b:Int)then {t.at_ b with wear:=if N.wornAt d b>(t.at_ b).wear then N.wornAt d b else(t.at_ b).wear}else t.at_ x:=λx hx=>by
  rw[<- hu];exact Tl.at_set (by rw[hF.len]) _ (hh b hb) (hh x hx)
 have hub:=hua b hb;rw[if_pos rfl]at hub;have hmk:L.has (u.mask b) (d:Nat)= !L.has t.dead (d:Nat):=by
  have h1:=(A7 (t:=u) (b:=b) (by have:=huF.d;omega) (huh b hb) (by rw[hud.1];exact hs) (by rw[hub];show L.set (t.at_ b).bad=true;rw[hbad];decide)).2 (d:Nat);rw[h1,hud.1,hub];show(((decide ((0:Int)<=(d:Nat))&&decide (((d:Nat):Int)<u.d))&& !L.has t.dead (d:Nat))&& !L.has (t.at_ b).bad (d:Nat))=_;rw[hbad,L.has_zero,decide_eq_true (by omega),decide_eq_true (by have:=huF.d;omega)];simp
 have hnx:decide ((N.next d b:Int)>0)=decide ((N.blk d b).cells≠[]):=by
  unfold Nand.next;rw[if_pos ⟨by omega,by omega,by omega,by omega⟩,Int.toNat_natCast,Int.toNat_natCast];cases(N.blk d b).cells with
  | nil=>rfl
  | cons c l=>rw[decide_eq_true (by rw[List.length_cons];omega),decide_eq_true (by simp)]
 have hof:ofD N b t d=if(!L.has t.dead (d:Nat)&&decide ((N.blk d b).cells≠[]))then u.clean b false else u:=by
  unfold ofD;rw[hu];dsimp only;rw[hmk,hnx]
 rw[hof];split
 ·rename_i hc;rw[hc];have hca:∀x:Nat,x<N.blocks->(u.clean b false).at_ x=if(x:Int)=(b:Int)then {u.at_ b with used:=!false}else u.at_ x:=λx hx=>Tl.at_set (by rw[huF.len]) _ (huh b hb) (huh x hx)
  have hcb:=hca b hb;rw[if_pos rfl]at hcb;have hx:=Tl.set_dead2 u b {u.at_ b with used:=!false};refine⟨hx.1.trans hud.1,huF.clean _ _,λx hx hne=>?_,?_,?_,?_⟩
  ·rw[hca x hx,if_neg (by omega),hua x hx,if_neg (by omega)]
  ·rw[hcb,hub];exact hbad
  ·rw[hcb,hub]
  ·rw[hcb];simp
 ·rename_i hc;have hc:(!L.has t.dead (d:Nat)&&decide ((N.blk d b).cells≠[]))=false:=by simpa using hc
  rw[hc];refine⟨hud.1,huF,λx hx hne=>?_,?_,?_,?_⟩
  ·rw[hua x hx,if_neg (by omega)]
  ·rw[hub];exact hbad
  ·rw[hub]
  ·rw[hub];simp
structure OfS (N:Nand) (t0:Tl) (n:Nat) (t:Tl):Prop where
 fit:t.Fit N
 dead:t.dead=t0.dead
 at_:∀b:Nat,b<N.blocks->(t.at_ b).bad=0/\(t.at_ b).held=false/\(t.at_ b).used=(decide (b<n)&&a1N t0.dead N b N.dies)
theorem ofB_spec {t0:Tl} {n:Nat} (h:OfS N t0 n t) (h6:N.dies<=6) (hs:L.set t0.dead=true) (hn:n<N.blocks):OfS N t0 (n+1) (ofB N t n):=by
 have key:∀k,k<=N.dies->∀u,u=(List.range k).foldl (ofD N n) t->u.Fit N/\u.dead=t0.dead/\(∀x:Nat,x<N.blocks->x≠n->u.at_ x=t.at_ x)/\(u.at_ n).bad=0/\(u.at_ n).held=false/\(u.at_ n).used=a1N t0.dead N n k:=by
  intro k
  induction k with
  | zero=>
   intro _ u hu;subst hu;obtain⟨a1,a2,a3⟩:=h.at_ n hn;exact⟨h.fit,h.dead,λ_ _ _=>rfl,a1,a2,a3.trans (by rw[decide_eq_false (Nat.lt_irrefl _)];rfl)⟩
  | succ k ih=>
   intro hk u hu;rw[List.range_succ,List.foldl_append]at hu;obtain⟨v,hv⟩:∃v,v=(List.range k).foldl (ofD N n) t:=⟨_,rfl⟩;rw[<- hv]at hu;have hu:u=ofD N n v k:=hu;obtain⟨a1,a2,a3,a4,a5,a6⟩:=ih (by omega) v hv;obtain⟨b1,b2,b3,b4,b5,b6⟩:=ofD_spec a1 h6 (by rw[a2];exact hs) hn a4 (show k<N.dies by omega);rw[hu];refine⟨b2,b1.trans a2,λx hx hne=>(b3 x hx hne).trans (a3 x hx hne),b4,b5.trans a5,?_⟩;rw[b6,a6,a2,a8c]
 obtain⟨c1,c2,c3,c4,c5,c6⟩:=key N.dies (Nat.le_refl _) _ rfl;refine⟨c1,c2,λb hb=>?_⟩
 by_cases e:b=n
 ·subst e;refine⟨c4,c5,?_⟩;show(((List.range N.dies).foldl (ofD N b) t).at_ b).used=_;rw[c6,decide_eq_true (by omega)];rfl
 ·obtain⟨a1,a2,a3⟩:=h.at_ b hb;have:=c3 b hb e;show(((List.range N.dies).foldl (ofD N n) t).at_ b).bad=0/\(((List.range N.dies).foldl (ofD N n) t).at_ b).held=false/\(((List.range N.dies).foldl (ofD N n) t).at_ b).used=_;rw[this];refine⟨a1,a2,a3.trans ?_⟩
  by_cases hlt:b<n
  ·rw[decide_eq_true hlt,decide_eq_true (by omega)]
  ·rw[decide_eq_false hlt,decide_eq_false (by omega)]
theorem of_spec (hN:N.Ok):L.set (Tl.of N).dead=true/\(∀e:Int,L.has (Tl.of N).dead e=N.deadAt e)/\∀b:Nat,b<N.blocks->((Tl.of N).at_ b).bad=0/\((Tl.of N).at_ b).held=false/\((Tl.of N).at_ b).used=a1N (Tl.of N).dead N b N.dies:=by
 have hg:=hN.bd16;obtain⟨s1,s2,s3,s4,s5⟩:=a5O (N:=N) (t:=Tl.new N.dies N.blocks N.pages) rfl (by omega) (by show L.set 0=true;decide);have h0:OfS N (Dv.seeDead N (Tl.new N.dies N.blocks N.pages)) 0 (Dv.seeDead N (Tl.new N.dies N.blocks N.pages)):=by
  refine⟨(Tl.Fit.new N).seeDead,rfl,λb hb=>?_⟩;have:(Dv.seeDead N (Tl.new N.dies N.blocks N.pages)).at_ b=Sb.zero:=by
   unfold Tl.at_;rw[s3];show(List.replicate N.blocks Sb.zero).getD _ Sb.zero=Sb.zero;rw[List.getD_eq_getElem?_getD,List.getElem?_replicate];split<;>rfl
  rw[this];exact⟨rfl,rfl,rfl⟩
 have key:∀n,n<=N.blocks->OfS N (Dv.seeDead N (Tl.new N.dies N.blocks N.pages)) n ((List.range n).foldl (ofB N) (Dv.seeDead N (Tl.new N.dies N.blocks N.pages))):=by
  intro n
  induction n with
  | zero=>intro _;exact h0
  | succ n ih=>
   intro hn;rw[List.range_succ,List.foldl_append];exact ofB_spec (ih (by omega)) (by omega) s1 (by omega)
 have hk:=key N.blocks (Nat.le_refl _);have hof:Tl.of N=(List.range N.blocks).foldl (ofB N) (Dv.seeDead N (Tl.new N.dies N.blocks N.pages)):=rfl;rw[<- hof]at hk;refine⟨by rw[hk.dead];exact s1,λe=>?_,λb hb=>?_⟩
 ·rw[hk.dead,s2];show(L.has 0 e||N.deadAt e)=N.deadAt e;rw[L.has_zero,Bool.false_or]
 ·obtain⟨a1,a2,a3⟩:=hk.at_ b hb;refine⟨a1,a2,?_⟩;rw[a3,hk.dead,decide_eq_true hb,Bool.true_and]
end Tl
theorem V.stand_max:∀(n:Nat) (l:List Fnd),l.length=n->∀g∈l,g.en.seq<=(V.standOf l).1.en.seq/\(g.en.seq=(V.standOf l).1.en.seq->g.whole=true->(V.standOf l).1.whole=true)
 | 0,l,hl,g,hg=>by rw[List.eq_nil_of_length_eq_zero hl]at hg;cases hg
 | n+1,l,hl,g,hg=>by
  obtain⟨l',x,rfl⟩:∃l' x,l=l'++[x]:=⟨l.dropLast,l.getLast (λe=>by rw[e]at hl;cases hl),(List.dropLast_concat_getLast _).symm⟩;have hl':l'.length=n:=by simpa using hl
  have ih:=V.stand_max n l' hl';rw[V.standOf_snoc];split
  ·rename_i hc;show g.en.seq<=x.en.seq/\(g.en.seq=x.en.seq->g.whole=true->x.whole=true);rcases List.mem_append.1 hg with hg | hg
   ·rcases hc with hc | hc
    ·exfalso
     rw[V.standOf_true l' (λe=>by rw[e]at hg;cases hg)]at hc;cases hc
    ·have h1:=ih g hg;unfold V.behind at hc;split at hc
     ·have hc:=of_decide_eq_true hc;exact⟨by omega,λe=>by omega⟩
     ·rename_i heq;have heq:(V.standOf l').1.en.seq=x.en.seq:=Classical.byContradiction λh=>heq h;rw[Bool.and_eq_true]at hc;exact⟨by omega,λ_ _=>hc.1⟩
   ·rw[List.mem_singleton]at hg;rw[hg];exact⟨Int.le_refl _,λ_ h=>h⟩
  ·rename_i hc;rcases List.mem_append.1 hg with hg | hg
   ·exact ih g hg
   ·rw[List.mem_singleton]at hg;rw[hg];have hb:V.behind (V.standOf l').1 x=false:=by
     cases h:V.behind (V.standOf l').1 x with
     | false=>rfl
     | true=>exact absurd (.inr h) hc
    unfold V.behind at hb;split at hb
    ·rename_i hne;have hb:=of_decide_eq_false hb;exact⟨by omega,λe=>absurd e.symm hne⟩
    ·rename_i heq;have heq:(V.standOf l').1.en.seq=x.en.seq:=Classical.byContradiction λh=>heq h;refine⟨by omega,λ_ hw=>?_⟩;rw[hw,Bool.true_and]at hb;simpa using hb
theorem V.mem_all {N:Nand} {f:Fnd}:f∈V.all N↔∃b r:Nat,b<N.blocks/\r<N.pages/\f∈R.all N b r:=by
 unfold V.all;simp only[List.mem_flatMap,List.mem_range];constructor
 ·rintro⟨b,hb,r,hr,hf⟩;exact⟨b,r,hb,hr,hf⟩
 ·rintro⟨b,r,hb,hr,hf⟩;exact⟨b,hb,r,hr,hf⟩
theorem V.nextOf_ge:∀(n:Nat) (l:List Fnd),l.length=n->∀f∈l,f.en.seq+1<=V.nextOf l
 | 0,l,hl,g,hg=>by rw[List.eq_nil_of_length_eq_zero hl]at hg;cases hg
 | n+1,l,hl,g,hg=>by
  obtain⟨l',x,rfl⟩:∃l' x,l=l'++[x]:=⟨l.dropLast,l.getLast (λe=>by rw[e]at hl;cases hl),(List.dropLast_concat_getLast _).symm⟩;have hl':l'.length=n:=by simpa using hl
  rw[V.nextOf_snoc];rcases List.mem_append.1 hg with hg | hg
  ·have:=V.nextOf_ge n l' hl' g hg;omega
  ·rw[List.mem_singleton]at hg;rw[hg];omega
theorem a9Z (N:Nand) {n:Nat} (hn:n<=65536) (i:Nat):Tb.look (V.scan N n).tb.at_ (i:Int)=if i<n/\(V.standOf (V.of (V.all N) i)).2=true/\Tb.ok (Tb.new n) (V.standOf (V.of (V.all N) i)).1.en=true then some ⟨(V.standOf (V.of (V.all N) i)).1.block,(V.standOf (V.of (V.all N) i)).1.row,(V.standOf (V.of (V.all N) i)).1.slot,(V.standOf (V.of (V.all N) i)).1.mask,(V.standOf (V.of (V.all N) i)).1.en.seq,(V.standOf (V.of (V.all N) i)).1.en.role⟩else none:=by
 have hsz:V.size (n:Int)=n:=by unfold V.size;omega
 have key:=V.goS_look N (V.all N) n n i;rw[<- key];show Tb.look (V.goS N (V.all N) n (V.size n)).tb.at_ (i:Int)=_;rw[hsz]
theorem a5d {α β:Type} (g:Int->β):∀(l:List (Int×α)) (i:Int),Tb.look (l.map λx=>(x.1,g x.1)) i=if(Tb.look l i).isSome=true then some (g i)else none
 | [],i=>rfl
 | x::l,i=>by
  rw[List.map_cons];unfold Tb.look
  by_cases h:i=x.1
  ·rw[if_pos h,if_pos h,h];rfl
  ·rw[if_neg h,if_neg h];exact a5d g l i
theorem a7G {fd:Int} {N:Nand} (h3:3<=N.dies):∃i:Nat,i<N.dies/\(i:Int)≠fd:=by
 by_cases h:fd=0
 ·exact⟨1,by omega,by omega⟩
 ·exact⟨0,by omega,λe=>h e.symm⟩
namespace GI
variable {fd : Int} {W : List (Int × En)} {S : Dv} {k m : Nat}
theorem stand (h:GI fd W S) (hO:S.Ok k m) {i:Int} {a:AtV} (ha:Tb.look S.T.at_ i=some a):
  ∃w f,Tb.look W i=some w/\V.standOf (V.of (V.all S.N) i)=(f,true)/\f∈V.all S.N/\f.en={w with seq:=a.seq}/\f.block=a.block/\f.row=a.row/\f.mask=a.mask/\(∃l,Full fd S.N a.block a.row a.mask l/\∃k:Nat,f.slot=k/\k<l.length/\l.getD k En.zero=f.en)/\f.whole=((M.look S.N (G.parity a.mask a.block a.row) a.block a.row).2==1):=by
 have hg:=hO.gd.ok.bd16;have hoff:=h.inv.lit.off;obtain⟨w,hw⟩:∃w,Tb.look W i=some w:=by
  cases hw:Tb.look W i with
  | none=>rw[h.hd.none hw]at ha;cases ha
  | some w=>exact⟨w,rfl⟩
 obtain⟨l,g1,g2,g3,g4,g5,g6⟩:=(h.inv.st i a ha).row;obtain⟨_,a',ha',hrd⟩:=h.hd.each i w hw;rw[ha]at ha';injection ha' with ha';subst ha';have hslot:((a.slot.toNat:Nat):Int)=a.slot:=Int.toNat_of_nonneg g2;have hle:l.getD a.slot.toNat En.zero={w with seq:=a.seq}:=by
  have:=g1.read hoff h.inv.dead g3;rw[hslot,hrd]at this;injection this with this _;exact this.symm
 have hwk:=h.wok i w hw;have hr3:(l.getD a.slot.toNat En.zero).role≠3:=by
  rw[hle];show w.role≠3;rcases hwk.2.role with e | ⟨e | e,_⟩<;>omega
 have hmk:=h.msk i a ha;obtain⟨i0,hi0,hne0⟩:=a7G (fd:=fd) hg.1.1;have hm0:=hmk.all i0 hi0 hne0;obtain⟨f0,f1,f2,f3,f4⟩:=g1.found2 hoff h.inv.dead ⟨i0,hne0,hm0⟩ g3 hr3;have hblk:=g1.is.blk;have hrow:=g1.is.row;have hf0:f0∈V.all S.N:=V.mem_all.2 ⟨a.block.toNat,a.row.toNat,by omega,by omega,by rw[Int.toNat_of_nonneg hblk.1,Int.toNat_of_nonneg hrow.1];exact f1⟩;have hf0L:f0∈V.of (V.all S.N) i:=List.mem_filter.2 ⟨hf0,by rw[f2,g4];simp⟩;have hne:V.of (V.all S.N) i≠[]:=λe=>by rw[e]at hf0L;cases hf0L
 have htr:=V.standOf_true _ hne;obtain⟨f,hf⟩:∃f,(V.standOf (V.of (V.all S.N) i)).1=f:=⟨_,rfl⟩;have hst:V.standOf (V.of (V.all S.N) i)=(f,true):=by rw[<- hf,<- htr]
 have hfL:f∈V.of (V.all S.N) i:=by rw[<- hf];exact V.standOf_mem htr
 obtain⟨hfa,hfi⟩:=List.mem_filter.1 hfL;have hfi:f.en.lpn=i:=eq_of_beq hfi;have hmax:=(V.stand_max _ _ rfl f0 hf0L).1;rw[hf,f2,g5]at hmax;obtain⟨b,r,hb,hr,hfr⟩:=V.mem_all.1 hfa;obtain⟨e1,e2,_⟩:=a1C hfr;rcases(h.dsc b r hb hr).fnd hoff hg.1 hfr with⟨a',ha',hlt⟩ | ⟨⟨w',a',hw',ha',hcs⟩,hmf,l',hev,k',hk',hsl,hen,hrd',hwh⟩
 ·rw[hfi,ha]at ha';injection ha' with ha';subst ha';omega
 ·rw[hfi,ha]at ha';injection ha' with ha';subst ha';rw[hfi,hw]at hw';injection hw' with hw';subst hw';rcases hcs with hlt | ⟨c1,c2,c3,c4,c5⟩
  ·omega
  ·rw[<- c2,<- c3]at hev hrd' hwh;have hm0':L.has f.mask (i0:Nat)=true:=by
    have hall:=L.all_has S.N.dies (by omega);rcases hmf with e | ⟨d,e,hd,e'⟩
    ·rw[e,hall,decide_eq_true (by omega),decide_eq_true (by omega)];rfl
    ·rw[e',L.without_has (L.set_all S.N.dies (by omega)) (by omega),hall,decide_eq_true (by omega),decide_eq_true (by omega),decide_eq_false (by omega)];rfl
   have hmask:=g1.mask_eq hoff h.inv.dead hne0 hm0 hm0' hev;have hlen:l'.length=l.length:=by
    have x1:=hev.is.len;have x2:=g1.is.len;rw[hmask]at x1;omega
   refine⟨w,f,hw,hst,hfa,?_,by rw[e1,c2],by rw[e2,c3],hmask,⟨l,g1,k',hsl,by omega,?_⟩,?_⟩
   ·have hfe:f.en=⟨f.en.lpn,f.en.seq,f.en.role,f.en.data⟩:=rfl;rw[hfe,hfi,c1,c4,c5,<- hwk.1]
   ·have:=g1.read hoff h.inv.dead (i:=k') (by omega);rw[hmask,hsl,this]at hrd';injection hrd' with hrd' _
   ·rw[hwh];unfold gOf;rw[L5,hmask]
theorem stand_none (h:GI fd W S) (hO:S.Ok k m) {i:Int} (ha:Tb.look S.T.at_ i=none):(V.standOf (V.of (V.all S.N) i)).2=false:=by
 have hg:=hO.gd.ok.bd16;cases htr:(V.standOf (V.of (V.all S.N) i)).2 with
 | false=>rfl
 | true=>
  exfalso
  have hfL:=V.standOf_mem htr;obtain⟨hfa,hfi⟩:=List.mem_filter.1 hfL;have hfi:=eq_of_beq hfi;obtain⟨b,r,hb,hr,hfr⟩:=V.mem_all.1 hfa;rcases(h.dsc b r hb hr).fnd h.inv.lit.off hg.1 hfr with⟨a',ha',_⟩ | ⟨⟨w',a',hw',ha',_⟩,_⟩
  ·rw[hfi,ha]at ha';cases ha'
  ·rw[hfi,ha]at ha';cases ha'
theorem table (h:GI fd W S) (hO:S.Ok k m) (hlog:S.T.logical=(lgN S.N.dies S.N.blocks S.N.pages:Int)) (i:Int):
  (Tb.look S.T.at_ i=none->Tb.look (Dv.mt0 S.N).T.at_ i=none)/\
  ∀a,Tb.look S.T.at_ i=some a->∃w f a',Tb.look W i=some w/\V.standOf (V.of (V.all S.N) i)=(f,true)/\f∈V.all S.N/\f.en={w with seq:=a.seq}/\Tb.look (Dv.mt0 S.N).T.at_ i=some a'/\a'=⟨a.block,a.row,f.slot,a.mask,a.seq,w.role⟩/\(∃l,Full fd S.N a.block a.row a.mask l/\∃k:Nat,f.slot=k/\k<l.length/\l.getD k En.zero=f.en)/\f.whole=((M.look S.N (G.parity a.mask a.block a.row) a.block a.row).2==1):=by
 have h200:=V0 hO.gd.ok;have hsl:∀j:Nat,Tb.look (Dv.mt0 S.N).T.at_ (j:Int)=_:=λj=>a9Z S.N (n:=lgN S.N.dies S.N.blocks S.N.pages) (by omega) j;have htOk:(Dv.mt0 S.N).T.Ok:=(Dv.Ok.mt0 hO.gd).T;have hlog0:=Dv.mt0_log hO.gd;constructor
 ·intro hn;cases hx:Tb.look (Dv.mt0 S.N).T.at_ i with
  | none=>rfl
  | some x=>
   exfalso
   have hr:=htOk.rng _ (Tb.look_mem hx);rw[hlog0]at hr;obtain⟨j,rfl⟩:=Int.eq_ofNat_of_zero_le hr.1;rw[hsl j,h.stand_none hO hn,if_neg (by simp)]at hx;cases hx
 ·intro a ha;have hr:=hO.T.rng _ (Tb.look_mem ha);rw[hlog]at hr;obtain⟨j,rfl⟩:=Int.eq_ofNat_of_zero_le hr.1;obtain⟨w,f,h1,h2,h3,h4,h5,h6,h7,h8,h9⟩:=h.stand hO ha;have hwk:=h.wok _ w h1;have hx:=hsl j;rw[h2]at hx;dsimp only at hx;rw[h4,h5,h6,h7,if_pos ⟨by omega,rfl,by
   unfold Tb.ok;show(!(decide (w.lpn<0)||decide (w.lpn>=min (max ((lgN S.N.dies S.N.blocks S.N.pages:Nat):Int) 0) 65536)||(w.role !=1&&w.role !=2&&w.role !=4)))=true;rw[hwk.1,decide_eq_false (by omega),decide_eq_false (by omega)];rcases hwk.2.role with e | ⟨e | e,_⟩<;>rw[e]<;>rfl⟩]at hx
  exact⟨w,f,_,h1,h2,h3,h4,hx,rfl,h8,h9⟩
theorem mt0 (h:GI fd W S) (hO:S.Ok k m) (hlog:S.T.logical=(lgN S.N.dies S.N.blocks S.N.pages:Int)):
  ∃W',(∀i,Tb.look W' i=Tb.look W i)/\W'.length<=W.length/\GI fd W' (Dv.mt0 S.N)/\(∀b,(Dv.mt0 S.N).t.has b=true->((Dv.mt0 S.N).t.at_ b).held=false)/\∀i a',Tb.look (Dv.mt0 S.N).T.at_ i=some a'->∃a,Tb.look S.T.at_ i=some a/\a'.block=a.block:=by
 have hg:=hO.gd.ok.bd16;have h200:=V0 hO.gd.ok;have hO0:(Dv.mt0 S.N).Ok k m:=Dv.Ok.mt0 hO.gd;have hlog0:=Dv.mt0_log hO.gd;obtain⟨t1,t2,t3⟩:=Tl.of_spec hO.gd.ok;have hhas:∀b,(Dv.mt0 S.N).t.has b=true->∃j:Nat,b=(j:Int)/\j<S.N.blocks:=λb hb=>by
  have hb:=Tl.has_iff.1 hb;have hb2:=hO0.t.b;have hb3:(Dv.mt0 S.N).N.blocks=S.N.blocks:=rfl;obtain⟨j,rfl⟩:=Int.eq_ofNat_of_zero_le hb.1;exact⟨j,rfl,by omega⟩
 have hdd:∀d:Nat,(d:Int)≠fd->L.has (Tl.of S.N).dead (d:Nat)=false:=λd hd=>by
  rw[t2];unfold Nand.deadAt;rw[Int.toNat_natCast,h.inv.dead d hd,Bool.and_false]
 have hall:=λi=>h.table hO hlog i;have hsome:∀i a',Tb.look (Dv.mt0 S.N).T.at_ i=some a'->∃a w f,Tb.look S.T.at_ i=some a/\Tb.look W i=some w/\f∈V.all S.N/\f.en={w with seq:=a.seq}/\a'=⟨a.block,a.row,f.slot,a.mask,a.seq,w.role⟩/\∃l,Full fd S.N a.block a.row a.mask l/\∃k:Nat,f.slot=k/\k<l.length/\l.getD k En.zero=f.en:=λi a' ha'=>by
  cases ha:Tb.look S.T.at_ i with
  | none=>rw[(hall i).1 ha]at ha';cases ha'
  | some a=>
   obtain⟨w,f,a2,h1,_,h3,h4,h5,h6,h7,_⟩:=(hall i).2 a ha;rw[h5]at ha';injection ha' with ha';exact⟨a,w,f,rfl,h1,h3,h4,ha'.symm.trans h6,h7⟩
 let W':List (Int×En):=(Dv.mt0 S.N).T.at_.map λx=>(x.1,(Tb.look W x.1).getD En.zero)
 have hW':∀i,Tb.look W' i=Tb.look W i:=λi=>by
  show Tb.look ((Dv.mt0 S.N).T.at_.map λx=>(x.1,(Tb.look W x.1).getD En.zero)) i=_;rw[a5d (λi=>(Tb.look W i).getD En.zero)];cases hx:Tb.look (Dv.mt0 S.N).T.at_ i with
  | some a'=>
   obtain⟨a,w,f,_,h2,_⟩:=hsome i a' hx;rw[h2];rfl
  | none=>
   rw[if_neg (by simp)];cases hw:Tb.look W i with
   | none=>rfl
   | some w=>
    obtain⟨_,a,ha,_⟩:=h.hd.each i w hw;obtain⟨_,_,a2,_,_,_,_,h5,_⟩:=(hall i).2 a ha;rw[hx]at h5;cases h5
 have hinv:Inv fd (Dv.mt0 S.N):=by
  refine⟨h.inv.lit,h.inv.dead,h.inv.plan,h.inv.flags,⟨t1,λd hd=>?_⟩,λb hb=>?_, .inl rfl,λb hb hu d hd=>?_,λi a' ha'=>?_⟩
  ·have hd:L.has (Tl.of S.N).dead d=true:=hd;obtain⟨d',rfl,_⟩:=L.has_rng hd;exact Classical.byContradiction λhne=>by rw[hdd d' hne]at hd;cases hd
  ·obtain⟨j,rfl,hj⟩:=hhas b hb;show L.set ((Tl.of S.N).at_ j).bad=true/\∀d:Int,L.has ((Tl.of S.N).at_ j).bad d=true->d=fd;rw[(t3 j hj).1];exact⟨by decide,λd hd=>by rw[L.has_zero]at hd;cases hd⟩
  ·obtain⟨j,rfl,hj⟩:=hhas b hb;have hu:((Tl.of S.N).at_ j).used=false:=hu;rw[(t3 j hj).2.2]at hu;have hmk:=(A7 (t:=(Dv.mt0 S.N).t) (b:=j) (by have:=hO0.t.d;have h3:(Dv.mt0 S.N).N.dies=S.N.dies:=rfl;omega) hb t1 (by show L.set ((Tl.of S.N).at_ j).bad=true;rw[(t3 j hj).1];decide)).2 d;rw[hmk]at hd;simp only[Bool.and_eq_true,decide_eq_true_eq,Bool.not_eq_true']at hd;have hdl:d<S.N.dies:=by have:=hO0.t.d;have h3:(Dv.mt0 S.N).N.dies=S.N.dies:=rfl;omega
   unfold a1N at hu;rw[List.any_eq_false]at hu;have:=hu d (List.mem_range.2 hdl);have hdf:L.has (Tl.of S.N).dead (d:Nat)=false:=hd.1.2;rw[hdf]at this;show(S.N.blk d ((j:Nat):Int).toNat).cells=[];rw[Int.toNat_natCast];simpa using this
  ·obtain⟨a,w,f,h1,h2,h3,h4,h5,l,h6,kk,h7,h8,h9⟩:=hsome i a' ha';subst h5;have hst:=h.inv.st i a h1;have hwk:=h.wok i w h2;refine⟨⟨l,h6,by show(0:Int)<=f.slot;omega,?_,?_,?_,?_⟩,?_,λe=>?_,⟨hst.seq.1,?_⟩⟩
   ·show f.slot.toNat<l.length;omega
   ·show(l.getD f.slot.toNat En.zero).lpn=i;rw[h7,Int.toNat_natCast,h9,h4];exact hwk.1
   ·show(l.getD f.slot.toNat En.zero).seq=a.seq;rw[h7,Int.toNat_natCast,h9,h4]
   ·show(l.getD f.slot.toNat En.zero).role=w.role;rw[h7,Int.toNat_natCast,h9,h4]
   ·have hblk:=h6.is.blk;show((Tl.of S.N).at_ a.block).used=true;obtain⟨j,hj⟩:=Int.eq_ofNat_of_zero_le hblk.1;rw[hj,(t3 j (by omega)).2.2];obtain⟨i0,hi0,hne0⟩:=a7G (fd:=fd) hg.1.1;obtain⟨x,hx,hxi⟩:=h6.is.on ((h.msk i a h1).all i0 hi0 hne0);obtain⟨tt,ht⟩:=h6.good x hx (by rw[hxi];exact hne0);unfold a1N;rw[List.any_eq_true];refine⟨i0,List.mem_range.2 hi0,?_⟩;rw[hdd i0 hne0];have hne:(S.N.blk i0 j).cells≠[]:=λe=>by
     unfold Nand.pageAt at ht;rw[hxi,hj,Int.toNat_natCast,Int.toNat_natCast,e]at ht;cases ht
    rw[decide_eq_true hne];rfl
   ·have hblk:=h6.is.blk;have e:a.block= -1:=e;omega
   ·have hnx:=V.nextOf_ge _ _ rfl f h3;have hq:f.en.seq=a.seq:=by rw[h4]
    show a.seq<max (V.nextOf (V.all S.N)) 1;omega
 have hhd:Hd (Dv.mt0 S.N) W':=by
  refine⟨?_,λi e he=>?_⟩
  ·show(Dv.mt0 S.N).T.at_.map (·.1)=((Dv.mt0 S.N).T.at_.map λx=>(x.1,(Tb.look W x.1).getD En.zero)).map (·.1);rw[List.map_map];rfl
  ·rw[hW']at he;obtain⟨h1,a,h2,h3⟩:=h.hd.each i e he;obtain⟨w,f,a',g1,g2,g3,g4,g5,g6,⟨l2,q1,kk2,q2,q3,q4⟩,_⟩:=(hall i).2 a h2;rw[he]at g1;injection g1 with g1;subst g1;subst g6;refine⟨h1,_,g5,?_⟩;show R.read S.N a.block a.row f.slot a.mask=({e with seq:=a.seq},0);rw[q2,q1.read h.inv.lit.off h.inv.dead q3,q4,g4]
 refine⟨W',hW',?_,⟨hinv,hhd,λi e he=>h.wok i e (by rw[<- hW'];exact he),λi a' ha'=>?_,λb r hb hr=>(h.dsc b r hb hr).mono (λe ⟨w,a,x1,x2,x3⟩=>?_) λe ⟨a,x1,x2⟩=>?_,h.ff⟩,λb hb=>?_,λi a' ha'=>?_⟩
 ·have h1:=R9 (K:=(Dv.mt0 S.N).T.at_.map (·.1)) (M:=W.map (·.1)) hO0.T.keys λi hi=>by
   obtain⟨x,hx,rfl⟩:=List.mem_map.1 hi;obtain⟨a,w,f,g1,_⟩:=hsome x.1 x.2 (a0P hO0.T hx);rw[<- h.hd.keys];exact List.mem_map.2 ⟨_,Tb.look_mem g1,rfl⟩
  simpa[W']using h1
 ·obtain⟨a,w,f,h1,_,_,_,h5,_⟩:=hsome i a' ha';rw[h5];exact h.msk i a h1
 ·obtain⟨w',f,a',g1,g2,g3,g4,g5,g6,_⟩:=(hall _).2 a x2;rw[x1]at g1;injection g1 with g1;subst g1;subst g6;exact⟨w,_,by rw[hW'];exact x1,g5,x3⟩
 ·obtain⟨w',f,a',g1,g2,g3,g4,g5,g6,_⟩:=(hall _).2 a x1;subst g6;exact⟨_,g5,x2⟩
 ·obtain⟨j,rfl,hj⟩:=hhas b hb;exact(t3 j hj).2.1
 ·obtain⟨a,w,f,h1,_,_,_,h5,_⟩:=hsome i a' ha';exact⟨a,h1,by rw[h5]⟩
end GI
def cur (W:List (Int×En)) (L:List En) (i:Int):List UInt8:=match L.find? (λx=>x.lpn==i)with
 | some e=>e.data
 | none=>match Tb.look W i with
  | some e=>e.data
  | none=>zeros16
structure FI (fd:Int) (W:List (Int×En)) (lg:Nat) (F:Fv):Prop where
 inv:Inv fd F.S
 hd:Hd F.S W
 wok:WOk W
 wr:∀i e,Tb.look W i=some e->e.role≠4
 log:F.S.T.logical=(lg:Int)
 lgn:F.lg=(lg:Int)
 lg2:lg<=200
 des:∀e∈F.L,FitR e/\e.role≠4/\e.lpn<(lg:Int)
 nd:(F.L.map (·.lpn)).Nodup
 off:F.off=false
theorem find_none {L:List En} {i:Int}:L.find? (λx=>x.lpn==i)=none↔i∉L.map (·.lpn):=by
 rw[List.find?_eq_none];constructor
 ·intro h hm;obtain⟨x,hx,e⟩:=List.mem_map.1 hm;exact h x hx (by simp[e])
 ·intro h x hx hb;exact h (List.mem_map.2 ⟨x,hx,by simpa using hb⟩)
theorem b0T {L:List En} (hnd:(L.map (·.lpn)).Nodup) {e:En} (he:e∈L):L.find? (λx=>x.lpn==e.lpn)=some e:=by
 induction L with
 | nil=>cases he
 | cons x L ih=>
  simp only[List.map_cons,List.nodup_cons]at hnd;rw[List.find?_cons];rcases List.mem_cons.1 he with rfl | he
  ·simp
  ·have:(x.lpn==e.lpn)=false:=by
    rw[beq_eq_false_iff_ne];intro e2;exact hnd.1 (by rw[e2];exact List.mem_map_of_mem he)
   rw[this];exact ih hnd.2 he
theorem a1I {L:List En} (hnd:(L.map (·.lpn)).Nodup) (n:Nat):H0 L (L.take n)=L.drop n:=by
 unfold H0;have hsp:L=L.take n++L.drop n:=(List.take_append_drop n L).symm;have hnd2:=hnd;rw[hsp,List.map_append,List.nodup_append]at hnd2;obtain⟨_,_,hdis⟩:=hnd2
 conv=>lhs;arg 2;rw[hsp]
 rw[List.filter_append];have h1:(L.take n).filter (λx=>!((L.take n).any λe=>e.lpn==x.lpn&&e.seq==x.seq))=[]:=by
  rw[List.filter_eq_nil_iff];intro x hx;have:((L.take n).any λe=>e.lpn==x.lpn&&e.seq==x.seq)=true:=List.any_eq_true.2 ⟨x,hx,by simp⟩;rw[this];simp
 have h2:(L.drop n).filter (λx=>!((L.take n).any λe=>e.lpn==x.lpn&&e.seq==x.seq))=L.drop n:=by
  rw[List.filter_eq_self];intro x hx;have:((L.take n).any λe=>e.lpn==x.lpn&&e.seq==x.seq)=false:=by
   rw[<- Bool.not_eq_true,List.any_eq_true];rintro⟨e,he,hb⟩;simp only[Bool.and_eq_true,beq_iff_eq]at hb;exact hdis _ (List.mem_map_of_mem he) _ (List.mem_map_of_mem hx) hb.1
  rw[this];rfl
 rw[h1,h2];rfl
theorem a7P {W:List (Int×En)} {L:List En} (hnd:(L.map (·.lpn)).Nodup) (n:Nat) (hn:n<=L.length) (i:Int):cur (J4 W L n) (L.drop n) i=cur W L i:=by
 have hdisj:∀a b,a<b->b<n->(L.getD a En.zero).lpn≠(L.getD b En.zero).lpn:=λa b hab hb e=>by
  have g1:a<L.length:=by omega
  have g2:b<L.length:=by omega
  have h3:(L.map (·.lpn))[a]? =(L.map (·.lpn))[b]?:=by
   rw[List.getElem?_map,List.getElem?_map,List.getElem?_eq_getElem g1,List.getElem?_eq_getElem g2];rw[List.getD_eq_getElem?_getD,List.getD_eq_getElem?_getD,List.getElem?_eq_getElem g1,List.getElem?_eq_getElem g2]at e;exact congrArg some e
  have:=(List.getElem?_inj (by rw[List.length_map];exact g1) hnd).1 h3;omega
 obtain⟨w1,w2⟩:=J3 (W:=W) (l:=L) n hdisj;have hsp:L=L.take n++L.drop n:=(List.take_append_drop n L).symm;have hnd2:=hnd;rw[hsp,List.map_append,List.nodup_append]at hnd2;obtain⟨hn1,hn2,hdis⟩:=hnd2
 by_cases hi:i∈(L.take n).map (·.lpn)
 ·obtain⟨e,he,rfl⟩:=List.mem_map.1 hi;have hf:=b0T hnd (List.mem_of_mem_take he);have hnone:(L.drop n).find? (λx=>x.lpn==e.lpn)=none:=find_none.2 λhm=>hdis _ hi _ hm rfl;obtain⟨j,hj,hje⟩:=List.mem_iff_getElem.1 he;rw[List.length_take]at hj;have hge:L.getD j En.zero=e:=by
   rw[List.getD_eq_getElem?_getD,List.getElem?_eq_getElem (by omega),Option.getD_some,<- hje,List.getElem_take]
  have hl:=w1 j (by omega);rw[hge]at hl;unfold cur;rw[hnone,hf];dsimp only;rw[hl]
 ·have h1:(L.take n).find? (λx=>x.lpn==i)=none:=find_none.2 hi;have h2:L.find? (λx=>x.lpn==i)=(L.drop n).find? (λx=>x.lpn==i):=by
   conv=>lhs;rw[hsp]
   rw[List.find?_append,h1];rfl
  have h3:Tb.look (J4 W L n) i=Tb.look W i:=w2 i λj hj e=>hi (List.mem_map.2 ⟨L.getD j En.zero,by
   rw[List.getD_eq_getElem?_getD,List.getElem?_eq_getElem (by omega),Option.getD_some];exact List.mem_iff_getElem.2 ⟨j,by rw[List.length_take];omega,List.getElem_take ..⟩,e⟩)
  unfold cur;rw[h2,h3]
theorem a5H {W:List (Int×En)} {L:List En} (hW:WOk W) (hr:∀i e,Tb.look W i=some e->e.role≠4) (hL:∀e∈L,FitR e/\e.role≠4):∀n,n<=L.length->WOk (J4 W L n)/\∀i e,Tb.look (J4 W L n) i=some e->e.role≠4
 | 0,_=>⟨hW,hr⟩
 | n+1,hn=>by
  obtain⟨h1,h2⟩:=a5H hW hr hL n (by omega);have hm:=hL _ (D5 (show n<L.length by omega));rw[O1];refine⟨h1.put hm.1,λi e he=>?_⟩;rw[Tb.look_put1]at he;split at he
  ·injection he with he;rw[<- he];exact hm.2
  ·exact h2 i e he
namespace FI
variable {fd : Int} {W : List (Int × En)} {lg k m : Nat} {F : Fv}
theorem ask (h:FI fd W lg F):F.ask=F:=by
 unfold Fv.ask;rw[h.inv.lit.off,h.off];have:=h.off;cases F;dsimp only at this;rw[this];rfl
theorem len (h:FI fd W lg F):F.L.length<=lg:=by
 have h1:=R9 (K:=F.L.map (·.lpn)) (M:=(List.range lg).map λi:Nat=>(i:Int)) h.nd λx hx=>by
  obtain⟨e,he,rfl⟩:=List.mem_map.1 hx;obtain⟨d1,_,d3⟩:=h.des e he;have:=d1.lpn;exact List.mem_map.2 ⟨e.lpn.toNat,List.mem_range.2 (by omega),by omega⟩
 simpa using h1
theorem get (h:FI fd W lg F) (i:Int):F.get i=(cur W F.L i,0):=by
 unfold Fv.get cur T8;cases hf:F.L.find? (λx=>x.lpn==i)with
 | some e=>rfl
 | none=>
  dsimp only;rw[if_neg Bool.false_ne_true];cases hw:Tb.look W i with
  | none=>rw[h.hd.none hw]
  | some e=>
   obtain⟨h1,a,ha,hr⟩:=h.hd.each i e hw;obtain⟨y,hy,_,_,hyr⟩:=h.inv.read ha;have hwe:=h.wok i e hw;rw[hr]at hy;have her:e.role=a.role:=by injection hy with hy;rw[<- hyr,<- hy]
   have h4:=h.wr i e hw;rw[ha];dsimp only;rcases hwe.2.role with r | ⟨r | r,hz⟩
   ·rw[if_neg (by omega),if_neg (by omega),hr];dsimp only;rw[if_neg];rintro(x | x | x)
    ·exact x rfl
    ·exact x hwe.1
    ·exact x rfl
   ·rw[if_pos (by omega),hz]
   ·exact absurd r h4
theorem read (h:FI fd W lg F) (i:Int):F.read i=if i<0\/i>=(lg:Int)then(F,zeros16,3)else(F,cur W F.L i,0):=by
 unfold Fv.read;rw[h.ask,h.off,if_neg Bool.false_ne_true,h.lgn,h.get]
end FI
theorem a7I {L:List En} {i j:Int} (h:i≠j):(L.filter λx=>!(x.lpn==j)).find? (λx=>x.lpn==i)=L.find? (λx=>x.lpn==i):=by
 induction L with
 | nil=>rfl
 | cons x L ih=>
  rw[List.filter_cons]
  by_cases e:x.lpn=j
  ·have h1:(!(x.lpn==j))=false:=by simp[e]
   have h2:(x.lpn==i)=false:=by rw[beq_eq_false_iff_ne];omega
   rw[h1,if_neg Bool.false_ne_true,ih,List.find?_cons,h2]
  ·have h1:(!(x.lpn==j))=true:=by simp[e]
   rw[h1,if_pos rfl,List.find?_cons,List.find?_cons,ih]
theorem b5E (W:List (Int×En)) (L:List En) (e:En) (i:Int):cur W (I3 L e) i=if i=e.lpn then e.data else cur W L i:=by
 unfold cur I3;rw[List.find?_append]
 by_cases h:i=e.lpn
 ·subst h;have h1:(L.filter λx=>!(x.lpn==e.lpn)).find? (λx=>x.lpn==e.lpn)=none:=by
   rw[List.find?_eq_none];intro x hx hb;have:=(List.mem_filter.1 hx).2;rw[hb]at this;cases this
  rw[h1,if_pos rfl];simp
 ·rw[a7I h,if_neg h];have h2:[e].find? (λx=>x.lpn==i)=none:=by
   rw[List.find?_eq_none];intro x hx hb;simp at hx;subst hx;exact h (eq_of_beq hb).symm
  rw[h2,Option.or_none]
namespace FI
variable {fd : Int} {W : List (Int × En)} {lg k m : Nat} {F : Fv}
theorem put (h:FI fd W lg F) {e:En} (he:FitR e/\e.role≠4/\e.lpn<(lg:Int)):FI fd W lg (F.put e)/\∀i,cur W (F.put e).L i=if i=e.lpn then e.data else cur W F.L i:=by
 refine⟨⟨h.inv,h.hd,h.wok,h.wr,h.log,h.lgn,h.lg2,λx hx=>?_,?_,h.off⟩,λi=>b5E W F.L {e with seq:=F.nx} i⟩
 ·have hx:x∈(F.L.filter λy:En=>!(y.lpn==e.lpn))++[({e with seq:=F.nx}:En)]:=hx;rcases List.mem_append.1 hx with hx | hx
  ·exact h.des x (List.mem_filter.1 hx).1
  ·simp at hx;rw[hx];exact⟨⟨he.1.lpn,he.1.role,he.1.len⟩,he.2.1,he.2.2⟩
 ·show(((F.L.filter λy:En=>!(y.lpn==e.lpn))++[({e with seq:=F.nx}:En)]).map (·.lpn)).Nodup;rw[List.map_append,List.nodup_append];refine⟨List.Nodup.sublist ((List.filter_sublist (p:=λx:En=>!(x.lpn==e.lpn)) (l:=F.L)).map (·.lpn)) h.nd,by simp,λa ha b hb hab=>?_⟩;obtain⟨x,hx,rfl⟩:=List.mem_map.1 ha;simp at hb;have:=(List.mem_filter.1 hx).2;rw[hab,hb]at this;simp at this
def costW:Nat:=Dv.costM+8*Dv.fuel
end FI
theorem b5I (D B P:Nat):V.all (Nand.new D B P)=[]:=by
 unfold V.all;rw[List.flatMap_eq_nil_iff];intro b _;rw[List.flatMap_eq_nil_iff];intro r _;refine b1g λd=>?_;have:=a8y (N:=Nand.new D B P) (d:=(d:Nat)) (b:=(b:Nat)) (r:=(r:Nat)) (Nat.zero_le _);omega
theorem a9v (N:Nand) (n:Int):∀k,V.goS N [] n k=⟨Tb.new n,[],[],[]⟩
 | 0=>rfl
 | k+1=>by
  rw[V.goS_succ,a9v N n k];unfold V.step;rw[if_neg];show¬(V.standOf (V.of [] k)).2=true;rw[show V.of [] (k:Int)=[]from rfl,V.standOf_nil];exact Bool.false_ne_true
theorem b1W (D B P:Nat) (n:Int):V.scan (Nand.new D B P) n=⟨Tb.new n,[],0,[],1,0⟩:=by
 unfold V.scan V.scanOf;rw[b5I,a9v];have h1:n8 (I8 [])=[]:=a1s;dsimp only;rw[h1];rfl
theorem b1V {t:Tl} (hl:t.l.length=t.b) (k:Int):t.set k (t.at_ k)=t:=by
 unfold Tl.set;split
 ·rename_i h;have hk:=Tl.get_at hl h;have:t.l.set k.toNat (t.at_ k)=t.l:=by
   apply List.ext_getElem?;intro i;rw[List.getElem?_set];split
   ·rename_i e;subst e;rw[hk];split
    ·rfl
    ·rename_i h2;rw[List.getElem?_eq_none (by omega)]at hk;cases hk
   ·rfl
  rw[this]
 ·rfl
theorem a8P (D B P:Nat) (b:Int):(Tl.new D B P).at_ b=Sb.zero:=by
 unfold Tl.new Tl.at_;dsimp only;rw[List.getD_eq_getElem?_getD,List.getElem?_replicate];split<;>rfl
theorem b4S (D B P:Nat) (b d:Nat):Tl.ofD (Nand.new D B P) b (Tl.new D B P) d=Tl.new D B P:=by
 have hw:(Nand.new D B P).wornAt d b=0:=by unfold Nand.wornAt;split<;>rfl
 have hn:(Nand.new D B P).next d b=0:=by unfold Nand.next;split<;>rfl
 have h1:(Tl.new D B P).wore b 0=Tl.new D B P:=by
  have h2:=b1V (t:=Tl.new D B P) (by show(List.replicate B Sb.zero).length=B;rw[List.length_replicate]) (b:Int);unfold Tl.wore;rw[a8P]at h2 ⊢;exact h2
 unfold Tl.ofD;dsimp only;rw[hw,hn,h1,if_neg];simp
theorem b6x (D B P:Nat):Tl.of (Nand.new D B P)=Tl.new D B P:=by
 have hd:Dv.seeDead (Nand.new D B P) (Tl.new D B P)=Tl.new D B P:=a8i λi=>by
  show(List.replicate D false).getD i false=false;rw[List.getD_eq_getElem?_getD,List.getElem?_replicate];split<;>rfl
 have h1:∀(b:Nat) (q:List Nat),q.foldl (Tl.ofD (Nand.new D B P) b) (Tl.new D B P)=Tl.new D B P:=by
  intro b q
  induction q with
  | nil=>rfl
  | cons d q ih=>rw[List.foldl_cons,b4S,ih]
 have h2:∀q:List Nat,q.foldl (Tl.ofB (Nand.new D B P)) (Tl.new D B P)=Tl.new D B P:=by
  intro q
  induction q with
  | nil=>rfl
  | cons b q ih=>
   rw[List.foldl_cons];have:Tl.ofB (Nand.new D B P) (Tl.new D B P) b=Tl.new D B P:=h1 b _;rw[this,ih]
 unfold Tl.of;rw[show(Nand.new D B P).dies=D from rfl,show(Nand.new D B P).blocks=B from rfl,show(Nand.new D B P).pages=P from rfl,hd,h2]
theorem b2a {D B P k m:Nat} {lg:Int} (hO:(Dv.new D B P lg).Ok k m):(Dv.new D B P lg).clear=(Dv.new D B P lg,0)/\(Dv.new D B P lg).room=(Dv.new D B P lg,0):=by
 have hg:=hO.gd.ok.bd16;have hg:(3<=D/\D<=6)/\(8<=B/\B<=16)/\(2<=P/\P<=8):=hg;have hsp:f8 (j6 (Dv.new D B P lg).t (Dv.new D B P lg).T) (Dv.new D B P lg).op (Dv.new D B P lg).t.b=[]:=a0m _ λx hx=>by
  have hx:x<B:=hx;unfold j6 Tl.blank;rw[show(Dv.new D B P lg).t=Tl.new D B P from rfl,a8P,Tl.has_iff.2 (show 0<=(x:Int)/\(x:Int)<(Tl.new D B P).b by show 0<=(x:Int)/\(x:Int)<(B:Int);omega)];simp[Sb.zero]
 have hc:(Dv.new D B P lg).clear=(Dv.new D B P lg,0):=by
  unfold Dv.clear Dv.clearX;rw[hsp];rfl
 have hfr:((Dv.new D B P lg).free:Int)>4:=by
  have h1:=(Inv.new (-1) D B P lg).free_len (k:=k) (m:=m) hO;have h2:(Dv.new D B P lg).t.blanks=B:=by
   show(List.replicate B Sb.zero).countP _=B;rw[List.countP_replicate];rfl
  have h1:(Dv.new D B P lg).free=(Dv.new D B P lg).t.blanks:=h1;omega
 refine⟨hc,?_⟩;unfold Dv.room;rw[hc,if_neg (by simp)];obtain⟨c,hc2⟩:∃c,(Dv.new D B P lg).t.b=c+1:=⟨(Dv.new D B P lg).t.b-1,by show B=B-1+1;omega⟩;rw[hc2];show Dv.roomGo (c+1) (Dv.new D B P lg)=_;unfold Dv.roomGo;rw[if_pos hfr]
theorem b0r {D B P k m:Nat} (hO:(Dv.new D B P (lgN D B P)).Ok k m):t7 (Nand.new D B P)=(Dv.new D B P (lgN D B P),0):=by
 obtain⟨c1,c2⟩:=b2a hO;unfold t7;rw[show(Nand.new D B P).dies=D from rfl,show(Nand.new D B P).blocks=B from rfl,show(Nand.new D B P).pages=P from rfl,b1W,b6x];have e:(⟨Nand.new D B P,Tl.new D B P,Tb.new (lgN D B P),-1,0,0,max 1 1⟩:Dv)=Dv.new D B P (lgN D B P):=rfl;dsimp only;rw[e];have h1:(Dv.new D B P (lgN D B P)).holds [] true=Dv.new D B P (lgN D B P):=rfl;have h2:(Dv.new D B P (lgN D B P)).holds [] false=Dv.new D B P (lgN D B P):=rfl;have h3:(Dv.new D B P (lgN D B P)).torn []=(Dv.new D B P (lgN D B P),0):=rfl;rw[h1,List.take_nil,List.drop_nil,h3];dsimp only;rw[if_neg (by simp),h2,c1];dsimp only;rw[if_neg (by simp),h3];dsimp only;rw[if_neg (by simp)];exact c2
theorem FI.new (fd:Int) {D B P:Nat} (hD:3<=D/\D<=6) (hB:8<=B/\B<=16) (hP:2<=P/\P<=8) (hlg:lgN D B P<=200):FI fd [] (lgN D B P) (Fv.of (Dv.new D B P (lgN D B P))):=
 ⟨Inv.new fd D B P _,⟨rfl,λ_ _ he=>(by cases he)⟩,λ_ _ he=>(by cases he),λ_ _ he=>(by cases he),(by
  show min (max ((lgN D B P:Nat):Int) 0) 65536=_;omega),rfl,hlg,λ_ he=>(by cases he),List.nodup_nil,rfl⟩
namespace Rmy
variable {fd : Int} {S : Dv} {k m β : Nat} {W : List (Int × En)}
theorem pens {E:List En} (h:Rmy fd W S) (hO:S.Ok (8*Dv.fuel+k) m) (hot:Hot2 fd S β) (hr:β<S.rows) (hf:∀e∈E,FitR e) (hl0:E.length≠0) (hnd:(E.map (·.lpn)).Nodup) (hlg:∀e∈E,e.lpn<S.T.logical) (hcap:2*S.T.logical.toNat<=(S.N.blocks-5)*(S.N.pages*(S.N.dies-2))+1) (hnx:S.next<=1099511627775-1200):
  ∃(V:Dv) (n β':Nat),S.pen E=(V,(n:Int),(0:Int))/\1<=n/\n<=E.length/\Rmy fd (J4 W E n) V/\V.Ok k m/\Hot2 fd V β'/\β'<=β/\S.rows+β'<=V.rows+1+β/\S.next<=V.next/\V.next<=S.next+21/\V.N.dead=S.N.dead/\V.N.broken=S.N.broken/\S.N.Like V.N/\V.T.logical=S.T.logical:=by
 obtain⟨V,n,γ,p1,p2,p3,p4⟩:=h.inv.pen_step (E:=E) hO hot hr hf hl0 hnd hlg hnx h.hd;obtain⟨g1,g2⟩:=p2.hot β hot;have hrw:=p2.rows;have hn:=p2.n1;have hlen:(J4 W E n).length=V.T.at_.length:=by
  have:=congrArg List.length p4.keys;simpa using this.symm
 have hal:=b3T p3.T;obtain⟨w1,_⟩:WOk (J4 W E n)/\True:=by
  refine⟨?_,trivial⟩;have:∀j,j<=E.length->WOk (J4 W E j):=by
   intro j
   induction j with
   | zero=>intro _;exact h.wok
   | succ j ih=>
    intro hj;rw[O1];exact(ih (by omega)).put (hf _ (D5 (by omega)))
  exact this n hn
 refine⟨V,n,β-γ,p1,p2.n3,p2.n1,⟨p2.inv,p4,w1,λb hb=>by rw[p2.has]at hb;rw[(p2.sb b hb).1];exact h.held b hb,λhd i j=>by rw[(p2.flags i j).2];exact h.ff (λi=>by rw[<- p2.dead];exact hd i) i j,?_⟩,p3,g2,by omega,by omega,p2.next.1,p2.next.2,p2.dead,p2.broken,p2.like,p2.logical⟩;rw[p2.like.blocks,p2.like.pages,p2.like.dies,hlen];rw[p2.logical]at hal;omega
end Rmy
theorem GI.new (fd:Int) (D B P:Nat) (lg:Int):GI fd [] (Dv.new D B P lg):=
 ⟨Inv.new _ _ _ _ _,⟨rfl,λi e he=>(by cases he)⟩,λi e he=>(by cases he),λi a ha=>(by cases ha),λb r _ _=> .none λd c hc=>(by
  have:(Dv.new D B P lg).N.pageAt d b r=none:=by show(Nand.new D B P).pageAt d b r=none;unfold Nand.pageAt Nand.new;simp
  rw[this]at hc;cases hc),λ_ _ _=>rfl⟩
structure FC (W:List (Int×En)) (lg:Nat) (F:Fv):Prop where
 fi:FI (-1) W lg F
 rmy:Rmy (-1) W F.S
 no:NoF F.S
 rows:5*F.S.N.pages<=F.S.rows+1
 cap:2*lg<=(F.S.N.blocks-5)*(F.S.N.pages*(F.S.N.dies-2))+1
 gi:GI (-1) W F.S
namespace FC
variable {W : List (Int × En)} {lg k m : Nat} {F : Fv}
theorem writes (h:FC W lg F) (hO:F.S.Ok (Dv.costM+(8*Dv.fuel+k)) m) (hnx:F.S.next<=1099511627775-30000000) (hl0:F.L.length≠0):
  ∃(F':Fv) (W':List (Int×En)),F.writes=(F',0)/\FC W' lg F'/\(∀i,cur W' F'.L i=cur W F.L i)/\F'.S.Ok k m/\F'.S.next<=F.S.next+7000/\F'.nx=F.nx/\F'.S.N.broken=F.S.N.broken/\F.S.N.Like F'.S.N/\F'.L.length<F.L.length:=by
 have hg:=hO.gd.ok.bd16;have htb:=hO.t.b;obtain⟨V,β',v1,v2,v3,v4,v5,v6,v7,v8,v9,v10,v11,v12,v13⟩:=h.rmy.room (k:=8*Dv.fuel+k) (hO.less (by
  have:Dv.costR*F.S.t.b<=Dv.costR*16:=Nat.mul_le_mul_left _ (by omega);unfold Dv.costM;omega)) (.calm h.no) (by have:=h.rows;omega) (by omega) (by omega)
 obtain rfl:β'=0:=by omega
 have hmany:=v2.many v3 v4;obtain⟨hg1,hg2⟩:=h.gi.room (k:=8*Dv.fuel+k) hO (.calm h.no) (by have:=h.fi.log;have:=h.fi.lg2;omega) (by omega);rw[v1]at hg1 hg2;have hg1:GI (-1) W V:=hg1;have hg2:Hot2 (-1) V 0:=hg2;have hp:=v11.pages;have hlog:=h.fi.log;have hcap:2*V.T.logical.toNat<=(V.N.blocks-5)*(V.N.pages*(V.N.dies-2))+1:=by
  have:=h.cap;rw[v12,hlog,v11.blocks,v11.pages,v11.dies];omega
 obtain⟨U,n,β2,u1,u2,u3,u4,u5,u6,u7,u8,u9,u10,u11,u12,u13,u14⟩:=v2.pens (E:=F.L) v3 v6 (by omega) (λe he=>(h.fi.des e he).1) hl0 h.fi.nd (λe he=>by rw[v12,hlog];exact(h.fi.des e he).2.2) hcap (by omega);obtain rfl:β2=0:=by omega
 have hgi:GI (-1) (J4 W F.L n) U:=by
  rcases hg1.pen v3 hg2 (λe he=>(h.fi.des e he).1) hl0 h.fi.nd (λe he=>by rw[v12,hlog];exact(h.fi.des e he).2.2) (by omega)with⟨_,hr0⟩ | ⟨U2,n2,q1,_,_,q2,_⟩
  ·omega
  ·rw[u1]at q1;injection q1 with q3 q4;injection q4 with q4 _;have q4:n=n2:=by omega
   rw[q3,q4];exact q2
 obtain⟨w1,w2⟩:=a5H h.fi.wok h.fi.wr (λe he=>⟨(h.fi.des e he).1,(h.fi.des e he).2.1⟩) n u3;have hUno:NoF U:=u6.nof;have hlk:F.S.N.Like U.N:=v11.trans u13;have hwr:F.writes=({F with S:=U,L:=F.L.drop n}.told 0,0):=by
  unfold Fv.writes;rw[v1];dsimp only;rw[if_neg (by decide),u1];dsimp only;rw[Int.toNat_natCast,a1I h.fi.nd]
 refine⟨_,J4 W F.L n,hwr,⟨⟨u4.inv,u4.hd,w1,w2,u14.trans (v12.trans hlog),?_,h.fi.lg2,λx hx=>h.fi.des x (List.mem_of_mem_drop hx),?_,?_⟩,u4,hUno,?_,?_,hgi⟩,a7P h.fi.nd n u3,u5,?_,rfl,u12.trans v10,hlk,?_⟩
 ·have:=h.fi.lgn;unfold Fv.lg at this ⊢;show((lgN U.N.dies U.N.blocks U.N.pages:Nat):Int)=_;rw[hlk.dies,hlk.blocks,hlk.pages];exact this
 ·show((F.L.drop n).map (·.lpn)).Nodup;rw[List.map_drop];exact h.fi.nd.sublist (List.drop_sublist _ _)
 ·show(F.off||(0:Int)==9)=false;rw[h.fi.off];rfl
 ·show 5*U.N.pages<=U.rows+1;rw[u13.pages];omega
 ·show 2*lg<=(U.N.blocks-5)*(U.N.pages*(U.N.dies-2))+1;rw[hlk.blocks,hlk.pages,hlk.dies];exact h.cap
 ·show U.next<=_;omega
 ·show(F.L.drop n).length<_;rw[List.length_drop];omega
theorem put (h:FC W lg F) {e:En} (he:FitR e/\e.role≠4/\e.lpn<(lg:Int)):FC W lg (F.put e)/\∀i,cur W (F.put e).L i=if i=e.lpn then e.data else cur W F.L i:=by
 obtain⟨h1,h2⟩:=h.fi.put he;exact⟨⟨h1,h.rmy,h.no,h.rows,h.cap,h.gi⟩,h2⟩
theorem slots (h:FC W lg F) (hO:F.S.Ok k m):1<=F.S.slots:=by
 have hg:=hO.gd.ok.bd16;exact(h.fi.inv.slots_pos hO (by have:=h.rows;omega)).2
theorem waits (h:FC W lg F) (hO:F.S.Ok (Dv.costM+(8*Dv.fuel+k)) m) (hnx:F.S.next<=1099511627775-30000000) {e:En} (he:FitR e/\e.role≠4/\e.lpn<(lg:Int)):
  ∃(F':Fv) (W':List (Int×En)),F.waits e=(F',0)/\FC W' lg F'/\(∀i,cur W' F'.L i=if i=e.lpn then e.data else cur W F.L i)/\F'.S.Ok k m/\F'.S.next<=F.S.next+7000/\F'.S.N.broken=F.S.N.broken/\F.S.N.Like F'.S.N:=by
 have hlp:=he.1.lpn;unfold Fv.waits;rw[h.fi.ask,h.fi.off,if_neg Bool.false_ne_true,h.fi.lgn,if_neg (by omega)]
 by_cases hs:(F.L.length:Int)>=F.S.slots
 ·rw[if_pos hs];have h1:=h.slots (hO.less (Nat.le_refl _));obtain⟨G,W',w1,w2,w3,w4,w5,_,w6,w7,_⟩:=h.writes hO hnx (by omega);rw[w1];dsimp only;rw[if_neg (by decide)];obtain⟨p1,p2⟩:=w2.put he;exact⟨_,W',rfl,p1,λi=>by rw[p2,w3],w4,w5,w6,w7⟩
 ·rw[if_neg hs];obtain⟨p1,p2⟩:=h.put he;exact⟨_,W,rfl,p1,p2,hO.less (by omega),by show F.S.next<=_;omega,rfl,Nand.Like.refl _⟩
theorem flush_go:∀(f:Nat) (F:Fv) (W:List (Int×En)) (k:Nat),FC W lg F->F.S.Ok (FI.costW*f+k) m->F.L.length<=f->F.S.next+7000*(f:Int)<=1099511627775-30000000->
  ∃(F':Fv) (W':List (Int×En)),Fv.flushGo f F=(F',0)/\FC W' lg F'/\F'.S.Ok k m/\F'.S.next<=F.S.next+7000*(f:Int)/\F'.S.N.broken=F.S.N.broken/\F.S.N.Like F'.S.N/\F'.L=[]/\∀i,cur W' F'.L i=cur W F.L i
 | 0,F,W,k,h,hO,hL,_=>⟨F,W,rfl,h,hO.less (by omega),by omega,rfl,Nand.Like.refl _,List.eq_nil_of_length_eq_zero (by omega),λ_=>rfl⟩
 | f+1,F,W,k,h,hO,hL,hnx=>by
  rw[Fv.flushGo]
  by_cases hl0:F.L.length=0
  ·rw[if_pos hl0];exact⟨F,W,rfl,h,hO.less (by omega),by omega,rfl,Nand.Like.refl _,List.eq_nil_of_length_eq_zero hl0,λ_=>rfl⟩
  ·rw[if_neg hl0];rw[Nat.mul_succ]at hO;obtain⟨G,W',w1,w2,w3,w4,w5,_,w6,w7,w8⟩:=h.writes (k:=FI.costW*f+k) (hO.less (by unfold FI.costW;omega)) (by omega) hl0;rw[w1];dsimp only;rw[if_neg (by decide)];obtain⟨F',W2,r1,r2,r3,r4,r5,r6,r7,r8⟩:=flush_go f G W' k w2 w4 (by omega) (by omega);exact⟨F',W2,r1,r2,r3,by omega,r5.trans w6,w7.trans r6,r7,λi=>(r8 i).trans (w3 i)⟩
theorem flush (h:FC W lg F) (hO:F.S.Ok (FI.costW*200+k) m) (hnx:F.S.next<=1099511627775-50000000):
  ∃(F':Fv) (W':List (Int×En)),F.flush=(F',0)/\FC W' lg F'/\F'.S.Ok k m/\F'.S.next<=F.S.next+1400000/\F'.S.N.broken=F.S.N.broken/\F.S.N.Like F'.S.N/\F'.L=[]/\∀i,cur W' F'.L i=cur W F.L i:=by
 unfold Fv.flush;rw[h.fi.ask,h.fi.off,if_neg Bool.false_ne_true];have hl:=h.fi.len;have h2:=h.fi.lg2;have hm:FI.costW*F.L.length<=FI.costW*200:=Nat.mul_le_mul_left _ (by omega);obtain⟨F',W',r1,r2,r3,r4,r5⟩:=flush_go F.L.length F W k h (hO.less (by omega)) (Nat.le_refl _) (by omega);exact⟨F',W',r1,r2,r3,by omega,r5⟩
theorem new {D B P:Nat} (hD:3<=D/\D<=6) (hB:8<=B/\B<=16) (hP:2<=P/\P<=8) (hlg:lgN D B P<=200) (hcap:2*lgN D B P<=(B-5)*(P*(D-2))+1):FC [] (lgN D B P) (Fv.of (Dv.new D B P (lgN D B P))):=by
 refine⟨FI.new (-1) hD hB hP hlg,⟨Inv.new _ _ _ _ _,⟨rfl,λi e he=>(by cases he)⟩,λi e he=>(by cases he),λb _=>?_,λ_ _ _=>rfl,by simp⟩,NoF.new _ _ _ _,?_,hcap,GI.new _ _ _ _ _⟩
 ·show((Tl.new D B P).at_ b).held=false;rw[a8P];rfl
 ·show 5*P<=(Dv.new D B P (lgN D B P)).rows+1;rw[b0c];have:P*8<=P*B:=Nat.mul_le_mul_left _ hB.1;omega
end FC
theorem V.nextOf_le {c:Int} (hc:1<=c):∀(n:Nat) (l:List Fnd),l.length=n->(∀f∈l,f.en.seq+1<=c)->V.nextOf l<=c
 | 0,l,hl,_=>by rw[List.eq_nil_of_length_eq_zero hl];exact hc
 | n+1,l,hl,h=>by
  obtain⟨l',x,rfl⟩:∃l' x,l=l'++[x]:=⟨l.dropLast,l.getLast (λe=>by rw[e]at hl;cases hl),(List.dropLast_concat_getLast _).symm⟩;have hl':l'.length=n:=by simpa using hl
  rw[V.nextOf_snoc];have h1:=V.nextOf_le hc n l' hl' λf hf=>h f (List.mem_append_left _ hf);have h2:=h x (by simp);omega
theorem a1f {t:Tl} (hl:t.l.length=t.b):t.blanks=(List.range t.b).countP λi:Nat=>!(t.at_ (i:Nat)).used:=by
 unfold Tl.blanks Tl.at_;rw[Inv.countP_range_get _ Sb.zero,hl];simp
namespace GI
variable {fd : Int} {W : List (Int × En)} {S : Dv} {k m : Nat}
theorem next_le (h:GI fd W S) (hO:S.Ok k m):(Dv.mt0 S.N).next<=max S.next 1:=by
 have hg:=hO.gd.ok.bd16;have h1:=V.nextOf_le (c:=max S.next 1) (by omega) _ _ rfl λf hf=>by
  obtain⟨b,r,hb,hr,hfr⟩:=V.mem_all.1 hf;rcases(h.dsc b r hb hr).fnd h.inv.lit.off hg.1 hfr with⟨a,ha,hlt⟩ | ⟨⟨w,a,_,ha,hlt⟩,_⟩
  ·have:=(h.inv.st _ a ha).seq;omega
  ·have:=(h.inv.st _ a ha).seq;omega
 show max (V.nextOf (V.all S.N)) 1<=_;omega
theorem rows_mt {V:Dv} (h:GI fd W S) (hO:S.Ok k m) (hlog:S.T.logical=(lgN S.N.dies S.N.blocks S.N.pages:Int)) (hV:V.Ok k m) (hI:Inv fd V) (hT:V.T=(Dv.mt0 S.N).T) (hop:V.op= -1) (hlk:S.N.Like V.N) (hheld:∀b,V.t.has b=true->(V.t.at_ b).held=false) (hsp:f8 (j6 V.t V.T) V.op V.t.b=[]):S.rows<=V.rows+S.N.pages:=by
 obtain⟨W',_,_,hG,_,hblk⟩:=h.mt0 hO hlog;have hb1:=hO.t.b;have hb2:=hV.t.b;have hb3:=hlk.blocks;have hrow:=hO.row;have hbl:S.t.blanks<=V.t.blanks:=by
  rw[a1f hO.t.len,a1f hV.t.len,show V.t.b=S.t.b from by omega];refine List.countP_mono_left λx hx hu=>?_;have hx:=List.mem_range.1 hx;have hhas:S.t.has (x:Int)=true:=Tl.has_iff.2 (by omega);have hhasV:V.t.has (x:Int)=true:=Tl.has_iff.2 (by omega);cases huV:(V.t.at_ (x:Nat)).used with
  | false=>rfl
  | true=>
   exfalso
   have hc:¬V.T.count (x:Int)=0:=λhc=>by
    have:(x:Int)∈f8 (j6 V.t V.T) V.op V.t.b:=mem_pkSome.2 ⟨by omega,by omega,by omega,by
     unfold j6;rw[hI.usable hV hhasV,hc];unfold Tl.blank Tl.held;rw[hhasV,huV,hheld _ hhasV];rfl⟩
    rw[hsp]at this;cases this
   have hcn:=hV.T.cnt (x:Int);obtain⟨y,hy,hyb⟩:=List.countP_pos_iff.1 (show 0<V.T.at_.countP λz=>z.2.block==(x:Int)by unfold Tb.cntB at hcn;omega);have hl:=a0P hV.T hy;rw[hT]at hl;obtain⟨a,ha,hab⟩:=hblk _ _ hl;have hus:=(h.inv.st _ a ha).used;rw[<- hab,show y.2.block=(x:Int)from by simpa using hyb]at hus;rw[hus]at hu;cases hu
 unfold Dv.rows;rw[hop,if_neg (show¬(-1:Int)>=0 by decide),hlk.pages];have:=Nat.mul_le_mul_left S.N.pages hbl;split<;>omega
end GI
def Nand.cyc (N:Nand):Nand:=(N.setCut (-1) 0).onN
theorem Nand.cyc_same (N:Nand) (h:N.Lit):N.Like N.cyc/\N.cyc.blk=N.blk/\N.cyc.dead=N.dead/\N.cyc.plan=N.plan/\N.cyc.broken=N.broken/\N.cyc.Lit:=by
 have e:N.cyc={N with cuts:=false,left:= -1,keep:=0,off:=false}:=by
  unfold Nand.cyc Nand.setCut Nand.onN;rw[h.off];rfl
 rw[e];exact⟨⟨rfl,rfl,rfl⟩,rfl,rfl,rfl,rfl,⟨rfl,rfl⟩⟩
theorem b0e {N N':Nand} (hl:N.Like N') (ho:N'.off=N.off) (hd:N'.dead=N.dead) (hb:N'.blk=N.blk) (b r s m:Int):R.read N' b r s m=R.read N b r s m:=by
 have hlook:∀d:Int,M.look N' d b r=M.look N d b r:=λd=>by
  have hr:N'.refuses d b r=N.refuses d b r:=by
   unfold Nand.refuses;rw[ho,hl.dies,hl.blocks,hl.pages,hd]
  have hp:N'.pageAt d b r=N.pageAt d b r:=by unfold Nand.pageAt;rw[hb]
  have h1:N'.readE d b r=N.readE d b r:=by unfold Nand.readE;rw[hr,hp]
  have h2:N'.readV d b r=N.readV d b r:=by unfold Nand.readV;rw[hr,hp]
  unfold M.look;simp only[h1,h2]
 have h2:R.look N' b r m=R.look N b r m:=by
  unfold R.look R.ones R.one;simp only[hlook]
 unfold R.read;rw[h2,hl.dies,hl.blocks,hl.pages,ho]
namespace FC
variable {W : List (Int × En)} {lg k m : Nat} {F : Fv}
theorem Inv.cyc {fd:Int} {S:Dv} (h:Inv fd S):Inv fd {S with N:=S.N.cyc}:=by
 obtain⟨c1,c2,c3,c4,c5,c6⟩:=S.N.cyc_same h.lit;refine⟨c6,λi hi=>by show S.N.cyc.dead.getD i false=false;rw[c3];exact h.dead i hi,λa ha=>h.plan a (by rw[<- c4];exact ha),λi j hi=>by show(S.N.cyc.blk i j).met=false/\(S.N.cyc.blk i j).fails=false;rw[c2];exact h.flags i j hi,h.tdead,h.tbad,?_,λb hb hu d hd=>by show(S.N.cyc.blk d b.toNat).cells=[];rw[c2];exact h.blank b hb hu d hd,λi a ha=>?_⟩
 ·rcases h.op with e | e
  ·exact .inl e
  ·refine .inr ⟨by have:=e.blk;show 0<=S.op/\S.op<(S.N.cyc.blocks:Int);rw[c1.blocks];exact this,e.used,by have:=e.row;show 0<=S.row/\S.row<=(S.N.cyc.pages:Int);rw[c1.pages];exact this,by have:=e.mask;show Msk S.N.cyc.dies fd S.mask;rw[c1.dies];exact this,λd hd=>by
    show((S.N.cyc.blk d S.op.toNat).cells.length:Int)<=S.row/\(S.N.cyc.dead.getD d false=false->((S.N.cyc.blk d S.op.toNat).cells.length:Int)=S.row);rw[c2,c3];exact e.cells d hd⟩
 ·have hs:=h.st i a ha;obtain⟨l,g1,g2⟩:=hs.row;exact⟨⟨l,g1.keep c1 λx _=>(by unfold Nand.pageAt;rw[c2]),g2⟩,hs.used,hs.below,hs.seq⟩
theorem Hd.cyc {S:Dv} (h:Hd S W) (hl:S.N.Lit):Hd {S with N:=S.N.cyc} W:=by
 obtain⟨c1,c2,c3,c4,c5,c6⟩:=S.N.cyc_same hl;refine⟨h.keys,λi e he=>?_⟩;obtain⟨h1,a,h2,h3⟩:=h.each i e he;refine⟨h1,a,h2,?_⟩;show R.read S.N.cyc _ _ _ _=_;rw[b0e c1 (c6.off.trans hl.off.symm) c3 c2];exact h3
theorem GI.cyc {fd:Int} {S:Dv} (h:GI fd W S):GI fd W {S with N:=S.N.cyc}:=by
 obtain⟨c1,c2,c3,c4,c5,c6⟩:=S.N.cyc_same h.inv.lit;exact h.same c1 c2 c3 c4 c6 (Inv.cyc h.inv) (Hd.cyc h.hd h.inv.lit)
end FC
structure Fl where
 at_:Int
 kind:Int
 x:Int
 y:Int
 z:Int
 n:Int
 xx:Int
deriving DecidableEq
def dF:Fl:=⟨0,0,0,0,0,0,0⟩
def flC (f:Fl):List Value:=[iI f.at_,iI f.kind,iI f.x,iI f.y,iI f.z,iI f.n,iI f.xx]
def flV (f:Fl):Value:= .agg #[iI f.at_,iI f.kind,iI f.x,iI f.y,iI f.z,iI f.n,iI f.xx]
def i5 (l:List Fl):List Value:=l.flatMap flC
theorem C3 (l:List Fl):(i5 l).length=l.length*7:=by
 induction l with
 | nil=>rfl
 | cons x l ih=>simp only[i5,List.flatMap_cons,List.length_append,List.length_cons]at ih ⊢;rw[ih,show(flC x).length=7 from rfl];omega
theorem D9:∀(l:List Fl) (r:List Value) (k:Nat) (x:Fl),l[k]? =some x->((i5 l++r).drop (k*7)).take 7=flC x
 | [],_,_,_,h=>by simp at h
 | y::l,r,0,x,h=>by simp at h;subst h;simp[i5,flC]
 | y::l,r,k+1,x,h=>by
  have:=D9 l r k x (by simpa using h);rw[show(k+1)*7=7+k*7 from by omega,<- List.drop_drop,show(i5 (y::l)++r).drop 7=i5 l++r from rfl];exact this
theorem M3:∀(l:List Fl) (r:List Value) (k:Nat) (x:Fl),k<l.length->(i5 l++r).take (k*7)++flC x++(i5 l++r).drop (k*7+7)=i5 (l.set k x)++r
 | [],_,_,_,h=>by simp at h
 | y::l,r,0,x,h=>by rw[Nat.zero_mul,List.take_zero];rfl
 | y::l,r,k+1,x,h=>by
  have:=M3 l r k x (by simpa using h);rw[List.set_cons_succ,show i5 (y::l)++r=flC y++(i5 l++r)from by simp[i5],show(k+1)*7=(flC y).length+k*7 from by show _=7+k*7;omega,List.take_length_add_append,show(flC y).length+k*7+7=(flC y).length+(k*7+7)from by omega,List.drop_length_add_append,List.append_assoc,List.append_assoc,<- List.append_assoc (List.take _ _),this];simp[i5]
def a4l (l:List Fl) (j:Nat):List Fl:=(l.set j (l.getD (j-1) dF)).set (j-1) (l.getD j dF)
def a2T (f:Fl->Fl->Int):Nat->List Fl->List Fl
 | 0,l=>l
 | j+1,l=>if f (l.getD (j+1) dF) (l.getD j dF)<0 then a2T f j (a4l l (j+1))else l
def E6 (f:Fl->Fl->Int) (l:List Fl):Nat->List Fl
 | 0=>l
 | k+1=>a2T f (k+1) (E6 f l k)
def B8 (f:Fl->Fl->Int) (l:List Fl):List Fl:=E6 f l (l.length-1)
theorem a0F (l:List Fl) (j:Nat):(a4l l j).length=l.length:=by simp[a4l]
theorem a9W (l:List Fl) (j:Nat) (h:j+1<l.length):(a4l l (j+1)).Perm l:=by
 induction l generalizing j with
 | nil=>simp at h
 | cons x l ih=>
  cases j with
  | zero=>
   cases l with
   | nil=>simp at h
   | cons y l=>simp only[a4l,List.set_cons_succ,List.set_cons_zero,Nat.add_sub_cancel,Nat.zero_add,List.getD_cons_zero,List.getD_cons_succ];exact List.Perm.swap _ _ _
  | succ j=>
   have:=ih j (by simpa using h);simp only[a4l,Nat.add_sub_cancel,List.set_cons_succ,List.getD_cons_succ]at this ⊢;exact this.cons x
theorem a0l (f:Fl->Fl->Int):∀(j:Nat) (l:List Fl),j<l.length->(a2T f j l).Perm l
 | 0,l,_=>List.Perm.refl _
 | j+1,l,h=>by
  unfold a2T;split
  ·exact(a0l f j _ (by rw[a0F];omega)).trans (a9W l j h)
  ·exact List.Perm.refl _
theorem a0S (f:Fl->Fl->Int) (l:List Fl):∀k,k<l.length->(E6 f l k).Perm l/\(E6 f l k).length=l.length
 | 0,_=>⟨List.Perm.refl _,rfl⟩
 | k+1,h=>by
  obtain⟨h1,h2⟩:=a0S f l k (by omega);exact⟨(a0l f (k+1) _ (by omega)).trans h1,by rw[E6,(a0l f (k+1) _ (by omega)).length_eq,h2]⟩
theorem a1Z (f:Fl->Fl->Int) (l:List Fl):(B8 f l).Perm l:=by
 cases l with
 | nil=>exact List.Perm.refl _
 | cons x l=>exact(a0S f (x::l) _ (by simp)).1
theorem a4J (f:Fl->Fl->Int):∀(j:Nat) (l:List Fl),(a2T f j l).length=l.length
  | 0,l=>rfl
  | j + 1, l => by unfold a2T; split
                   · rw[a4J f j,a0F]
                   · rfl
theorem a2a (f:Fl->Fl->Int) (l:List Fl):∀k,(E6 f l k).length=l.length
 | 0=>rfl
 | k+1=>by rw[E6,a4J,a2a f l k]
theorem b5o (c:Nat) (f:Fl->Fl->Int) (hcal:n9 Tryz.prog c=true) (hf:∀x y,Fn Tryz.prog c [flV x,flV y] [] (Ps (iI (f x y)) []))
  (g n cap:Nat) (l:List Fl) (hl:l.length=n) (hn:n<=4611686018427387904) (r:List Value):FP 206 [.slice (some ⟨g,0,none⟩) n cap,iI 0,iI n,fnV c] [.pt g 34 (i5 l++r)]
  (Ps (.tuple #[]) [.pt g 34 (i5 (B8 f l)++r)]):=by
 refine FE [2,0,0,0] Tryz.func206 λX F hX=>?_;refine J.q λ_=>?_;refine J.l (α:=Nat) (λi=>1<=i/\i<=max 1 n) (λi=>[si 8 i,⟨0, .slice (some ⟨g,0,none⟩) n cap,2, .tt⟩,si 1 0,si 2 n,⟨3,fnV c,0, .tt⟩]) [1] (λi=>[.pt g 34 (i5 (E6 f l (i-1))++r)]) (λi=>n-i) (1) (⟨by omega,by omega⟩) λi hI=>?_;refine J.qd (λ_ h1=>?_) λ_ h1=>?_
 ·simp only[decide_eq_true_eq,Int.ofNat_lt]at h1;refine J.q λ_=>?_;refine J.l (α:=(Nat×List Fl)) (λy=>y.1<=i/\y.2.length=n/\a2T f y.1 y.2=E6 f l i) (λy=>[si 9 y.1,si 8 i,⟨0, .slice (some ⟨g,0,none⟩) n cap,2, .tt⟩,si 1 0,si 2 n,⟨3,fnV c,0, .tt⟩]) [1] (λy=>[.pt g 34 (i5 y.2++r)]) (λy=>y.1) ((i,E6 f l (i-1))) (⟨Nat.le_refl _,by rw[a2a,hl],by obtain⟨k,rfl⟩:∃k,i=k+1:=⟨i-1,by omega⟩;rfl⟩) λy hI=>?_;obtain⟨j,m⟩:=y;dsimp only at hI ⊢;have hget:∀e,e<n->m[e]? =some (m.getD e dF):=λe he=>by rw[List.getD_eq_getElem?_getD,List.getElem?_eq_getElem (by omega),Option.getD_some]
  rcases Nat.eq_zero_or_pos j with h2 | h2
  ·subst h2;refine J.pn 4 (.of [0,4,8,12,16,20,24,28,33,36,40,44,48,53,58,60,64]) [] [1] λ_ _=>?_;rw[show decide (((0:Nat):Int)>0)=false from rfl];refine J.q λ_=>?_;refine J.vT (flV dF) rfl rfl (λhg a w he hC=>by simp[G.on]at hg) ?_;refine J.q λ_=>?_;refine J.vT (flV dF) rfl rfl (λhg a w he hC=>by simp[G.on]at hg) ?_;refine J.q λ_=>?_;refine J.gcase hX rfl rfl rfl ⟨rfl,trivial⟩ (λh=>by cases h) (λ_=>?_);refine J.vT (.bool false) rfl rfl (λhg a w he hC=>by simp[G.on]at hg) ?_;refine J.qF λ_=>?_;have hm:m=E6 f l (i+1-1):=hI.2.2;rw[hm];refine J.q λ_=>?_;refine J.n (i+1) (⟨by omega,by omega⟩) (by omega) [0,1]
  ·obtain⟨j,rfl⟩:∃k,j=k+1:=⟨j-1,by omega⟩;refine J.pn 4 (.of [0,4,8,12,16,20,24,28,33,36,40,44,48,53,58,60,64]) [] [1] λ_ _=>?_;rw[show decide (((j+1:Nat):Int)>0)=true from decide_eq_true (by omega)];refine J.q λ_=>?_;refine J.vT (flV (m.getD (j+1) dF)) rfl rfl (λhg a w he hC=>?_) ?_
   ·exact l8 tk rfl rfl he hg rfl rfl (hC rfl _ (j3 (i:=1) rfl)) (by rw[show 0+((j+1:Nat):Int).toNat*7=(j+1)*7 from by omega];exact D9 m r _ _ (hget _ (by omega))) rfl
   refine J.q λ_=>?_;refine J.vT (flV (m.getD j dF)) rfl rfl (λhg a w he hC=>?_) ?_
   ·exact l8 tk rfl rfl he hg rfl rfl (hC rfl _ (j3 (i:=1) rfl)) (by rw[show 0+(((j+1:Nat):Int)-1).toNat*7=j*7 from by omega];exact D9 m r _ _ (hget _ (by omega))) rfl
   refine J.q λ_=>?_;refine J.call hX hcal (hf (m.getD (j+1) dF) (m.getD j dF)) [] 0 rfl rfl rfl rfl (by(repeat' (first | exact Conj.nil | refine Conj.cons ?_ ?_ | omega | exact hq0 | (simpa using hq0) | (exactλh=>h) | exact rfl | (intro hq;have hq0:=hq;try simp only[Bool.and_eq_true,Bool.or_eq_true,decide_eq_true_eq,Bool.not_eq_true',decide_eq_false_iff_not]at hq) | (simp;done) | (simp;omega) | decide))) rfl rfl (λ_=>rfl) ?_;refine cpq ⟨_,rfl,⟨rfl,trivial⟩,?_⟩;refine J.qd (λ_ h3=>?_) λ_ h3=>?_
   ·simp only[Bool.true_and,decide_eq_true_eq]at h3;refine J.pq (.take true 0 (.take true 1 (.take true 2 (.take true 3 (.take true 4 (.take true 5 (.take true 6 (.take true 7 (.take true 8 (.take true 10 (.take true 11 (.take true 12 (.alt false 9 ((.of [54,56,62,64,71])) (.alt false 13 ((.of [38,56,62,64,71])) .non)))))))))))))) [16,17] [] λ_ _=>?_;refine J.alts ?_ ?_
    ·refine J.v (flV (m.getD j dF)) rfl rfl (λhg a w he hs=>?_) ?_
     ·exact l8 tk rfl rfl he hg rfl rfl (hs.get (i:=1) rfl) (by rw[show 0+(((j+1:Nat):Int)-1).toNat*7=j*7 from by omega];exact D9 m r _ _ (hget _ (by omega))) rfl
     refine J.q λ_=>?_;refine J.v (flV (m.getD (j+1) dF)) rfl rfl (λhg a w he hs=>?_) ?_
     ·exact l8 tk rfl rfl he hg rfl rfl (hs.get (i:=1) rfl) (by rw[show 0+((j+1:Nat):Int).toNat*7=(j+1)*7 from by omega];exact D9 m r _ _ (hget _ (by omega))) rfl
     refine J.q λ_=>?_;refine J.storeN hX tk 1 rfl rfl rfl rfl rfl rfl rfl rfl rfl rfl rfl rfl rfl ?_ (i5 (m.set (j+1) (m.getD j dF))++r) ?_ rfl (λ_=>rfl) ⟨trivial,?_⟩
     ·rw[List.length_append,C3];show 0+((j+1:Nat):Int).toNat*7+7<=_;omega
     ·rw[show 0+((j+1:Nat):Int).toNat*7=(j+1)*7 from by omega];exact M3 m r (j+1) _ (by omega)
     refine J.q λ_=>?_;refine J.storeN hX tk 1 rfl rfl rfl rfl rfl rfl rfl rfl rfl rfl rfl rfl rfl ?_ (i5 (a4l m (j+1))++r) ?_ rfl (λ_=>rfl) ⟨trivial,?_⟩
     ·rw[List.length_append,C3,List.length_set];show 0+(((j+1:Nat):Int)-1).toNat*7+7<=_;omega
     ·rw[show 0+(((j+1:Nat):Int)-1).toNat*7=j*7 from by omega];exact M3 _ r j _ (by rw[List.length_set];omega)
     refine J.q λ_=>?_;rw[show((j+1:Nat):Int)-1=(j:Int)from by omega];refine J.q λ_=>?_;refine J.n ((j,a4l m (j+1))) (⟨by dsimp only;omega,by rw[a0F];exact hI.2.1,by rw[<- hI.2.2];exact(if_pos h3).symm⟩) (by dsimp only;omega) [0,1]
    ·refine J.v (flV (m.getD (j+1) dF)) rfl rfl (λhg a w he hs=>?_) ?_
     ·exact l8 tk rfl rfl he hg rfl rfl (hs.get (i:=1) rfl) (by rw[show 0+((j+1:Nat):Int).toNat*7=(j+1)*7 from by omega];exact D9 m r _ _ (hget _ (by omega))) rfl
     refine J.q λ_=>?_;refine J.v (flV (m.getD j dF)) rfl rfl (λhg a w he hs=>?_) ?_
     ·exact l8 tk rfl rfl he hg rfl rfl (hs.get (i:=1) rfl) (by rw[show 0+(((j+1:Nat):Int)-1).toNat*7=j*7 from by omega];exact D9 m r _ _ (hget _ (by omega))) rfl
     refine J.q λ_=>?_;refine J.storeN hX tk 1 rfl rfl rfl rfl rfl rfl rfl rfl rfl rfl rfl rfl rfl ?_ (i5 (m.set (j+1) (m.getD j dF))++r) ?_ rfl (λ_=>rfl) ⟨trivial,?_⟩
     ·rw[List.length_append,C3];show 0+((j+1:Nat):Int).toNat*7+7<=_;omega
     ·rw[show 0+((j+1:Nat):Int).toNat*7=(j+1)*7 from by omega];exact M3 m r (j+1) _ (by omega)
     refine J.q λ_=>?_;refine J.storeN hX tk 1 rfl rfl rfl rfl rfl rfl rfl rfl rfl rfl rfl rfl rfl ?_ (i5 (a4l m (j+1))++r) ?_ rfl (λ_=>rfl) ⟨trivial,?_⟩
     ·rw[List.length_append,C3,List.length_set];show 0+(((j+1:Nat):Int)-1).toNat*7+7<=_;omega
     ·rw[show 0+(((j+1:Nat):Int)-1).toNat*7=j*7 from by omega];exact M3 _ r j _ (by rw[List.length_set];omega)
     refine J.q λ_=>?_;rw[show((j+1:Nat):Int)-1=(j:Int)from by omega];refine J.q λ_=>?_;refine J.n ((j,a4l m (j+1))) (⟨by dsimp only;omega,by rw[a0F];exact hI.2.1,by rw[<- hI.2.2];exact(if_pos h3).symm⟩) (by dsimp only;omega) [0,1]
   ·simp only[Bool.true_and,decide_eq_false_iff_not]at h3;have hm:m=E6 f l (i+1-1):=by rw[show i+1-1=i from rfl,<- hI.2.2];exact(if_neg h3).symm
    rw[hm];refine J.q λ_=>?_;refine J.n (i+1) (⟨by omega,by omega⟩) (by omega) [0,1]
 ·simp only[decide_eq_false_iff_not,Int.ofNat_lt]at h1;have hi:E6 f l (i-1)=B8 f l:=by
   rw[B8,hl,show i-1=n-1 from by omega]
  rw[hi];refine J.q λ_=>?_;refine J.f [1] ?_;exact⟨rfl,rfl⟩
def Z6 (f n t l p d:Nat) (F:Fv):Atom:= .pt f 123 [pp n,pp t,pp l,pp p,pp d,iI F.nx, .bool F.off]
def FvP (f p n t l d:Nat) (F:Fv):List Atom:=[Z6 f n t l p d F,Q4 p n t l F.S,i7 n F.S.N,TlA t F.S.t,TbA l F.S.T,R3 d F.L]
theorem K0 (f n t l p d:Nat) (Z:Fv) (hN:Z.S.N.Ok):FP 52 [pp f] [Z6 f n t l p d Z,i7 n Z.S.N] (Ps (iI Z.lg) [Z6 f n t l p d Z,i7 n Z.S.N]):=by
 have hbd:=hN.bd16;have hlg:=b2K Z.S.N.dies Z.S.N.blocks Z.S.N.pages (by omega) (by omega);refine FE [2] Tryz.func52 λX F hX=>?_;refine J.qF λ_=>?_;refine J.qp (Q6 n Z.S.N) [2] λ_=>?_;refine J.qp (a1B Z.S.N.dies Z.S.N.blocks Z.S.N.pages hN.geo) [] λ_=>?_;rw[hlg];exact J.qx [1,2]
theorem P8 (f n t l p d:Nat) (Z:Fv):FP 67 [pp f] [Z6 f n t l p d Z,i7 n Z.S.N] (Ps (iI (if Z.ask.off=true then 9 else 0)) [Z6 f n t l p d Z.ask,i7 n Z.S.N]):=by
 have hask:Z6 f n t l p d Z.ask= .pt f 123 [pp n,pp t,pp l,pp p,pp d,iI Z.nx, .bool (Z.off||Z.S.N.off)]:=rfl;have hoa:Z.ask.off=(Z.off||Z.S.N.off):=rfl;rw[hask,hoa];unfold Z6;generalize Z.off=o;refine FE [2] Tryz.func67 λX F hX=>?_;refine J.qF λ_=>?_;refine J.q λ_=>?_;refine J.gcase hX rfl rfl rfl trivial (λhb=>?_) (λhb=>?_)
 ·rw[Bool.not_eq_true']at hb;subst hb;refine J.qp (a0O n Z.S.N) [2] λ_=>?_;refine J.qd (λ_ h1=>?_) λ_ h1=>?_
  ·simp only[Bool.false_or,Bool.not_not]at h1;refine J.qr [1,2] λ_=>?_;rw[h1];exact⟨rfl,rfl⟩
  ·simp only[Bool.false_or,Bool.not_not]at h1;refine J.qr [1,2] λ_=>?_;rw[h1];exact⟨rfl,rfl⟩
 ·rw[Bool.not_eq_false']at hb;subst hb;refine J.q λ_=>?_;refine J.v (.bool false) rfl rfl (λhg a w he hw=>by simp[G.on]at hg) ?_;refine J.qT λ_=>?_;exact J.qx [1,2]
theorem a6o (f n t l p d:Nat) (Z:Fv) (e:Int):FP 76 [pp f,iI e] [Z6 f n t l p d Z] (Ps (iI e) [Z6 f n t l p d (Z.told e)]):=by
 refine FE [2,0] Tryz.func76 λX F hX=>?_;exact J.qx [1]
abbrev a4v (d:List UInt8):Value:= .agg (o0 d).toArray
theorem Fv.slot_bd {S:Dv} {k m:Nat} (hO:S.Ok k m) (i:Int):0<=((Tb.look S.T.at_ i).getD AtV.zero).slot/\((Tb.look S.T.at_ i).getD AtV.zero).slot<=1000:=by
 cases hl:Tb.look S.T.at_ i with
 | none=>show(0:Int)<=0/\(0:Int)<=1000;omega
 | some a=>exact hO.sl _ (Tb.look_mem hl)
theorem a0d (f p n t l d:Nat) (Z:Fv) (k m:Nat) (hO:Z.Ok k m) (i:Int):FP 46 [pp f,iI i] (FvP f p n t l d Z)
  (λv As=>v= .tuple #[a4v (Z.read i).2.1,iI (Z.read i).2.2]/\As=FvP f p n t l d (Z.read i).1):=by
 have hlen:=hO.len;have hN:=hO.dv.gd.ok;refine FE [2,0] Tryz.func46 λX F hX=>?_;refine J.q λbz=>?_;refine J.cb (P8 f n t l p d Z) [1,3] ?_;refine cpq ⟨_,rfl,trivial,?_⟩;have hrd:Z.read i=(if Z.ask.off=true then(Z.ask,zeros16,9)else if i<0\/i>=Z.ask.lg then(Z.ask,zeros16,3)else(Z.ask,Z.ask.get i)):=rfl;obtain⟨Y,hY⟩:∃Y,Y=Z.ask:=⟨_,rfl⟩;have e1:Z.S=Y.S:=by rw[hY];rfl
 have e2:Z.L=Y.L:=by rw[hY];rfl
 rw[<- hY,e1,e2];rw[<- hY]at hrd;rw[e1]at hN;rw[e2]at hlen;cases ho:Y.off with
 | true=>
  rw[ho,if_pos rfl]at hrd;refine J.qT λ_=>?_;refine J.qr [1,2,3,4,5,6] λ_=>?_;rw[hrd];exact⟨rfl,rfl⟩
 | false=>
  rw[ho,if_neg Bool.false_ne_true]at hrd;refine J.qF λ_=>?_;refine J.q λ_=>?_;refine J.gcase hX rfl rfl rfl trivial (λhb=>?_) (λhb=>?_)
  ·have hi:decide (i<0)=false:=by simpa using hb
   rw[hi];refine J.qp (K0 f n t l p d Y hN) [1,3] λ_=>?_;simp only[decide_eq_false_iff_not]at hi;refine J.qd (λ_ h1=>?_) λ_ h1=>?_
   ·simp only[Bool.false_or,ge_iff_le,decide_eq_true_eq]at h1;rw[if_pos (.inr h1)]at hrd;refine J.qr [1,2,3,4,5,6] λ_=>?_;rw[hrd];exact⟨rfl,rfl⟩
   simp only[Bool.false_or,ge_iff_le,decide_eq_false_iff_not]at h1;rw[if_neg (by omega)]at hrd;refine J.qp (b5X d Y.L (by omega) i) [6] λ_=>?_;have hge:Y.get i=(if(T8 Y.L i).2=true then((T8 Y.L i).1.data,0)else match Tb.look Y.S.T.at_ i with
    | none=>(zeros16,0)
    | some a=>if a.role=2 then(zeros16,0)else if a.role=4 then(zeros16,10)else
     let x:=R.read Y.S.N a.block a.row a.slot a.mask
     if x.2≠0\/x.1.lpn≠i\/x.1.seq≠a.seq then(zeros16,10)else(x.1.data,0):List UInt8×Int):=rfl
   obtain⟨⟨we,wb⟩,hw⟩:∃w,w=T8 Y.L i:=⟨_,rfl⟩;rw[<- hw]at hge ⊢;dsimp only at hge ⊢;refine J.qd (λ_ h2=>?_) λ_ h2=>?_
   ·rw[if_pos h2]at hge;refine J.qr [1,2,3,4,5,6] λ_=>?_;rw[hrd,hge];exact⟨rfl,rfl⟩
   rw[h2,if_neg Bool.false_ne_true]at hge;refine J.qp (a1o l Y.S.T i) [5] λ_=>?_;obtain⟨a,ha⟩:∃a,a=(Tb.look Y.S.T.at_ i).getD AtV.zero:=⟨_,rfl⟩;obtain⟨is,his⟩:∃b,b=(Tb.look Y.S.T.at_ i).isSome:=⟨_,rfl⟩;have hslot:=Fv.slot_bd hO.dv i;rw[e1]at hslot;rw[<- ha]at hslot;rw[<- ha,<- his];cases is with
   | false=>
    cases hl:Tb.look Y.S.T.at_ i with
    | some x=>rw[hl]at his;cases his
    | none=>
     rw[hl]at hge;refine J.q λbd=>?_;refine J.cT ?_;refine J.qr [1,2,3,4,5,6] λ_=>?_;rw[hrd,hge];exact⟨rfl,rfl⟩
   | true=>
    cases hl:Tb.look Y.S.T.at_ i with
    | none=>rw[hl]at his;cases his
    | some x=>
     rw[hl]at ha hge;obtain rfl:a=x:=ha;dsimp only at hge;refine J.q λbd=>?_;refine J.cond rfl (λh3=>?_) (λh3=>?_)
     ·simp only[Bool.not_true,Bool.false_or,beq_iff_eq]at h3;rw[if_pos h3]at hge;refine J.qr [1,2,3,4,5,6] λ_=>?_;rw[hrd,hge];exact⟨rfl,rfl⟩
     simp only[Bool.not_true,Bool.false_or,beq_eq_false_iff_ne,ne_eq]at h3;rw[if_neg h3]at hge;refine J.qd (λ_ h4=>?_) λ_ h4=>?_
     ·simp only[beq_iff_eq]at h4;rw[if_pos h4]at hge;refine J.qr [1,2,3,4,5,6] λ_=>?_;rw[hrd,hge];exact⟨rfl,rfl⟩
     simp only[beq_eq_false_iff_ne,ne_eq]at h4;rw[if_neg h4]at hge;have hr:=hO.dv.gd.room;rw[e1]at hr;refine J.p (.take true 0 (.take true 1 (.take true 2 (.take false 3 (.take true 4 (.take false 5 (.take true 6 (.take false 7 (.alt false 8 ((.of [36,40,44,50,54,56])) (.alt false 12 ((.of [34,36,40,44,54,56])) .non)))))))))) [14] [1,2,3,4,5,6,7,8,9] λ_=>?_;obtain⟨⟨re,rx⟩,hre⟩:∃w,w=R.read Y.S.N a.block a.row a.slot a.mask:=⟨_,rfl⟩;rw[<- hre]at hge;dsimp only at hge;refine J.join (α:=Nat) (λx=>[si 12 rx,⟨11,pp x,10, .tt⟩,⟨9,pp (bd 0),9, .tt⟩,si 1 i,⟨4,pp (bz 0),8, .tt⟩]) (λx=>[.hp F,Z6 f n t l p d Y,Q4 p n t l Y.S,i7 n Y.S.N,TlA t Y.S.t,TbA l Y.S.T,R3 d Y.L, .pt (bz 0) 30 (o0 zeros16), .pt (bd 0) 161 [iI a.block,iI a.row,iI a.slot,iI a.mask,iI a.seq,iI a.role], .pt x 155 (enL re)]) (λhj=>?_) (λx=>?_)
     ·refine J.q λ_=>?_;refine J.alts ?_ ?_
      ·refine J.qp (a5Y n Y.S.N hN hr a.block a.row a.slot a.mask (by omega) (by omega)) [3] λ_=>?_;rw[<- hre];refine J.qn 7 λbe=>?_;exact J.goto [0,1,2,3,4,5,6,7,9,10] (hj (be 0)) ⟨rfl,rfl,rfl,rfl,rfl,trivial⟩ rfl rfl
      ·refine J.qn 1 λbe=>?_;refine J.qp (a5Y n Y.S.N hN hr a.block a.row a.slot a.mask (by omega) (by omega)) [3] λ_=>?_;rw[<- hre];refine J.qn 6 λ_=>?_;exact J.goto [0,1,2,3,4,5,6,7,9,10] (hj (be 0)) ⟨rfl,rfl,rfl,rfl,rfl,trivial⟩ rfl rfl
     refine J.qn 6 λ_=>?_;cases hx:(rx !=0)with
     | true=>
      have hx':rx≠0:=by simpa using hx
      rw[if_pos (.inl hx')]at hge;refine J.qT λ_=>?_;refine J.qr [1,2,3,4,5,6] λ_=>?_;rw[hrd,hge];exact⟨rfl,rfl⟩
     | false=>
      have hx':rx=0:=by simpa using hx
      refine J.qn 6 λ_=>?_;cases hy:(re.lpn !=i)with
      | true=>
       have hy':re.lpn≠i:=by simpa using hy
       rw[if_pos (.inr (.inl hy'))]at hge;refine J.qT λ_=>?_;refine J.qr [1,2,3,4,5,6] λ_=>?_;rw[hrd,hge];exact⟨rfl,rfl⟩
      | false=>
       have hy':re.lpn=i:=by simpa using hy
       refine J.qd (λ_ h5=>?_) λ_ h5=>?_
       ·have hz:re.seq≠a.seq:=by simpa using h5
        rw[if_pos (.inr (.inr hz))]at hge;refine J.qr [1,2,3,4,5,6] λ_=>?_;rw[hrd,hge];exact⟨rfl,rfl⟩
       ·have hz:re.seq=a.seq:=by simpa using h5
        rw[if_neg (by rw[hx',hy',hz];simp)]at hge;refine J.qr [1,2,3,4,5,6] λ_=>?_;rw[hrd,hge];exact⟨rfl,rfl⟩
  ·have hi:decide (i<0)=true:=by simpa using hb
   rw[hi];refine J.q λ_=>?_;refine J.v (.bool false) rfl rfl (λhg a w he hw=>by simp[G.on]at hg) ?_;simp only[decide_eq_true_eq]at hi;rw[if_pos (.inl hi)]at hrd;refine J.qT λ_=>?_;refine J.qr [1,2,3,4,5,6] λ_=>?_;rw[hrd];exact⟨rfl,rfl⟩
theorem b5A (L:List En):dkN L (L.length:Int)=L.length:=by unfold dkN;omega
theorem a6K:∀(f:Nat) (S:Dv) (l:List En),(Dv.write f S l).2.1<=l.length
 | 0,S,l=>by show(0:Int)<=(l.length:Int);omega
 | f+1,S,l=>by
  rw[Dv.write_succ];have hf:=Dv.fit_le S.at1 l;split
  ·show(0:Int)<=(l.length:Int);omega
  split
  ·show(0:Int)<=(l.length:Int);omega
  split
  ·show(0:Int)<=(l.length:Int);omega
  split
  ·show(0:Int)<=(l.length:Int);omega
  split
  ·show(S.at1.fit l:Int)<=(l.length:Int);omega
  split
  ·show(0:Int)<=(l.length:Int);omega
  ·exact a6K f _ l
theorem a5o (f p n t l d:Nat) (Z:Fv) (k m:Nat) (hO:Z.Ok (Fv.cW+k) m) (hm:m<=1000):FP 69 [pp f] (FvP f p n t l d Z)
  (Ps (iI Z.writes.2) (FvP f p n t l d Z.writes.1)):=by
 have hlen:=hO.len;have hQ1:Z.S.Ok (Dv.costM+(8*Dv.fuel+k)) m:=hO.dv.less (by unfold Fv.cW;omega);have hr:=Dv.room_keep hQ1;have hw:Z.writes=(let r:=Z.S.room
  if r.2≠0 then({Z with S:=r.1}.told r.2,r.2)
  else
   let w:=r.1.pen Z.L
   ({Z with S:=w.1,L:=H0 Z.L (Z.L.take w.2.1.toNat)}.told w.2.2,w.2.2)):=rfl
 refine FE [2] Tryz.func69 λX F hX=>?_;refine J.p (.of [0,4,8,13,16,20,24,29,32,36,40,45,48,52,56,61,67,68]) [16,17] [1,6] λ_=>?_;refine J.qp (a0G n t l p Z.S _ m hQ1 hm) [2,3,4,5] λ_=>?_;dsimp only at hw;generalize Z.S.room=W at hw hr ⊢;obtain⟨P,er⟩:=W;dsimp only at hw hr ⊢;rw[show Z6 f n t l p d Z=Z6 f n t l p d {Z with S:=P}from rfl];refine J.qd (λ_ h2=>?_) λ_ h2=>?_
 ·simp only[bne_iff_ne,ne_eq]at h2;rw[if_pos h2]at hw;refine J.qp (a6o f n t l p d {Z with S:=P} er) [1] λ_=>?_;refine J.qr [1,2,3,4,5,6] λ_=>?_;rw[hw];exact⟨rfl,rfl⟩
 simp only[bne_eq_false_iff_eq]at h2;rw[if_neg (by rw[h2];decide)]at hw;refine J.p (.of [0,4,8,13,16,20,24,29,34,38,40]) [10] [1,2,3,4,5,6] λ_=>?_;refine J.qp (a9C d Z.L) [6] λ_=>?_;refine J.qc (a9D d Z.L (by omega) Z.L.length) [6] λ_=>?_;rintro v As ⟨a,c,rfl,rfl⟩;refine⟨_,rfl,stq,?_⟩;rw[b5A,List.take_of_length_le (Nat.le_refl _)];refine J.know (λh' s=>J0 (show J5 _ _ a Z.L.length c _ _ from s.get (i:=7) rfl)) λhcap=>?_;rw[a2y];have hpb:0<=(P.pen Z.L).2.1/\(P.pen Z.L).2.1<=7:=a0y _ _ _;have hple:=a6K Dv.fuel P Z.L;have hple:(P.pen Z.L).2.1<=Z.L.length:=hple;refine J.q λ_=>?_;refine J.ca hX (by kernel_rfl) (X8 p n t l P _ m hr.1 (c9 155 19 a Z.L.length c (d6 Z.L)) (oad a) Z.L.length c Z.L (D3 155 19 a Z.L.length c (d6 Z.L)) rfl (by omega) hO.dat) [2,3,4,5,7] 0 rfl rfl rfl rfl rfl rfl (λ_=>rfl) ?_;refine cpq ⟨_,rfl,trivial,?_⟩;generalize P.pen Z.L=W at hw hpb hple ⊢;obtain⟨Q,kk,er2⟩:=W;dsimp only at hw hpb hple ⊢;obtain⟨v,rfl⟩:=Int.eq_ofNat_of_zero_le hpb.1;rw[Int.toNat_natCast]at hw;have hvl:v<=Z.L.length:=by omega
 have hRd:Rd (c9 155 19 a Z.L.length c (d6 Z.L)) (oad a) 19 v (d6 (Z.L.take v)):=by
  have:=(D3 155 19 a Z.L.length c (d6 Z.L)).take v hvl
  rwa [V9]at this
 refine J.pn 6 (.of [0,4,8,13,16,20,24,30]) [] [1,2,3,4,5] λ_ _=>?_;refine J.vT (.slice (oad a) v c) rfl rfl (λhg aa w he hC=>Z0 tk rfl rfl rfl he rfl rfl rfl rfl (by omega)) ?_;refine J.qc (b3J d Z.L (by omega) (c9 155 19 a Z.L.length c (d6 Z.L)) (oad a) v c (Z.L.take v) hRd (by rw[List.length_take];omega) (by omega)) [6,7] λ_=>?_;rintro v2 As ⟨rfl,rfl⟩;refine⟨_,rfl,stq,?_⟩;rw[show Z6 f n t l p d {Z with S:=P}=Z6 f n t l p d {Z with S:=Q,L:=H0 Z.L (Z.L.take v)}from rfl];refine J.qc (a6o f n t l p d {Z with S:=Q,L:=H0 Z.L (Z.L.take v)} er2) [1] λ_=>?_;rintro v2 As ⟨rfl,rfl⟩;refine⟨_,rfl,trivial,?_⟩;refine J.qr [1,2,3,4,5,6] λ_=>?_;rw[hw];exact⟨rfl,rfl⟩
theorem a7H (f p n t l d:Nat) (Z:Fv) (k m:Nat) (hO:Z.Ok (Fv.cW+(1+k)) m) (hm:m<=1000) (e:En) (hd:e.data.length=16):FP 92 [pp f,enV e] (FvP f p n t l d Z)
  (Ps (iI (Z.waits e).2) (FvP f p n t l d (Z.waits e).1)):=by
 have hwt:Z.waits e=(if Z.ask.off=true then(Z.ask,9)
  else if e.lpn<0\/e.lpn>=Z.ask.lg then(Z.ask,3)
  else if(Z.ask.L.length:Int)>=Z.ask.S.slots then
   let w:=Z.ask.writes
   if w.2≠0 then w else(w.1.put e,0)
  else(Z.ask.put e,0)):=rfl
 have hlen:=hO.len;refine FE [2,0] Tryz.func92 λX F hX=>?_;refine J.q λbz=>?_;refine J.cb (P8 f n t l p d Z) [1,3] ?_;refine cpq ⟨_,rfl,trivial,?_⟩;have hOY:=hO.ask;obtain⟨Y,hY⟩:∃Y,Y=Z.ask:=⟨_,rfl⟩;have e1:Z.S=Y.S:=by rw[hY];rfl
 have e2:Z.L=Y.L:=by rw[hY];rfl
 rw[<- hY]at hwt hOY;rw[<- hY,e1,e2];rw[e2]at hlen;have hN:=hOY.dv.gd.ok;cases ho:Y.off with
 | true=>
  rw[ho,if_pos rfl]at hwt;refine J.qT λ_=>?_;refine J.qr [1,2,3,4,5,6] λ_=>?_;rw[hwt];exact⟨rfl,rfl⟩
 | false=>
  rw[ho,if_neg Bool.false_ne_true]at hwt;refine J.qF λ_=>?_;refine J.pq (.of [0,5,8,12,16,21,24,30,32,36]) [] [1,2,3,4,5,6,7] λ_ _=>?_;have hput:∀W:{W:Fv//Z.waits e=(W.put e,0)/\W.L.length<=200/\0<=W.nx/\W.nx<=4611686018427387904},Z.waits e=(W.1.put e,0):=λW=>W.2.1;refine J.gcase hX rfl rfl rfl stq (λhb=>?_) (λhb=>?_)
  ·have hi:decide (e.lpn<0)=false:=by simpa using hb
   rw[hi];refine J.qp (K0 f n t l p d Y hN) [1,3] λ_=>?_;simp only[decide_eq_false_iff_not]at hi;refine J.qd (λ_ h1=>?_) λ_ h1=>?_
   ·simp only[Bool.false_or,ge_iff_le,decide_eq_true_eq]at h1;rw[if_pos (.inr h1)]at hwt;refine J.qr [1,2,3,4,5,6] λ_=>?_;rw[hwt];exact⟨rfl,rfl⟩
   simp only[Bool.false_or,ge_iff_le,decide_eq_false_iff_not]at h1;rw[if_neg (by omega)]at hwt;have hbb:Y.S.t.b<=1000:=by have:=hOY.dv.t.b;have:=hN.bd16;omega
   refine J.p (.of [0,4,8,13,20,24,28,33,18,38,40]) [] [1,2,3,4,5,6,7] λ_=>?_;refine J.qp (a9C d Y.L) [6] λ_=>?_;refine J.qp (a7g p n t l Y.S hbb hOY.dv.t.len) [2,3,4,5] λ_=>?_;refine J.q λ_=>?_;refine J.join (α:={W:Fv//Z.waits e=(W.put e,0)/\W.L.length<=200/\0<=W.nx/\W.nx<=4611686018427387904}) (λ_=>[⟨0,pp f,2, .tt⟩,⟨3,pp (bz 0),8, .tt⟩]) (λW=>[.hp F,Z6 f n t l p d W.1,Q4 p n t l W.1.S,i7 n W.1.S.N,TlA t W.1.S.t,TbA l W.1.S.T,R3 d W.1.L, .pt (bz 0) 155 (enL e)]) (λhj=>?_) (λW=>?_)
   ·refine J.qd (λ_ h2=>?_) λ_ h2=>?_
    ·simp only[ge_iff_le,decide_eq_true_eq]at h2;rw[if_pos h2]at hwt;have hkw:=Fv.writes_keep hOY;refine J.qp (a5o f p n t l d Y (1+k) m hOY hm) [1,2,3,4,5,6] λ_=>?_;dsimp only at hwt;generalize Y.writes=w at hwt hkw ⊢;obtain⟨V,er⟩:=w;dsimp only at hwt hkw ⊢;refine J.qd (λ_ h3=>?_) λ_ h3=>?_
     ·simp only[bne_iff_ne,ne_eq]at h3;rw[if_pos h3]at hwt;refine J.qr [1,2,3,4,5,6] λ_=>?_;rw[hwt];exact⟨rfl,rfl⟩
     ·simp only[bne_eq_false_iff_eq]at h3;rw[if_neg (by rw[h3];decide)]at hwt;have hnx:=hkw.1.nx;refine J.qn 1 λ_=>?_;exact J.goto [0,1,2,3,4,5,6,7] (hj ⟨V,hwt,hkw.1.len,by omega,by omega⟩) ⟨rfl,rfl,trivial⟩ rfl rfl
    ·simp only[ge_iff_le,decide_eq_false_iff_not]at h2;rw[if_neg h2]at hwt;have hnx:=hOY.nx;refine J.qn 1 λ_=>?_;exact J.goto [0,1,2,3,4,5,6,7] (hj ⟨Y,hwt,hlen,by omega,by omega⟩) ⟨rfl,rfl,trivial⟩ rfl rfl
   obtain⟨W,hw1,hw2,hw3,hw4⟩:=W;dsimp only;refine J.p (.of [0,4,8,13,17,22]) [] [1,2,3,4,5,7] λ_=>?_;refine J.qp (a9B d W.L (by omega) {e with seq:=W.nx}) [6] λ_=>?_;refine J.qr [1,2,3,4,5,6] λ_=>?_;rw[hw1];exact⟨rfl,rfl⟩
  ·have hi:decide (e.lpn<0)=true:=by simpa using hb
   rw[hi];refine J.q λ_=>?_;refine J.vT (.bool false) rfl rfl (λhg a w he hC=>by simp[G.on]at hg) ?_;simp only[decide_eq_true_eq]at hi;rw[if_pos (.inl hi)]at hwt;refine J.qT λ_=>?_;refine J.qr [1,2,3,4,5,6] λ_=>?_;rw[hwt];exact⟨rfl,rfl⟩
end Go.Proofs.YtnffkcabeecopaaGreat
