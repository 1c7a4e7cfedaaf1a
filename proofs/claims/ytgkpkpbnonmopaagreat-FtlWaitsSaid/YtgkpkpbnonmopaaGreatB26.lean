/- Helpers, proved here. No condition. -/
import Derived.Test.YtgkpkpbnonmopaaGreatB15
import Derived.Test.YtgkpkpbnonmopaaGreatB18
import Derived.Test.YtgkpkpbnonmopaaGreatB19
import Derived.Test.YtgkpkpbnonmopaaGreatB20
import Derived.Test.YtgkpkpbnonmopaaGreatB21
import Derived.Test.YtgkpkpbnonmopaaGreatB25
set_option maxRecDepth 20000
set_option linter.all false
namespace Go.Proofs.YtgkpkpbnonmopaaGreat
open Go Go.RowKit
def CS (W:List (Int×En)) (T:Tb) (b r:Int) (e:En):Prop:=∃w a,Tb.look W e.lpn=some w/\Tb.look T.at_ e.lpn=some a/\(e.seq<a.seq\/e.seq=a.seq/\a.block=b/\a.row=r/\e.role=w.role/\e.data=w.data)
def CE (T:Tb) (e:En):Prop:=∃a,Tb.look T.at_ e.lpn=some a/\e.seq<a.seq
structure GI (fd:Int) (W:List (Int×En)) (S:Dv):Prop where
 inv:Inv fd S
 hd:Hd S W
 wok:WOk W
 msk:∀i a,Tb.look S.T.at_ i=some a->Msk S.N.dies fd a.mask
 dsc:∀b r:Nat,b<S.N.blocks->r<S.N.pages->DscG fd (CS W S.T b r) (CE S.T) S.N b r
 ff:(∀i:Nat,S.N.dead.getD i false=false)->∀i j:Nat,(S.N.blk i j).fails=false
theorem a7m {W:List (Int×En)} {l:List En} (h:WOk W) (hf:∀e∈l,FitR e):∀n,n<=l.length->WOk (K8 W l n)
 | 0,_=>h
 | n+1,hn=>by
  rw[P8];exact(a7m h hf n (by omega)).put (hf _ (K0 (by omega)))
theorem a5I {l:List En} (hnd:(l.map (·.lpn)).Nodup) {n:Nat} (hn:n<=l.length):∀a b,a<b->b<n->(l.getD a En.zero).lpn≠(l.getD b En.zero).lpn:=λa b hab hb e=>by
 have g1:a<l.length:=by omega
 have g2:b<l.length:=by omega
 have h3:(l.map (·.lpn))[a]? =(l.map (·.lpn))[b]?:=by
  rw[List.getElem?_map,List.getElem?_map,List.getElem?_eq_getElem g1,List.getElem?_eq_getElem g2];rw[List.getD_eq_getElem?_getD,List.getD_eq_getElem?_getD,List.getElem?_eq_getElem g1,List.getElem?_eq_getElem g2]at e;exact congrArg some e
 have:=(List.getElem?_inj (by rw[List.length_map];exact g1) hnd).1 h3;omega
namespace GI
variable {fd : Int} {W : List (Int × En)} {S Q : Dv} {k m : Nat} {l : List En}
theorem at1 (h:GI fd W S) (hO:S.Ok k m) (h0:¬(S.left=false/\S.pick<0)):GI fd W S.at1:=by
 have hat:=Dv.at1_like S;have hw:Went fd S S.at1 0:=by
  unfold Dv.at1;cases hl:S.left with
  | true=>rw[if_pos rfl];exact Went.refl h.inv
  | false=>rw[if_neg Bool.false_ne_true];exact(h.inv.opens hO hl λe=>h0 ⟨hl,e⟩).1
 refine⟨hw.inv,h.hd.went h.inv hw,h.wok,λi a ha=>?_,λb r hb hr=>?_,by rw[hat.1];exact h.ff⟩
 ·rw[hat.2.1]at ha;rw[hat.1];exact h.msk i a ha
 ·rw[hat.1]at hb hr ⊢;rw[hat.2.1];exact h.dsc b r hb hr
theorem wrote (h:GI fd W Q) (hO:Q.Ok k m) (hl:Last fd Q l) (hf:∀e∈l,FitR e) (hnd:(l.map (·.lpn)).Nodup) (hlg:∀e∈l,e.lpn<Q.T.logical):GI fd (K8 W l (Q.fit l)) (s7 Q l):=by
 have hg:=hO.gd.ok.bd16;obtain⟨l1,l2⟩:=hl.look h.inv hO hf hlg hnd;have hH:=h.hd.wrote h.inv hO hl hf hlg hnd;have hlk:Q.N.Like (s7 Q l).N:=hl.turn.like;have hfit:=Dv.fit_le Q l;have hfd:Q.fit l=min l.length (G.slots Q.mask).toNat:=rfl;obtain⟨n,hn⟩:∃n,Q.fit l=n:=⟨_,rfl⟩;rw[hn]at l1 l2 hH hfit hfd ⊢;obtain⟨w1,w2⟩:=K7 (W:=W) (l:=l) n (a5I hnd hfit.2.1);have hR:=h.inv.rowIs hO hl.left hf hl.bd;have ho:=h.inv.opn hl.left;have hrdy:RdyW Q.N Q.op Q.row Q.mask:=⟨h.inv.lit,λd hd ha=>(ho.cells d hd).2 ha⟩;have hq:=hrdy.rdy hR;have w3:WroteR Q.N (s7 Q l).N Q.op Q.row (R.job Q.op Q.row Q.mask (Q.es l)):=(a6c hrdy hR).2.2;have hF:Full fd (s7 Q l).N Q.op Q.row Q.mask (Q.es l):=hl.turn.full;have hsq:∀i a,Tb.look Q.T.at_ i=some a->a.seq<Q.next:=λi a ha=>(h.inv.st i a ha).seq.2;have hmono:∀b r e,CS W Q.T b r e->CS (K8 W l n) (s7 Q l).T b r e:=λb r e ⟨w,a,h1,h2,h3⟩=>by
  by_cases hex:∃j,j<n/\(l.getD j En.zero).lpn=e.lpn
  ·obtain⟨j,hj,hje⟩:=hex;have x1:=l1 j hj;have x2:=w1 j hj;have ha:=hsq _ _ h2;rw[hje]at x1 x2;refine⟨_,_,x2,x1, .inl ?_⟩;show e.seq<Q.next+(j:Int);omega
  ·have hno:∀j,j<n->(l.getD j En.zero).lpn≠e.lpn:=λj hj hh=>hex ⟨j,hj,hh⟩;exact⟨w,a,by rw[w2 _ hno];exact h1,by rw[l2 _ hno];exact h2,h3⟩
 have hmonoE:∀e,CE Q.T e->CE (s7 Q l).T e:=λe ⟨a,h2,h3⟩=>by
  by_cases hex:∃j,j<n/\(l.getD j En.zero).lpn=e.lpn
  ·obtain⟨j,hj,hje⟩:=hex;have x1:=l1 j hj;have ha:=hsq _ _ h2;rw[hje]at x1;refine⟨_,x1,?_⟩;show e.seq<Q.next+(j:Int);omega
  ·have hno:∀j,j<n->(l.getD j En.zero).lpn≠e.lpn:=λj hj hh=>hex ⟨j,hj,hh⟩;exact⟨a,by rw[l2 _ hno];exact h2,h3⟩
 have hold:∀e,CS W Q.T Q.op Q.row e->CE (s7 Q l).T e:=λe ⟨w,a,_,h2,h3⟩=>by
  refine hmonoE e ⟨a,h2,?_⟩;rcases h3 with h3 | ⟨_,h4,h5,_⟩
  ·exact h3
  ·have:=(h.inv.st _ _ h2).below h4;omega
 refine⟨hl.inv h.inv hO,hH,a7m h.wok hf n hfit.2.1,λi a ha=>?_,λb r hb hr=>?_,λhd i j=>?_⟩
 rotate_right
 ·have hd:∀i:Nat,(Q.wrote l).N.dead.getD i false=false:=hd;rw[hl.turn.dead]at hd;show((Q.wrote l).N.blk i j).fails=false;rw[(hl.turn.flags i j).2.1];exact h.ff hd i j
 ·by_cases hex:∃j,j<n/\(l.getD j En.zero).lpn=i
  ·obtain⟨j,hj,rfl⟩:=hex;rw[l1 j hj]at ha;injection ha with ha;rw[<- ha,hlk.dies];exact ho.mask
  ·rw[l2 i λj hj e=>hex ⟨j,hj,e⟩]at ha;rw[hlk.dies];exact h.msk i a ha
 ·by_cases e:(b:Int)=Q.op/\(r:Int)=Q.row
  ·have hev:Ev (CS (K8 W l n) (s7 Q l).T Q.op Q.row) (s7 Q l).N Q.op Q.row Q.mask (Q.es l):=⟨hF.is,hF.inn,λx hx=>by
    rcases b0h hx with⟨i,hi,hin,rfl⟩ | rfl
    ·right;have hin2:i<n:=by rw[hfd];omega
     exact⟨_,_,w1 i hin2,l1 i hin2, .inr ⟨rfl,rfl,rfl,rfl,rfl⟩⟩
    ·exact .inl rfl⟩
   rw[e.1,e.2];rcases ho.mask.eq hg.1 with⟨hm,_⟩ | ⟨f0,f1,fno,hm⟩
   ·refine .all (Q.es l) ?_;rw[hlk.dies,<- hm];exact hev
   ·obtain⟨d,rfl⟩:=Int.eq_ofNat_of_zero_le f0;have hd:d<Q.N.dies:=by omega
    have hpg:(s7 Q l).N.pageAt (d:Int) Q.op Q.row=Q.N.pageAt (d:Int) Q.op Q.row:=by
     unfold Nand.pageAt;rw[Int.toNat_natCast,w3.rest d Q.op.toNat (.inr λx hx he=>by
      obtain⟨n1,_,n3⟩:=hR.inn x hx;rw[show x.1=(d:Int)from by omega,fno]at n3;cases n3)]
    refine .but d (Q.es l) rfl (by rw[hlk.dies];exact hd) (by rw[hlk.dies,<- hm];exact hev) ?_;have hb0:=ho.blk;have hr0:=ho.row;have hrp:=(Dv.left_spec hl.left).2.1;have h0:=h.dsc Q.op.toNat Q.row.toNat (by omega) (by omega);rw[Int.toNat_of_nonneg hb0.1,Int.toNat_of_nonneg hr0.1]at h0;cases h0 with
    | none h0=>exact .inl λc hc=>h0 d c (by rw[<- hpg];exact hc)
    | all l0 h0=>
     refine .inr ⟨l0,by rw[hlk.dies];exact h0.is.like hlk,λx hx hxd c hc=>?_,λe he=>(h0.kind e he).imp id (hold e)⟩;rw[hlk.dies]at hx;exact h0.inn x hx c (by rw[hxd,<- hpg];exact hc)
    | but d' l0 e' hd' h0 o=>
     obtain rfl:d'=d:=by omega
     rcases o with o | ⟨l',o⟩
     ·exact .inl λc hc=>o c (by rw[<- hpg];exact hc)
     ·refine .inr ⟨l',by rw[hlk.dies];exact o.is.like hlk,λx hx hxd c hc=>?_,λe he=>(o.kind e he).imp id (hmonoE e)⟩;rw[hlk.dies]at hx;exact o.inn x hx hxd c (by rw[<- hpg];exact hc)
  ·refine((h.dsc b r (by rw[<- hlk.blocks];exact hb) (by rw[<- hlk.pages];exact hr)).gone hlk λd c hc=> .inr ?_).mono (hmono b r) hmonoE;rw[a9b]at hc ⊢;rw[<- w3.page hq (Int.natCast_nonneg _) (Int.natCast_nonneg _) (Int.natCast_nonneg _) λe1 e2=>e ⟨e1,e2⟩];exact hc
theorem pen (h:GI fd W S) (hO:S.Ok (8*Dv.fuel+k) m) (hot:Hot2 fd S 0) (hf:∀e∈l,FitR e) (hl0:l.length≠0) (hnd:(l.map (·.lpn)).Nodup) (hlg:∀e∈l,e.lpn<S.T.logical) (hnx:S.next<=1099511627775-1200):
  S.pen l=(S,0,11)/\S.rows=0\/∃(V:Dv) (n:Nat),S.pen l=(V,(n:Int),0)/\Pnd fd S l V n 0/\V.Ok k m/\GI fd (K8 W l n) V/\Hot2 fd V 0:=by
 by_cases hr:S.rows=0
 ·obtain⟨e1,e2⟩:=h.inv.full (hO.less (Nat.le_refl _)) hr;left;refine⟨?_,hr⟩;show Dv.write (159+1) S l=_;rw[Dv.write_succ,if_neg hl0,if_pos ⟨e1,e2⟩]
 ·right;obtain⟨V,n,γ,p1,p2,p3,p4⟩:=h.inv.pen_step hO hot (by omega) hf hl0 hnd hlg hnx h.hd;obtain⟨γ',Q,g1,g2,g3,g4,g5,_,_,_,g9⟩:=h.inv.write_go (l:=l) 0 159 S k (m:=m) hO hot.hot (by omega) hf hl0 (by omega);obtain rfl:γ'=0:=by omega
  obtain rfl:=g9 rfl;obtain⟨q1,q2⟩:=p2.hot 0 hot;obtain rfl:γ=0:=by omega
  have hp:S.pen l=(s7 S.at1 l,(S.at1.fit l:Int),(0:Int)):=g5;rw[hp]at p1;have e1:=congrArg Prod.fst p1;have e2:=congrArg (λz=>z.2.1) p1;dsimp only at e1 e2;have hns:¬(S.left=false/\S.pick<0):=λe=>by
   rcases h.inv.rows_pos (hO.less (Nat.le_refl _)) (by omega)with e2 | e2
   ·rw[e.1]at e2;cases e2
   ·exact e2 e.2
  have hat:=Dv.at1_like S;have hG:=(h.at1 (hO.less (Nat.le_refl _)) hns).wrote g3 g4 hf hnd (λe he=>by rw[hat.2.1];exact hlg e he);subst e1;have e2:S.at1.fit l=n:=by omega
  rw[e2]at hG hp;exact⟨_,n,hp,p2,p3,hG,q2⟩
theorem swap {E:List En} {n:Nat} (h:GI fd (K8 W E n) S) (hW:WOk W) (hE:∀j,j<n->∃e sq,Tb.look W (E.getD j En.zero).lpn=some e/\E.getD j En.zero={e with seq:=sq}) (hd:∀i j,i<j->j<n->(E.getD i En.zero).lpn≠(E.getD j En.zero).lpn):GI fd W S:=by
 obtain⟨w1,w2⟩:=K7 (W:=W) (l:=E) n hd;refine⟨h.inv,h.hd.swap hE hd,hW,h.msk,λb r hb hr=>(h.dsc b r hb hr).mono (λe ⟨w,a,x1,x2,x3⟩=>?_) λe he=>he,h.ff⟩
 by_cases hex:∃j,j<n/\(E.getD j En.zero).lpn=e.lpn
 ·obtain⟨j,hj,hje⟩:=hex;obtain⟨e0,sq,y1,y2⟩:=hE j hj;have z1:=w1 j hj;rw[hje]at z1 y1;rw[z1]at x1;injection x1 with x1;refine⟨e0,a,y1,x2,x3.imp id λ⟨z2,z3,z4,z5,z6⟩=>⟨z2,z3,z4,?_,?_⟩⟩
  ·rw[z5,<- x1,y2]
  ·rw[z6,<- x1,y2]
 ·exact⟨w,a,by rw[<- w2 _ λj hj hh=>hex ⟨j,hj,hh⟩];exact x1,x2,x3⟩
theorem carry_go:∀(f:Nat) (S:Dv) (I:List Int) (done:Int) (k:Nat),GI fd W S->S.Ok (Dv.cost*f+k) m->Hot2 fd S 0->I.length<=f->(∀i∈I,(Tb.look W i).isSome=true)->I.Nodup->S.next+1000*(f:Int)<=1099511627775-1300->
  ∃(V:Dv) (n e:Int),Dv.carryGo f S I done=(V,n,e)/\GI fd W V/\V.Ok k m/\Hot2 fd V 0/\V.next<=S.next+1000*(f:Int)/\V.T.logical=S.T.logical/\S.N.Like V.N
 | 0,S,I,done,k,h,hO,hot,hL,_,_,_=>⟨S,done,0,rfl,h,hO.less (by omega),hot,by omega,rfl,Nand.Like.refl _⟩
 | f+1,S,I,done,k,h,hO,hot,hL,hin,hnd,hnx=>by
  by_cases hl0:I.length=0
  ·have:I=[]:=List.eq_nil_of_length_eq_zero hl0;subst this;exact⟨S,done,0,by rw[Dv.carryGo,if_pos (show([]:List Int).length=0 from rfl)],h,hO.less (by omega),hot,by omega,rfl,Nand.Like.refl _⟩
  ·have hg:=hO.gd.ok.bd16;obtain⟨c,hc⟩:∃c,(max S.slots 1).toNat=c:=⟨_,rfl⟩;have hc2:1<=c:=by omega
   obtain⟨E,e1,e2,e3,e4,e5⟩:=h.hd.rds h.wok (I.take c) λi hi=>hin i (List.mem_of_mem_take hi);have hEl:E.length=min c I.length:=by rw[e2,List.length_take]
   have hnd2:(E.map (·.lpn)).Nodup:=by rw[e3];exact hnd.sublist (List.take_sublist _ _)
   have hlgE:∀e∈E,e.lpn<S.T.logical:=λe he=>by
    have:e.lpn∈I.take c:=by rw[<- e3];exact List.mem_map_of_mem he
    have h1:=hin _ (List.mem_of_mem_take this);obtain⟨w,hw⟩:=Option.isSome_iff_exists.1 h1;obtain⟨_,a,ha,_⟩:=h.hd.each _ _ hw;exact(hO.T.rng _ (Tb.look_mem ha)).2
   have hstep:Dv.carryGo (f+1) S I done=(let w:=S.pen E;if w.2.2≠0 then(w.1,done+w.2.1,w.2.2)else Dv.carryGo f w.1 (I.drop w.2.1.toNat) (done+w.2.1)):=by
    rw[Dv.carryGo,if_neg hl0,hc];dsimp only;rw[e1];dsimp only;rw[if_neg (by decide)]
   rcases h.pen (k:=Dv.cost*f+k) (m:=m) (by have:Dv.cost*(f+1)=Dv.cost*f+Dv.cost:=Nat.mul_succ _ _;exact hO.less (by unfold Dv.cost at this ⊢;omega)) hot e4 (by omega) hnd2 hlgE (by omega)with⟨p1,_⟩ | ⟨V,n,p1,p2,p3,p4,p5⟩
   ·rw[hstep,p1];dsimp only;rw[if_pos (by decide)];exact⟨S,_,11,rfl,h,hO.less (by omega),hot,by omega,rfl,Nand.Like.refl _⟩
   ·have hnE:=p2.n1;have hV:GI fd W V:=p4.swap h.wok (λj hj=>e5 j (by rw[<- e2];omega)) (a5I hnd2 hnE);rw[hstep,p1];dsimp only;rw[if_neg (by decide),Int.toNat_natCast];have hdl:(I.drop n).length=I.length-n:=List.length_drop;have hn1:=p2.n3;have hnx2:=p2.next;obtain⟨U,n2,e2',r1,r2,r3,r4,r5,r6,r7⟩:=carry_go f V (I.drop n) (done+(n:Int)) k hV p3 p5 (by omega) (λi hi=>hin i (List.mem_of_mem_drop hi)) (hnd.sublist (List.drop_sublist _ _)) (by omega);exact⟨U,n2,e2',r1,r2,r3,r4,by omega,r6.trans p2.logical,p2.like.trans r7⟩
theorem carry (h:GI fd W S) (hO:S.Ok (Dv.costC+k) m) (hot:Hot2 fd S 0) (hlg:S.T.logical<=1000) (hnx:S.next<=1099511627775-2000000) (b most:Int):
  ∃(V:Dv) (n e:Int),S.carry b most=(V,n,e)/\GI fd W V/\V.Ok k m/\Hot2 fd V 0/\V.next<=S.next+1000000/\V.T.logical=S.T.logical/\S.N.Like V.N:=by
 obtain⟨I,hI⟩:∃I,(S.T.ins b).take (max most 0).toNat=I:=⟨_,rfl⟩;have hsub:∀j∈I,j∈S.T.ins b:=λj hj=>by rw[<- hI]at hj;exact List.mem_of_mem_take hj
 have hlen:I.length<=1000:=by
  have h1:=ins_len hO.T b;have h2:Tb.cntB S.T.at_ b<=S.T.at_.length:=List.countP_le_length;have h3:=a9H hO.T;rw[<- hI,List.length_take];omega
 have hnd:I.Nodup:=by
  rw[<- hI];refine List.Nodup.sublist (List.take_sublist _ _) ?_;unfold Tb.ins;split
  ·exact List.nodup_nil
  ·unfold Tb.inK;exact List.pairwise_map.2 ((List.nodup_range.filter _).imp λhne e=>hne (by omega))
 have hcost:Dv.cost*I.length<=Dv.costC:=Nat.mul_le_mul_left _ (by omega);obtain⟨V,n,e,r1,r2,r3,r4,r5,r6,r7⟩:=carry_go I.length S I 0 k h (hO.less (by omega)) hot (Nat.le_refl _) (λj hj=>by
  obtain⟨a,ha,_⟩:=a9r (hsub j hj);cases hw:Tb.look W j with
  | none=>rw[h.hd.none hw]at ha;cases ha
  | some e=>rfl) hnd (by omega)
 refine⟨V,n,e,?_,r2,r3,r4,by omega,r6,r7⟩;unfold Dv.carry;rw[hI];exact r1
theorem cleared (h:GI fd W S) {N':Nand} {t':Tl} (c1:S.clear=({S with N:=N',t:=t'},0)) (c2:Inv.Cleared fd S (g7 (j8 S.t S.T) S.op S.t.b) N' t') (c3:Hd {S with N:=N',t:=t'} W):GI fd W {S with N:=N',t:=t'}:=by
 have hers:ErsP S.N N' (g7 (j8 S.t S.T) S.op S.t.b):=by
  have:=a2P (g7 (j8 S.t S.T) S.op S.t.b) S.N S.t;have e:S.clear.1.N=(Dv.clearGo (g7 (j8 S.t S.T) S.op S.t.b) S.N S.t).1:=rfl;rw[<- e,c1]at this;exact this
 refine⟨c2.inv,c3,h.wok,λi a ha=>?_,λb r hb hr=>?_,λhd=>?_⟩
 rotate_right
 ·have hd:∀i:Nat,N'.dead.getD i false=false:=hd;rw[c2.dead]at hd;exact(c2.nofl ⟨hd,h.ff hd⟩).1.2
 ·show Msk N'.dies fd a.mask;rw[c2.like.dies];exact h.msk i a ha
 ·have hb:b<N'.blocks:=hb;have hr:r<N'.pages:=hr;rw[c2.like.blocks]at hb;rw[c2.like.pages]at hr;exact(h.dsc b r hb hr).gone c2.like λd c hc=>hers.less d b r c hc
theorem clear(h:GI fd W S) (hO:S.Ok (96+k) m):∃V,S.clear=(V,0)/\GI fd W V/\V.Ok k m/\V.next=S.next/\V.T=S.T/\V.op=S.op/\S.N.Like V.N/\(Hot2 fd S 0->Hot2 fd V 0):=by
 have hk:=Dv.clear_keep hO;obtain⟨N',t',c1,c2,c3⟩:=h.inv.clear_hd hO h.hd;have hG:=h.cleared c1 c2 c3;rw[c1]at hk;refine⟨_,c1,hG,hk.1,rfl,rfl,rfl,c2.like,λhh=>?_⟩;cases hh with
 | calm hno=>
  have hnf:=c2.nofl ⟨hno.dead,h.ff hno.dead⟩;exact .calm ⟨λi=>by show N'.dead.getD i false=false;rw[c2.dead];exact hno.dead i,List.eq_nil_iff_forall_not_mem.2 λa ha=>(by have:=c2.plan a ha;rw[hno.plan]at this;cases this),λi j=>by show(N'.blk i j).met=false;rw[hnf.2];exact hno.met i j⟩
 | cold h1 h2=>exact .cold (c2.td fd h1) h2
theorem room_go:∀(f:Nat) (S:Dv) (k:Nat),GI fd W S->S.Ok (Dv.costR*f+k) m->Hot2 fd S 0->S.T.logical<=1000->S.next+1000000*(f:Int)<=1099511627775-2000000->
  ∃(V:Dv) (e:Int),Dv.roomGo f S=(V,e)/\GI fd W V/\Hot2 fd V 0
 | 0,S,k,h,hO,hot,_,_=>⟨S,0,rfl,h,hot⟩
 | f+1,S,k,h,hO,hot,hlg,hnx=>by
  rw[Nat.mul_succ]at hO;rw[Dv.roomGo];split
  ·exact⟨S,0,rfl,h,hot⟩
  split
  ·exact⟨S,0,rfl,h,hot⟩
  obtain⟨U,n,e,c1,c2,c3,c4,c5,c6,c7⟩:=h.carry (k:=96+(Dv.costR*f+k)) (hO.less (by unfold Dv.costR;omega)) hot hlg (by omega) S.victim (S.T.count S.victim);dsimp only;rw[c1];dsimp only;split
  ·exact⟨U,e,rfl,c2,c4⟩
  ·obtain⟨V,d1,d2,d3,d4,d5,_,_,d8⟩:=c2.clear (k:=Dv.costR*f+k) c3;rw[d1];dsimp only;rw[if_neg (by decide)];exact room_go f V k d2 d3 (d8 c4) (by rw[d5,c6];exact hlg) (by omega)
theorem room (h:GI fd W S) (hO:S.Ok (Dv.costM+k) m) (hot:Hot2 fd S 0) (hlg:S.T.logical<=1000) (hnx:S.next<=1099511627775-20000000):GI fd W S.room.1/\Hot2 fd S.room.1 0:=by
 have hg:=hO.gd.ok.bd16;have htb:=hO.t.b;obtain⟨U,u1,u2,u3,u4,u5,_,_,u8⟩:=h.clear (k:=Dv.costR*16+k) (hO.less (by unfold Dv.costM;omega));have hm:Dv.costR*S.t.b<=Dv.costR*16:=Nat.mul_le_mul_left _ (by omega);obtain⟨V,e,v1,v2,v3⟩:=room_go S.t.b U k u2 (u3.less (by omega)) (u8 hot) (by rw[u5];exact hlg) (by omega);unfold Dv.room;rw[u1];dsimp only;rw[if_neg (by decide),v1];exact⟨v2,v3⟩
end GI
theorem b7O (d b p:Nat) (h:n9 d b p=true):FP 67 [.agg #[iI d,iI b,iI p]] [] (λv As=>v= .bool true/\As=[]):=by
 have hbd:(3<=d/\d<=6)/\(8<=b/\b<=16)/\(2<=p/\p<=8):=by simp[n9]at h;omega
 refine FE [0] Tryz.func67 λX F hX=>?_;refine J.qr [] λ_=>?_;refine⟨?_,rfl⟩;simp;omega
def lgN (d b p:Nat):Nat:=((b-5)*p*(d-2)+1)/2
theorem a9p (d b p:Nat) (hd:2<=d) (hb:5<=b):(((b:Int)-5)*p*((d:Int)-2)+1).tdiv 2=(lgN d b p:Int):=by
 have e1:(b:Int)-5=((b-5:Nat):Int):=by omega
 have e2:(d:Int)-2=((d-2:Nat):Int):=by omega
 rw[e1,e2,<- Int.natCast_mul,<- Int.natCast_mul,show(((b-5)*p*(d-2):Nat):Int)+1=(((b-5)*p*(d-2)+1:Nat):Int)from by omega,Int.tdiv_eq_ediv_of_nonneg (by omega)];unfold lgN;omega
theorem a4u (d b p:Nat) (h:n9 d b p=true):FP 21 [.agg #[iI d,iI b,iI p]] [] (λv As=>v=iI (lgN d b p)/\As=[]):=by
 have hbd:(3<=d/\d<=6)/\(8<=b/\b<=16)/\(2<=p/\p<=8):=by simp[n9]at h;omega
 have h1:0<=((b:Int)-5)*p/\((b:Int)-5)*p<=88:=by
  refine⟨Int.mul_nonneg (by omega) (by omega),?_⟩;have:((b:Int)-5)*p<=11*8:=Int.mul_le_mul (by omega) (by omega) (by omega) (by omega);omega
 have h2:0<=((b:Int)-5)*p*((d:Int)-2)/\((b:Int)-5)*p*((d:Int)-2)<=352:=by
  refine⟨Int.mul_nonneg h1.1 (by omega),?_⟩;have:((b:Int)-5)*p*((d:Int)-2)<=88*4:=Int.mul_le_mul h1.2 (by omega) (by omega) (by omega);omega
 have h3: -1<=(((b:Int)-5)*p*((d:Int)-2)+1).tdiv 2/\(((b:Int)-5)*p*((d:Int)-2)+1).tdiv 2<=1000:=by
  generalize((b:Int)-5)*p*((d:Int)-2)=x at h2;rw[Int.tdiv_eq_ediv_of_nonneg (by omega)];omega
 refine FE [0] Tryz.func21 λX F hX=>?_;refine J.qp (b7O d b p h) [] λ_=>?_;refine J.qF λ_=>?_;refine J.qr [] λ_=>?_;exact⟨by rw[a9p d b p (by omega) (by omega)],rfl⟩
namespace Tl
def ofD (N:Nand) (b:Nat) (t:Tl) (d:Nat):Tl:=
 let t:=t.wore b (N.wornAt d b)
 if L.has (t.mask b) d&&decide ((N.next d b:Int)>0)then t.clean b false else t
def ofB (N:Nand) (t:Tl) (b:Nat):Tl:=(List.range N.dies).foldl (ofD N b) t
def of (N:Nand):Tl:=(List.range N.blocks).foldl (ofB N) (Dv.seeDead N (Tl.new N.dies N.blocks N.pages))
end Tl
structure Fv where
 S:Dv
 L:List En
 nx:Int
 off:Bool
namespace Fv
def lg (F:Fv):Int:=lgN F.S.N.dies F.S.N.blocks F.S.N.pages
def ask (F:Fv):Fv:={F with off:=F.off||F.S.N.off}
def told (F:Fv) (e:Int):Fv:={F with off:=F.off||e==9}
def get (F:Fv) (i:Int):List UInt8×Int:=
 if(W5 F.L i).2 then((W5 F.L i).1.data,0)
 else match Tb.look F.S.T.at_ i with
  | none=>(zeros16,0)
  | some a=>
   if a.role=2 then(zeros16,0)else if a.role=4 then(zeros16,10)
   else
    let x:=R.read F.S.N a.block a.row a.slot a.mask
    if x.2≠0\/x.1.lpn≠i\/x.1.seq≠a.seq then(zeros16,10)else(x.1.data,0)
def read (F:Fv) (i:Int):Fv×List UInt8×Int:=
 if F.ask.off then(F.ask,zeros16,9)
 else if i<0\/i>=F.ask.lg then(F.ask,zeros16,3)
 else(F.ask,F.ask.get i)
def writes (F:Fv):Fv×Int:=
 let r:=F.S.room
 if r.2≠0 then({F with S:=r.1}.told r.2,r.2)
 else
  let w:=r.1.pen F.L
  ({F with S:=w.1,L:=H1 F.L (F.L.take w.2.1.toNat)}.told w.2.2,w.2.2)
def put (F:Fv) (e:En):Fv:={F with L:=I7 F.L {e with seq:=F.nx},nx:=F.nx+1}
def waits (F:Fv) (e:En):Fv×Int:=
 if F.ask.off then(F.ask,9)
 else if e.lpn<0\/e.lpn>=F.ask.lg then(F.ask,3)
 else if(F.ask.L.length:Int)>=F.ask.S.slots then
  let w:=F.ask.writes
  if w.2≠0 then w else(w.1.put e,0)
 else(F.ask.put e,0)
def write (F:Fv) (i:Int) (d:List UInt8):Fv×Int:=F.waits ⟨i,0,1,d⟩
def trim (F:Fv) (i:Int):Fv×Int:=F.waits ⟨i,0,2,zeros16⟩
def flushGo:Nat->Fv->Fv×Int
 | 0,F=>(F,0)
 | k+1,F=>
  if F.L.length=0 then(F,0)
  else
   let w:=F.writes
   if w.2≠0 then w else flushGo k w.1
def flush (F:Fv):Fv×Int:=if F.ask.off then(F.ask,9)else flushGo F.L.length F.ask
def tick (F:Fv):Fv×Int:=
 if F.ask.off then(F.ask,9)
 else
  let s:=F.ask.S.step 4
  ({F.ask with S:=s.1}.told s.2.2,s.2.2)
def whole (F:Fv):Fv×Bool:=
 if F.ask.off then(F.ask,false)
 else({F.ask with S:=F.ask.S.seen},F.ask.S.seen.leftN==0)
end Fv
namespace Dv
def holds (S:Dv) (l:List Int) (on:Bool):Dv:={S with t:=l.foldl (λt b=>t.hold b on) S.t}
end Dv
def A6 (N:Nand):Dv×Int:=
 let s:=V.scan N (lgN N.dies N.blocks N.pages)
 let S:Dv:=⟨N,Tl.of N,s.tb,-1,0,0,max s.next 1⟩
 let a:=(S.holds s.held true).torn (s.torn.take s.first)
 if a.2≠0 then a
 else
  let b:=(a.1.holds s.held false).clear
  if b.2≠0 then b
  else
   let c:=b.1.torn (s.torn.drop s.first)
   if c.2≠0 then c else c.1.room
def Fv.of (S:Dv):Fv:=⟨S,[],0,false⟩
theorem a5u {α:Type} [BEq α] [LawfulBEq α]:∀{K M:List α},K.Nodup->(∀x∈K,x∈M)->K.length<=M.length
 | [],M,_,_=>Nat.zero_le _
 | x::K,M,h,hs=>by
  obtain⟨h1,h2⟩:=List.nodup_cons.1 h;have hx:=hs x (by simp);have h3:=a5u (M:=M.erase x) h2 λy hy=>by
   have hne:y≠x:=λe=>h1 (by rw[<- e];exact hy);exact(List.mem_erase_of_ne hne).2 (hs y (by simp[hy]))
  rw[List.length_erase_of_mem hx]at h3;have:0<M.length:=List.length_pos_of_mem hx;rw[List.length_cons];omega
theorem a3m {N:Nand} (h:N.Ok):1<=lgN N.dies N.blocks N.pages/\lgN N.dies N.blocks N.pages<=200:=by
 obtain⟨hd,hb,hp⟩:=h.bd16;generalize N.dies=d at*;generalize N.blocks=b at*;generalize N.pages=p at*;have h2:3*2<=(b-5)*p:=Nat.mul_le_mul (by omega) hp.1;have h3:6*1<=(b-5)*p*(d-2):=Nat.mul_le_mul h2 (by omega);have h4:(b-5)*p<=11*8:=Nat.mul_le_mul (by omega) hp.2;have h5:(b-5)*p*(d-2)<=88*4:=Nat.mul_le_mul h4 (by omega);unfold lgN;omega
theorem a4k {N N':Nand} (h:N.Like N'):lgN N'.dies N'.blocks N'.pages=lgN N.dies N.blocks N.pages:=by rw[h.dies,h.blocks,h.pages]
theorem a0o {α:Type} {M:Nand} (f:Tl->α->Tl) (hf:∀t a,t.Fit M->(f t a).Fit M):∀(q:List α) (t:Tl),t.Fit M->(q.foldl f t).Fit M
 | [],_,h=>h
 | a::q,t,h=>a0o f hf q (f t a) (hf t a h)
theorem Tl.Fit.ofD {M N:Nand} {t:Tl} (h:t.Fit M) (b d:Nat):(Tl.ofD N b t d).Fit M:=by
 unfold Tl.ofD;dsimp only;split
 ·exact(h.wore _ _).clean _ _
 ·exact h.wore _ _
theorem Tl.Fit.ofB {M N:Nand} {t:Tl} (h:t.Fit M) (b:Nat):(Tl.ofB N t b).Fit M:=a0o _ (λ_ d h=>h.ofD b d) _ _ h
theorem Tl.Fit.new (N:Nand):(Tl.new N.dies N.blocks N.pages).Fit N:=⟨rfl,rfl,rfl,by show(List.replicate N.blocks Sb.zero).length=N.blocks;rw[List.length_replicate]⟩
theorem Tl.Fit.seeDead {M N:Nand} {t:Tl} (h:t.Fit M):(Dv.seeDead N t).Fit M:=a0o _ (λt d h=>by split;(· exact h.die _);exact h) _ _ h
theorem Tl.Fit.of (N:Nand):(Tl.of N).Fit N:=a0o _ (λ_ b h=>h.ofB b) _ _ (Tl.Fit.new N).seeDead
theorem b7M {N:Nand} (hN:N.Ok) {b r:Int} {f:Fnd} (h:f∈R.all N b r):(0<=f.slot/\f.slot<=1000)/\f.en.data.length=16:=by
 unfold R.all at h;rw[List.mem_flatMap]at h;obtain⟨m,_,h⟩:=h;unfold R.allM at h;rw[List.mem_filterMap]at h;obtain⟨k,hk,h⟩:=h;rw[List.mem_range,(M5 N b r m).1]at hk;have hs:=Dv.slots_le m;unfold R.fnd at h;split at h
 ·injection h with h;subst h;refine⟨by show(0:Int)<=((k:Nat):Int)/\((k:Nat):Int)<=1000;omega,?_⟩;show(R.enAt (R.look N b r m) k).data.length=16;unfold R.enAt;split
  ·have hl:=(M5 N b r m).1;rw[List.getD_eq_getElem?_getD,List.getElem?_eq_getElem (by omega)];exact(V4 hN b r m).1 _ (List.getElem_mem _)
  ·exact a7V hN b r m k
 ·cases h
theorem b8e {N:Nand} (hN:N.Ok) {f:Fnd} (h:f∈V.all N):(0<=f.slot/\f.slot<=1000)/\f.en.data.length=16:=by
 unfold V.all at h;rw[List.mem_flatMap]at h;obtain⟨b,_,h⟩:=h;rw[List.mem_flatMap]at h;obtain⟨r,_,h⟩:=h;exact b7M hN h
theorem b4u {N:Nand} (hN:N.Ok) (n:Int):∀k,(∀x∈(V.goS N (V.all N) n k).tb.at_,0<=x.2.slot/\x.2.slot<=1000)/\(∀s∈(V.goS N (V.all N) n k).torn,s.data.length=16)/\∀s∈(V.goS N (V.all N) n k).others,s.data.length=16
 | 0=>⟨λx hx=>by simp[V.goS,Tb.new]at hx,λs hs=>by simp[V.goS]at hs,λs hs=>by simp[V.goS]at hs⟩
 | k+1=>by
  obtain⟨h1,h2,h3⟩:=b4u hN n k;rw[V.goS_succ];unfold V.step;split
  ·rename_i hs;have hm:=V.standOf_mem hs;unfold V.of at hm;obtain⟨e1,e2⟩:=b8e hN (List.mem_filter.1 hm).1;have hp:=Tb.put_slot (e:=(V.standOf (V.of (V.all N) k)).1.en) (b:=(V.standOf (V.of (V.all N) k)).1.block) (r:=(V.standOf (V.of (V.all N) k)).1.row) (m:=(V.standOf (V.of (V.all N) k)).1.mask) h1 e1;have ha:∀l:List En,(∀s∈l,s.data.length=16)->∀s∈l++[(V.standOf (V.of (V.all N) k)).1.en],s.data.length=16:=λl hl s hs=>by
    rcases List.mem_append.1 hs with hs | hs
    ·exact hl s hs
    ·rw[List.mem_singleton]at hs;rw[hs];exact e2
   split
   ·exact⟨hp,h2,h3⟩
   split
   ·exact⟨hp,ha _ h2,h3⟩
   ·exact⟨hp,h2,ha _ h3⟩
  ·exact⟨h1,h2,h3⟩
theorem a6n {N:Nand} (hN:N.Ok) (n:Int):(V.scan N n).tb.Ok/\(∀x∈(V.scan N n).tb.at_,0<=x.2.slot/\x.2.slot<=1000)/\(∀s∈(V.scan N n).torn,s.data.length=16)/\(1<=(V.scan N n).next/\(V.scan N n).next<=1099511627776):=by
 obtain⟨h1,h2,h3⟩:=b4u hN n (V.size n);refine⟨V.goS_ok N (V.all N) n (V.size n),h1,λs hs=>?_,V.nextOf_bd λf hf=>(a9K hf).2⟩;have hs:s∈(V.goS N (V.all N) n (V.size n)).torn++(V.goS N (V.all N) n (V.size n)).others:=hs;rcases List.mem_append.1 hs with hs | hs
 ·exact h2 s hs
 ·exact h3 s hs
theorem a5g {N:Nand} {m:Nat} (hm:m<=65536):(V.scan N m).first<=(V.scan N m).torn.length/\((V.scan N m).torn.take (V.scan N m).first).length<=m/\((V.scan N m).torn.drop (V.scan N m).first).length<=m/\(V.scan N m).torn.length<=2*m:=by
 have hsz:V.size (m:Int)=m:=by unfold V.size;omega
 have h1:=V.goS_len N (V.all N) m (V.size m);rw[hsz]at h1;have e1:(V.scan N m).first=(V.goS N (V.all N) m m).torn.length:=by show(V.goS N (V.all N) m (V.size m)).torn.length=_;rw[hsz]
 have e2:(V.scan N m).torn=(V.goS N (V.all N) m m).torn++(V.goS N (V.all N) m m).others:=by show(V.goS N (V.all N) m (V.size m)).torn++(V.goS N (V.all N) m (V.size m)).others=_;rw[hsz]
 rw[e1,e2,List.length_take,List.length_drop,List.length_append];omega
theorem b0U {N:Nand} (hN:N.Ok) (n:Int):(V.scan N n).held.length<=6000:=by
 have h1:=V.goS_held N (V.all N) n (V.size n);have h2:=b0C N hN;have h3:=b1k (V.goS N (V.all N) n (V.size n)).held;show(a5t (V.goS N (V.all N) n (V.size n)).held).length<=_;omega
namespace Dv
variable {S : Dv} {N : Nand} {k m : Nat}
theorem Ok.holds (h:S.Ok k m) (l:List Int) (on:Bool):(S.holds l on).Ok k m:=⟨h.gd,a0o _ (λ_ _ h=>h.hold _ _) _ _ h.t,h.T,h.sl,h.row,h.next⟩
def mt0 (N:Nand):Dv:=⟨N,Tl.of N,(V.scan N (lgN N.dies N.blocks N.pages)).tb,-1,0,0,max (V.scan N (lgN N.dies N.blocks N.pages)).next 1⟩
theorem Ok.mt0 (hG:N.Gd k m):(Dv.mt0 N).Ok k m:=by
 obtain⟨h1,h2,_,h4⟩:=a6n hG.ok (lgN N.dies N.blocks N.pages);refine⟨hG,Tl.Fit.of N,h1,h2,by show(0:Int)<=0/\(0:Int)<=8;omega,?_⟩;show 1<=max (V.scan N (lgN N.dies N.blocks N.pages)).next 1/\max (V.scan N (lgN N.dies N.blocks N.pages)).next 1<=_;omega
theorem mt0_log (hG:N.Gd k m):(Dv.mt0 N).T.logical=(lgN N.dies N.blocks N.pages:Int):=by
 have h:=a3m hG.ok;have:=V.goS_log N (V.all N) (lgN N.dies N.blocks N.pages) (V.size (lgN N.dies N.blocks N.pages));show(V.goS N (V.all N) (lgN N.dies N.blocks N.pages) (V.size (lgN N.dies N.blocks N.pages))).tb.logical=_;rw[this];omega
theorem torn_keep {l:List En} {c:Nat} (h:S.Ok (costT*c+k) m) (hl:l.length<=c) (hd:∀s∈l,s.data.length=16):(S.torn l).1.Ok k m/\S.N.Like (S.torn l).1.N/\(S.torn l).1.T.logical=S.T.logical:=
 tornGo_keep _ S l k (h.less (by have:=Nat.mul_le_mul_left costT hl;omega)) hd
def costK:Nat:=costT*200+(96+(costT*200+costM))
end Dv
theorem a7S (N:Nand):A6 N=(let s:=V.scan N (lgN N.dies N.blocks N.pages)
 let a:=((Dv.mt0 N).holds s.held true).torn (s.torn.take s.first)
 if a.2≠0 then a
 else
  let b:=(a.1.holds s.held false).clear
  if b.2≠0 then b
  else
   let c:=b.1.torn (s.torn.drop s.first)
   if c.2≠0 then c else c.1.room):=rfl
theorem a4b {N:Nand} {k m:Nat} (hG:N.Gd (Dv.costK+k) m):(A6 N).1.Ok k m/\N.Like (A6 N).1.N/\(A6 N).1.T.logical=(lgN N.dies N.blocks N.pages:Int):=by
 have h200:=a3m hG.ok;obtain⟨t1,t2,t3,_⟩:=a5g (N:=N) (m:=lgN N.dies N.blocks N.pages) (by omega);obtain⟨_,_,hd,_⟩:=a6n hG.ok (lgN N.dies N.blocks N.pages);have h0:=Dv.Ok.mt0 hG;have hlog:=Dv.mt0_log hG;have hd1:∀s∈(V.scan N (lgN N.dies N.blocks N.pages)).torn.take (V.scan N (lgN N.dies N.blocks N.pages)).first,s.data.length=16:=λs hs=>hd s (List.mem_of_mem_take hs)
 have hd2:∀s∈(V.scan N (lgN N.dies N.blocks N.pages)).torn.drop (V.scan N (lgN N.dies N.blocks N.pages)).first,s.data.length=16:=λs hs=>hd s (List.mem_of_mem_drop hs)
 rw[a7S];dsimp only;have ha:=Dv.torn_keep (k:=96+(Dv.costT*200+(Dv.costM+k))) (c:=200) ((h0.holds (V.scan N (lgN N.dies N.blocks N.pages)).held true).less (by unfold Dv.costK;omega)) (by omega) hd1;have ea:((Dv.mt0 N).holds (V.scan N (lgN N.dies N.blocks N.pages)).held true).N=N:=rfl;have ea2:((Dv.mt0 N).holds (V.scan N (lgN N.dies N.blocks N.pages)).held true).T=(Dv.mt0 N).T:=rfl;rw[ea,ea2,hlog]at ha;split
 ·exact⟨ha.1.less (by omega),ha.2⟩
 generalize(((Dv.mt0 N).holds (V.scan N (lgN N.dies N.blocks N.pages)).held true).torn ((V.scan N (lgN N.dies N.blocks N.pages)).torn.take (V.scan N (lgN N.dies N.blocks N.pages)).first)).1=A at ha;have hb:=Dv.clear_keep (ha.1.holds (V.scan N (lgN N.dies N.blocks N.pages)).held false);have eb:(A.holds (V.scan N (lgN N.dies N.blocks N.pages)).held false).N=A.N:=rfl;have eb2:(A.holds (V.scan N (lgN N.dies N.blocks N.pages)).held false).T=A.T:=rfl;rw[eb,eb2]at hb;split
 ·exact⟨hb.1.less (by omega),ha.2.1.trans hb.2.1,by rw[hb.2.2];exact ha.2.2⟩
 have hc:=Dv.torn_keep (k:=Dv.costM+k) (c:=200) hb.1 (Nat.le_trans t3 h200.2) hd2;split
 ·exact⟨hc.1.less (by omega),(ha.2.1.trans hb.2.1).trans hc.2.1,by rw[hc.2.2,hb.2.2];exact ha.2.2⟩
 have hr:=Dv.room_keep hc.1;exact⟨hr.1,((ha.2.1.trans hb.2.1).trans hc.2.1).trans hr.2.1,by rw[hr.2.2,hc.2.2,hb.2.2];exact ha.2.2⟩
structure Fv.Ok (F:Fv) (k m:Nat):Prop where
 dv:F.S.Ok k m
 dat:∀e∈F.L,e.data.length=16
 rng:∀e∈F.L,0<=e.lpn/\e.lpn<F.lg
 nd:(F.L.map (·.lpn)).Nodup
 nx:0<=F.nx/\F.nx+(k:Int)<=4611686018427387904
namespace Fv
variable {F : Fv} {k m : Nat}
theorem lg_like {F G:Fv} (h:F.S.N.Like G.S.N):G.lg=F.lg:=by unfold lg;rw[a4k h]
theorem lg_bd (h:F.S.N.Ok):1<=F.lg/\F.lg<=200:=by have:=a3m h;unfold lg;omega
theorem Ok.less (h:F.Ok k m) {k':Nat} (hk:k'<=k):F.Ok k' m:=⟨h.dv.less hk,h.dat,h.rng,h.nd,by have:=h.nx;omega⟩
theorem Ok.len (h:F.Ok k m):F.L.length<=200:=by
 have hb:=lg_bd h.dv.gd.ok;have h1:=a5u (K:=F.L.map (·.lpn)) (M:=(List.range F.lg.toNat).map λi:Nat=>(i:Int)) h.nd λx hx=>by
  obtain⟨e,he,rfl⟩:=List.mem_map.1 hx;have:=h.rng e he;exact List.mem_map.2 ⟨e.lpn.toNat,List.mem_range.2 (by omega),by omega⟩
 simp at h1;omega
theorem Ok.ask (h:F.Ok k m):F.ask.Ok k m:=⟨h.dv,h.dat,h.rng,h.nd,h.nx⟩
def cW:Nat:=Dv.costM+8*Dv.fuel
theorem done_sub (L l:List En):(H1 L l).Sublist L:=List.filter_sublist
theorem done_lt {L:List En} {n:Nat} (h:L.length≠0) (hn:1<=n):(H1 L (L.take n)).length<L.length:=by
 unfold H1;rw[List.length_filter_lt_length_iff_exists];cases L with
 | nil=>exact absurd rfl h
 | cons x L=>
  refine⟨x,List.mem_cons_self ..,?_⟩;obtain⟨c,rfl⟩:∃c,n=c+1:=⟨n-1,by omega⟩;simp
structure Kept (F G:Fv):Prop where
 like:F.S.N.Like G.S.N
 log:G.S.T.logical=F.S.T.logical
theorem Kept.refl (F:Fv):Kept F F:=⟨Nand.Like.refl _,rfl⟩
theorem Kept.ask (F:Fv):Kept F F.ask:=⟨Nand.Like.refl _,rfl⟩
theorem Kept.trans {F G H:Fv} (h:Kept F G) (h2:Kept G H):Kept F H:=⟨h.like.trans h2.like,h2.log.trans h.log⟩
theorem Ok.with_ {S:Dv} {L:List En} {off:Bool} {k':Nat} (h:F.Ok k' m) (hS:S.Ok k m) (hk:k<=k') (hl:F.S.N.Like S.N) (hL:L.Sublist F.L):(⟨S,L,F.nx,off⟩:Fv).Ok k m:=
 ⟨hS,λe he=>h.dat e (hL.subset he),λe he=>by rw[lg_like (F:=F) (G:=⟨S,L,F.nx,off⟩) hl];exact h.rng e (hL.subset he),h.nd.sublist (hL.map _),by have:=h.nx;show 0<=F.nx/\F.nx+(k:Int)<=_;omega⟩
theorem writes_keep (h:F.Ok (cW+k) m):F.writes.1.Ok k m/\Kept F F.writes.1/\F.writes.1.L.length<=F.L.length/\(F.writes.2=0->F.L.length≠0->F.writes.1.L.length<F.L.length):=by
 have hr:=Dv.room_keep (S:=F.S) (k:=8*Dv.fuel+k) (m:=m) (h.dv.less (by unfold cW;omega));have he:F.writes=(let r:=F.S.room
  if r.2≠0 then({F with S:=r.1}.told r.2,r.2)
  else
   let w:=r.1.pen F.L
   ({F with S:=w.1,L:=H1 F.L (F.L.take w.2.1.toNat)}.told w.2.2,w.2.2)):=rfl
 dsimp only at he
 by_cases h0:F.S.room.2≠0
 ·rw[if_pos h0]at he;rw[he];exact⟨h.with_ (hr.1.less (by omega)) (by omega) hr.2.1 (List.Sublist.refl _),⟨hr.2.1,hr.2.2⟩,Nat.le_refl _,λe=>absurd e h0⟩
 ·rw[if_neg h0]at he;have hp:=Dv.pen_keep hr.1 h.dat
  have ht:=λe hl=>Dv.pen_took hr.1 h.dat e hl;rw[he];refine⟨h.with_ hp.1 (by omega) (hr.2.1.trans hp.2.1) (done_sub _ _),⟨hr.2.1.trans hp.2.1,hp.2.2.trans hr.2.2⟩,(done_sub _ _).length_le,λe hl=>?_⟩;have:=ht e hl;exact done_lt hl (by omega)
theorem flushGo_keep:∀(f:Nat) (F:Fv) (k:Nat),F.Ok (cW*f+k) m->(flushGo f F).1.Ok k m/\Kept F (flushGo f F).1
 | 0,F,k,h=>⟨h.less (by omega), .refl _⟩
 | f+1,F,k,h=>by
  rw[flushGo];split
  ·exact⟨h.less (by omega), .refl _⟩
  have hw:=writes_keep (F:=F) (k:=cW*f+k) (h.less (by rw[Nat.mul_succ];omega));dsimp only;split
  ·exact⟨hw.1.less (by omega),hw.2.1⟩
  ·have ih:=flushGo_keep f F.writes.1 k hw.1;exact⟨ih.1,hw.2.1.trans ih.2⟩
theorem flush_keep (h:F.Ok (cW*200+k) m):F.flush.1.Ok k m/\Kept F F.flush.1:=by
 unfold flush;split
 ·exact⟨h.ask.less (by omega), .ask _⟩
 ·have hl:=h.len;have hm:cW*F.L.length<=cW*200:=Nat.mul_le_mul_left _ hl;have r:=flushGo_keep F.L.length F.ask k (h.ask.less (by omega));exact⟨r.1,⟨r.2.like,r.2.log⟩⟩
theorem put_ok (h:F.Ok (1+k) m) {e:En} (hd:e.data.length=16) (hr:¬(e.lpn<0\/e.lpn>=F.lg)):(F.put e).Ok k m:=by
 have hlg:(F.put e).lg=F.lg:=rfl;refine⟨h.dv.less (by omega),λx hx=>?_,λx hx=>?_,?_,by have:=h.nx;show 0<=F.nx+1/\F.nx+1+(k:Int)<=_;omega⟩
 ·have hx:x∈(F.L.filter λy:En=>!(y.lpn==e.lpn))++[({e with seq:=F.nx}:En)]:=hx;rcases List.mem_append.1 hx with hx | hx
  ·exact h.dat x (List.mem_filter.1 hx).1
  ·rw[List.mem_singleton]at hx;rw[hx];exact hd
 ·have hx:x∈(F.L.filter λy:En=>!(y.lpn==e.lpn))++[({e with seq:=F.nx}:En)]:=hx;rw[hlg];rcases List.mem_append.1 hx with hx | hx
  ·exact h.rng x (List.mem_filter.1 hx).1
  ·rw[List.mem_singleton]at hx;rw[hx];show 0<=e.lpn/\e.lpn<F.lg;omega
 ·show(((F.L.filter λy:En=>!(y.lpn==e.lpn))++[({e with seq:=F.nx}:En)]).map (·.lpn)).Nodup;rw[List.map_append,List.nodup_append];refine⟨List.Nodup.sublist ((List.filter_sublist (p:=λx:En=>!(x.lpn==e.lpn)) (l:=F.L)).map (·.lpn)) h.nd,by simp,λa ha b hb hab=>?_⟩;obtain⟨x,hx,rfl⟩:=List.mem_map.1 ha;simp at hb;have:=(List.mem_filter.1 hx).2;rw[hab,hb]at this;simp at this
theorem waits_keep (h:F.Ok (cW+(1+k)) m) {e:En} (hd:e.data.length=16):(F.waits e).1.Ok k m/\Kept F (F.waits e).1:=by
 unfold waits;split
 ·exact⟨h.ask.less (by omega), .ask _⟩
 split
 ·exact⟨h.ask.less (by omega), .ask _⟩
 rename_i hr;have hr:¬(e.lpn<0\/e.lpn>=F.lg):=hr;split
 ·have hw:=writes_keep h.ask;dsimp only;split
  ·exact⟨hw.1.less (by omega),⟨hw.2.1.like,hw.2.1.log⟩⟩
  ·refine⟨put_ok hw.1 hd ?_,⟨hw.2.1.like,hw.2.1.log⟩⟩;rw[lg_like (F:=F) (G:=F.ask.writes.1) hw.2.1.like];exact hr
 ·exact⟨put_ok (h.ask.less (by omega)) hd hr,⟨Nand.Like.refl _,rfl⟩⟩
theorem write_keep (h:F.Ok (cW+(1+k)) m) (i:Int) {d:List UInt8} (hd:d.length=16):(F.write i d).1.Ok k m/\Kept F (F.write i d).1:=waits_keep h hd
theorem trim_keep (h:F.Ok (cW+(1+k)) m) (i:Int):(F.trim i).1.Ok k m/\Kept F (F.trim i).1:=waits_keep h rfl
theorem tick_keep (h:F.Ok (Dv.costS+k) m):F.tick.1.Ok k m/\Kept F F.tick.1:=by
 unfold tick;split
 ·exact⟨h.ask.less (by omega), .ask _⟩
 ·have hs:=Dv.step_keep h.ask.dv 4;exact⟨h.ask.with_ hs.1 (by omega) hs.2.1 (List.Sublist.refl _),⟨hs.2.1,hs.2.2⟩⟩
theorem whole_keep (h:F.Ok k m):F.whole.1.Ok k m/\Kept F F.whole.1:=by
 unfold whole;split
 ·exact⟨h.ask, .ask _⟩
 ·exact⟨h.ask.with_ h.dv.seen (Nat.le_refl _) (Nand.Like.refl _) (List.Sublist.refl _),⟨Nand.Like.refl _,rfl⟩⟩
theorem read_keep (h:F.Ok k m) (i:Int):(F.read i).1.Ok k m/\Kept F (F.read i).1:=by
 unfold read;split
 ·exact⟨h.ask, .ask _⟩
 split
 ·exact⟨h.ask, .ask _⟩
 ·exact⟨h.ask, .ask _⟩
theorem of_ok {S:Dv} (h:S.Ok k m) (hk:k<=1000000000000000):(Fv.of S).Ok k m:=⟨h,λ_ h=>(by cases h),λ_ h=>(by cases h),List.nodup_nil,by show(0:Int)<=0/\(0:Int)+(k:Int)<=_;omega⟩
end Fv
namespace Rmy
variable {fd : Int} {S : Dv} {k m β : Nat} {W : List (Int × En)}
end Rmy
namespace Tl
variable {N : Nand} {t : Tl}
end Tl
namespace GI
variable {fd : Int} {W : List (Int × En)} {S : Dv} {k m : Nat}
end GI
structure Any (fd:Int) (W:List (Int×En)) (S V:Dv) (c:Nat):Prop where
 inv:Inv fd V
 hd:Hd V W
 next:S.next<=V.next/\V.next<=S.next+c
 logical:V.T.logical=S.T.logical
 broken:V.N.broken=S.N.broken
 like:S.N.Like V.N
namespace Any
variable {fd : Int} {W W' : List (Int × En)} {S U V : Dv} {c c' : Nat}
theorem refl (h:Inv fd S) (hd:Hd S W):Any fd W S S 0:=⟨h,hd,by omega,rfl,rfl,Nand.Like.refl _⟩
theorem trans (h:Any fd W S U c) (h2:Any fd W' U V c'):Any fd W' S V (c+c'):=
 ⟨h2.inv,h2.hd,by have:=h.next;have:=h2.next;omega,h2.logical.trans h.logical,h2.broken.trans h.broken,h.like.trans h2.like⟩
theorem more (h:Any fd W S V c) (hc:c<=c'):Any fd W S V c':=⟨h.inv,h.hd,by have:=h.next;omega,h.logical,h.broken,h.like⟩
end Any
namespace Inv
variable {fd : Int} {m : Nat}
theorem pen_any {S:Dv} {k:Nat} {W:List (Int×En)} {l:List En} (h:Inv fd S) (hO:S.Ok (8*Dv.fuel+k) m) (hW:Hd S W) (hf:∀e∈l,FitR e) (hl0:l.length≠0) (hnd:(l.map (·.lpn)).Nodup) (hlg:∀e∈l,e.lpn<S.T.logical) (hnx:S.next<=1099511627775-1200):
  ∃(V:Dv) (n:Nat) (e:Int),S.pen l=(V,(n:Int),e)/\(e=0/\1<=n/\n<=l.length\/e=11/\n=0)/\Any fd (K8 W l n) S V 1000/\V.Ok k m:=by
 have hrw:=Dv.rows_le hO;have hg:=hO.gd.ok.bd16;have hdt:∀x∈l,x.data.length=16:=λx hx=>(hf x hx).len;have hkeep:=Dv.pen_keep hO hdt;obtain⟨γ,Q,w1,w2⟩:=h.write_any (l:=l) 136 23 S k (m:=m) hO hrw hf hl0 (by omega);have hr:=w1.rows;have hn:=w1.next;rcases w2 with⟨w2,w3,w4⟩ | w4
 ·have w4:S.pen l=(s7 Q l,(Q.fit l:Int),(0:Int)):=w4;have hfit:=Dv.fit_le Q l;have hs:=Dv.left_spec w3.left;have h1:1<=Q.fit l:=by unfold Dv.fit;omega
  have hlgQ:∀e∈l,e.lpn<Q.T.logical:=λe he=>by rw[w1.T];exact hlg e he
  have hH:=(hW.went h w1).wrote w1.inv w2 w3 hf hlgQ hnd;rw[w4]at hkeep;refine⟨s7 Q l,Q.fit l,0,w4, .inl ⟨rfl,h1,hfit.2.1⟩,⟨w3.inv w1.inv w2,hH,?_,hkeep.2.2,w3.turn.broken.trans w1.broken,hkeep.2.1⟩,hkeep.1⟩;show S.next<=Q.next+(Q.fit l:Int)/\Q.next+(Q.fit l:Int)<=_;omega
 ·have w4:S.pen l=(Q,(0:Int),(11:Int)):=w4;rw[w4]at hkeep;exact⟨Q,0,11,w4, .inr ⟨rfl,rfl⟩,⟨w1.inv,hW.went h w1,by omega,hkeep.2.2,w1.broken,hkeep.2.1⟩,hkeep.1⟩
theorem carry_any:∀(f:Nat) (S:Dv) (I:List Int) (done:Int) (W:List (Int×En)) (k:Nat),Inv fd S->S.Ok (Dv.cost*f+k) m->I.length<=f->Hd S W->WOk W->(∀i∈I,(Tb.look W i).isSome=true)->I.Nodup->S.next+1000*(f:Int)<=1099511627775-1300->
  ∃(V:Dv) (n e:Int),Dv.carryGo f S I done=(V,n,e)/\(e=0\/e=11)/\Any fd W S V (1000*f)/\V.Ok k m
 | 0,S,I,done,W,k,h,hO,_,hH,_,_,_,_=>⟨S,done,0,rfl, .inl rfl,Any.refl h hH,hO.less (by omega)⟩
 | f+1,S,I,done,W,k,h,hO,hL,hH,hW,hin,hnd,hnx=>by
  by_cases hl0:I.length=0
  ·have:I=[]:=List.eq_nil_of_length_eq_zero hl0;subst this;exact⟨S,done,0,by rw[Dv.carryGo,if_pos (show([]:List Int).length=0 from rfl)], .inl rfl,(Any.refl h hH).more (Nat.zero_le _),hO.less (by omega)⟩
  ·have hg:=hO.gd.ok.bd16;obtain⟨c,hc⟩:∃c,(max S.slots 1).toNat=c:=⟨_,rfl⟩;have hc2:1<=c:=by omega
   obtain⟨E,e1,e2,e3,e4,e5⟩:=hH.rds hW (I.take c) λi hi=>hin i (List.mem_of_mem_take hi);have hEl:E.length=min c I.length:=by rw[e2,List.length_take]
   have hnd2:(E.map (·.lpn)).Nodup:=by rw[e3];exact hnd.sublist (List.take_sublist _ _)
   have hlgE:∀e∈E,e.lpn<S.T.logical:=λe he=>by
    have:e.lpn∈I.take c:=by rw[<- e3];exact List.mem_map_of_mem he
    have h1:=hin _ (List.mem_of_mem_take this);obtain⟨w,hw⟩:=Option.isSome_iff_exists.1 h1;obtain⟨_,a,ha,_⟩:=hH.each _ _ hw;exact(hO.T.rng _ (Tb.look_mem ha)).2
   obtain⟨V,n,e,p1,p2,p3,p4⟩:=h.pen_any (k:=Dv.cost*f+k) (by have:Dv.cost*(f+1)=Dv.cost*f+Dv.cost:=Nat.mul_succ _ _;exact hO.less (by unfold Dv.cost at this ⊢;omega)) hH e4 (by omega) hnd2 hlgE (by omega);have hnE:n<=E.length:=by omega
   have hdisj:∀i j,i<j->j<n->(E.getD i En.zero).lpn≠(E.getD j En.zero).lpn:=λi j hij hj e=>by
    have g1:i<E.length:=by omega
    have g2:j<E.length:=by omega
    have h3:(E.map (·.lpn))[i]? =(E.map (·.lpn))[j]?:=by
     rw[List.getElem?_map,List.getElem?_map,List.getElem?_eq_getElem g1,List.getElem?_eq_getElem g2];rw[List.getD_eq_getElem?_getD,List.getD_eq_getElem?_getD,List.getElem?_eq_getElem g1,List.getElem?_eq_getElem g2]at e;exact congrArg some e
    have:=(List.getElem?_inj (by rw[List.length_map];exact g1) hnd2).1 h3;omega
   have hHV:Hd V W:=p3.hd.swap (λj hj=>e5 j (by rw[<- e2];omega)) hdisj;have p3':Any fd W S V 1000:=⟨p3.inv,hHV,p3.next,p3.logical,p3.broken,p3.like⟩;have hstep:Dv.carryGo (f+1) S I done=(let w:=S.pen E;if w.2.2≠0 then(w.1,done+w.2.1,w.2.2)else Dv.carryGo f w.1 (I.drop w.2.1.toNat) (done+w.2.1)):=by
    rw[Dv.carryGo,if_neg hl0,hc];dsimp only;rw[e1];dsimp only;rw[if_neg (by decide)]
   rw[hstep,p1];dsimp only;rcases p2 with⟨rfl,q1,q2⟩ | ⟨rfl,rfl⟩
   ·rw[if_neg (by decide),Int.toNat_natCast];have hnext:=p3.next;have hdl:(I.drop n).length=I.length-n:=List.length_drop;obtain⟨U,n2,e2',r1,r2,r3,r4⟩:=carry_any f V (I.drop n) (done+(n:Int)) W k p3.inv p4 (by omega) hHV hW (λi hi=>hin i (List.mem_of_mem_drop hi)) (hnd.sublist (List.drop_sublist _ _)) (by omega);exact⟨U,n2,e2',r1,r2,(p3'.trans r3).more (by omega),r4⟩
   ·rw[if_pos (by decide)];exact⟨V,_,11,rfl, .inr rfl,p3'.more (by omega),p4.less (by omega)⟩
theorem carry_any2 {S:Dv} {k:Nat} {W:List (Int×En)} (h:Inv fd S) (hO:S.Ok (Dv.costC+k) m) (hH:Hd S W) (hW:WOk W) (hlg:S.T.logical<=1000) (hnx:S.next<=1099511627775-2000000) (b most:Int):
  ∃(V:Dv) (n e:Int),S.carry b most=(V,n,e)/\(e=0\/e=11)/\Any fd W S V 1000000/\V.Ok k m:=by
 obtain⟨I,hI⟩:∃I,(S.T.ins b).take (max most 0).toNat=I:=⟨_,rfl⟩;have hsub:∀j∈I,j∈S.T.ins b:=λj hj=>by rw[<- hI]at hj;exact List.mem_of_mem_take hj
 have hlen:I.length<=1000:=by
  have h1:=ins_len hO.T b;have h2:Tb.cntB S.T.at_ b<=S.T.at_.length:=List.countP_le_length;have h3:=a9H hO.T;rw[<- hI,List.length_take];omega
 have hnd:I.Nodup:=by
  rw[<- hI];refine List.Nodup.sublist (List.take_sublist _ _) ?_;unfold Tb.ins;split
  ·exact List.nodup_nil
  ·unfold Tb.inK;exact List.pairwise_map.2 ((List.nodup_range.filter _).imp λhne e=>hne (by omega))
 have hcost:Dv.cost*I.length<=Dv.costC:=Nat.mul_le_mul_left _ (by omega);obtain⟨V,n,e,r1,r2,r3,r4⟩:=h.carry_any I.length S I 0 W k (hO.less (by omega)) (Nat.le_refl _) hH hW (λj hj=>by
  obtain⟨a,ha,_⟩:=a9r (hsub j hj);cases hw:Tb.look W j with
  | none=>rw[hH.none hw]at ha;cases ha
  | some e=>rfl) hnd (by omega)
 refine⟨V,n,e,?_,r2,r3.more (by omega),r4⟩;unfold Dv.carry;rw[hI];exact r1
theorem clear_any {S:Dv} {k:Nat} {W:List (Int×En)} (h:Inv fd S) (hO:S.Ok (96+k) m) (hH:Hd S W):∃V,S.clear=(V,0)/\Any fd W S V 0/\V.Ok k m:=by
 have hk:=Dv.clear_keep hO;obtain⟨N',t',c1,c2,c3⟩:=h.clear_hd hO hH;rw[c1]at hk;exact⟨_,c1,⟨c2.inv,c3,⟨Int.le_refl _,by show S.next<=S.next+0;omega⟩,rfl,c2.broken,c2.like⟩,hk.1⟩
theorem roomGo_any:∀(f:Nat) (S:Dv) (W:List (Int×En)) (k:Nat),Inv fd S->S.Ok (Dv.costR*f+k) m->Hd S W->WOk W->S.T.logical<=1000->S.next+1000000*(f:Int)<=1099511627775-2000000->
  ∃(V:Dv) (e:Int),Dv.roomGo f S=(V,e)/\(e=0\/e=11)/\Any fd W S V (1000000*f)/\V.Ok k m
 | 0,S,W,k,h,hO,hH,_,_,_=>⟨S,0,rfl, .inl rfl,Any.refl h hH,hO.less (by omega)⟩
 | f+1,S,W,k,h,hO,hH,hW,hlg,hnx=>by
  rw[Nat.mul_succ]at hO;rw[Dv.roomGo];split
  ·exact⟨S,0,rfl, .inl rfl,(Any.refl h hH).more (Nat.zero_le _),hO.less (by omega)⟩
  split
  ·exact⟨S,0,rfl, .inl rfl,(Any.refl h hH).more (Nat.zero_le _),hO.less (by omega)⟩
  obtain⟨U,n,e,c1,c2,c3,c4⟩:=h.carry_any2 (k:=96+(Dv.costR*f+k)) (hO.less (by unfold Dv.costR;omega)) hH hW hlg (by omega) S.victim (S.T.count S.victim);dsimp only;rw[c1];dsimp only;rcases c2 with rfl | rfl
  ·rw[if_neg (by decide)];obtain⟨V,d1,d2,d3⟩:=c3.inv.clear_any (k:=Dv.costR*f+k) c4 c3.hd;rw[d1];dsimp only;rw[if_neg (by decide)];have n1:=c3.next;have n2:=d2.next;obtain⟨X,e,r1,r2,r3,r4⟩:=roomGo_any f V W k d2.inv d3 d2.hd hW (by rw[d2.logical,c3.logical];exact hlg) (by omega);exact⟨X,e,r1,r2,((c3.trans d2).trans r3).more (by omega),r4⟩
  ·rw[if_pos (by decide)];exact⟨U,11,rfl, .inr rfl,c3.more (by omega),c4.less (by omega)⟩
theorem room_any {S:Dv} {k:Nat} {W:List (Int×En)} (h:Inv fd S) (hO:S.Ok (Dv.costM+k) m) (hH:Hd S W) (hW:WOk W) (hlg:S.T.logical<=1000) (hnx:S.next<=1099511627775-20000000):
  ∃(V:Dv) (e:Int),S.room=(V,e)/\(e=0\/e=11)/\Any fd W S V 16000000/\V.Ok k m:=by
 have hg:=hO.gd.ok.bd16;have htb:=hO.t.b;obtain⟨U,u1,u2,u3⟩:=h.clear_any (k:=Dv.costR*16+k) (hO.less (by unfold Dv.costM;omega)) hH;have n1:=u2.next;have hm:Dv.costR*S.t.b<=Dv.costR*16:=Nat.mul_le_mul_left _ (by omega);obtain⟨V,e,v1,v2,v3,v4⟩:=roomGo_any S.t.b U W k u2.inv (u3.less (by omega)) u2.hd hW (by rw[u2.logical];exact hlg) (by omega);refine⟨V,e,?_,v2,(u2.trans v3).more (by omega),v4⟩;unfold Dv.room;rw[u1];dsimp only;rw[if_neg (by decide),v1]
end Inv
end Go.Proofs.YtgkpkpbnonmopaaGreat
