/- Helpers. No condition. -/
import Derived.Test.YtpohajhbfllbbaaGreatD06
import Derived.Test.YtpohajhbfllbbaaGreatD28
import Derived.Test.YtpohajhbfllbbaaGreatD29
import Derived.Test.YtpohajhbfllbbaaGreatRows
import Derived.JoinedOf
set_option maxRecDepth 20000
set_option linter.all false
namespace Go.Proofs.YtpohajhbfllbbaaGreat
open Go Go.RowKit
theorem b1O:∀D,D<7->3<=D->∀d,d<D->∀m,m<64->(IntKind.i64.wrap ((BitVec.ofInt IntKind.i64.bits ((m:Nat):Int)&&& BitVec.ofInt IntKind.i64.bits (Tl.andN (L.all (D:Nat)) (L.without (L.all (D:Nat)) (d:Nat)))).toNat:Int) !=0)=L.has ((m:Nat):Int) (d:Nat):=by decide+kernel
namespace Inv
variable {die : Nat} {S : Dv} {k m : Nat}
theorem mask_wo (h:Inv die S) (hO:S.Ok k m) (hd:die<S.N.dies) (htd:L.has S.t.dead (die:Nat)=true) {b:Int} (hb:S.t.has b=true):S.t.mask b=L.without (L.all (S.N.dies:Nat)) (die:Nat):=by
 have hg:=hO.gd.ok.bd16;have hd':=hO.t.d;rcases(h.msk hO hb).eq hg.1 with⟨_,e⟩ | ⟨_,_,_,e⟩
 ·have h1:=e (by omega);have h2:=(y6 (t:=S.t) (b:=b) (by omega) hb h.tdead.1 (h.tbad b hb).1).2 (die:Nat);rw[h1,htd]at h2;simp at h2
 ·exact e
theorem lost_iff (h:Inv die S) (hO:S.Ok k m) (hd:die<S.N.dies) (htd:L.has S.t.dead (die:Nat)=true) {i:Int} {a:AtV} (ha:Tb.look S.T.at_ i=some a) {b:Int} (hb:S.t.has b=true):a2H S.t S.T b i=L.has a.mask (die:Nat):=by
 have hg:=hO.gd.ok.bd16;have hd':=hO.t.d;obtain⟨l,g1,_⟩:=(h.st i a ha).row;have hm:=g1.is.mask;have h64:=g1.is.m64;unfold a2H;rw[ha,Option.getD_some,h.mask_wo hO hd htd hb,hd'];obtain⟨κ,hκ⟩:=Int.eq_ofNat_of_zero_le hm.1;rw[hκ];exact b1O S.N.dies (by omega) hg.1.1 die hd κ (by omega)
theorem hurt_some (h:Inv die S) (hO:S.Ok k m) (hd:die<S.N.dies) (htd:L.has S.t.dead (die:Nat)=true) {b:Int} {l:List Int} (hh:S.hurts=b::l):S.t.has b=true/\∃i a,i∈S.T.ins b/\Tb.look S.T.at_ i=some a/\a.block=b/\L.has a.mask (die:Nat)=true:=by
 have hb:b∈S.hurts:=by rw[hh];simp
 obtain⟨h1,h2,_,h4⟩:=mem_pkSome.1 hb;have hhas:S.t.has b=true:=Tl.has_iff.2 ⟨h1,h2⟩;refine⟨hhas,?_⟩;unfold I8 at h4;obtain⟨i,hi,hl⟩:=List.any_eq_true.1 h4;obtain⟨a,ha,hab⟩:=a3g hi;exact⟨i,a,hi,ha,hab,by rw[<- h.lost_iff hO hd htd ha hhas];exact hl⟩
theorem hurt_none (h:Inv die S) (hO:S.Ok k m) (hd:die<S.N.dies) (htd:L.has S.t.dead (die:Nat)=true) (hh:S.hurts=[]):NoD die S:=λi a ha=>by
 cases hm:L.has a.mask (die:Nat)with
 | false=>rfl
 | true=>
  exfalso
  obtain⟨l,g1,_⟩:=(h.st i a ha).row;have hblk:=g1.is.blk;have hb:=hO.t.b;have hhas:S.t.has a.block=true:=Tl.has_iff.2 (by omega);have hin:a.block∈S.hurts:=mem_pkSome.2 ⟨by omega,by omega,by omega,by
   unfold I8;exact List.any_eq_true.2 ⟨i,a8z hO.T ha rfl,by rw[h.lost_iff hO hd htd ha hhas];exact hm⟩⟩
  rw[hh]at hin;cases hin
theorem noD_hurt (h:Inv die S) (hO:S.Ok k m) (hd:die<S.N.dies) (htd:L.has S.t.dead (die:Nat)=true) (hn:NoD die S):S.hurts=[]:=by
 cases hh:S.hurts with
 | nil=>rfl
 | cons b l=>
  obtain⟨_,i,a,_,ha,_,hm⟩:=h.hurt_some hO hd htd hh;rw[hn i a ha]at hm;cases hm
theorem left_noD (h:Inv die S) (hO:S.Ok k m) (hd:die<S.N.dies) (htd:L.has S.t.dead (die:Nat)=true):S.leftN=0↔NoD die S:=by
 constructor
 ·intro hl;cases hh:S.hurts with
  | nil=>exact h.hurt_none hO hd htd hh
  | cons b l=>
   exfalso
   obtain⟨_,i,a,hi,ha,hab,_⟩:=h.hurt_some hO hd htd hh;have hpos:0<S.T.count b:=by
    rw[hO.T.cnt];have:0<Tb.cntB S.T.at_ b:=List.countP_pos_iff.2 ⟨_,Tb.look_mem ha,by simp[hab]⟩;omega
   have hnn:∀l:List Int,0<=(l.map S.T.count).sum:=by
    intro l
    induction l with
    | nil=>simp
    | cons x l ih=>have:=hO.T.bd x;rw[List.map_cons,List.sum_cons];omega
   have:=hnn l;unfold Dv.leftN at hl;rw[hh,List.map_cons,List.sum_cons]at hl;omega
 ·intro hn;unfold Dv.leftN;rw[h.noD_hurt hO hd htd hn];rfl
end Inv
structure StpM (die:Nat) (W:List (Int×En)) (S:Dv) (V:Dv):Prop where
 rmy:Rmy die W V
 td:L.has V.t.dead (die:Nat)=true
 next:V.next<=S.next+7000
 dead:V.N.dead=S.N.dead
 broken:V.N.broken=S.N.broken
 like:S.N.Like V.N
 logical:V.T.logical=S.T.logical
 noD:NoD die S->NoD die V
 pot:∀O,Gh die O S->NoD die V\/∃O',Gh die O' V/\pot O' V (W.map (·.1)) S.N.pages+1<=pot O S (W.map (·.1)) S.N.pages
theorem Hot2.seen {die:Nat} {S:Dv} {k m β:Nat} (h:Hot2 die S β) (hi:Inv die S) (hO:S.Ok k m) (hd:die<S.N.dies) (hdd:S.N.dead.getD die false=true):Hot2 die S.seen β:=by
 obtain⟨_,_,h3,_⟩:=hi.saw hO hd hdd;cases h with
 | calm hn=>rw[hn.dead]at hdd;cases hdd
 | cold _ h2=>exact .cold h3 h2
 | once _=>exact .once h3
theorem Rmy.step {die:Nat} {S:Dv} {k m β:Nat} {W:List (Int×En)} {most:Int} (h:Rmy die W S) (hO:S.Ok (Dv.costS+k) m) (hd:die<S.N.dies) (hdd:S.N.dead.getD die false=true) (hot:Hot2 die S.seen β) (hβ:β<=1) (hr:5*S.N.pages+β<=S.rows+7) (hmost:1<=most/\most<=6) (hnx:S.next<=1099511627775-5000000):
  ∃(V:Dv) (n:Int) (β':Nat),S.step most=(V,n,0)/\n<=most/\StpM die W S V/\V.Ok k m/\Hot2 die V.seen β'/\β'<=1/\5*V.N.pages+β'<=V.rows+7:=by
 have hg:=hO.gd.ok.bd16;have htb:=hO.t.b;obtain⟨s1,s2,s3,s4,s5,s6⟩:=h.inv.saw hO hd hdd;have hOs:=hO.seen;have hRs:Rmy die W S.seen:=⟨s2,⟨h.hd.keys,h.hd.each⟩,h.wok,λb hb=>by rw[(s4 b).2];exact h.held b (by rw[<- (s4 b).1];exact hb),h.ff,h.cap⟩;have hrs:S.seen.rows=S.rows:=by
  unfold Dv.rows;rw[s5];rfl
 have m1:Mvd die S S.seen:= .same .nil rfl rfl rfl (λb=>(s4 b).1) rfl s2;obtain⟨U,β1,u1,u2,u3,u4,u5,u6,u7,u8,u9,u10,u11,u12,u13,u14⟩:=hRs.room2 (k:=Dv.costC+k) (β:=β) (hOs.less (by
  have:Dv.costR*S.seen.t.b<=Dv.costR*16:=Nat.mul_le_mul_left _ (by have:=hOs.t.b;have:S.seen.N.blocks=S.N.blocks:=rfl;omega);unfold Dv.costS Dv.costM;omega)) hot (by rw[hrs];exact hr) hβ (by show S.next<=_;omega)
 have hmany:=u2.many u3 u4;have hdU:die<U.N.dies:=by rw[u11.dies];exact hd
 have hddU:U.N.dead.getD die false=true:=by rw[u9];exact hdd
 have htdU:=u13 _ s3;have mU:=m1.trans u14;have hlU:S.N.Like U.N:=u11;have hst:S.step most=(let r:=S.seen.room;if r.2≠0 then(r.1,0,r.2)else match r.1.hurts with | []=>(r.1,0,0) | b::_=>r.1.carry b most):=rfl;rw[u1]at hst;dsimp only at hst;rw[if_neg (by decide)]at hst;cases hh:U.hurts with
 | nil=>
  rw[hh]at hst;have hno:=u2.inv.hurt_none u3 hdU htdU hh;refine⟨U,0,β1,hst,by omega,⟨u2,htdU,by have:S.seen.next=S.next:=rfl;omega,u9,u10,hlU,u12,λ_=>hno,λ_ _=> .inl hno⟩,u3.less (by omega),u6.seen u2.inv u3 hdU hddU,by omega,by omega⟩
 | cons b l=>
  rw[hh]at hst;dsimp only at hst;obtain⟨hb,i,a,hi,ha,hab,hm⟩:=u2.inv.hurt_some u3 hdU htdU hh;obtain⟨L,hL⟩:∃L,(U.T.ins b).take (max most 0).toNat=L:=⟨_,rfl⟩;have hLlen:L.length<=6/\(L.length:Int)<=most:=by rw[<- hL,List.length_take];omega
  have hsub:∀j∈L,j∈U.T.ins b:=λj hj=>by rw[<- hL]at hj;exact List.mem_of_mem_take hj
  have hne:L≠[]:=λe=>by
   have:L.length=0:=by rw[e];rfl
   have:=List.length_pos_of_mem hi;rw[<- hL,List.length_take]at*;omega
  have hnd:L.Nodup:=by
   rw[<- hL];refine List.Nodup.sublist (List.take_sublist _ _) ?_;unfold Tb.ins;split
   ·exact List.nodup_nil
   ·unfold Tb.inK;exact List.pairwise_map.2 ((List.nodup_range.filter _).imp λhne e=>hne (by omega))
  have hmul:1*6<=(U.N.dies-2)*6:=Nat.mul_le_mul_right _ (by have:=u11.dies;have:S.seen.N.dies=S.N.dies:=rfl;omega);have hpU:U.N.pages=S.N.pages:=u11.pages;obtain⟨V,β2,r1,r2,r3,r4,r5,r6,r7⟩:=u2.inv.carry_go L.length U L 0 W β1 6 k (u3.less (by
   have:Dv.cost*L.length<=Dv.cost*65536:=Nat.mul_le_mul_left _ (by omega);unfold Dv.costC;omega)) (Nat.le_refl _) u2.hd u2.wok (λj hj=>by
    obtain⟨c,hc,_⟩:=a3g (hsub j hj);cases hw:Tb.look W j with
    | none=>rw[u2.hd.none hw]at hc;cases hc
    | some e=>rfl) hnd u6 (by omega) (by rw[hpU]at hmany;omega) (by have:S.seen.next=S.next:=rfl;omega)
  have hcar:U.carry b most=(V,(L.length:Int),(0:Int)):=by
   unfold Dv.carry;rw[hL];show Dv.carryGo L.length U L 0=_;rw[r1];simp
  have hpV:V.N.pages=S.N.pages:=r2.like.pages.trans hpU;have hdV:die<V.N.dies:=by rw[r2.like.dies];exact hdU
  have hddV:V.N.dead.getD die false=true:=by rw[r2.dead];exact hddU
  have hRV:Rmy die W V:=⟨r2.inv,r3,h.wok,λx hx=>by rw[r2.has]at hx;rw[(r2.sb x hx).1];exact u2.held x hx,λhdd i j=>by rw[(r2.flags i j).2];exact u2.ff (λi=>by rw[<- r2.dead];exact hdd i) i j,by rw[r2.like.blocks,r2.like.pages,r2.like.dies];exact u2.cap⟩;have hnx2:=r2.next;obtain⟨j,hj⟩:=List.exists_mem_of_ne_nil _ hne;obtain⟨c,hc,hcb⟩:=a3g (hsub j hj);refine⟨V,L.length,β2,by rw[hst,hcar],hLlen.2,⟨hRV,r2.td _ htdU,by have:S.seen.next=S.next:=rfl;omega,r2.dead.trans u9,r2.broken.trans u10,hlU.trans r2.like,r2.logical.trans u12,λhn=>Mvd.crd_noD (mU.noD hdd hn) r2 hddU,λO hG=>?_⟩,r7,r4.seen r2.inv r7 hdV hddV,by omega,by rw[hpV];rw[hpU]at hmany;omega⟩;obtain⟨O',g1,g2⟩:=mU.gh (K:=W.map (·.1)) (P:=S.N.pages) hdd hG;have hOb:O' b=true:=by rw[<- hab];exact g1.ent i a ha hm
  have hKj:j∈W.map (·.1):=by
   rw[<- u2.hd.keys];exact List.mem_map.2 ⟨(j,c),Tb.look_mem hc,rfl⟩
  have q1:=(g1.crd (K:=W.map (·.1)) (P:=S.N.pages) r2 hddU).1;have q2:=g1.crd_lt (K:=W.map (·.1)) r2 hpV hj hKj hc (by rw[hcb];exact hOb);exact .inr ⟨O',q1,by omega⟩
theorem Hd.other {die other:Nat} {S:Dv} {W:List (Int×En)} (h:Hd S W) (hi:Inv die S) (hn:NoD die S):Hd {S with N:={S.N with dead:=S.N.dead.set other true}} W:=by
 refine⟨h.keys,λi e he=>?_⟩;obtain⟨h1,a,h2,h3⟩:=h.each i e he;refine⟨h1,a,h2,?_⟩;obtain⟨l,g1,g2,g3,_⟩:=(hi.st i a h2).row;have hno:=hn i a h2;have hne:∀x∈R.job a.block a.row a.mask l,x.1≠(die:Int):=λx hx e=>by
  have:=(g1.is.inn x hx).2.2;rw[e,hno]at this;cases this
 have hlike:S.N.Like {S.N with dead:=S.N.dead.set other true}:=⟨rfl,rfl,rfl⟩;have hF:Full (other:Int) {S.N with dead:=S.N.dead.set other true} a.block a.row a.mask l:=⟨g1.is.like hlike,λx hx _=>g1.good x hx (hne x hx),g1.inn⟩;have r1:=hF.read2 (i:=a.slot.toNat) hi.lit.off (λx hx hxo=>by
  have h4:=(g1.is.inn x hx).1;show(S.N.dead.set other true).getD x.1.toNat false=false;rw[List.getD_eq_getElem?_getD,List.getElem?_set,if_neg (by omega),<- List.getD_eq_getElem?_getD];exact hi.dead _ (by have:=hne x hx;omega)) g3
 have r2:=g1.read hi.lit.off hi.dead g3;rw[show((a.slot.toNat:Nat):Int)=a.slot from by omega]at r1 r2;show R.read {S.N with dead:=S.N.dead.set other true} _ _ _ _=_;rw[r1,<- r2];exact h3
structure Mnd (die D B P g:Nat) (W:List (Int×En)) (i:Nat) (S:Dv):Prop where
 rmy:Rmy die W S
 dd:S.N.dead.getD die false=true
 hot:∃β,Hot2 die S.seen β/\β<=1/\5*P+β<=S.rows+7
 td:0<i->L.has S.t.dead (die:Nat)=true
 pot:NoD die S\/∃O,Gh die O S/\pot O S (W.map (·.1)) P+i<=g+P
 next:S.next<=1098000000000+7000*(i:Int)
 dies:S.N.dies=D
 blocks:S.N.blocks=B
 pages:S.N.pages=P
 logical:S.T.logical=(g:Int)
 broken:S.N.broken=0
namespace Mnd
variable {die D B P g : Nat} {W : List (Int × En)} {i k m : Nat} {S : Dv}
theorem first(hR:Rmy (-1) W S) (hO:S.Ok k m) (hr:5*P<=S.rows+1) (hnx:S.next<=1098000000000) (hgeo:S.N.dies=D/\S.N.blocks=B/\S.N.pages=P) (hlog:S.T.logical=(g:Int)) (hbr:S.N.broken=0) (hd:die<D) (hno:NoF S):Mnd die D B P g W 0 {S with N:={S.N with dead:=S.N.dead.set die true}}:=by
 have hg:=hO.gd.ok.bd16;have hlen:die<S.N.dead.length:=by rw[hO.gd.ok.dead];omega
 have hi1:Inv die S:=hR.inv.any hno.plan;obtain⟨k1,k2⟩:=hi1.killed;have hdd:({S with N:={S.N with dead:=S.N.dead.set die true}}:Dv).N.dead.getD die false=true:=by
  show(S.N.dead.set die true).getD die false=true;rw[List.getD_eq_getElem?_getD,List.getElem?_set,if_pos rfl,if_pos hlen];rfl
 have hH:Hd {S with N:={S.N with dead:=S.N.dead.set die true}} W:=⟨hR.hd.keys,λj e he=>by
  obtain⟨h1,a,h2,h3⟩:=hR.hd.each j e he;refine⟨h1,a,h2,?_⟩;show R.read {S.N with dead:=S.N.dead.set die true} _ _ _ _=_;rw[(k2 j a (hi1.st j a h2)).2];exact h3⟩
 have hW:W.length<=g:=by
  have h1:=a7V hO.T;have h2:=congrArg List.length hR.hd.keys;simp only[List.length_map]at h2;omega
 have hO2:({S with N:={S.N with dead:=S.N.dead.set die true}}:Dv).t.Fit ({S with N:={S.N with dead:=S.N.dead.set die true}}:Dv).N:=hO.t.like ⟨rfl,rfl,rfl⟩;refine⟨⟨k1,hH,hR.wok,hR.held,λh=>?_,hR.cap⟩,hdd,⟨1, .once ?_,Nat.le_refl _,?_⟩,λh=>absurd h (Nat.lt_irrefl _), .inr ⟨λb=>S.t.has b&&(S.t.at_ b).used,⟨λb hb=>Bool.and_eq_true _ _▸hb,λj a ha _=>?_⟩,?_⟩,by show S.next<=_;omega,hgeo.1,hgeo.2.1,hgeo.2.2,hlog,hbr⟩
 ·have h1:=h die;rw[hdd]at h1;cases h1
 ·show L.has (Dv.seeDead {S.N with dead:=S.N.dead.set die true} S.t).dead (die:Nat)=true;have hda:∀x:Nat,({S.N with dead:=S.N.dead.set die true}:Nand).deadAt x=decide (x=die):=λx=>by
   unfold Nand.deadAt;rw[Int.toNat_natCast]
   by_cases e:x=die
   ·subst e;have hdd:(S.N.dead.set x true).getD x false=true:=hdd;show _=_;simp only[hdd];have hx:S.N.dies=D:=hgeo.1;simp;omega
   ·have:(S.N.dead.set die true).getD x false=false:=k1.dead x (by omega);rw[decide_eq_false e];simp only[this];simp
  unfold Dv.seeDead;rw[Q5 hda,if_pos (by have:=hO.t.d;omega)];unfold Tl.die;rw[if_pos (by unfold Tl.hasDie;rw[decide_eq_true (by omega),decide_eq_true (by have:=hO.t.d;omega)];rfl)];show L.has (L.with_ S.t.dead (die:Int)) (die:Nat)=true;rw[L.with_has hi1.tdead.1 (d:=(die:Int)) (by omega)];simp
 ·have e:({S with N:={S.N with dead:=S.N.dead.set die true}}:Dv).rows=S.rows:=rfl;rw[e];omega
 ·have h1:=hi1.st j a ha;obtain⟨l,g1,_⟩:=h1.row;have hblk:=g1.is.blk;have hb:=hO.t.b;show(S.t.has a.block&&(S.t.at_ a.block).used)=true;rw[h1.used,Tl.has_iff.2 (by omega)];rfl
 ·unfold Go.Proofs.YtpohajhbfllbbaaGreat.pot;have hrow:0<=S.row:=hO.row.1;have hl:(W.map (·.1)).length=W.length:=by rw[List.length_map]
  have:=a5r (λb=>S.t.has b&&(S.t.at_ b).used) S.T (W.map (·.1));split
  ·show(W.map (·.1)).length+((P:Int)-S.row).toNat+0<=_;omega
  ·show a9u _ S.T (W.map (·.1))+0<=_;omega
theorem step (h:Mnd die D B P g W i S) (hO:S.Ok (Dv.costS+k) m) (hd:die<D) {most:Int} (hmost:1<=most/\most<=6) (hi:i<=500):∃(V:Dv) (n:Int),S.step most=(V,n,0)/\n<=most/\Mnd die D B P g W (i+1) V/\V.Ok k m/\(0<i->S.leftN=0->V.leftN=0):=by
 obtain⟨β,q1,q2,q3⟩:=h.hot;have hnx:=h.next;obtain⟨V,n,β',v1,v2,v3,v4,v5,v6,v7⟩:=h.rmy.step hO (by rw[h.dies];exact hd) h.dd q1 q2 (by rw[h.pages];exact q3) hmost (by omega);have hdV:die<V.N.dies:=by rw[v3.like.dies,h.dies];exact hd
 refine⟨V,n,v1,v2,⟨v3.rmy,by rw[v3.dead];exact h.dd,⟨β',v5,v6,by rw[v3.like.pages,h.pages]at v7;exact v7⟩,λ_=>v3.td,?_,by have:=v3.next;omega,v3.like.dies.trans h.dies,v3.like.blocks.trans h.blocks,v3.like.pages.trans h.pages,v3.logical.trans h.logical,v3.broken.trans h.broken⟩,v4,λhi0 hl=>?_⟩
 ·rcases h.pot with h1 | ⟨O,g1,g2⟩
  ·exact .inl (v3.noD h1)
  ·rcases v3.pot O g1 with h1 | ⟨O',q4,q5⟩
   ·exact .inl h1
   ·rw[h.pages]at q5;exact .inr ⟨O',q4,by omega⟩
 ·have h1:=(h.rmy.inv.left_noD hO (by rw[h.dies];exact hd) (h.td hi0)).1 hl;exact(v3.rmy.inv.left_noD v4 hdV v3.td).2 (v3.noD h1)
end Mnd
def Nand.kill (N:Nand) (d:Nat):Nand:={N with dead:=N.dead.set d true}
def Fv.kill (F:Fv) (d:Nat):Fv:={F with S:={F.S with N:=F.S.N.kill d}}
theorem b6G:Dv.costS<=UN*2:=by
 have hUe:=b4V;have:Dv.costC<=Dv.costM:=by unfold Dv.costM Dv.costR;omega
 unfold Dv.costS;omega
theorem a3e {N:Nand} {d:Nat} (hN:N.Ok) (hd:d<N.dies):N.fault 4 (d:Int) 0 0 0 0=(true,N.kill d):=by
 have hg:=hN.bd;unfold Nand.fault;rw[if_neg (by simp only[B1];simp;omega),if_neg (by decide),if_neg (by decide),if_neg (by decide),if_pos rfl,Int.toNat_natCast];rfl
theorem Fv.Ok.kill {F:Fv} {k m d:Nat} (h:F.Ok k m) (hd:d<F.S.N.dies):(F.kill d).Ok k (m+1):=by
 have hf:=a3e h.dv.gd.ok hd;have hl:F.S.N.Like (F.S.N.kill d):=⟨rfl,rfl,rfl⟩;have hG:(F.S.N.kill d).Gd k (m+1):=by
  have:=a0H h.dv.gd [⟨0,4,d,0,0,0,0⟩];have e:L4 F.S.N [⟨0,4,d,0,0,0,0⟩]=F.S.N.kill d:=congrArg Prod.snd hf;rw[e]at this;exact this
 exact⟨⟨hG,h.dv.t.like hl,h.dv.T,h.dv.sl,h.dv.row,h.dv.next⟩,h.dat,h.rng,h.nd,h.nx⟩
theorem Mnd.saw {die D B P g i k m:Nat} {W:List (Int×En)} {S:Dv} (h:Mnd die D B P g W i S) (hO:S.Ok k m) (hd:die<D):Mnd die D B P g W i S.seen/\L.has S.seen.t.dead (die:Nat)=true:=by
 have hd2:die<S.N.dies:=by rw[h.dies];exact hd
 obtain⟨e,i1,i2,i3,i4,_⟩:=h.rmy.inv.saw hO hd2 h.dd;obtain⟨β,q1,q2,q3⟩:=h.hot;refine⟨⟨⟨i1,⟨h.rmy.hd.keys,h.rmy.hd.each⟩,h.rmy.wok,λb hb=>?_,h.rmy.ff,h.rmy.cap⟩,h.dd,⟨β,q1.seen i1 hO.seen hd2 h.dd,q2,?_⟩,λ_=>i2,?_,h.next,h.dies,h.blocks,h.pages,h.logical,h.broken⟩,i2⟩
 ·rw[(i3 b).2];exact h.rmy.held b (by rw[<- (i3 b).1];exact hb)
 ·have:S.seen.rows=S.rows:=by unfold Dv.rows;rw[i4];rfl
  omega
 ·rcases h.pot with h1 | ⟨O,g1,g2⟩
  ·exact .inl h1
  ·exact .inr ⟨O,⟨λb hb=>by rw[(i3 b).1,(i3 b).2];exact g1.used b hb,g1.ent⟩,g2⟩
structure Tdd (die D B P i:Nat) (W:List (Int×En)) (F:Fv) (n:Nat) (c:Nat->List UInt8):Prop where
 mn:Mnd die D B P (lgN D B P) W i F.S
 cu:∀j:Nat,j<lgN D B P->cur W [] j=c j
 wr:∀i e,Tb.look W i=some e->e.role≠4
 lg2:lgN D B P<=200
 L:F.L=[]
 off:F.off=false
 ok:F.Ok (UN*n) 1
 dl:die<D
namespace Tdd
variable {die D B P i n : Nat} {W : List (Int × En)} {F : Fv} {c : Nat → List UInt8}
theorem lg (h:Tdd die D B P i W F n c):F.lg=(lgN D B P:Int):=by
 unfold Fv.lg;rw[h.mn.dies,h.mn.blocks,h.mn.pages]
theorem fi (h:Tdd die D B P i W F n c):FI (die:Int) W (lgN D B P) F:=
 ⟨h.mn.rmy.inv,h.mn.rmy.hd,h.mn.rmy.wok,h.wr,h.mn.logical,h.lg,h.lg2,(by rw[h.L];intro e he;cases he),(by rw[h.L];exact List.nodup_nil),h.off⟩
theorem all (h:Tdd die D B P i W F n c):F.all=(F,(List.range (lgN D B P)).map c,0):=Fv.all_of h.lg λj hj=>by
 rw[h.fi.read,if_neg (by omega),h.L,h.cu j hj]
theorem less (h:Tdd die D B P i W F n c) {k:Nat} (hk:k<=n):Tdd die D B P i W F k c:=
 ⟨h.mn,h.cu,h.wr,h.lg2,h.L,h.off,h.ok.less (Nat.mul_le_mul_left _ hk),h.dl⟩
theorem whole (h:Tdd die D B P i W F n c):Tdd die D B P i W F.whole.1 n c/\(F.whole.2=true↔NoD die F.S)/\F.whole.1.S.T=F.S.T:=by
 have hk:=(Fv.whole_keep h.ok).1;obtain⟨m1,m2⟩:=h.mn.saw h.ok.dv h.dl;have hl:=m1.rmy.inv.left_noD h.ok.dv.seen (by rw[m1.dies];exact h.dl) m2;have he:F.whole=({F with S:=F.S.seen},F.S.seen.leftN==0):=by
  unfold Fv.whole;rw[h.fi.ask,if_neg (by rw[h.off];decide)]
 rw[he]at hk ⊢;refine⟨⟨m1,h.cu,h.wr,h.lg2,h.L,h.off,hk,h.dl⟩,?_,rfl⟩;dsimp only;rw[beq_iff_eq];exact hl
theorem tick (h:Tdd die D B P i W F (n+2) c) (hi:i<=500):F.tick.2=0/\Tdd die D B P (i+1) W F.tick.1 n c:=by
 have hU:UN*(n+2)=UN*n+UN*2:=Nat.mul_add _ _ _;have hS:=b6G;have hk:=(Fv.tick_keep (k:=UN*n) (m:=1) (h.ok.less (by omega))).1;obtain⟨V,x,v1,_,v3,_,_⟩:=h.mn.step (k:=UN*n) (h.ok.dv.less (by omega)) h.dl (most:=4) (by decide) hi;have he:F.tick=({F with S:=V},0):=by
  unfold Fv.tick;rw[h.fi.ask,h.off,if_neg Bool.false_ne_true,v1];show(({F with S:=V}:Fv).told 0,(0:Int))=_;unfold Fv.told;simp[h.off]
 rw[he]at hk ⊢;exact⟨rfl,v3,h.cu,h.wr,h.lg2,h.L,h.off,hk,h.dl⟩
theorem ticks:∀(f i:Nat) (a:Int) (F:Fv),Tdd die D B P i W F (n+2*f) c->lgN D B P+P<i+f->i+f<=500->0<=a->∃j F' r,Fv.ticksG f a F=(F',r)/\0<=r/\Tdd die D B P j W F' n c/\NoD die F'.S
 | 0,i,a,F,h,h1,h2,ha=>by
  obtain⟨w1,w2,w3⟩:=h.whole;have hn:NoD die F.S:=by
   rcases h.mn.pot with h1 | ⟨O,_,g2⟩
   ·exact h1
   ·omega
  refine⟨i,F.whole.1,a,?_,ha,w1,by unfold NoD;rw[w3];exact hn⟩;unfold Fv.ticksG;rw[w2.2 hn];rfl
 | f+1,i,a,F,h,h1,h2,ha=>by
  obtain⟨w1,w2,w3⟩:=h.whole;rw[Fv.ticksG_succ]
  by_cases hw:F.whole.2=true
  ·rw[if_pos hw];exact⟨i,_,a,rfl,ha,w1.less (by omega),by unfold NoD;rw[w3];exact w2.1 hw⟩
  ·rw[if_neg hw];obtain⟨t1,t2⟩:=Tdd.tick (n:=n+2*f) (w1.less (by omega)) (by omega);rw[if_neg (by rw[t1];decide)];exact ticks f (i+1) (a+1) _ t2 (by omega) (by omega) (by omega)
theorem other (h:Tdd die D B P i W F n c) (hn:NoD die F.S) (d:Nat):(F.kill d).all=(F.kill d,(List.range (lgN D B P)).map c,0):=by
 have h2:Hd (F.kill d).S W:=h.mn.rmy.hd.other (other:=d) h.mn.rmy.inv hn;have hask:(F.kill d).ask=F.kill d:=by
  have h1:=h.fi.ask;unfold Fv.ask at h1 ⊢;have:(F.kill d).S.N.off=F.S.N.off:=rfl;rw[this,h.fi.inv.lit.off,show(F.kill d).off=false from h.off];unfold Fv.kill;rw[h.off];rfl
 have hget:∀j:Int,(F.kill d).get j=(cur W [] j,0):=λj=>by
  unfold Fv.get cur Q0;rw[show(F.kill d).L=[]from h.L];simp only[List.find?_nil,Bool.false_eq_true,if_false];cases hw:Tb.look W j with
  | none=>rw[h2.none hw]
  | some e=>
   obtain⟨_,a0,ha0,hr0⟩:=h.fi.hd.each j e hw;obtain⟨y,hy,_,_,hyr⟩:=h.fi.inv.read ha0;obtain⟨h1,a,ha,hr⟩:=h2.each j e hw;have:a0=a:=by have e3:Tb.look F.S.T.at_ j=some a:=ha;rw[ha0]at e3;injection e3
   subst this;have hwe:=h.fi.wok j e hw;rw[hr0]at hy;have her:e.role=a0.role:=by injection hy with hy;rw[<- hyr,<- hy]
   have h4:=h.wr j e hw;rw[ha];dsimp only;rcases hwe.2.role with r | ⟨r | r,hz⟩
   ·rw[if_neg (by omega),if_neg (by omega)];have hr':R.read (F.kill d).S.N a0.block a0.row a0.slot a0.mask=_:=hr;rw[hr'];dsimp only;rw[if_neg];rintro(x | x | x)
    ·exact x rfl
    ·exact x hwe.1
    ·exact x rfl
   ·rw[if_pos (by omega),hz]
   ·exact absurd r h4
 refine Fv.all_of h.lg λj hj=>?_;unfold Fv.read;rw[hask,show(F.kill d).off=false from h.off,if_neg Bool.false_ne_true,if_neg (by rw[show(F.kill d).lg=_ from h.lg];omega),hget,h.cu j hj]
end Tdd
theorem Dev.dies {die D B P n:Nat} {F:Fv} {c:Nat->List UInt8} (h:Dev D B P F n c) (hn:130000<=n) (hL:F.L=[]) (hd:die<D) (hc0:c 0≠zeros16) (hl0:0<lgN D B P):∃W,Tdd die D B P 0 W (F.kill die) n c/\(F.kill die).whole.2=false:=by
 obtain⟨W,hW,hc⟩:=h.fc;have hnx:=h.nx;have h1:Mnd die D B P (lgN D B P) W 0 (F.kill die).S:=Mnd.first hW.rmy h.ok.dv (by have:=hW.rows;rw[h.geo.2.2]at this;exact this) (by omega) h.geo hW.fi.log h.br hd hW.no;have h2:Tdd die D B P 0 W (F.kill die) n c:=⟨h1,λj hj=>by rw[<- hc j hj,hL],hW.fi.wr,hW.fi.lg2,hL,hW.fi.off,h.ok.kill (by rw[h.geo.1];exact hd),hd⟩;refine⟨W,h2,?_⟩;rw[<- Bool.not_eq_true];intro hw;have hno:=h2.whole.2.1.1 hw;have hz:=hc 0 hl0;rw[hL]at hz;cases hlk:Tb.look W ((0:Nat):Int)with
 | none=>
  unfold cur at hz;rw[hlk]at hz;exact hc0 hz.symm
 | some e=>
  obtain⟨_,a,ha,_⟩:=hW.fi.hd.each _ e hlk;have hm:=(hW.gi.msk _ a ha).all die (by rw[h.geo.1];exact hd) (by omega);have:=hno _ a ha;rw[hm]at this;cases this
theorem a8e (n:Nat) (N:Nand) (hN:N.Ok) (x:Int):FP 29 [pp n,iI x] [i5 n N] (Ps (iI (D7 x N.dies)) [i5 n (N.kill (D7 x N.dies).toNat)]):=by
 have hg:=hN.bd;have hs:=Y0 x (k:=(N.dies:Int)) (by omega);have hk:=a3e hN (d:=(D7 x N.dies).toNat) (by omega);rw[Int.toNat_of_nonneg hs.1]at hk;refine FE [2,0] Tryz.func29 λX F hX=>?_;refine J.qp (M8 n N) [1] λ_=>?_;refine J.qp (a6e x N.dies (by omega)) [] λ_=>?_;refine J.qp (T7 n N hN 0 4 (D7 x N.dies) 0 0 0 0) [1] λ_=>?_;rw[hk];exact J.qx [1]
theorem b1d (g0 g1 g2 dd oo:Int) (A:Atom):FP 7 [.agg #[iI g0,iI g1,iI g2],iI dd,iI oo] [A] (Ps (.bool true) [A]):=by
 refine FE [0,0,0] Tryz.func7 λX F hX=>?_;refine J.qp (b0K) [] λ_=>?_;refine J.qF λ_=>?_;refine J.qc (a9c g0 g1 g2) [] λ_=>?_;rintro v As ⟨D,B,P,n,f,p,t,l,d,Z,rfl,hD,hB,hP,hZ,hZL,rfl⟩;refine⟨_,rfl,trivial,?_⟩;have hlg:=a8C hD hB hP;refine J.qc (b0J f p n t l d 11 (by decide) (hZ.less (k:=400+130000) (by decide))) [3,4,5,6,7,8] λ_=>?_;rintro v As ⟨Y,rfl,⟨hY,hYL⟩,rfl⟩;refine⟨_,rfl,trivial,?_⟩;have hb:=Y0 dd (k:=(Y.S.N.dies:Int)) (by rw[hY.geo.1];omega);obtain⟨dn,hdn⟩:∃k:Nat,(D7 dd Y.S.N.dies).toNat=k:=⟨_,rfl⟩;have hdn2:D7 dd Y.S.N.dies=(dn:Int):=by omega
 have hdl:dn<D:=by have:=hY.geo.1;omega
 obtain⟨W,hT,hW0⟩:=hY.dies (die:=dn) (by decide) hYL (by have:=hY.geo.1;omega) (by decide) (by omega);have hT1:=hT.whole.1;refine J.qF λ_=>?_;refine J.qp (a8e n Y.S.N hY.ok.dv.gd.ok dd) [5] λ_=>?_;rw[hdn,hdn2];refine J.q λ_=>?_;refine J.ca hX (by kernel_rfl) (a4Y f p n t l d (Y.kill dn) 11 (by decide) (lgN D B P) _ _ (by omega) hT.ok hT.lg hT.all) [3,4,5,6,7,8] 0 rfl rfl rfl rfl rfl rfl (λ_=>rfl) ?_;refine cpq ⟨_,rfl,trivial,?_⟩;refine J.qp (a3h f p n t l d (Y.kill dn) _ _ hT.ok) [3,4,5,6,7,8] λ_=>?_;rw[hW0];refine J.qF λ_=>?_;obtain⟨j,F3,r,e3,hr,hT3,hno⟩:=Tdd.ticks (n:=100000) 400 0 0 _ (hT1.less (by decide)) (by omega) (by decide) (by decide);have hC:Dv.costS*a0z 400+0<=UN*130000:=by
  rw[show a0z 400=400 from by unfold a0z;omega,Nat.add_zero];exact Nat.le_trans (Nat.mul_le_mul_right 400 b6G) (by rw[Nat.mul_assoc];exact Nat.mul_le_mul_left _ (by decide))
 obtain⟨w1,w2,w3⟩:=hT3.whole;have hno4:NoD dn F3.whole.1.S:=by unfold NoD;rw[w3];exact hno
 have hd4:=w1.mn.dies;have hs2:=Y0 oo (k:=(F3.whole.1.S.N.dies:Int)-1) (by omega);have hs3:=Y0 ((dn:Int)+1+D7 oo ((F3.whole.1.S.N.dies:Int)-1)) (k:=(F3.whole.1.S.N.dies:Int)) (by omega);refine J.qp (a7e f p n t l d (Y.kill dn).whole.1 0 1 400 (hT1.ok.less hC) (by decide)) [3,4,5,6,7,8] λ_=>?_;rw[show(Y.kill dn).whole.1.ticks 400=(F3,r)from e3];refine J.q λ_=>?_;rw[decide_eq_false (show¬r<0 by omega)];refine J.qp (a3h f p n t l d F3 _ _ hT3.ok) [3,4,5,6,7,8] λ_=>?_;rw[w2.2 hno];refine J.q λ_=>?_;refine J.ca hX (by kernel_rfl) (a4Y f p n t l d F3.whole.1 11 (by decide) (lgN D B P) _ _ (by omega) w1.ok w1.lg w1.all) [3,4,5,6,7,8] 0 rfl rfl rfl rfl rfl rfl (λ_=>rfl) ?_;refine cpq ⟨_,rfl,trivial,?_⟩;refine J.qF λ_=>?_;refine J.qp (M8 n F3.whole.1.S.N) [5] λ_=>?_;refine J.qp (a6e oo ((F3.whole.1.S.N.dies:Int)-1) (by omega)) [] λ_=>?_;refine J.qp (a8e n F3.whole.1.S.N w1.ok.dv.gd.ok ((dn:Int)+1+D7 oo ((F3.whole.1.S.N.dies:Int)-1))) [5] λ_=>?_;obtain⟨d2,hd2⟩:∃k:Nat,(D7 ((dn:Int)+1+D7 oo ((F3.whole.1.S.N.dies:Int)-1)) (F3.whole.1.S.N.dies:Int)).toNat=k:=⟨_,rfl⟩;rw[hd2];refine J.q λ_=>?_;refine J.ca hX (by kernel_rfl) (a4Y f p n t l d (F3.whole.1.kill d2) 11 (by decide) (lgN D B P) _ _ (by omega) (w1.ok.kill (d:=d2) (by omega)) w1.lg (w1.other hno4 d2)) [3,4,5,6,7,8] 0 rfl rfl rfl rfl rfl rfl (λ_=>rfl) ?_;refine cpq ⟨_,rfl,trivial,?_⟩;refine J.qp (a2R n (F3.whole.1.S.N.kill d2)) [5] λ_=>?_;rw[show(F3.whole.1.S.N.kill d2).broken=0 from w1.mn.broken];exact J.qx [1]
theorem H1 {a b:Bool} (ha:a=true) (hb:b=true):(a&&b)=true:=by rw[ha,hb];rfl
theorem a9M {P:Program} {f:FuncId} {fn:Func} {s:ChangeSpec} {c:OpenClaim} (k0:(c.wf (OpenSpec.ofChange s))=true) (k1:(laidOutB P)=true) (k2:(mapsRowed P)=true) (k3:(fn.params.all (P.readableRec ·))=true) (k4:(namedTie P c.named s.vars)=true) (k5:(c.stops==[])=true) (k6:(P.stops==[])=true) (k7:(c.knobs==[])=true) (k8:(P.stopKnobs==[])=true) (k9:(c.inPlace==P.inPlace f)=true) (k10:(c.unfollowed==P.unfollowed f)=true) (k11:(c.recurses==P.recurses f)=true) (k12:(c.named==P.varsNamed f)=true) (k13:(c.maps==(fn.params.toList++s.plain.varTypes P).any (P.mapsRec ·))=true) (k14:(c.ifaces==(fn.params.toList++s.plain.varTypes P).any (P.ifacesRec ·))=true) (k15:(c.mapsOut==P.mapsAmong fn.resultTypes.toList)=true) (k16:(c.loops==(fn.params.toList++s.plain.varTypes P).any (P.loopsFrom ·))=true) (k17:(c.wideKeys==(fn.params.toList++s.plain.varTypes P++fn.resultTypes.toList).any (P.wideKeysFrom ·))=true) (k18:(s.vars.all (P.varReadable ·))=true) (k19:(fn.resultTypes.all (λt=>P.readableRec t&&decide (t<P.types.size)))=true) (k20:(c.ifacesOut==fn.resultTypes.toList.any (P.ifacesRec ·))=true) (k21:(c.loopsOut==fn.resultTypes.toList.any (P.loopsFrom ·))=true) (k22:(c.plainKeys==P.plainKeys)=true) (k23:(c.shortTexts.isNone)=true) (k24:(P.stopsHeard)=true) (k25:(P.mayEnter)=true) (k26:(c.lifted==P.liftsFinal)=true) (k27:(P.make==some c.make)=true) (k28a:c.domain.isEmpty=true) (k28:(c.kinds==[])=true) (k29:(c.pinned==c.pinnedBy)=true) (k30:(c.veiled==(fn.params.toList++s.plain.varTypes P++fn.resultTypes.toList).any (P.veiledRec ·))=true) (k31:(c.veiledFits P fn.params.toList (fn.params.toList++s.plain.varTypes P++fn.resultTypes.toList))=true):joinedFacts P f fn s c=true:=by
 unfold joinedFacts;rw[if_pos k28a];exact(H1 (H1 (H1 (H1 (H1 (H1 (H1 (H1 (H1 (H1 (H1 (H1 (H1 (H1 (H1 (H1 (H1 (H1 (H1 (H1 (H1 (H1 (H1 (H1 (H1 (H1 (H1 (H1 (H1 (H1 (H1 k0 k1) k2) k3) k4) k5) k6) k7) k8) k9) k10) k11) k12) k13) k14) k15) k16) k17) k18) k19) k20) k21) k22) k23) k24) k25) k26) k27) k28) k29) k30) k31)
theorem b2h:laidOutB Tryz.prog=true:=by kernel_rfl
theorem b4d:mapsRowed Tryz.prog=true:=by kernel_rfl
theorem b4c:(Tryz.prog.stops==[])=true:=by kernel_rfl
theorem b4e:(Tryz.prog.stopKnobs==[])=true:=by kernel_rfl
theorem b4f:Tryz.prog.stopsHeard=true:=by kernel_rfl
theorem b4g:Tryz.prog.mayEnter=true:=by kernel_rfl
end Go.Proofs.YtpohajhbfllbbaaGreat
