/- Helpers, proved here. No condition. -/
import Derived.Test.YtdocmcapegcoeaaGreatA06
import Derived.Test.YtdocmcapegcoeaaGreatA18
import Derived.Test.YtdocmcapegcoeaaGreatA27
import Derived.Test.YtdocmcapegcoeaaGreatA31
import Derived.Test.YtdocmcapegcoeaaGreatA33
set_option maxRecDepth 20000
set_option linter.all false
namespace Go.Proofs.YtdocmcapegcoeaaGreat
open Go
theorem pkSome_range {kind:Int->Bool} {o:Int} {q:Nat}:∀n:Nat,(∀i:Nat,i<n->(((i:Int) !=o)&&kind i)=decide (i<q))->pkSome kind o n=(List.range (min q n)).map λi:Nat=>(i:Int)
 | 0,_=>by simp[pkSome]
 | n+1,h=>by
  rw[pkSome_succ,pkSome_range n λi hi=>h i (by omega),h n (by omega)]
  by_cases e:n<q
  ·rw[decide_eq_true e,if_pos rfl,show min q n=n from by omega,show min q (n+1)=n+1 from by omega,List.range_succ,List.map_append];rfl
  ·rw[decide_eq_false e,if_neg Bool.false_ne_true,show min q n=q from by omega,show min q (n+1)=q from by omega]
theorem wores_one {N:Nand} {b:Int} (hw:∀d:Nat,d<N.dies->N.wornAt d b=1):∀(q:List Nat) (t:Tl),(∀d∈q,d<N.dies)->t.l.length=t.b->t.has b=true->0<=(t.at_ b).wear->(t.at_ b).wear<=1->∀x,t.has x=true->
  let t':=q.foldl (λt (d:Nat)=>t.wore b (N.wornAt d b)) t
  (t'.at_ x).used=(t.at_ x).used/\(t'.at_ x).held=(t.at_ x).held/\(t'.at_ x).bad=(t.at_ x).bad/\(t'.at_ x).wear=(if x=b/\q≠[]then 1 else(t.at_ x).wear)
 | [],t,_,_,_,_,_,x,_=>by simp
 | d::q,t,hq,hl,hb,h0,h1,x,hx=>by
  have hat:∀y,t.has y=true->(t.wore b (N.wornAt d b)).at_ y=if y=b then {t.at_ b with wear:=1}else t.at_ y:=λy hy=>by
   unfold Tl.wore;rw[Tl.at_set hl _ hb hy,hw d (hq d (by simp))];have e1:(if(1:Int)>(t.at_ b).wear then 1 else(t.at_ b).wear)=1:=by split<;>omega
   rw[e1]
  have hhas:∀y,(t.wore b (N.wornAt d b)).has y=t.has y:=λy=>Tl.has_set _ _ _ _;have hlen:(t.wore b (N.wornAt d b)).l.length=(t.wore b (N.wornAt d b)).b:=by
   unfold Tl.wore;rw[Tl.set_len,Tl.set_b];exact hl
  have hbb:=hat b hb;rw[if_pos rfl]at hbb;have ih:=wores_one hw q (t.wore b (N.wornAt d b)) (λe he=>hq e (by simp[he])) hlen (by rw[hhas];exact hb) (by rw[hbb];show(0:Int)<=1;decide) (by rw[hbb];show(1:Int)<=1;decide) x (by rw[hhas];exact hx);rw[List.foldl_cons];dsimp only at ih ⊢;obtain⟨i1,i2,i3,i4⟩:=ih;have hxx:=hat x hx;rw[hxx]at i1 i2 i3 i4
  by_cases e:x=b
  ·subst e;rw[if_pos rfl]at i1 i2 i3 i4;refine⟨i1,i2,i3,?_⟩;rw[i4,if_pos (show x=x/\d::q≠[]from⟨rfl,by simp⟩)];split<;>rfl
  ·rw[if_neg e]at i1 i2 i3 i4;refine⟨i1,i2,i3,?_⟩;rw[i4,if_neg (λh=>e h.1),if_neg (λh=>e h.1)]
structure Clr (D:Nat) (S:Dv) (l:List Int) (N':Nand) (t':Tl):Prop where
 inv:Inv (-1) {S with N:=N',t:=t'}
 fit:t'.Fit N'
 like:S.N.Like N'
 no:NoFl N'
 worn:∀i j,j∉l.map (·.toNat)->(N'.blk i j).worn=(S.N.blk i j).worn
 ops:N'.ops=S.N.ops+((l.length*D:Nat):Int)
 broken:N'.broken=S.N.broken
 has:∀x,t'.has x=S.t.has x
 at_in:∀x∈l,(t'.at_ x).used=false/\(t'.at_ x).wear=1
 at_out:∀x,S.t.has x=true->x∉l->(t'.at_ x).used=(S.t.at_ x).used/\(t'.at_ x).wear=(S.t.at_ x).wear
namespace Inv
theorem clr_go {D:Nat} (hD:3<=D/\D<=6):∀(l:List Int) (S:Dv),(∀b∈l,Er (-1) S b/\(S.t.at_ b).wear=0/\∀i:Nat,(S.N.blk i b.toNat).worn=0)->l.Nodup->Inv (-1) S->S.t.Fit S.N->S.N.dies=D->NoFl S.N->∃N' t',Dv.clearGo l S.N S.t=(N',t',0)/\Clr D S l N' t'
 | [],S,_,_,h,hF,_,hn=>⟨S.N,S.t,rfl,h,hF,Nand.Like.refl _,hn,λ_ _ _=>rfl,by simp,rfl,λ_=>rfl,λx hx=>(by cases hx),λ_ _ _=>⟨rfl,rfl⟩⟩
 | b::l,S,hl,hnd,h,hF,hd,hn=>by
  obtain⟨hb,hw0,hwn⟩:=hl b (by simp);have hnd2:=List.nodup_cons.1 hnd;obtain⟨N1,t1,f1,g1⟩:=erase_spec hb;obtain⟨x1,x2,x3,x4⟩:=g1.exact_ hn;have hhas1:∀x,t1.has x=S.t.has x:=λx=>by
   unfold Tl.has;rw[show t1.b=S.t.b from by rw[g1.fit.b,hF.b,g1.er.like.blocks]]
  have hmk:Msk D (-1) (S.t.mask b):=by
   have:=h.msk2 hF hb.six hb.has
   rwa [hd]at this
  have hmall:=(msk_all hmk hD).1;have hcnt:cntD (S.t.mask b) (List.range S.N.dies)=D:=by
   unfold cntD;rw[hd,List.filter_eq_self.2 λe he=>by
    rw[hmall,L.all_has D (by omega)];have:=List.mem_range.1 he;rw[decide_eq_true (p:=(0:Int)<=(e:Int)) (by omega),decide_eq_true (p:=(e:Int)<(D:Int)) (by omega)];rfl,List.length_range]
  have hbi:=Tl.has_iff.1 hb.has;have hblk:(b:Int)<S.N.blocks:=by have:=hF.b;omega
  have hworn1:∀d:Nat,d<N1.dies->N1.wornAt d b=1:=λd hdd=>by
   have hd1:N1.dies=D:=g1.er.like.dies.trans hd;unfold Nand.wornAt;rw[if_pos ⟨by omega,by omega,hbi.1,by rw[g1.er.like.blocks];exact hblk⟩,Int.toNat_natCast];rw[x3 d (by omega) (by rw[hmall,L.all_has D (by omega)];simp;omega),hwn];rfl
  have hlen:S.t.l.length=S.t.b:=hF.len;have hwo:=λx hx=>wores_one hworn1 (List.range N1.dies) S.t (λd hd=>List.mem_range.1 hd) hlen hb.has (by omega) (by omega) x hx;have hne:List.range N1.dies≠[]:=by
   have hd1:N1.dies=D:=g1.er.like.dies.trans hd;rw[hd1];intro e;have:=congrArg List.length e;simp at this;omega
  have hwlen:(Dv.wores N1 S.t b).l.length=(Dv.wores N1 S.t b).b:=(Dv.wores_fit (N':=N1) hF b).len;have hwhas:∀x,(Dv.wores N1 S.t b).has x=S.t.has x:=λx=>by
   unfold Tl.has;rw[show(Dv.wores N1 S.t b).b=S.t.b from by rw[(Dv.wores_fit (N':=N1) hF b).b,hF.b]]
  have hat1:∀x,S.t.has x=true->(x=b->(t1.at_ x).used=false/\(t1.at_ x).wear=1)/\(x≠b->(t1.at_ x).used=(S.t.at_ x).used/\(t1.at_ x).wear=(S.t.at_ x).wear):=λx hx=>by
   have h1:=hwo x hx;dsimp only at h1;rw[x4];unfold Tl.clean;rw[Tl.at_set hwlen _ (by rw[hwhas];exact hb.has) (by rw[hwhas];exact hx)];refine⟨λe=>?_,λe=>?_⟩
   ·subst e;rw[if_pos rfl];refine⟨rfl,?_⟩;show((Dv.wores N1 S.t x).at_ x).wear=1;have:=h1.2.2.2;rw[if_pos ⟨rfl,hne⟩]at this;exact this
   ·rw[if_neg e];refine⟨h1.1,?_⟩;have:=h1.2.2.2;rw[if_neg (λz=>e z.1)]at this;exact this
  have hrest:∀i j,j≠b.toNat->N1.blk i j=S.N.blk i j:=g1.er.rest;obtain⟨N2,t2,f2,g2⟩:=clr_go hD l {S with N:=N1,t:=t1} (λx hx=>by
   obtain⟨hx1,hx2,hx3⟩:=hl x (by simp[hx]);have hxb:x≠b:=λe=>hnd2.1 (by rw[<- e];exact hx);have hxi:=Tl.has_iff.1 hx1.has;refine⟨⟨g1.inv,g1.fit,by show t1.has x=true;rw[hhas1];exact hx1.has,hx1.ne,hx1.emp,by show(t1.at_ x).used=true;rw[g1.rest x hx1.has hxb];exact hx1.used,by show 3<=N1.dies/\N1.dies<=6;rw[g1.er.like.dies];exact hx1.six,by show 0<N1.pages;rw[g1.er.like.pages];exact hx1.pages⟩,?_,λi=>?_⟩
   ·show(t1.at_ x).wear=0;rw[((hat1 x hx1.has).2 hxb).2];exact hx2
   ·show(N1.blk i x.toNat).worn=0;rw[hrest i x.toNat (by omega)];exact hx3 i) hnd2.2 g1.inv g1.fit (g1.er.like.dies.trans hd) x1
  have o2:N2.ops=N1.ops+((l.length*D:Nat):Int):=g2.ops;have l2:N1.Like N2:=g2.like;have b2:N2.broken=N1.broken:=g2.broken;have w2:∀i j,j∉l.map (·.toNat)->(N2.blk i j).worn=(N1.blk i j).worn:=g2.worn;have s2:∀x,t2.has x=t1.has x:=g2.has;refine⟨N2,t2,?_,g2.inv,g2.fit,g1.er.like.trans l2,g2.no,λi j hj=>?_,?_,b2.trans g1.er.broken,λx=>(s2 x).trans (hhas1 x),λx hx=>?_,λx hx hxl=>?_⟩
  ·rw[Dv.clearGo,f1];dsimp only;rw[if_neg (by decide)];exact f2
  ·simp only[List.map_cons,List.mem_cons,not_or]at hj;rw[w2 i j hj.2,hrest i j hj.1]
  ·rw[o2,x2,hcnt,List.length_cons,Nat.succ_mul];omega
  ·by_cases e:x∈l
   ·exact g2.at_in x e
   ·rcases List.mem_cons.1 hx with rfl | hx
    ·have h1:=g2.at_out x (by show t1.has x=true;rw[hhas1];exact hb.has) e;have h2:=(hat1 x hb.has).1 rfl;exact⟨h1.1.trans h2.1,h1.2.trans h2.2⟩
    ·exact absurd hx e
  ·have hxb:x≠b:=λe=>hxl (by rw[e];simp);have h1:=g2.at_out x (by show t1.has x=true;rw[hhas1];exact hx) (λe=>hxl (by simp[e]));have h2:=(hat1 x hx).2 hxb;exact⟨h1.1.trans h2.1,h1.2.trans h2.2⟩
end Inv
structure SqS (D B P r:Nat) (S:Dv):Prop where
 sq:SeqI D B P r S
 next:S.next=(r:Int)+1
 log:S.T.logical=3
 zero:r=0->S.T.at_=[]
 one:∀q r0,r=q*P+r0+1->r0<P->∃a:AtV,S.T.at_=[(1,a)]/\a.block=(q:Nat)
 ff:∀i j:Nat,(S.N.blk i j).fails=false
theorem SqS.new (D B P:Nat):SqS D B P 0 (Dv.new D B P 3):=⟨SeqI.new D B P 3,rfl,rfl,λ_=>rfl,λq r0 h _=>by omega,λ_ _=>rfl⟩
theorem SqS.step {D B P r k m:Nat} {S:Dv} (h:SqS D B P r S) (hO:S.Ok (8*Dv.fuel+k) m) (hP:0<P) (hr:r<P*4):∃V,S.pen [e18 1 ((r:Int)+1)]=(V,(1:Int),(0:Int))/\SqS D B P (r+1) V/\V.Ok k m:=by
 have hg:=hO.gd.ok.bd16;rw[h.sq.dies,h.sq.blocks,h.sq.pages]at hg;obtain⟨q,r0,hq,hr0⟩:∃q r0,r=q*P+r0/\r0<P:=⟨r/P,r % P,by rw[Nat.mul_comm];exact(Nat.div_add_mod r P).symm,Nat.mod_lt _ hP⟩;have hq4:q<4:=by
  rcases Nat.lt_or_ge q 4 with e | e
  ·exact e
  ·have:4*P<=q*P:=Nat.mul_le_mul_right _ e;omega
 have hf:∀x∈[e18 1 ((r:Int)+1)],FitR x:=λx hx=>by
  simp at hx;rw[hx];exact e18_fit (by omega)
 obtain⟨p1,p2,p3,p4,p5,p6,p7⟩:=h.sq.pen (l:=[e18 1 ((r:Int)+1)]) hO hq hr0 (by omega) hf (by simp) (by rw[h.next];omega);obtain⟨a1,a2,a3,a4,a5⟩:=h.sq.at1 hO hq hr0 (by omega);have hat:=Dv.at1_like S;have hn:S.at1.fit [e18 1 ((r:Int)+1)]=1:=by rw[p2];simp;omega
 have hseq:=(p6.seqs p7 (i:=0) (by omega)).2.1;have hlog2:(wroteP S.at1 [e18 1 ((r:Int)+1)]).T.logical=3:=by
  have:=(Dv.pen_keep hO λe he=>(hf e he).len).2.2;rw[p1]at this;exact this.trans h.log
 have hT:(wroteP S.at1 [e18 1 ((r:Int)+1)]).T=S.T.put {e18 1 ((r:Int)+1)with seq:=S.next+((0:Nat):Int)} (q:Nat) (r0:Nat) ((0:Nat):Int) (L.all D):=by
  show Dv.puts _ _ _ _ _ (S.at1.fit [e18 1 ((r:Int)+1)])=_;rw[hn,Dv.puts_succ,hseq,a1,a2,a3,hat.2.1,hat.2.2];rfl
 have hput:Tb.putB S.T ({e18 1 ((r:Int)+1)with seq:=S.next+((0:Nat):Int)}:En)=true:=by
  have e1:Tb.ok S.T ({e18 1 ((r:Int)+1)with seq:=S.next+((0:Nat):Int)}:En)=true:=by
   unfold Tb.ok;rw[h.log];rfl
  have e2:Tb.elder S.T ({e18 1 ((r:Int)+1)with seq:=S.next+((0:Nat):Int)}:En)=false:=by
   unfold Tb.elder;cases hh:Tb.look S.T.at_ ({e18 1 ((r:Int)+1)with seq:=S.next+((0:Nat):Int)}:En).lpn with
   | none=>rfl
   | some a=>have:=(h.sq.inv.st _ a hh).seq;exact decide_eq_false (by show¬S.next+((0:Nat):Int)<a.seq;omega)
  unfold Tb.putB;rw[e1,e2];rfl
 have hat_:(wroteP S.at1 [e18 1 ((r:Int)+1)]).T.at_=[(1,⟨(q:Nat),(r0:Nat),((0:Nat):Int),L.all D,S.next+((0:Nat):Int),1⟩)]:=by
  rw[hT];unfold Tb.put;rw[if_pos hput];show Tb.put1 S.T.at_ 1 _=_;rcases Nat.eq_zero_or_pos r with e | e
  ·rw[h.zero e];rfl
  ·obtain⟨q1,r1,e1,e2⟩:∃q1 r1,r=q1*P+r1+1/\r1<P:=by
    rcases h.sq.op with⟨x,_⟩ | ⟨q1,r1,x,y,_⟩
    ·omega
    ·exact⟨q1,r1,x,y⟩
   obtain⟨a,b1,_⟩:=h.one q1 r1 e1 e2;rw[b1];rfl
 rw[hn]at p1;refine⟨_,p1,⟨p3,?_,hlog2,λe=>by omega,λq2 r2 e1 e2=>?_,λi j=>?_⟩,p4⟩
 ·show S.at1.next+(S.at1.fit [e18 1 ((r:Int)+1)]:Int)=_;rw[hn,hat.2.2,h.next];omega
 ·obtain⟨z1,z2⟩:=eucl (show q*P+r0=q2*P+r2 by omega) hr0 e2;exact⟨_,hat_,by rw[z1]⟩
 ·show((S.at1.wrote [e18 1 ((r:Int)+1)]).N.blk i j).fails=false;rw[(p6.turn.flags i j).2.1,hat.1];exact h.ff i j
theorem count_gt (q:Nat):∀n,(List.range n).countP (λi=>decide (q<i))=n-(q+1)
 | 0=>by simp
 | n+1=>by
  rw[List.range_succ,List.countP_append,count_gt q n]
  by_cases h:q<n
  ·simp[List.countP_cons,h];omega
  ·simp[List.countP_cons,h];omega
theorem count_ne (q:Nat):∀n,(List.range n).countP (λi=>decide (i≠q))=if q<n then n-1 else n
 | 0=>rfl
 | n+1=>by
  rw[List.range_succ,List.countP_append,count_ne q n]
  by_cases h:n=q
  ·subst h;simp[List.countP_cons]
  ·simp only[List.countP_cons,List.countP_nil,decide_eq_true (show n≠q from h),if_true];split<;>split<;>omega
theorem blanks_range {S:Dv} (hl:S.t.l.length=S.t.b):S.t.blanks=(List.range S.t.b).countP λi:Nat=>!(S.t.at_ (i:Nat)).used:=by
 unfold Tl.blanks Tl.at_;rw[Inv.countP_range_get _ Sb.zero,hl];simp
theorem SqS.clear {D B P q r0 k m:Nat} {S:Dv} (h:SqS D B P (q*P+r0+1) S) (hO:S.Ok (96+k) m) (hr0:r0<P) (hq:q<4):
  S.free=B-(q+1)/\(pkSome (pkSpent S.t S.T) S.op S.t.b).length=q/\S.op=(q:Nat)/\∃V,S.clear=(V,0)/\V.Ok k m/\V.op=(q:Nat)/\V.N.ops=S.N.ops+((q*D:Nat):Int)/\V.N.broken=0/\V.free=B-1/\V.T=S.T/\V.clear=(V,0)/\∀b:Nat,b<B->V.t.wear (b:Nat)=(if b<q then 1 else 0)/\V.t.blank (b:Nat)=decide (b≠q):=by
 have hg:=hO.gd.ok.bd16;rw[h.sq.dies,h.sq.blocks,h.sq.pages]at hg;have hb:S.t.b=B:=by have:=hO.t.b;rw[h.sq.blocks]at this;exact this
 obtain⟨a,ha,hab⟩:=h.one q r0 rfl hr0;have hop:S.op=(q:Nat):=by
  rcases h.sq.op with⟨e,_⟩ | ⟨q1,r1,e1,e2,e3,_⟩
  ·omega
  ·obtain⟨z,_⟩:=eucl (show q*P+r0=q1*P+r1 by omega) hr0 e2;rw[e3,z]
 have hused:∀b:Nat,b<B->(S.t.at_ (b:Nat)).used=decide (b<=q):=λb hbB=>by
  rw[(h.sq.sb b hbB).2.2,decide_eq_decide];constructor
  ·intro hlt;rcases Nat.lt_or_ge q b with e | e
   ·have:(q+1)*P<=b*P:=Nat.mul_le_mul_right _ e;rw[Nat.succ_mul]at this;omega
   ·exact e
  ·intro hle;have:b*P<=q*P:=Nat.mul_le_mul_right _ hle;omega
 have hhas:∀b:Nat,b<B->S.t.has (b:Nat)=true:=λb hbB=>Tl.has_iff.2 (by omega);have hcount:∀b:Nat,S.T.count (b:Nat)=if b=q then 1 else 0:=λb=>by
  rw[hO.T.cnt,ha];unfold Tb.cntB
  by_cases e:b=q
  ·subst e;rw[if_pos rfl];simp[List.countP_cons,hab]
  ·rw[if_neg e];simp[List.countP_cons,hab];omega
 have hfree:S.free=B-(q+1):=by
  rw[h.sq.inv.free_len hO,blanks_range hO.t.len,hb,<- count_gt q B];refine List.countP_congr λx hx=>?_;rw[hused x (List.mem_range.1 hx)];simp
 have hsp:pkSome (pkSpent S.t S.T) S.op S.t.b=(List.range q).map λi:Nat=>(i:Int):=by
  rw[pkSome_range (q:=q) S.t.b λi hi=>?_,hb,show min q B=q from by omega];have hi:i<B:=by omega
  rw[hop];unfold pkSpent Tl.blank Tl.held;rw[h.sq.inv.usable hO (hhas i hi),hhas i hi,hused i hi,(h.sq.sb i hi).2.1,hcount i];rcases Nat.lt_trichotomy i q with e | e | e
  ·rw[decide_eq_true e,decide_eq_true (show i<=q by omega),if_neg (by omega)];simp;omega
  ·subst e;simp
  ·rw[decide_eq_false (show¬i<q by omega),decide_eq_false (show¬i<=q by omega)];simp
 obtain⟨N',t',c1,c2⟩:=Inv.clr_go hg.1 ((List.range q).map λi:Nat=>(i:Int)) S (λb hbm=>by
  have hbs:b∈pkSome (pkSpent S.t S.T) S.op S.t.b:=by rw[hsp];exact hbm
  obtain⟨i,hi,rfl⟩:=List.mem_map.1 hbm;have hi:=List.mem_range.1 hi;exact⟨h.sq.inv.spent_er hO hbs,(h.sq.sb i (by omega)).1,λj=>h.sq.worn j _⟩) (List.pairwise_map.2 (List.nodup_range.imp λhne e=>hne (by omega))) h.sq.inv hO.t h.sq.dies ⟨h.sq.no.dead,h.ff⟩
 have hcl:S.clear=({S with N:=N',t:=t'},0):=by
  unfold Dv.clear Dv.clearX;rw[hsp,c1]
 have hk:=(Dv.clear_keep hO).1;rw[hcl]at hk;have hb':t'.b=B:=by have:=c2.fit.b;rw[c2.like.blocks,h.sq.blocks]at this;exact this
 have hhas':∀b:Nat,b<B->t'.has (b:Nat)=true:=λb hbB=>by rw[c2.has];exact hhas b hbB
 have hmem:∀b:Nat,(b:Int)∈((List.range q).map λi:Nat=>(i:Int))↔b<q:=λb=>by
  rw[List.mem_map];constructor
  ·rintro⟨i,hi,e⟩;have:=List.mem_range.1 hi;omega
  ·intro hlt;exact⟨b,List.mem_range.2 hlt,rfl⟩
 have hat':∀b:Nat,b<B->(t'.at_ (b:Nat)).used=decide (b=q)/\(t'.at_ (b:Nat)).wear=if b<q then 1 else 0:=λb hbB=>by
  by_cases e:b<q
  ·have:=c2.at_in (b:Int) ((hmem b).2 e);rw[this.1,this.2,if_pos e,decide_eq_false (show¬b=q by omega)];exact⟨rfl,rfl⟩
  ·have:=c2.at_out (b:Int) (hhas b hbB) (λhm=>e ((hmem b).1 hm));rw[this.1,this.2,if_neg e,hused b hbB,(h.sq.sb b hbB).1];refine⟨?_,rfl⟩;rw[decide_eq_decide];omega
 have hI':Inv (-1) ({S with N:=N',t:=t'}:Dv):=c2.inv;refine⟨hfree,by rw[hsp];simp,hop,_,hcl,hk,hop,?_,c2.broken.trans h.sq.broken,?_,rfl,?_,λb hbB=>⟨?_,?_⟩⟩
 ·show N'.ops=_;rw[c2.ops];simp
 ·rw[hI'.free_len hk];have h1:=blanks_range (S:=({S with N:=N',t:=t'}:Dv)) hk.t.len;rw[h1];show(List.range t'.b).countP _=_;rw[hb'];have h2:=count_ne q B;rw[if_pos (by omega)]at h2;rw[<- h2];refine List.countP_congr λx hx=>?_;show(!(t'.at_ (x:Nat)).used)=true↔_;rw[(hat' x (List.mem_range.1 hx)).1];simp
 ·have hsp':pkSome (pkSpent t' S.T) S.op t'.b=[]:=pkSome_nil _ λx hx=>by
   rw[hb']at hx;rw[hop];unfold pkSpent Tl.blank;rw[hhas' x hx,(hat' x hx).1]
   by_cases e:x=q
   ·subst e;simp
   ·rw[decide_eq_false e];simp
  show Dv.clear _=_;unfold Dv.clear Dv.clearX;show(({S with N:=(Dv.clearGo (pkSome (pkSpent t' S.T) S.op t'.b) N' t').1,t:=(Dv.clearGo (pkSome (pkSpent t' S.T) S.op t'.b) N' t').2.1}:Dv),(Dv.clearGo (pkSome (pkSpent t' S.T) S.op t'.b) N' t').2.2)=_;rw[hsp'];rfl
 ·show t'.wear (b:Nat)=_;unfold Tl.wear;rw[hhas' b hbB,if_pos rfl,(hat' b hbB).2]
 ·show t'.blank (b:Nat)=_;unfold Tl.blank;rw[hhas' b hbB,(hat' b hbB).1];simp
end Go.Proofs.YtdocmcapegcoeaaGreat
namespace Go.Proofs.YtdocmcapegcoeaaGreat
open Go Go.RowKit
theorem clearX_of {S V:Dv} (h:S.clear=(V,0)):Dv.clearX S.N S.t S.T S.op=(V.N,V.t,0):=by
 unfold Dv.clear at h;dsimp only at h;have h1:=congrArg (λx=>x.1.N) h;have h2:=congrArg (λx=>x.1.t) h;have h3:=congrArg (λx=>x.2) h;dsimp only at h1 h2 h3;rw[<- h1,<- h2,<- h3]
theorem eq_selfB (b:Bool):(b==b)=true:=by cases b<;>rfl
theorem s_SweepClear (g0 g1 g2 rw0:Int) (A:Atom):
  Fn Tryz.prog 10 [.agg #[.int .i64 g0, .int .i64 g1, .int .i64 g2], .int .i64 rw0] [A] (λv As=>v= .bool true/\As=[A]):=by
 refine Fn.enter [0,0] Tryz.func10 rfl rfl rfl λX F hX=>?_;refine J.q hX λbb=>?_;refine J.cb hX (l18_begun) [] ?_;refine cpq ⟨_,rfl,trivial,?_⟩;refine J.q hX λ_=>?_;refine J.cF ?_;refine J.q hX λ_=>?_;refine J.cb hX (l6_Geo g0 g1 g2) [] ?_;rintro v As ⟨D,B,P,rfl,hD,hB,hP,rfl⟩;refine⟨_,rfl,trivial,?_⟩;have hgm:geoMay D B P=true:=by simp[geoMay];omega
 refine J.q hX λ_=>?_;refine J.cb hX (l18_bench D B P hgm 3) [] ?_;rintro v As ⟨n,t,l,q,rfl,rfl⟩;refine⟨_,rfl,trivial,?_⟩;have hr1:=tm_bd rw0 ((P:Int)*4) (by omega);have hr2:=tm_2 rw0 ((P:Int)*4) (by omega);refine J.q hX λ_=>?_;refine J.plan (.of [0,4,9,12,16,20,25,28,32,36,41,44,48,52]) [13] [2] (by rw[hX.hP];kernel_rfl) (by kernel_rfl) ?_;refine J.q hX λ_=>?_;obtain⟨w,hw⟩:=Int.eq_ofNat_of_zero_le hr2.1;rw[hw]at hr2;rw[hw];have hw4:w<P*4:=by omega
 obtain⟨d0,r0,hd0,hr0⟩:∃d0 r0,w=d0*P+r0/\r0<P:=⟨w/P,w % P,by rw[Nat.mul_comm];exact(Nat.div_add_mod w P).symm,Nat.mod_lt _ (by omega)⟩;have hd4:d0<4:=by
  rcases Nat.lt_or_ge d0 4 with e | e
  ·exact e
  ·have:4*P<=d0*P:=Nat.mul_le_mul_right _ e;omega
 have hO0:(Dv.new D B P 3).Ok (1280*40+192) 0:=Dv.Ok.new D B P 3 hgm _ (by decide);refine J.q hX λ_=>?_;refine J.lo (α:=(Nat×Dv)) (λz=>z.1<=w+1/\SqS D B P z.1 z.2/\z.2.Ok (1280*(40-z.1)+192) 0) (λz=>[⟨10, .int .i64 z.1,0, .tt⟩,⟨1, .int .i64 w,0, .tt⟩,⟨2, .pointer (some ⟨bb 0,0,none⟩),3, .tt⟩,⟨6, .pointer (some ⟨n,0,none⟩),0, .tt⟩,⟨7, .pointer (some ⟨t,0,none⟩),0, .tt⟩,⟨8, .pointer (some ⟨l,0,none⟩),0, .tt⟩,⟨9, .pointer (some ⟨q,0,none⟩),0, .tt⟩]) [3,4,5,6] (λz=>DvP q n t l z.2) (λz=>w+1-z.1) ((0,Dv.new D B P 3)) (⟨Nat.zero_le _,SqS.new D B P,hO0⟩) rfl ?_ (λ_=>rfl) λz hI=>?_
 ·rfl
 obtain⟨r,S⟩:=z;dsimp only at hI ⊢;obtain⟨hr,hS,hO⟩:=hI;have hdt:∀x∈[e18 1 ((r:Int)+1)],x.data.length=16:=λx hx=>by
  simp at hx;rw[hx];rfl
 refine J.q hX λ_=>?_;refine J.cond rfl (λh1=>?_) (λh1=>?_)
 ·simp only[decide_eq_true_eq,Int.ofNat_le]at h1;have hO1:S.Ok (8*Dv.fuel+(1280*(40-(r+1))+192)) 0:=hO.less (by unfold Dv.fuel;omega);obtain⟨V,v1,v2,v3⟩:=hS.step hO1 (by omega) (by omega);refine J.q hX λ_=>?_;refine J.cb hX (l18_entry 1 (r+1)) [] ?_;refine cpq ⟨_,rfl,trivial,?_⟩;refine J.q hX λby_=>?_;refine J.ca hX (by kernel_rfl) (pn_Write q n t l S _ 0 hO1 (.pt (by_ 0) 38 (cellsE [e18 1 ((r:Int)+1)])) (some ⟨by_ 0,0,none⟩) 1 1 [e18 1 ((r:Int)+1)] (pt_rd _ _ _ _ _ rfl) rfl (by decide) hdt) [3,4,5,6,7] 0 rfl rfl rfl rfl rfl rfl (λ_=>rfl) ?_;refine cpq ⟨_,rfl,trivial,?_⟩;rw[v1];dsimp only;refine J.q hX λ_=>?_;refine J.cF ?_;refine J.q hX λ_=>?_;refine J.nS ((r+1,V)) (⟨by dsimp only;omega,v2,v3⟩) (by dsimp only;omega) [0,1,2,3,4,5,6] rfl rfl
 simp only[decide_eq_false_iff_not,Int.ofNat_le]at h1;obtain rfl:r=w+1:=by omega
 rw[hd0]at hS;have hO2:S.Ok (96+(96+0)) 0:=hO.less (by omega);obtain⟨c1,c2,c3,V,c4,c5,c6,c7,c8,c9,c10,c11,c12⟩:=hS.clear hO2 hr0 hd4;have hX1:=clearX_of c4;have hX2:=clearX_of c11;have htb:S.t.b<=1000:=by have:=hO.t.b;rw[hS.sq.blocks]at this;omega
 have hVb:V.t.b<=1000:=by have:=c5.t.b;have:=c5.gd.ok.bd16;omega
 have hquo:((w:Int)).tdiv (P:Int)=(d0:Int):=by
  have:w/P=d0:=by rw[hd0,Nat.mul_comm,Nat.mul_add_div (by omega),Nat.div_eq_of_lt hr0];omega
  rw[Int.tdiv_eq_ediv_of_nonneg (by omega),<- Int.natCast_ediv,this]
 have hops:0<=S.N.ops/\S.N.ops<=1000000:=by
  rw[hS.sq.ops];have:(d0*P+r0+1)*D<=40*6:=Nat.mul_le_mul (by omega) hD.2;omega
 have hfreeS:((pkSome (pkFree S.t S.T) S.op S.t.b).length:Int)=(B:Int)-d0-1:=by
  have:(pkSome (pkFree S.t S.T) S.op S.t.b).length=B-(d0+1):=c1;omega
 have hfreeV:((pkSome (pkFree V.t V.T) V.op V.t.b).length:Int)=(B:Int)-1:=by
  have:(pkSome (pkFree V.t V.T) V.op V.t.b).length=B-1:=c9;omega
 rw[c6,c10]at hfreeV;rw[c3]at hfreeS c2 hX1;rw[c6,c10]at hX2;have hdD:d0*D<=4*6:=Nat.mul_le_mul (by omega) hD.2;have hdDi:(d0:Int)*D=((d0*D:Nat):Int):=by omega
 refine J.q hX λ_=>?_;refine J.cb hX (n_Ops n S.N) [4] ?_;refine cpq ⟨_,rfl,trivial,?_⟩;refine J.q hX λ_=>?_;refine J.plan (.of [0,4,8,20,25,28,32,36,14,18,40,44,48,52,56,72,62,66,68,76,80]) [] [2,3] (by rw[hX.hP];kernel_rfl) (by kernel_rfl) ?_;refine J.q hX λ_=>?_;rw[hquo];refine J.q hX λ_=>?_;refine J.cb hX (pn_Open q n t l S) [3] ?_;refine cpq ⟨_,rfl,(by first | exact trivial | (repeat' (first | exact trivial | refine⟨rfl,?_⟩))),?_⟩;rw[c3];refine J.q hX λ_=>?_;refine J.cb hX (p_Free t S.t htb hO.t.len l S.T d0) [5,6] ?_;refine cpq ⟨_,rfl,(by first | exact trivial | (repeat' (first | exact trivial | refine⟨rfl,?_⟩))),?_⟩;rw[hfreeS];refine J.qn hX 4 λ_=>?_;rw[ne_selfI ((B:Int)-d0-1)];refine J.q hX λ_=>?_;refine J.cb hX (pn_Open q n t l S) [3] ?_;refine cpq ⟨_,rfl,(by first | exact trivial | (repeat' (first | exact trivial | refine⟨rfl,?_⟩))),?_⟩;rw[c3];refine J.q hX λ_=>?_;refine J.cb hX (p_Spent t S.t htb hO.t.len l S.T d0) [5,6] ?_;rintro v As ⟨a1,k1,rfl,rfl⟩;refine⟨_,rfl,(by first | exact trivial | (repeat' (first | exact trivial | refine⟨rfl,?_⟩))),?_⟩;rw[c2];refine J.qn hX 4 λ_=>?_;rw[ne_selfI (d0:Int)];refine J.q hX λ_=>?_;refine J.cF ?_;have hdif:V.N.ops-S.N.ops=(d0:Int)*D:=by rw[c7];omega
 have hVo:0<=V.N.ops/\V.N.ops<=2000000:=by rw[c7];omega
 refine J.q hX λ_=>?_;refine J.plan (.of [0,4,8,12,18,22,24,28,32,40,48,52,57,60,38,44,64,68,72,76,80,84,96,101,104,90,94,108,112]) [] [2,3] (by rw[hX.hP];kernel_rfl) (by kernel_rfl) ?_;refine J.q hX λ_=>?_;refine J.cb hX (pn_Open q n t l S) [3] ?_;refine cpq ⟨_,rfl,(by first | exact trivial | (repeat' (first | exact trivial | refine⟨rfl,?_⟩))),?_⟩;rw[c3];refine J.q hX λ_=>?_;refine J.ca hX (by kernel_rfl) (sw_Clear n t l S.N S.t S.T _ 0 hO2.gd (by decide) hO2.t d0) [4,5,6] 0 rfl rfl rfl rfl rfl rfl (λ_=>rfl) ?_;refine cpq ⟨_,rfl,(by first | exact trivial | (repeat' (first | exact trivial | refine⟨rfl,?_⟩))),?_⟩;rw[hX1];dsimp only;refine J.q hX λ_=>?_;refine J.cb hX (n_Ops n V.N) [4] ?_;refine cpq ⟨_,rfl,(by first | exact trivial | (repeat' (first | exact trivial | refine⟨rfl,?_⟩))),?_⟩;refine J.qn hX 3 λ_=>?_;rw[hdif];refine J.qn hX 3 λ_=>?_;rw[ne_selfI ((d0:Int)*D)];refine J.q hX λ_=>?_;refine J.cb hX (pn_Open q n t l S) [3] ?_;refine cpq ⟨_,rfl,(by first | exact trivial | (repeat' (first | exact trivial | refine⟨rfl,?_⟩))),?_⟩;rw[c3];refine J.q hX λ_=>?_;refine J.cb hX (p_Free t V.t hVb c5.t.len l S.T d0) [5,6] ?_;refine cpq ⟨_,rfl,(by first | exact trivial | (repeat' (first | exact trivial | refine⟨rfl,?_⟩))),?_⟩;rw[hfreeV];refine J.qn hX 3 λ_=>?_;rw[ne_selfI ((B:Int)-1)];refine J.q hX λ_=>?_;refine J.cF ?_;refine J.q hX λ_=>?_;refine J.lo (α:=Nat) (λu=>u<=B) (λu=>[⟨15, .int .i64 u,0, .tt⟩,⟨14, .int .i64 d0,0, .tt⟩,⟨13, .int .i64 S.N.ops,0, .tt⟩,⟨2, .pointer (some ⟨bb 0,0,none⟩),3, .tt⟩,⟨6, .pointer (some ⟨n,0,none⟩),0, .tt⟩,⟨7, .pointer (some ⟨t,0,none⟩),0, .tt⟩,⟨8, .pointer (some ⟨l,0,none⟩),0, .tt⟩,⟨9, .pointer (some ⟨q,0,none⟩),0, .tt⟩]) [] (λu=>[]) (λu=>B-u) (0) (Nat.zero_le _) rfl ?_ (λ_=>rfl) λu hI=>?_
 ·rfl
 refine J.q hX λ_=>?_;refine J.cond rfl (λh4=>?_) (λh4=>?_)
 ·simp only[decide_eq_true_eq,Int.ofNat_lt]at h4;obtain⟨e1,e2⟩:=c12 u h4;have e3:((u:Int) !=(d0:Int))=decide (u≠d0):=by
   by_cases e:u=d0
   ·subst e;simp
   ·rw[decide_eq_true e];simp;omega
  refine J.q hX λ_=>?_;refine J.cond rfl (λh5=>?_) (λh5=>?_)
  ·simp only[decide_eq_true_eq,Int.ofNat_lt]at h5;refine J.q hX λ_=>?_;refine J.cb hX (tl_Wear t V.t hVb c5.t.len u) [5] ?_;refine cpq ⟨_,rfl,trivial,?_⟩;rw[e1,if_pos h5];refine J.q hX λ_=>?_;refine J.cb hX (tl_Blank t V.t hVb c5.t.len u) [5] ?_;refine cpq ⟨_,rfl,trivial,?_⟩;rw[e2];refine J.qn hX 6 λ_=>?_;rw[e3,eq_selfB];refine J.q hX λ_=>?_;refine J.cF ?_;refine J.q hX λ_=>?_;refine J.nS (u+1) (by omega) (by omega) [0,1,2,3,4,5,6,7] rfl rfl
  ·simp only[decide_eq_false_iff_not,Int.ofNat_lt]at h5;refine J.q hX λ_=>?_;refine J.cb hX (tl_Wear t V.t hVb c5.t.len u) [5] ?_;refine cpq ⟨_,rfl,trivial,?_⟩;rw[e1,if_neg h5];refine J.q hX λ_=>?_;refine J.cb hX (tl_Blank t V.t hVb c5.t.len u) [5] ?_;refine cpq ⟨_,rfl,trivial,?_⟩;rw[e2];refine J.qn hX 6 λ_=>?_;rw[e3,eq_selfB];refine J.q hX λ_=>?_;refine J.cF ?_;refine J.q hX λ_=>?_;refine J.nS (u+1) (by omega) (by omega) [0,1,2,3,4,5,6,7] rfl rfl
 simp only[decide_eq_false_iff_not,Int.ofNat_lt]at h4;refine J.q hX λ_=>?_;refine J.plan (.of [0,4,8,12,18,22,24,28,32,40,48,52,57,60,38,44,64,68,72,76,82,84,88,92]) [23] [2,3] (by rw[hX.hP];kernel_rfl) (by kernel_rfl) ?_;refine J.q hX λ_=>?_;refine J.cb hX (pn_Open q n t l S) [3] ?_;refine cpq ⟨_,rfl,(by first | exact trivial | (repeat' (first | exact trivial | refine⟨rfl,?_⟩))),?_⟩;rw[c3];refine J.q hX λ_=>?_;refine J.ca hX (by kernel_rfl) (sw_Clear n t l V.N V.t S.T _ 0 c5.gd (by decide) c5.t d0) [4,5,6] 0 rfl rfl rfl rfl rfl rfl (λ_=>rfl) ?_;refine cpq ⟨_,rfl,(by first | exact trivial | (repeat' (first | exact trivial | refine⟨rfl,?_⟩))),?_⟩;rw[hX2];dsimp only;refine J.q hX λ_=>?_;refine J.cb hX (n_Ops n V.N) [4] ?_;refine cpq ⟨_,rfl,(by first | exact trivial | (repeat' (first | exact trivial | refine⟨rfl,?_⟩))),?_⟩;refine J.qn hX 3 λ_=>?_;rw[hdif];refine J.qn hX 3 λ_=>?_;rw[beqI ((d0:Int)*D)];refine J.q hX λ_=>?_;refine J.cb hX (n_Broken n V.N) [4] ?_;refine cpq ⟨_,rfl,(by first | exact trivial | (repeat' (first | exact trivial | refine⟨rfl,?_⟩))),?_⟩;rw[c8];refine J.q hX λ_=>?_;exact J.ru hX [1] ⟨rfl,rfl⟩
end Go.Proofs.YtdocmcapegcoeaaGreat
