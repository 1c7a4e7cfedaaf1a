/- Helpers. No condition. -/
import Derived.Test.YtpakpgkdpofbhaaGreatE00
import Derived.Test.YtpakpgkdpofbhaaGreatE04
import Derived.Test.YtpakpgkdpofbhaaGreatE07
import Derived.Test.YtpakpgkdpofbhaaGreatE09
import Derived.Test.YtpakpgkdpofbhaaGreatE10
import Derived.Test.YtpakpgkdpofbhaaGreatE11
import Derived.Test.YtpakpgkdpofbhaaGreatE12
import Derived.Test.YtpakpgkdpofbhaaGreatE13
import Derived.Test.YtpakpgkdpofbhaaGreatE14
set_option maxRecDepth 20000
set_option linter.all false
namespace Go.Proofs.YtpakpgkdpofbhaaGreat
open Go Go.RowKit
namespace Inv
variable {fd : Int} {S : Dv} {k m : Nat}
structure Cleared (fd:Int) (S:Dv) (l:List Int) (N':Nand) (t':Tl):Prop where
 inv:Inv fd {S with N:=N',t:=t'}
 fit:t'.Fit N'
 lit:N'.Lit
 like:S.N.Like N'
 dead:N'.dead=S.N.dead
 broken:N'.broken=S.N.broken
 plan:∀a∈N'.plan,a∈S.N.plan
 reads:∀i a,Std fd S i a->a.block∉l->Std fd {S with N:=N',t:=t'} i a/\R.read N' a.block a.row a.slot a.mask=R.read S.N a.block a.row a.slot a.mask
 has:∀x,t'.has x=S.t.has x
 blank:∀b∈l,(t'.at_ b).used=false
 rest:∀x,S.t.has x=true->x∉l->(t'.at_ x).used=(S.t.at_ x).used
 held:∀x,S.t.has x=true->(t'.at_ x).held=(S.t.at_ x).held
 blanks:t'.blanks=S.t.blanks+l.length
 td:∀e:Int,L.has S.t.dead e=true->L.has t'.dead e=true
 nofl:b0y S.N->b0y N'/\∀i j:Nat,(N'.blk i j).met=(S.N.blk i j).met
 msks:b0y S.N->∀b,t'.mask b=S.t.mask b
theorem wores_mask (N':Nand) (b:Int):∀(q:List Nat) (t:Tl),t.l.length=t.b->(q.foldl (λt (d:Nat)=>t.wore b (N'.wornAt d b)) t).l.length=(q.foldl (λt (d:Nat)=>t.wore b (N'.wornAt d b)) t).b/\∀j,(q.foldl (λt (d:Nat)=>t.wore b (N'.wornAt d b)) t).mask j=t.mask j
 | [],t,hl=>⟨hl,λ_=>rfl⟩
 | d::q,t,hl=>by
  rw[x9];have h1:(t.wore b (N'.wornAt d b)).l.length=(t.wore b (N'.wornAt d b)).b:=by
   unfold Tl.wore Tl.set;split
   ·show(List.set _ _ _).length=_;rw[y8];exact hl
   ·exact hl
  obtain⟨i1,i2⟩:=wores_mask N' b q _ h1;exact⟨i1,λj=>(i2 j).trans (b9c hl b {t.at_ b with wear:=if N'.wornAt d b>(t.at_ b).wear then N'.wornAt d b else(t.at_ b).wear} (λ_=>rfl) j)⟩
theorem clearGo_spec:∀(l:List Int) (S:Dv),(∀b∈l,Er fd S b)->l.Nodup->Inv fd S->S.t.Fit S.N->∃N' t',Dv.clearGo l S.N S.t=(N',t',0)/\Cleared fd S l N' t'
 | [],S,_,_,h,hF=>⟨S.N,S.t,rfl,h,hF,h.lit,Nand.Like.refl _,rfl,rfl,λ_ h=>h,λi a ha _=>⟨ha,rfl⟩,λ_=>rfl,λb hb=>(by cases hb),λ_ _ _=>rfl,λ_ _=>rfl,rfl,λ_ h=>h,λhn=>⟨hn,λ_ _=>rfl⟩,λ_ _=>rfl⟩
 | b::l,S,hl,hnd,h,hF=>by
  have hb:=hl b (by simp);have hnd2:=List.nodup_cons.1 hnd;obtain⟨N1,t1,f1,g1⟩:=erase_spec hb;have hhas1:∀x,t1.has x=S.t.has x:=λx=>by
   unfold Tl.has;rw[show t1.b=S.t.b from by rw[g1.fit.b,hF.b,g1.er.like.blocks]]
  obtain⟨N2,t2,f2,g2⟩:=clearGo_spec l {S with N:=N1,t:=t1} (λx hx=>by
   have hx':=hl x (by simp[hx]);have hne:x≠b:=λe=>hnd2.1 (by rw[<- e];exact hx);exact⟨g1.inv,g1.fit,by show t1.has x=true;rw[hhas1];exact hx'.has,hx'.ne,hx'.emp,by show(t1.at_ x).used=true;rw[g1.rest x hx'.has hne];exact hx'.used,by show 3<=N1.dies/\N1.dies<=6;rw[g1.er.like.dies];exact hx'.six,by show 0<N1.pages;rw[g1.er.like.pages];exact hx'.pages⟩) hnd2.2 g1.inv g1.fit
  have l2:N1.Like N2:=g2.like;have d2:N2.dead=N1.dead:=g2.dead;have b2:N2.broken=N1.broken:=g2.broken;have bl2:t2.blanks=t1.blanks+l.length:=g2.blanks;refine⟨N2,t2,?_,g2.inv,g2.fit,g2.lit,g1.er.like.trans l2,d2.trans g1.er.dead,b2.trans g1.er.broken,λa ha=>g1.er.plan a (g2.plan a ha),λi a ha hab=>?_,λx=>(g2.has x).trans (hhas1 x),λx hx=>?_,λx hx hxl=>?_,λx hx=>?_,by rw[bl2,g1.blanks,n4];omega,λe he=>g2.td e (g1.td e he),λhn=>?_,λhn x=>?_⟩
  ·rw[Dv.clearGo,f1];dsimp only;rw[g7 (by simp)];exact f2
  ·have r1:=g1.reads i a ha (λe=>hab (by rw[e];simp));have r2:=g2.reads i a r1.1 (λe=>hab (by simp[e]));exact⟨r2.1,r2.2.trans r1.2⟩
  ·rcases List.mem_cons.1 hx with rfl | hx
   ·have:=g2.rest x (by show t1.has x=true;rw[hhas1];exact hb.has) hnd2.1;rw[this];exact g1.blank
   ·exact g2.blank x hx
  ·have h1:=g2.rest x (by show t1.has x=true;rw[hhas1];exact hx) (λe=>hxl (by simp[e]));rw[h1];exact g1.rest x hx (λe=>hxl (by simp[e]))
  ·rw[g2.held x (by show t1.has x=true;rw[hhas1];exact hx)];exact g1.held x hx
  ·obtain⟨n1,_⟩:=g1.exact_ hn;obtain⟨n2,n3⟩:=g2.nofl n1;exact⟨n2,λi j=>(n3 i j).trans (g1.er.nof hn.2 i j).1⟩
  ·obtain⟨n1,_,_,e⟩:=g1.exact_ hn;have e2:t2.mask x=t1.mask x:=g2.msks n1 x;obtain⟨w1,w2⟩:=wores_mask N1 b (List.range N1.dies) S.t hF.len;rw[e2,e,Dv.mask_clean (t:=Dv.wores N1 S.t b) w1];exact w2 x
theorem pkSome_nodup (kind:Int->Bool) (o:Int) (n:Nat):(y5 kind o n).Nodup:=by
 unfold y5;rw[List.nodup_iff_pairwise_ne,List.pairwise_map];exact(List.Pairwise.filter _ (List.nodup_iff_pairwise_ne.1 a2Y)).imp λh e=>h (by omega)
theorem spent_er (h:Inv fd S) (hO:S.Ok k m) {b:Int} (hb:b∈y5 (C9 S.t S.T) S.op S.t.b):Er fd S b:=by
 obtain⟨h1,h2,h3,h4⟩:=mem_pkSome.1 hb;have hg:=hO.gd.ok.bd16;have hhas:S.t.has b=true:=Tl.has_iff.2 ⟨h1,h2⟩;simp only[C9,i4,i7,y6]at h4;obtain⟨⟨⟨_,hbl⟩,_⟩,hc⟩:=h4;refine⟨h,hO.t,hhas,h3,λi a ha e=>?_,?_,hg.1,by omega⟩
 ·rw[hO.T.cnt]at hc;have hc:Tb.cntB S.T.at_ b=0:=by omega
  unfold Tb.cntB at hc;rw[a4i]at hc;exact hc _ (Tb.look_mem ha) (by simp[e])
 ·unfold Tl.blank at hbl;rw[hhas,s7]at hbl;simpa using hbl
theorem clear_spec (h:Inv fd S) (hO:S.Ok k m):∃N' t',S.clear=({S with N:=N',t:=t'},0)/\Cleared fd S (y5 (C9 S.t S.T) S.op S.t.b) N' t':=by
 obtain⟨N',t',f,g⟩:=clearGo_spec (y5 (C9 S.t S.T) S.op S.t.b) S (λb hb=>h.spent_er hO hb) (pkSome_nodup _ _ _) h hO.t;refine⟨N',t',?_,g⟩;unfold Dv.clear Dv.clearX;rw[f]
theorem countP_range_get {α:Type} (p:α->Bool) (z:α) (l:List α):l.countP p=(List.range l.length).countP λi=>p (l.getD i z):=by
 induction l with
 | nil=>rfl
 | cons x l ih=>
  rw[J2,n4,List.range_succ_eq_map,J2,List.countP_map,ih];rfl
theorem free_len (h:Inv fd S) (hO:S.Ok k m):S.free=S.t.blanks:=by
 unfold Dv.free y5;rw[n5,<- List.countP_eq_length_filter];have hlen:=hO.t.len;unfold Tl.blanks;rw[countP_range_get _ Sb.zero,hlen];refine List.countP_congr λi hi=>?_;have hi:=List.mem_range.1 hi;have hhas:S.t.has (i:Nat)=true:=Tl.has_iff.2 (by omega);obtain⟨a1,a2⟩:=h.free_iff hO hhas;rw[a1];have e:S.t.blank (i:Nat)= !(S.t.l.getD i Sb.zero).used:=by unfold Tl.blank Tl.at_;rw[hhas,j4];rfl
 cases hb:S.t.blank (i:Nat)with
 | false=>rw[e]at hb;rw[hb];simp
 | true=>rw[a2 hb];rw[e]at hb;rw[hb];simp
end Inv
theorem Brn.cleared {fd:Int} {S:Dv} {β:Nat} (h:Brn fd S β) (hb:S.t.b=S.N.blocks) {l:List Int} {N':Nand} {t':Tl} (c:Inv.Cleared fd S l N' t'):Brn fd {S with N:=N',t:=t'} β:=by
 have hn:b0y S.N:=⟨h.dead,h.fl⟩;obtain⟨n1,n2⟩:=c.nofl hn;have hm:=c.msks hn;refine⟨h.pos,n1.1,λi j=>(n2 i j).trans (h.met i j),n1.2,λa ha=>by rw[c.like.pages];exact h.rng a (c.plan a ha),G9 (a5w (S:=S) (V:={S with N:=N',t:=t'}) (by show t'.b=S.t.b;rw[c.fit.b,hb,c.like.blocks]) c.plan λb _ hb=>by rw[<- hm];exact hb) h.cnt,λb hb hmb hp=>?_,λh0=>?_⟩
 ·have hb:t'.has b=true:=hb;rw[c.has]at hb;have hmb:L.has (t'.mask b) fd=true:=hmb;rw[hm]at hmb;rcases h.at_ b hb hmb (a1p c.plan hp)with e | e
  ·exact .inl e
  ·right;show(t'.at_ b).used=false
   by_cases hl:b∈l
   ·exact c.blank b hl
   ·rw[c.rest b hb hl];exact e
 ·obtain⟨o1,o2⟩:=h.opn h0;refine⟨?_,λhh a ha=>o2 hh a (c.plan a ha)⟩;show L.has S.mask fd=L.has (t'.mask S.op) fd;rw[hm];exact o1
theorem a3T {kind:Int->Bool} {o:Int}:∀n:Nat,(∀x:Nat,x<n->(((x:Int) !=o)&&kind x)=false)->y5 kind o n=[]
 | 0,_=>rfl
 | n+1,h=>by rw[a0Q,g7 (by rw[h n (by omega)];decide),a3T n λx hx=>h x (by omega)]
theorem b2e {N:Nand} {t:Tl} (h:∀i:Nat,N.dead.getD i false=false):Dv.seeDead N t=t:=by
 unfold Dv.seeDead;have:∀(q:List Nat),q.foldl (λt (d:Nat)=>if N.deadAt d then t.die d else t) t=t:=by
  intro q
  induction q with
  | nil=>rfl
  | cons d q ih=>
   rw[x9];have:N.deadAt d=false:=by unfold Nand.deadAt;rw[j4,h];simp
   rw[this,g7 m6];exact ih
 exact this _
theorem a5N {f:Int->Int->Int} {key:Int->Int} (h1:∀x y,f x y<0->key x<=key y) (h2:∀x y,¬f x y<0->key y<=key x):∀(l:List Int) (m:Int),key (a1c f l m)<=key m/\∀x∈l,key (a1c f l m)<=key x
 | [],m=>⟨V6 _,λx hx=>(by cases hx)⟩
 | y::l,m=>by
  rw[a1c];obtain⟨a1,a2⟩:=a5N h1 h2 l (if f y m<0 then y else m);have hm:key (if f y m<0 then y else m)<=key m/\key (if f y m<0 then y else m)<=key y:=by
   split
   ·rename_i hh;exact⟨h1 _ _ hh,V6 _⟩
   ·rename_i hh;exact⟨V6 _,h2 _ _ hh⟩
  refine⟨by omega,λx hx=>?_⟩;rcases List.mem_cons.1 hx with rfl | hx
  ·omega
  ·exact a2 x hx
theorem c1B {p q w:Int} (h:orI [Q0 p q,w]<0):p<=q:=by
 refine H4 λhp=>?_;have e:Q0 p q=1:=by unfold Q0;rw[g7 (by omega),i3 (by omega)]
 rw[e]at h;exact absurd h (by show¬(if(1:Int)≠0 then(1:Int)else _)<0;rw[i3 (by decide)];decide)
theorem c0v {p q w:Int} (h:¬orI [Q0 p q,w]<0):q<=p:=by
 refine H4 λhp=>h ?_;have e:Q0 p q= -1:=by unfold Q0;rw[i3 (by omega)]
 rw[e];show(if(-1:Int)≠0 then(-1:Int)else _)<0;rw[i3 (by decide)];decide
theorem a4n (S:Dv) {x:Int} (hx:x∈y5 (T6 S.t S.T) S.op S.t.b):S.victim∈y5 (T6 S.t S.T) S.op S.t.b/\S.T.count S.victim<=S.T.count x:=by
 unfold Dv.victim;cases hl:y5 (T6 S.t S.T) S.op S.t.b with
 | nil=>rw[hl]at hx;cases hx
 | cons y l=>
  rw[hl]at hx;refine⟨a5O _ (by simp),?_⟩;have key:=a5N (f:=λx y=>orI [Q0 (S.T.count x) (S.T.count y),Q0 (S.t.wear x) (S.t.wear y)]) (key:=S.T.count) (λx y hh=>c1B hh) (λx y hh=>c0v hh) l y;rcases List.mem_cons.1 hx with rfl | hx
  ·exact key.1
  ·exact key.2 x hx
theorem b8v (l:List (Int×AtV)):∀Q:List Int,Q.Nodup->(Q.map λb=>Tb.cntB l b).sum<=l.length:=by
 induction l with
 | nil=>
  intro Q _;have:(Q.map λb=>Tb.cntB [] b).sum=0:=by
   induction Q with
   | nil=>rfl
   | cons b Q ih=>rw[o0,a1G,ih (by rename_i h;exact(List.nodup_cons.1 h).2)];rfl
  rw[this];exact l8 _
 | cons x l ih=>
  intro Q hQ;have h1:(Q.map λb=>Tb.cntB (x::l) b).sum<=(Q.map λb=>Tb.cntB l b).sum+1:=by
   have h2:∀Q:List Int,Q.Nodup->(Q.map λb=>Tb.cntB (x::l) b).sum<=(Q.map λb=>Tb.cntB l b).sum+(if x.2.block∈Q then 1 else 0):=by
    intro Q
    induction Q with
    | nil=>intro _;exact j7 _
    | cons b Q ihQ=>
     intro hn;obtain⟨n1,n2⟩:=List.nodup_cons.1 hn;have:=ihQ n2;rw[o0,a1G,o0,a1G];have hc:Tb.cntB (x::l) b=Tb.cntB l b+if x.2.block==b then 1 else 0:=by
      unfold Tb.cntB;rw[J2]
     rw[hc]
     by_cases e:x.2.block=b
     ·subst e;rw[g7 n1]at this;rw[i3 (by simp),i3 (by simp)];omega
     ·rw[g7 (by simpa using e)]
      by_cases e2:x.2.block∈Q
      ·rw[i3 e2]at this;rw[i3 (by simp[e2])];omega
      ·rw[g7 e2]at this;rw[g7 (by simp[e,e2])];omega
   have:=h2 Q hQ;split at this<;>omega
  have:=ih Q hQ;rw[n4];omega
theorem b3n (c:Nat):∀(Q:List Int) (f:Int->Nat),(∀b∈Q,c<=f b)->Q.length*c<=(Q.map f).sum
 | [],_,_=>by simp
 | b::Q,f,h=>by
  rw[n4,o0,a1G,O3];have:=b3n c Q f λx hx=>h x (by simp[hx]);have:=h b (by simp);omega
namespace Inv
variable {fd : Int} {S : Dv} {k m : Nat} {W : List (Int × En)}
theorem clear_hd (h:Inv fd S) (hO:S.Ok k m) (hH:Hd S W):∃N' t',S.clear=({S with N:=N',t:=t'},0)/\Cleared fd S (y5 (C9 S.t S.T) S.op S.t.b) N' t'/\Hd {S with N:=N',t:=t'} W:=by
 obtain⟨N',t',c1,c2⟩:=h.clear_spec hO;refine⟨N',t',c1,c2,⟨hH.keys,λi e he=>?_⟩⟩;obtain⟨h1,a,h2,h3⟩:=hH.each i e he;refine⟨h1,a,h2,?_⟩;rw[(c2.reads i a (h.st i a h2) λhb=>(h.spent_er hO hb).emp i a h2 rfl).2];exact h3
end Inv
structure TSame (t t':Tl):Prop where
 dead:t'.dead=t.dead
 b:t'.b=t.b
 d:t'.d=t.d
 len:t'.l.length=t.l.length
 at_:∀x,t.has x=true->(t'.at_ x).bad=(t.at_ x).bad/\(t'.at_ x).used=(t.at_ x).used
theorem TSame.refl (t:Tl):TSame t t:=⟨rfl,rfl,rfl,rfl,λ_ _=>⟨rfl,rfl⟩⟩
theorem TSame.has {t t':Tl} (h:TSame t t') (x:Int):t'.has x=t.has x:=by unfold Tl.has;rw[h.b]
theorem TSame.trans {t u v:Tl} (h:TSame t u) (g:TSame u v):TSame t v:=
 ⟨g.dead.trans h.dead,g.b.trans h.b,g.d.trans h.d,g.len.trans h.len,λx hx=>⟨(g.at_ x (by rw[h.has];exact hx)).1.trans (h.at_ x hx).1,(g.at_ x (by rw[h.has];exact hx)).2.trans (h.at_ x hx).2⟩⟩
theorem a5j {t:Tl} (hl:t.l.length=t.b) {k x:Int} (s:Sb) (hx:t.has x=true):(t.set k s).at_ x=if x=k then s else t.at_ x:=by
 cases hk:t.has k with
 | false=>
  rw[Tl.set_no _ hk,g7];rintro rfl;rw[hk]at hx;cases hx
 | true=>exact Tl.at_set hl s hk hx
theorem TSame.wore {t:Tl} (hl:t.l.length=t.b) (b n:Int):TSame t (t.wore b n):=by
 unfold Tl.wore;refine⟨Tl.set_dead _ _ _,Tl.set_b _ _ _,Tl.set_d _ _ _,Tl.set_len _ _ _,λx hx=>?_⟩;rw[a5j hl _ hx];split
 ·rename_i e;rw[e];exact⟨rfl,rfl⟩
 ·exact⟨rfl,rfl⟩
theorem TSame.wores (N:Nand) (b:Int):∀(q:List Nat) (t:Tl),t.l.length=t.b->TSame t (q.foldl (λt (d:Nat)=>t.wore b (N.wornAt d b)) t)
 | [],t,_=>TSame.refl t
 | d::q,t,hl=>by
  have h1:=TSame.wore hl b (N.wornAt d b);rw[x9];exact h1.trans (TSame.wores N b q _ (by rw[h1.len,h1.b];exact hl))
theorem b4U {N:Nand} {t:Tl} (hl:t.l.length=t.b) (b:Int):(Dv.eraseT N t b).dead=t.dead/\(Dv.eraseT N t b).b=t.b/\(Dv.eraseT N t b).d=t.d/\∀x,t.has x=true->((Dv.eraseT N t b).at_ x).bad=(t.at_ x).bad/\(x≠b->((Dv.eraseT N t b).at_ x).used=(t.at_ x).used):=by
 have h:=TSame.wores N b (List.range N.dies) t hl;have h2:TSame t (Dv.wores N t b):=h;unfold Dv.eraseT;split
 ·unfold Tl.clean;refine⟨(Tl.set_dead _ _ _).trans h2.dead,(Tl.set_b _ _ _).trans h2.b,(Tl.set_d _ _ _).trans h2.d,λx hx=>?_⟩;rw[a5j (by rw[h2.len,h2.b];exact hl) _ (by rw[h2.has];exact hx)];split
  ·rename_i e;rw[e];rw[e]at hx;exact⟨(h2.at_ b hx).1,λhne=>absurd rfl hne⟩
  ·exact⟨(h2.at_ x hx).1,λ_=>(h2.at_ x hx).2⟩
 ·exact⟨h2.dead,h2.b,h2.d,λx hx=>⟨(h2.at_ x hx).1,λ_=>(h2.at_ x hx).2⟩⟩
theorem mask_eq {t t':Tl} {x:Int} (h1:t'.dead=t.dead) (h2:t'.b=t.b) (h3:t'.d=t.d) (h4:(t'.at_ x).bad=(t.at_ x).bad):t'.mask x=t.mask x:=by
 unfold Tl.mask Tl.alive Tl.has;rw[h1,h2,h3,h4]
namespace Ers
variable {fd : Int} {S : Dv} {k m : Nat}
theorem erased (h:Ers fd S) {b:Int} (he:Inv.Er fd S b):∃N' t',Dv.erase S.N S.t b=(N',t',0)/\Ers fd {S with N:=N',t:=t'}:=by
 have hI:=he.inv;have hb0:=Tl.has_iff.1 he.has;have hfb:=he.fit.b;have hlen:=he.fit.len;obtain⟨N1,t1,g1,g2⟩:=Inv.erase_spec he;obtain⟨N',t0,f1,f2,f3,f4,f5,f6,f7,f8⟩:=a7M (fd:=fd.toNat) (b:=b) (mk:=S.t.mask b) (List.range S.N.dies) S.N S.t hI.lit h.dead (by omega) he.pages (λd hd=>List.mem_range.1 hd) a2Y (λi j hi=>(hI.flags i j (by omega)).2);rw[show((fd.toNat:Nat):Int)=fd from M5 h.pos]at f7 f8;have hE:Dv.erase S.N S.t b=(N',Dv.eraseT N' t0 b,0):=by
  unfold Dv.erase Dv.eraseB;rw[f1];dsimp only;rw[g7 (by simp)]
 rw[hE]at g1;injection g1 with e1 e2;injection e2 with e2 _;subst e1;subst e2;have hbadlen:∀d:Int,(S.t.bad d b).l.length=(S.t.bad d b).b:=λd=>(he.fit.bad d b).len;have hdiv:t0=S.t\/t0=S.t.bad fd b:=by
  rw[f8];split
  ·exact .inr rfl
  ·exact .inl rfl
 have h0len:t0.l.length=t0.b:=by
  rcases hdiv with e | e
  ·rw[e];exact hlen
  ·rw[e];exact hbadlen fd
 have h0:t0.dead=S.t.dead/\t0.b=S.t.b/\t0.d=S.t.d/\∀x,S.t.has x=true->x≠b->t0.at_ x=S.t.at_ x:=by
  rcases hdiv with e | e
  ·rw[e];exact⟨rfl,rfl,rfl,λ_ _ _=>rfl⟩
  ·rw[e];unfold Tl.bad;split
   ·exact⟨Tl.set_dead _ _ _,Tl.set_b _ _ _,Tl.set_d _ _ _,λx hx hne=>by rw[a5j hlen _ hx,g7 hne]⟩
   ·exact⟨rfl,rfl,rfl,λ_ _ _=>rfl⟩
 obtain⟨z1,z2,z3,z4⟩:=h0;have z0:∀x,t0.has x=S.t.has x:=λx=>by unfold Tl.has;rw[z2]
 obtain⟨y1,y2,y3,y4⟩:=b4U (N:=N') h0len b;have y0:∀x,(Dv.eraseT N' t0 b).has x=S.t.has x:=λx=>by unfold Tl.has;rw[y2,z2]
 have hblk:∀j:Nat,(N'.blk fd.toNat j).met=true->(S.N.blk fd.toNat j).met=true\/j=b.toNat/\L.has (S.t.mask b) fd=true/\(S.N.blk fd.toNat j).fails=true/\N'.blk fd.toNat j={S.N.blk fd.toNat j with met:=true}:=λj hj=>by
  rw[f7]at hj ⊢;split at hj
  ·rename_i hc;rw[i3 hc];unfold NBlock.ers at hj ⊢
   by_cases hf:(S.N.blk fd.toNat j).fails=true
   ·rw[i3 hf];exact .inr ⟨hc.2.2,hc.2.1,hf,rfl⟩
   ·rw[g7 hf]at hj;exact .inl hj
  ·exact .inl hj
 have hmet:∀j:Nat,(S.N.blk fd.toNat j).met=true->(N'.blk fd.toNat j).met=true:=λj hj=>by
  rw[f7];split
  ·unfold NBlock.ers;split
   ·rfl
   ·exact hj
  ·exact hj
 have hoth:∀j:Nat,j≠b.toNat->N'.blk fd.toNat j=S.N.blk fd.toNat j:=λj hj=>by rw[f7,g7 (λh=>hj h.2.2)]
 have hmk:∀x,S.t.has x=true->x≠b->(Dv.eraseT N' t0 b).mask x=S.t.mask x:=λx hx hne=>mask_eq (y1.trans z1) (y2.trans z2) (y3.trans z3) (by rw[(y4 x (by rw[z0];exact hx)).1,z4 x hx hne]);refine⟨N',Dv.eraseT N' t0 b,hE,h.pos,λi=>by show N'.dead.getD i false=false;rw[f4];exact h.dead i,f5 h.plan,λj hj=>?_,?_,λx hx hbad=>?_,λx hx hu hne hm=>?_,λhop=>?_⟩
 ·show(N'.blk fd.toNat j).fails=true/\(N'.blk fd.toNat j).cells≠[];rcases hblk j hj with e | ⟨e1,e2,e3,e4⟩
  ·obtain⟨w1,w2⟩:=h.fl j e;rw[f7];split
   ·unfold NBlock.ers;rw[i3 w1];exact⟨w1,w2⟩
   ·exact⟨w1,w2⟩
  ·rw[e4];refine⟨e3,?_⟩;show(S.N.blk fd.toNat j).cells≠[];rw[e1];exact h.used b he.has he.used he.ne e2
 ·show L.has (Dv.eraseT N' t0 b).dead fd=false;rw[y1,z1];exact h.td
 ·have hx:(Dv.eraseT N' t0 b).has x=true:=hx;rw[y0]at hx;have hbad:L.has ((Dv.eraseT N' t0 b).at_ x).bad fd=true:=hbad;rw[(y4 x (by rw[z0];exact hx)).1]at hbad;show(N'.blk fd.toNat x.toNat).met=true
  by_cases e:x=b
  ·by_cases hc:fd.toNat∈List.range S.N.dies/\L.has (S.t.mask b) fd=true/\(S.N.blk fd.toNat b.toNat).fails=true
   ·rw[f7,e,i3 ⟨hc.1,hc.2.1,rfl⟩];unfold NBlock.ers;rw[i3 hc.2.2]
   ·rw[g7 hc]at f8;rw[f8]at hbad;exact hmet _ (h.bad x hx hbad)
  ·rw[z4 x hx e]at hbad;exact hmet _ (h.bad x hx hbad)
 ·have hx:(Dv.eraseT N' t0 b).has x=true:=hx;rw[y0]at hx;have hu:((Dv.eraseT N' t0 b).at_ x).used=true:=hu;have hm:L.has ((Dv.eraseT N' t0 b).mask x) fd=true:=hm;have hxb:x≠b:=λe=>by
   have:=g2.blank;rw[e,this]at hu;cases hu
  rw[(y4 x (by rw[z0];exact hx)).2 hxb,z4 x hx hxb]at hu;rw[hmk x hx hxb]at hm;show(N'.blk fd.toNat x.toNat).cells≠[];have hx0:=Tl.has_iff.1 hx;rw[hoth _ (by omega)];exact h.used x hx hu hne hm
 ·have hop:S.op>=0:=hop;have ho:=hI.op.resolve_left (by omega);have hoh:S.t.has S.op=true:=Tl.has_iff.2 (by have:=ho.blk;omega);obtain⟨o1,o2⟩:=h.opn hop;refine⟨?_,λhm=>?_⟩
  ·show L.has S.mask fd=L.has ((Dv.eraseT N' t0 b).mask S.op) fd;rw[hmk S.op hoh λe=>he.ne e.symm];exact o1
  ·show(N'.blk fd.toNat S.op.toNat).met=false;have:=he.ne;rw[hoth _ (by omega)];exact o2 hm
theorem clearGo:∀(l:List Int) (S:Dv),(∀b∈l,Inv.Er fd S b)->l.Nodup->Ers fd S->Ers fd {S with N:=(Dv.clearGo l S.N S.t).1,t:=(Dv.clearGo l S.N S.t).2.1}
 | [],S,_,_,h=>h
 | b::l,S,hl,hnd,h=>by
  have hb:=hl b (by simp);have hnd2:=List.nodup_cons.1 hnd;obtain⟨N1,t1,f1,g1⟩:=Inv.erase_spec hb;obtain⟨N2,t2,f2,g2⟩:=h.erased hb;rw[f1]at f2;injection f2 with e1 e2;injection e2 with e2 _;subst e1;subst e2;have hhas1:∀x,t1.has x=S.t.has x:=λx=>by
   unfold Tl.has;rw[show t1.b=S.t.b from by rw[g1.fit.b,hb.fit.b,g1.er.like.blocks]]
  have ih:=clearGo l {S with N:=N1,t:=t1} (λx hx=>by
   have hx':=hl x (by simp[hx]);have hne:x≠b:=λe=>hnd2.1 (by rw[<- e];exact hx);exact⟨g1.inv,g1.fit,by show t1.has x=true;rw[hhas1];exact hx'.has,hx'.ne,hx'.emp,by show(t1.at_ x).used=true;rw[g1.rest x hx'.has hne];exact hx'.used,by show 3<=N1.dies/\N1.dies<=6;rw[g1.er.like.dies];exact hx'.six,by show 0<N1.pages;rw[g1.er.like.pages];exact hx'.pages⟩) hnd2.2 g2
  rw[Dv.clearGo,f1];dsimp only;rw[g7 (by simp)];exact ih
theorem cleared (h:Ers fd S) (hI:Inv fd S) (hO:S.Ok k m) {N':Nand} {t':Tl} (c1:S.clear=({S with N:=N',t:=t'},0)):Ers fd {S with N:=N',t:=t'}:=by
 have hc:=clearGo (y5 (C9 S.t S.T) S.op S.t.b) S (λb hb=>hI.spent_er hO hb) (Inv.pkSome_nodup _ _ _) h;have e:S.clear.1={S with N:=N',t:=t'}:=by rw[c1]
 rw[<- e];exact hc
end Ers
theorem a2d {α:Type} [BEq α] [LawfulBEq α]:∀{K M:List α},K.Nodup->(∀x∈K,x∈M)->K.length<=M.length
 | [],M,_,_=>l8 _
 | x::K,M,h,hs=>by
  obtain⟨h1,h2⟩:=List.nodup_cons.1 h;have hx:=hs x (by simp);have h3:=a2d (M:=M.erase x) h2 λy hy=>by
   have hne:y≠x:=λe=>h1 (by rw[<- e];exact hy);exact(List.mem_erase_of_ne hne).2 (hs y (by simp[hy]))
  rw[List.length_erase_of_mem hx]at h3;have:=List.length_pos_of_mem hx;rw[n4];omega
theorem ins_len {T:Tb} (h:T.Ok) (b:Int):(T.ins b).length<=Tb.cntB T.at_ b:=by
 unfold Tb.ins;split
 ·exact l8 _
 ·have h1:(Tb.inK T b T.logical.toNat).Nodup:=by
   unfold Tb.inK;exact List.pairwise_map.2 ((List.nodup_range.filter _).imp λhne e=>hne (by omega))
  have h2:=a2d (M:=(T.at_.filter λx=>x.2.block==b).map (·.1)) h1 λx hx=>by
   simp only[Tb.inK,O4,List.mem_filter,I4]at hx;obtain⟨i,⟨_,hi⟩,rfl⟩:=hx;unfold Tb.inB at hi;cases ha:Tb.look T.at_ (i:Int)with
   | none=>rw[ha]at hi;cases hi
   | some a=>
    rw[ha]at hi;exact List.mem_map.2 ⟨((i:Int),a),List.mem_filter.2 ⟨Tb.look_mem ha,hi⟩,rfl⟩
  rw[n5]at h2;unfold Tb.cntB;rw[List.countP_eq_length_filter];exact h2
theorem b9b {T:Tb} (h:T.Ok) {b i:Int} {a:AtV} (ha:Tb.look T.at_ i=some a) (hb:a.block=b):i∈T.ins b:=by
 have hr:=h.rng _ (Tb.look_mem ha);have hc:T.count b≠0:=by
  rw[h.cnt];have:0<Tb.cntB T.at_ b:=List.countP_pos_iff.2 ⟨_,Tb.look_mem ha,by simp[hb]⟩;omega
 unfold Tb.ins;rw[g7 hc];unfold Tb.inK;obtain⟨j,rfl⟩:=i6 hr.1;refine List.mem_map.2 ⟨j,List.mem_filter.2 ⟨List.mem_range.2 (by have:=hr.2;simp only at this;omega),?_⟩,rfl⟩;unfold Tb.inB;rw[ha];simp[hb]
theorem b2B {T:Tb} {b i:Int} (h:i∈T.ins b):∃a,Tb.look T.at_ i=some a/\a.block=b:=by
 unfold Tb.ins at h;split at h
 ·cases h
 ·simp only[Tb.inK,O4,List.mem_filter,I4]at h;obtain⟨j,⟨_,hj⟩,rfl⟩:=h;unfold Tb.inB at hj;cases ha:Tb.look T.at_ (j:Int)with
  | none=>rw[ha]at hj;cases hj
  | some a=>rw[ha]at hj;exact⟨a,rfl,by simpa using hj⟩
theorem a4y (kind:Int->Bool) (o:Int):∀n,(y5 kind o n).length=(List.range n).countP λi:Nat=>((i:Int) !=o)&&kind i
 | 0=>rfl
 | n+1=>by
  rw[a0Q,x6,a1V,<- a4y kind o n]
  by_cases h:(((n:Int) !=o)&&kind n)=true
  ·rw[i3 h,i5];simp[J2,h]
  ·rw[g7 h];simp[J2,h]
theorem a5J {p q:Nat->Bool} {o:Int}:∀n:Nat,(∀i,i<n->p i=true\/q i=true\/(i:Int)=o)->n<=(List.range n).countP p+(List.range n).countP q+(if 0<=o/\o<n then 1 else 0)
 | 0,_=>by simp
 | n+1,h=>by
  have ih:=a5J (p:=p) (q:=q) (o:=o) n λi hi=>h i (by omega);rw[x6,a1V,a1V];have hn:=h n (by omega);have e1:[n].countP p=if p n then 1 else 0:=by simp[J2]
  have e2:[n].countP q=if q n then 1 else 0:=by simp[J2]
  rw[e1,e2];have a1:p n=true->(if p n=true then 1 else 0)=1:=λe=>i3 e;have a2:q n=true->(if q n=true then 1 else 0)=1:=λe=>i3 e;generalize(if p n=true then 1 else 0)=x1 at a1 ⊢;generalize(if q n=true then 1 else 0)=x2 at a2 ⊢
  by_cases ho:0<=o/\o<n
  ·rw[i3 ho]at ih;rw[i3 (show 0<=o/\o<((n+1:Nat):Int)by omega)];rcases hn with e | e | e
   ·have:=a1 e;omega
   ·have:=a2 e;omega
   ·omega
  ·rw[g7 ho]at ih;rcases hn with e | e | e
   ·have:=a1 e;split<;>omega
   ·have:=a2 e;split<;>omega
   ·rw[i3 (show 0<=o/\o<((n+1:Nat):Int)by omega)];omega
structure Rmy (fd:Int) (W:List (Int×En)) (S:Dv):Prop where
 inv:Inv fd S
 hd:Hd S W
 wok:WOk W
 held:∀b,S.t.has b=true->(S.t.at_ b).held=false
 cap:2*W.length<=(S.N.blocks-5)*(S.N.pages*(S.N.dies-2))+1
namespace Rmy
variable {fd : Int} {S : Dv} {k m β : Nat} {W : List (Int × En)}
theorem clear(h:Rmy fd W S) (hO:S.Ok (96+k) m):∃V,S.clear=(V,0)/\Rmy fd W V/\V.Ok k m/\y5 (C9 V.t V.T) V.op V.t.b=[]/\V.t.blanks=S.t.blanks+(y5 (C9 S.t S.T) S.op S.t.b).length/\V.T=S.T/\V.op=S.op/\V.row=S.row/\V.next=S.next/\V.rows=S.rows+S.N.pages*(y5 (C9 S.t S.T) S.op S.t.b).length/\V.N.dead=S.N.dead/\V.N.broken=S.N.broken/\S.N.Like V.N/\(∀d:Int,L.has S.t.dead d=true->L.has V.t.dead d=true)/\(Hot2 fd S β->Hot2 fd V β):=by
 have hk:=Dv.clear_keep hO;obtain⟨N',t',c1,c2,c3⟩:=h.inv.clear_hd hO h.hd;rw[c1]at hk;refine⟨_,c1,⟨c2.inv,c3,h.wok,λb hb=>?_,?_⟩,hk.1,?_,c2.blanks,rfl,rfl,rfl,rfl,?_,c2.dead,c2.broken,c2.like,c2.td,λhh=>?_⟩
 ·have hb:t'.has b=true:=hb;rw[c2.has]at hb;show(t'.at_ b).held=false;rw[c2.held b hb];exact h.held b hb
 ·show 2*W.length<=(N'.blocks-5)*(N'.pages*(N'.dies-2))+1;rw[c2.like.blocks,c2.like.pages,c2.like.dies];exact h.cap
 ·refine a3T _ λx hx=>?_;have hx:x<t'.b:=hx;have htb:t'.b=S.t.b:=by rw[c2.fit.b,hO.t.b,c2.like.blocks]
  have hhas:S.t.has (x:Int)=true:=Tl.has_iff.2 (by omega);have hhas':t'.has (x:Int)=true:=by rw[c2.has];exact hhas
  cases hh:(((x:Int) !=S.op)&&C9 t' S.T x)with
  | false=>rfl
  | true=>
   exfalso
   rw[i4]at hh;have h2:=hh.2;unfold C9 at h2;simp only[i4,i7]at h2;have hu':(t'.at_ x).used=true:=by
    have:=h2.1.1.2;unfold Tl.blank at this;rw[hhas']at this;simpa using this
   by_cases hm:(x:Int)∈y5 (C9 S.t S.T) S.op S.t.b
   ·rw[c2.blank _ hm]at hu';cases hu'
   ·refine hm (mem_pkSome.2 ⟨by omega,by omega,by simpa using hh.1,?_⟩);unfold C9;rw[h.inv.usable hO hhas,h2.2];unfold Tl.blank Tl.held;rw[hhas,<- c2.rest _ hhas hm,hu',h.held _ hhas];rfl
 ·unfold Dv.rows;show N'.pages*t'.blanks+(if S.op>=0 then((N'.pages:Int)-S.row).toNat else 0)=_;rw[c2.blanks,c2.like.pages,a6q];omega
 ·cases hh with
  | calm hno=>
   have hnf:=c2.nofl ⟨hno.dead,hno.fl⟩;exact .calm ⟨λi=>by show N'.dead.getD i false=false;rw[c2.dead];exact hno.dead i,List.eq_nil_iff_forall_not_mem.2 λa ha=>(by have:=c2.plan a ha;rw[hno.plan]at this;cases this),λi j=>by show(N'.blk i j).met=false;rw[hnf.2];exact hno.met i j,hnf.1.2⟩
  | cold h1 h2=>exact .cold (c2.td fd h1) h2
  | once h1=>exact .once (c2.td fd h1)
  | brn hb=>exact .brn (hb.cleared hO.t.b c2)
  | ers hE=>exact .ers (hE.cleared h.inv hO c1)
  | dead h0 h1=>exact .dead h0 (by show N'.dead.getD fd.toNat false=true;rw[c2.dead];exact h1)
end Rmy
inductive Mvd (fd:Int) (S:Dv):Dv->Prop
 | nil:Mvd fd S S
 | same {U V:Dv}:Mvd fd S U->V.T=U.T->V.op=U.op->V.row=U.row->(∀b,V.t.has b=U.t.has b)->V.N.dead=U.N.dead->Inv fd V->Mvd fd S V
 | crd {U V:Dv} {I:List Int}:Mvd fd S U->Crd fd U I V->Mvd fd S V
namespace Rmy
variable {fd : Int} {S : Dv} {k m β : Nat} {W : List (Int × En)}
theorem victim (h:Rmy fd W S) (hO:S.Ok k m) (hsp:y5 (C9 S.t S.T) S.op S.t.b=[]) (hfr:¬(S.free:Int)>4):
  0<=S.victim/\S.t.has S.victim=true/\S.victim≠S.op/\(S.t.at_ S.victim).used=true/\0<Tb.cntB S.T.at_ S.victim/\2*Tb.cntB S.T.at_ S.victim<=S.N.pages*(S.N.dies-2)/\S.T.count S.victim<S.t.p*G.slots (S.t.mask S.victim):=by
 have hg:=hO.gd.ok.bd16;have hb:=hO.t.b;have hfl:=h.inv.free_len hO;have hlen:=hO.t.len;have hbl:S.t.blanks=(List.range S.t.b).countP λi:Nat=>!(S.t.at_ (i:Nat)).used:=by
  unfold Tl.blanks Tl.at_;rw[Inv.countP_range_get _ Sb.zero,hlen];simp
 have h3:=a5J (p:=λi:Nat=>((i:Int) !=S.op)&&T6 S.t S.T i) (q:=λi:Nat=>!(S.t.at_ (i:Nat)).used) (o:=S.op) S.t.b λi hi=>by
  have hhas:S.t.has (i:Int)=true:=Tl.has_iff.2 (by omega)
  by_cases e1:(i:Int)=S.op
  ·exact .inr (.inr e1)
  ·cases hu:(S.t.at_ (i:Int)).used with
   | false=>exact .inr (.inl rfl)
   | true=>
    left;have hc:¬S.T.count (i:Int)=0:=λhc=>by
     have:(i:Int)∈y5 (C9 S.t S.T) S.op S.t.b:=mem_pkSome.2 ⟨by omega,by omega,e1,by
      unfold C9;rw[h.inv.usable hO hhas,hc];unfold Tl.blank Tl.held;rw[hhas,hu,h.held _ hhas];rfl⟩
     rw[hsp]at this;cases this
    have hc2:S.T.count (i:Int)>0:=by
     have:=hO.T.cnt (i:Int);omega
    unfold T6 Tl.held;rw[hhas,h.held _ hhas,i9 hc2];simp[e1]
 rw[<- hbl,<- a4y]at h3;have hQ:S.N.blocks-5<=(y5 (T6 S.t S.T) S.op S.t.b).length:=by
  split at h3<;>omega
 obtain⟨x,hx⟩:∃x,x∈y5 (T6 S.t S.T) S.op S.t.b:=by
  cases hl:y5 (T6 S.t S.T) S.op S.t.b with
  | nil=>rw[hl]at hQ;simp at hQ;omega
  | cons y l=>exact⟨y,by simp⟩
 have hv:=(a4n S hx).1;obtain⟨v1,v2,v3,v4⟩:=mem_pkSome.1 hv;have hhas:S.t.has S.victim=true:=Tl.has_iff.2 ⟨v1,v2⟩;have hcn:=hO.T.cnt S.victim;have hpos:0<Tb.cntB S.T.at_ S.victim:=by
  unfold T6 at v4;simp only[i4,d7]at v4;omega
 have hsum:=b8v S.T.at_ (y5 (T6 S.t S.T) S.op S.t.b) (Inv.pkSome_nodup _ _ _);have hmin:=b3n (Tb.cntB S.T.at_ S.victim) (y5 (T6 S.t S.T) S.op S.t.b) (λb=>Tb.cntB S.T.at_ b) λb hb=>by
  have:=(a4n S hb).2;rw[hcn,hO.T.cnt b]at this;omega
 have hWl:S.T.at_.length=W.length:=by
  have:=congrArg List.length h.hd.keys;simpa using this
 have hcap:=h.cap;obtain⟨c,hc⟩:∃c,Tb.cntB S.T.at_ S.victim=c:=⟨_,rfl⟩;rw[hc]at hcn hpos hmin ⊢;have hle:(S.N.blocks-5)*c<=W.length:=by
  have:(S.N.blocks-5)*c<=(y5 (T6 S.t S.T) S.op S.t.b).length*c:=L4 _ hQ;omega
 have h2c:2*c<=S.N.pages*(S.N.dies-2):=by
  refine H4 λhlt=>?_;have h1:(S.N.blocks-5)*(S.N.pages*(S.N.dies-2)+1)<=(S.N.blocks-5)*(2*c):=x5 _ (by omega);have h2:(S.N.blocks-5)*(2*c)=2*((S.N.blocks-5)*c):=by rw[V1 2 c,<- Nat.mul_assoc,V1 _ 2]
  rw[a6q,T9]at h1;omega
 have hused:(S.t.at_ S.victim).used=true:=by
  obtain⟨y,hy,hyb⟩:=List.countP_pos_iff.1 (show 0<S.T.at_.countP λx=>x.2.block==S.victim by unfold Tb.cntB at hc;omega);have:=(h.inv.st _ _ (a4C hO.T hy)).used
  rwa [show y.2.block=S.victim from by simpa using hyb]at this
 refine⟨v1,hhas,v3,hused,hpos,h2c,?_⟩;rw[hcn];have hms:=(h.inv.msk hO hhas).pos hg.1;have hp:=hO.t.p;have h4:((S.N.pages*(S.N.dies-2):Nat):Int)=(S.N.pages:Int)*((S.N.dies:Int)-2):=by
  have:((S.N.dies-2:Nat):Int)=(S.N.dies:Int)-2:=by omega
  rw[<- this];exact a3O _ _
 have h5:(S.N.pages:Int)*((S.N.dies:Int)-2)<=(S.t.p:Int)*G.slots (S.t.mask S.victim):=by
  rw[hp];exact Int.mul_le_mul_of_nonneg_left hms.2.1 (by omega)
 omega
theorem emptied (h:Rmy fd W S) (hO:S.Ok (Dv.costR+k) m) (hsp:y5 (C9 S.t S.T) S.op S.t.b=[]) (hfr:¬(S.free:Int)>4) (hot:Hot2 fd S β) (hrw:(S.N.pages+1)/2+β<=S.rows) (hnx:S.next<=1099511627775-3000000) (f:Nat):
  ∃(V:Dv) (β':Nat),Dv.roomGo (f+1) S=Dv.roomGo f V/\Rmy fd W V/\V.Ok k m/\y5 (C9 V.t V.T) V.op V.t.b=[]/\Hot2 fd V β'/\β'<=β/\S.rows+S.N.pages+β'<=V.rows+(S.N.pages+1)/2+β/\V.next<=S.next+400/\V.N.dead=S.N.dead/\V.N.broken=S.N.broken/\S.N.Like V.N/\V.T.logical=S.T.logical/\(∀d:Int,L.has S.t.dead d=true->L.has V.t.dead d=true)/\Mvd fd S V/\∃(C:Dv) (n:Int),S.carry S.victim (S.T.count S.victim)=(C,n,(0:Int))/\C.clear=(V,(0:Int))/\S.rows+β'<=C.rows+(S.N.pages+1)/2+β:=by
 have hg:=hO.gd.ok.bd16;obtain⟨v1,v2,v3,v4,v5,v6,v7⟩:=h.victim (hO.less (j7 _)) hsp hfr;obtain⟨v,hv⟩:∃v,S.victim=v:=⟨_,rfl⟩;rw[hv]at v1 v2 v3 v4 v5 v6 v7;have hcn:=hO.T.cnt v;obtain⟨c,hc⟩:∃c,Tb.cntB S.T.at_ v=c:=⟨_,rfl⟩;rw[hc]at hcn v5 v6;have hil:=ins_len hO.T v;rw[hc]at hil;have htake:(S.T.ins v).take (max (S.T.count v) 0).toNat=S.T.ins v:=by
  rw[hcn];exact A6 (by omega)
 have hPD:S.N.pages*(S.N.dies-2)<=8*4:=U0 hg.2.2.2 (by omega);have hlenρ:(S.T.ins v).length<=(S.N.dies-2)*((S.N.pages+1)/2):=by
  have h1:(S.N.dies-2)*S.N.pages<=(S.N.dies-2)*(2*((S.N.pages+1)/2)):=x5 _ (by omega);have h2:(S.N.dies-2)*(2*((S.N.pages+1)/2))=2*((S.N.dies-2)*((S.N.pages+1)/2)):=by rw[Nat.mul_left_comm]
  rw[V1 S.N.pages]at v6;omega
 have hlen16:(S.T.ins v).length<=16:=by omega
 have hnd:(S.T.ins v).Nodup:=by
  unfold Tb.ins;split
  ·exact a0X
  ·unfold Tb.inK;exact List.pairwise_map.2 ((List.nodup_range.filter _).imp λhne e=>hne (by omega))
 have hnone:∀i,Tb.look W i=none->Tb.look S.T.at_ i=none:=λi hi=>h.hd.none hi;obtain⟨V,β',r1,r2,r3,r4,r5,r6,r7⟩:=h.inv.carry_go (S.T.ins v).length S (S.T.ins v) 0 W β ((S.N.pages+1)/2) (96+k) (hO.less (by
  have:Dv.cost*(S.T.ins v).length<=Dv.cost*65536:=x5 _ (by omega);unfold Dv.costR Dv.costC;omega)) (j7 _) h.hd h.wok (λi hi=>by
   obtain⟨a,ha,_⟩:=b2B hi;cases hw:Tb.look W i with
   | none=>rw[hnone i hw]at ha;cases ha
   | some e=>rfl) hnd hot hlenρ hrw (by omega)
 have hcar:S.carry v (S.T.count v)=(V,((S.T.ins v).length:Int),(0:Int)):=by
  unfold Dv.carry;rw[htake];show Dv.carryGo (S.T.ins v).length S (S.T.ins v) 0=_;rw[r1];simp
 have hRV:Rmy fd W V:=⟨r2.inv,r3,h.wok,λb hb=>by rw[r2.has]at hb;rw[(r2.sb b hb).1];exact h.held b hb,by rw[r2.like.blocks,r2.like.pages,r2.like.dies];exact h.cap⟩;obtain⟨U,u1,u2,u3,u4,u5,u6,u7,u8,u9,u10,u11,u12,u13,u14,u15⟩:=hRV.clear (β:=β') (k:=k) r7
 --the emptied one is spent
 have hvs:v∈y5 (C9 V.t V.T) V.op V.t.b:=by
  have hVb:V.t.b=S.t.b:=by
   have h1:=r7.t.b;have h2:=hO.t.b;have h3:=r2.like.blocks;omega
  have hvh:V.t.has v=true:=by rw[r2.has];exact v2
  have hfresh:∀b r,FreshP S b r->b≠v:=λb r hf e=>by
   subst e;rcases hf with⟨e1,_⟩ | ⟨_,e2⟩
   ·exact v3 e1
   ·rw[v4]at e2;cases e2
  refine mem_pkSome.2 ⟨v1,by have:=(Tl.has_iff.1 v2).2;omega,?_,?_⟩
  ·exactλe=>hfresh V.op V.row (r2.back V.op V.row (.inl ⟨rfl,V6 _⟩)) e.symm
  ·unfold C9 Tl.blank Tl.held;have hcv:V.T.count v=0:=by
    rw[r7.T.cnt];have:Tb.cntB V.T.at_ v=0:=by
     unfold Tb.cntB;rw[a4i];intro x hx hxb;have hlk:=a4C r7.T hx;have hxb:x.2.block=v:=by simpa using hxb
     by_cases hm:x.1∈S.T.ins v
     ·obtain⟨a,a1,a2,_⟩:=r2.pos _ hm;rw[hlk]at a1;injection a1 with a1;rw[<- a1]at a2;exact hfresh _ _ a2 hxb
     ·rw[r2.rest _ hm]at hlk;exact hm (b9b hO.T hlk hxb)
    rw[this];rfl
   rw[r2.inv.usable r7 hvh,hvh,(r2.sb v v2).2 v4,hRV.held v hvh,hcv];rfl
 have hlen1:1<=(y5 (C9 V.t V.T) V.op V.t.b).length:=List.length_pos_of_mem hvs;have hpg:V.N.pages=S.N.pages:=r2.like.pages;have hrowsU:V.rows+S.N.pages<=U.rows:=by
  rw[u10,hpg];have:S.N.pages*1<=S.N.pages*(y5 (C9 V.t V.T) V.op V.t.b).length:=x5 _ hlen1;omega
 have hnV:=r2.next;refine⟨U,β',?_,u2,u3,u4,u15 r4,r5,by omega,by rw[u9];omega,u11.trans r2.dead,u12.trans r2.broken,r2.like.trans u13,by rw[u6];exact r2.logical,λd hd=>u14 d (r2.td d hd), .same (.crd .nil r2) u6 u7 u8 (λb=>Inv.has_same r7.t u3.t u13 b) u11 u2.inv,V,_,by rw[hv];exact hcar,u1,r6⟩;rw[Dv.roomGo,g7 hfr,hv,g7 (by omega)];dsimp only;rw[hcar];dsimp only;rw[g7 (by decide),u1,g7 (by simp)]
theorem rows_five (hO:S.Ok k m) (hI:Inv fd S) (hfr:¬(S.free:Int)>4):S.rows<=5*S.N.pages:=by
 have hfl:=hI.free_len hO;have hr:=hO.row;have h1:S.N.pages*S.t.blanks<=S.N.pages*4:=x5 _ (by omega);unfold Dv.rows;split<;>omega
theorem go:∀(f:Nat) (S:Dv) (β k:Nat),Rmy fd W S->S.Ok (Dv.costR*f+k) m->y5 (C9 S.t S.T) S.op S.t.b=[]->Hot2 fd S β->3*S.N.pages+β<=S.rows->5*S.N.pages+β+1<=S.rows+f*(S.N.pages/2)->S.next+400*(f:Int)<=1099511627775-3000000->
  ∃(V:Dv) (β':Nat),Dv.roomGo f S=(V,0)/\Rmy fd W V/\V.Ok k m/\(V.free:Int)>4/\y5 (C9 V.t V.T) V.op V.t.b=[]/\Hot2 fd V β'/\β'<=β/\V.next<=S.next+400*(f:Int)/\V.N.dead=S.N.dead/\V.N.broken=S.N.broken/\S.N.Like V.N/\V.T.logical=S.T.logical/\(∀d:Int,L.has S.t.dead d=true->L.has V.t.dead d=true)
 | f,S,β,k,h,hO,hsp,hot,hr3,hr5,hnx=>by
  by_cases hfr:(S.free:Int)>4
  ·refine⟨S,β,?_,h,hO.less (by omega),hfr,hsp,hot,j7 _,by omega,rfl,rfl,Nand.Like.refl _,rfl,λ_ h=>h⟩;cases f with
   | zero=>rfl
   | succ f=>rw[Dv.roomGo,i3 hfr]
  ·have h5:=rows_five hO h.inv hfr;have hg:=hO.gd.ok.bd16;cases f with
   | zero=>omega
   | succ f=>
    have hmul:(f+1)*(S.N.pages/2)=f*(S.N.pages/2)+S.N.pages/2:=O3 _ _;obtain⟨V,β1,w1,w2,w3,w4,w5,w6,w7,w8,w9,w10,w11,w12,w13,_⟩:=h.emptied (k:=Dv.costR*f+k) (by rw[E9]at hO;exact hO.less (by omega)) hsp hfr hot (by omega) (by omega) f;have hpg:=w11.pages;obtain⟨U,β2,u1,u2,u3,u4,u5,u6,u7,u8,u9,u10,u11,u12,u13⟩:=go f V β1 k w2 w3 w4 w5 (by rw[hpg];omega) (by rw[hpg];omega) (by omega);exact⟨U,β2,by rw[w1,u1],u2,u3,u4,u5,u6,by omega,by omega,u9.trans w9,u10.trans w10,w11.trans u11,u12.trans w12,λd hd=>u13 d (w13 d hd)⟩
theorem room (h:Rmy fd W S) (hO:S.Ok (96+(Dv.costR*S.t.b+k)) m) (hot:Hot2 fd S β) (hr3:3*S.N.pages+β<=S.rows) (hβ:β<=1) (hnx:S.next<=1099511627775-4000000):
  ∃(V:Dv) (β':Nat),S.room=(V,0)/\Rmy fd W V/\V.Ok k m/\(V.free:Int)>4/\y5 (C9 V.t V.T) V.op V.t.b=[]/\Hot2 fd V β'/\β'<=β/\V.next<=S.next+6400/\V.N.dead=S.N.dead/\V.N.broken=S.N.broken/\S.N.Like V.N/\V.T.logical=S.T.logical/\(∀d:Int,L.has S.t.dead d=true->L.has V.t.dead d=true):=by
 have hg:=hO.gd.ok.bd16;have hb:=hO.t.b;obtain⟨U,u1,u2,u3,u4,u5,u6,u7,u8,u9,u10,u11,u12,u13,u14,u15⟩:=h.clear (β:=β) hO;have hpg:=u13.pages;have h8:8*(S.N.pages/2)<=S.t.b*(S.N.pages/2):=L4 _ (by omega);obtain⟨V,β',v1,v2,v3,v4,v5,v6,v7,v8,v9,v10,v11,v12,v13⟩:=go S.t.b U β k u2 u3 u4 (u15 hot) (by rw[hpg,u10];omega) (by rw[hpg,u10];omega) (by rw[u9];omega);refine⟨V,β',?_,v2,v3,v4,v5,v6,v7,by rw[u9]at v8;omega,v9.trans u11,v10.trans u12,u13.trans v11,by rw[v12,u6],λd hd=>v13 d (u14 d hd)⟩;unfold Dv.room;rw[u1];dsimp only;rw[g7 (by decide),v1]
end Rmy
theorem b7Q {T:Tb} (h:T.Ok):T.at_.length<=T.logical.toNat:=by
 have h1:=a2d (K:=T.at_.map (·.1)) (M:=(List.range T.logical.toNat).map λi:Nat=>(i:Int)) h.keys λx hx=>by
  obtain⟨y,hy,rfl⟩:=List.mem_map.1 hx;have:=h.rng y hy;exact List.mem_map.2 ⟨y.1.toNat,List.mem_range.2 (by omega),by omega⟩
 simpa using h1
theorem WOk.put {W:List (Int×En)} (h:WOk W) {e:En} (he:FitR e):WOk (Tb.put1 W e.lpn e):=λi x hx=>by
 rw[Tb.look_put1]at hx;split at hx
 ·rename_i e1;injection hx with hx;subst hx;exact⟨e1.symm,he⟩
 ·exact h i x hx
namespace Rmy
variable {fd : Int} {S : Dv} {k m β : Nat} {W : List (Int × En)}
theorem many (h:Rmy fd W S) (hO:S.Ok k m) (hfr:(S.free:Int)>4):5*S.N.pages<=S.rows:=by
 have:=h.inv.free_len hO;have h1:S.N.pages*5<=S.N.pages*S.t.blanks:=x5 _ (by omega);unfold Dv.rows;omega
end Rmy
theorem Dv.Ok.fault0 {S:Dv} {k m:Nat} (h:S.Ok k m) (kd x y z n xx:Int) (hk:kd≠1):({S with N:=(S.N.fault kd x y z n xx).2}:Dv).Ok k m:=
 ⟨h.gd.fault0 kd x y z n xx hk,h.t.like (Nand.like_fault _ _ _ _ _ _ _),h.T,h.sl,h.row,h.next⟩
namespace B18
def S0:Dv:=Dv.new 3 8 2 20
def S1:Dv:=(S0.pen [e18 1 1,e18 2 2,e18 3 3]).1
def S2:Dv:=(S1.pen [e18 3 3]).1
def S3:Dv:=(S2.carry 0 2).1
def S4:Dv:={S3 with N:=(S3.N.fault 4 2 0 0 0 0).2}
def S5:Dv:=(S4.step 2).1
def S6:Dv:=S5.room.1
def S7:Dv:=(S6.torn [e18 9 9]).1
theorem h1:(S0.pen [e18 1 1,e18 2 2,e18 3 3]).2=(2,0):=by kernel_rfl
theorem h2:(S1.pen [e18 3 3]).2=(1,0):=by kernel_rfl
theorem h3:(S2.carry 0 2).2=(2,0):=by kernel_rfl
theorem h4:Tb.look S3.T.at_ 1=some ⟨1,0,0,7,4,1⟩:=by kernel_rfl
theorem h5:S3.op=1:=by kernel_rfl
theorem h6:(S4.step 2).2=(1,0):=by kernel_rfl
theorem h7:S5.leftN=2:=by kernel_rfl
theorem h8:S5.N.broken=0:=by kernel_rfl
theorem h9:S5.room.2=0:=by kernel_rfl
theorem h10:(S6.torn [e18 9 9]).2=0:=by kernel_rfl
theorem h11:S7.clear.2=0:=by kernel_rfl
def U:Nat:=10000000000
theorem G0:S0.Ok (10*U) 0:=Dv.Ok.new 3 8 2 20 rfl _ (by decide)
theorem d3:∀s∈[e18 1 1,e18 2 2,e18 3 3],s.data.length=16:=by decide
theorem d1:∀s∈[e18 3 3],s.data.length=16:=by decide
theorem d9:∀s∈[e18 9 9],s.data.length=16:=by decide
theorem G1:S1.Ok (9*U) 0:=(Dv.pen_keep (G0.less (by decide:8*Dv.fuel+9*U<=_)) d3).1
theorem G2:S2.Ok (8*U) 0:=(Dv.pen_keep (G1.less (by decide:8*Dv.fuel+8*U<=_)) d1).1
theorem G3:S3.Ok (7*U) 0:=(Dv.carry_keep (G2.less (by decide:Dv.costC+7*U<=_)) 0 2).1
theorem G4:S4.Ok (7*U) 0:=Dv.Ok.fault0 G3 4 2 0 0 0 0 (by decide)
theorem G5:S5.Ok (6*U) 0:=(Dv.step_keep (G4.less (by decide:Dv.costS+6*U<=_)) 2).1
theorem G6:S6.Ok (5*U) 0:=(Dv.room_keep (G5.less (by decide:Dv.costM+5*U<=_))).1
theorem G7:S7.Ok (4*U) 0:=(Dv.tornGo_keep 1 S6 [e18 9 9] _ (G6.less (by decide:Dv.costT*1+4*U<=_)) d9).1
end B18
end Go.Proofs.YtpakpgkdpofbhaaGreat
namespace Go.Proofs.YtpakpgkdpofbhaaGreat
open Go Go.RowKit
open B18
theorem b4v:FP 213 [] [] (Ps (.bool true) []):=by
 refine FE [] Tryz.func213 λX F hX=>?_;refine J.qp (b4u) [] λ_=>?_;exact J.qx []
theorem b4s:FP 145 [] [] (Ps (.bool true) []):=by
 refine FE [] Tryz.func145 λX F hX=>?_;refine J.qc (b4r 3 8 2 rfl 20) [] λ_=>?_;rintro v As ⟨n,t,l,q,rfl,rfl⟩;refine⟨_,rfl,trivial,?_⟩;rw[show Dv.new 3 8 2 20=S0 from rfl];refine J.qF λ_=>?_;refine J.qp (a2h 1 1) [] λ_=>?_;refine J.qp (a2h 2 2) [] λ_=>?_;refine J.qp (a2h 3 3) [] λ_=>?_;refine J.q λbx=>?_;refine J.ca hX (by kernel_rfl) (a3i q n t l S0 (9*U) 0 (G0.less (by decide)) (.pt (bx 0) 113 (p9 [e18 1 1,e18 2 2,e18 3 3])) (some ⟨bx 0,0,none⟩) 3 3 [e18 1 1,e18 2 2,e18 3 3] (a2O _ _ _ _ _ rfl) rfl (by decide) B18.d3) [1,2,3,4,5] 0 rfl rfl rfl rfl rfl rfl (λ_=>rfl) ?_;refine cpq ⟨_,rfl,trivial,?_⟩;rw[show(S0.pen [e18 1 1,e18 2 2,e18 3 3]).1=S1 from rfl,h1];refine J.qp (a2h 3 3) [] λ_=>?_;refine J.q λby_=>?_;refine J.ca hX (by kernel_rfl) (a3i q n t l S1 (8*U) 0 (G1.less (by decide)) (.pt (by_ 0) 113 (p9 [e18 3 3])) (some ⟨by_ 0,0,none⟩) 1 1 [e18 3 3] (a2O _ _ _ _ _ rfl) rfl (by decide) B18.d1) [1,2,3,4,6] 0 rfl rfl rfl rfl rfl rfl (λ_=>rfl) ?_;refine cpq ⟨_,rfl,trivial,?_⟩;rw[show(S1.pen [e18 3 3]).1=S2 from rfl,h2];refine J.qp (a6Q n t l q S2 (7*U) 0 (G2.less (by decide)) 0 2) [1,2,3,4] λ_=>?_;rw[show(S2.carry 0 2).1=S3 from rfl,h3];refine J.qp (a5k l S3.T 1) [4] λ_=>?_;rw[h4,j6,a1T];refine J.qp (a2w q n t l S3) [1] λ_=>?_;rw[h5];refine J.qp (a2y n S3.N G3.gd.ok 0 4 2 0 0 0 0) [2] λ_=>?_;rw[show(S3.N.fault 4 2 0 0 0 0).2=S4.N from rfl,show a1F q n t l S3=a1F q n t l S4 from rfl,show S3.t=S4.t from rfl,show S3.T=S4.T from rfl];refine J.qp (b3l n t l q S4 (6*U) 0 (G4.less (by decide)) (by decide) 2) [1,2,3,4] λ_=>?_;rw[show(S4.step 2).1=S5 from rfl,h6];refine J.qp (b4v) [] λ_=>?_;refine J.qp (b3m t l S5 (6*U) 0 G5) [3,4] λ_=>?_;rw[h7];refine J.qp (a7p n S5.N) [2] λ_=>?_;rw[h8];refine J.qp (a4t n t l q S5 (5*U) 0 (G5.less (by decide)) (by decide)) [1,2,3,4] λ_=>?_;rw[show S5.room.1=S6 from rfl,h9];refine J.qp (a2h 9 9) [] λ_=>?_;refine J.q λ_=>?_;refine J.effG hX tk rfl rfl rfl (λ_=>rfl) (by(repeat' (first | exact Conj.nil | refine Conj.cons ?_ ?_ | omega | exact hq0 | (simpa using hq0) | (exactλh=>h) | exact rfl | (intro hq;have hq0:=hq;try simp only[i4,j8,d7,i7,c9]at hq) | (simp;done) | (simp;omega) | decide))) (λ_=>rfl) λbt=>⟨trivial,?_⟩;refine J.q λ_=>?_;refine J.ca hX (by kernel_rfl) (a9X n t l q S6 (4*U) 0 (.pt bt 113 (p9 [e18 9 9])) (some (bt,0)) 1 1 [e18 9 9] (a2O _ _ _ _ _ rfl) rfl (by decide) (by decide) (λh=>by cases h) B18.d9 (G6.less (by decide)) (by decide)) [1,2,3,4,8] 0 rfl rfl rfl rfl rfl rfl (λ_=>rfl) ?_;refine cpq ⟨_,rfl,trivial,?_⟩;rw[show(S6.torn [e18 9 9]).1=S7 from rfl,h10];refine J.qp (a2w q n t l S7) [1] λ_=>?_;refine J.q λ_=>?_;refine J.ca hX (by kernel_rfl) (a4u n t l S7.N S7.t S7.T (3*U) 0 (G7.gd.less (by decide) (j7 _)) (by decide) G7.t S7.op) [2,3,4] 0 rfl rfl rfl rfl rfl rfl (λ_=>rfl) ?_;refine cpq ⟨_,rfl,trivial,?_⟩;rw[show(Dv.clearX S7.N S7.t S7.T S7.op).2.2=0 from h11];exact J.qx []
end Go.Proofs.YtpakpgkdpofbhaaGreat
namespace Go.Proofs.YtpakpgkdpofbhaaGreat
open Go Go.RowKit
theorem b4S (N:Nand) (x y:Int):N.Like (N.eraseN x y)/\(N.eraseN x y).dead=N.dead/\(N.eraseN x y).broken=N.broken/\(∀i j,j≠y.toNat->(N.eraseN x y).blk i j=N.blk i j)/\∀(d b r:Int) (c:NCell),(N.eraseN x y).pageAt d b r=some c->c.lost=true\/N.pageAt d b r=some c:=by
 have key:∀(M:Nand) (B':NBlock),M.blk=N.blk->(∀(r:Int) (c:NCell),B'.cells[r.toNat]? =some c->c.lost=true\/(N.blk x.toNat y.toNat).cells[r.toNat]? =some c)->(∀i j,j≠y.toNat->(M.setBlk x.toNat y.toNat B').blk i j=N.blk i j)/\∀(d b r:Int) (c:NCell),(M.setBlk x.toNat y.toNat B').pageAt d b r=some c->c.lost=true\/N.pageAt d b r=some c:=λM B' hM hB=>by
  have hb:∀i j,(M.setBlk x.toNat y.toNat B').blk i j=if i=x.toNat/\j=y.toNat then B' else N.blk i j:=λi j=>by rw[<- hM];rfl
  refine⟨λi j hj=>by rw[hb,g7 (λe=>hj e.2)],λd b r c hc=>?_⟩;unfold Nand.pageAt at hc ⊢;rw[hb]at hc;split at hc
  ·rename_i e;rw[e.1,e.2];exact hB r c hc
  ·exact .inr hc
 unfold Nand.eraseN;dsimp only;split
 ·exact⟨Nand.Like.refl _,rfl,rfl,λ_ _ _=>rfl,λ_ _ _ _ h=> .inr h⟩
 split
 ·have:=key N.cutN {N.blk x.toNat y.toNat with cells:=((N.blk x.toNat y.toNat).cells++List.replicate (N.pages-(N.blk x.toNat y.toNat).cells.length) Nand.zcell).map λc=>{c with lost:=true}} rfl (λr c hc=>by
   left;dsimp only at hc;rw[j5]at hc;obtain⟨c0,_,rfl⟩:=Option.map_eq_some_iff.1 hc;rfl)
  exact⟨⟨rfl,rfl,rfl⟩,rfl,rfl,this⟩
 split
 ·have:=key N.cutN {N.blk x.toNat y.toNat with met:=true} rfl (λr c hc=> .inr hc);exact⟨⟨rfl,rfl,rfl⟩,rfl,rfl,this⟩
 ·have:=key N.cutN {N.blk x.toNat y.toNat with cells:=[],worn:=(N.blk x.toNat y.toNat).worn+1} rfl (λr c hc=>by simp at hc);exact⟨⟨rfl,rfl,rfl⟩,rfl,rfl,this⟩
structure ErsP (N N':Nand) (l:List Int):Prop where
 like:N.Like N'
 dead:N'.dead=N.dead
 broken:N'.broken=N.broken
 rest:∀i j,(∀y∈l,j≠y.toNat)->N'.blk i j=N.blk i j
 less:∀(d b r:Int) (c:NCell),N'.pageAt d b r=some c->c.lost=true\/N.pageAt d b r=some c
theorem ErsP.refl (N:Nand) (l:List Int):ErsP N N l:=⟨Nand.Like.refl _,rfl,rfl,λ_ _ _=>rfl,λ_ _ _ _ h=> .inr h⟩
theorem ErsP.trans {N N' N'':Nand} {l:List Int} (h:ErsP N N' l) (h2:ErsP N' N'' l):ErsP N N'' l:=
 ⟨h.like.trans h2.like,h2.dead.trans h.dead,h2.broken.trans h.broken,λi j hj=>(h2.rest i j hj).trans (h.rest i j hj),λd b r c hc=>by
  rcases h2.less d b r c hc with e | e
  ·exact .inl e
  ·exact h.less d b r c e⟩
theorem a7N (N:Nand) (t:Tl) (b mk:Int):∀(q:List Nat) (x:Nand×Tl×Int),ErsP x.1 (q.foldl (Dv.eraseD b mk) x).1 [b]
 | [],x=>ErsP.refl _ _
 | d::q,x=>by
  rw[x9];refine ErsP.trans (N':=(Dv.eraseD b mk x d).1) ?_ (a7N N t b mk q _);unfold Dv.eraseD;split
  ·exact ErsP.refl _ _
  split
  ·exact ErsP.refl _ _
  ·obtain⟨e1,e2,e3,e4,e5⟩:=b4S x.1 d b;exact⟨e1,e2,e3,λi j hj=>e4 i j (hj b (by simp)),e5⟩
theorem a3t:∀(l:List Int) (N:Nand) (t:Tl),ErsP N (Dv.clearGo l N t).1 l
 | [],N,t=>ErsP.refl _ _
 | b::l,N,t=>by
  have h1:ErsP N (Dv.erase N t b).1 (b::l):=by
   have h2:ErsP N (Dv.eraseB N t b).1 [b]:=a7N N t b (t.mask b) _ (N,t,0);have h3:ErsP N (Dv.eraseB N t b).1 (b::l):=⟨h2.like,h2.dead,h2.broken,λi j hj=>h2.rest i j λy hy=>hj y (by simp at hy;simp[hy]),h2.less⟩;unfold Dv.erase;dsimp only;split
   ·exact h3
   ·exact h3
  rw[Dv.clearGo];split
  ·exact h1
  ·have ih:=a3t l (Dv.erase N t b).1 (Dv.erase N t b).2.1;exact h1.trans ⟨ih.like,ih.dead,ih.broken,λi j hj=>ih.rest i j λy hy=>hj y (by simp[hy]),ih.less⟩
theorem mem_masks {N:Nand} {b r m:Int}:m∈M.masks N b r↔∃i:Nat,i<N.dies/\(M.look N (i:Nat) b r).2=1/\(M.look N (i:Nat) b r).1.mask=m:=by
 unfold M.masks;rw[(a7Q _ (b1x _)).2,b2A,List.mem_filterMap];unfold M.rowN;constructor
 ·rintro⟨z,hz,hm⟩;obtain⟨i,hi,rfl⟩:=List.mem_map.1 hz;unfold M.maskOf at hm;split at hm
  ·rename_i h1;injection hm with hm;exact⟨i,List.mem_range.1 hi,h1,hm⟩
  ·cases hm
 ·rintro⟨i,hi,h1,h2⟩;refine⟨_,M4 (List.mem_range.2 hi),?_⟩;unfold M.maskOf;rw[i3 h1,h2]
theorem one_iff {N:Nand} {b r m d:Int}:(R.one N b r m d).2=true↔(M.look N d b r).2=1/\(M.look N d b r).1.mask=m:=by
 unfold R.one;simp
theorem b3p {N:Nand} {b r m:Int} {k:Nat} (hk:(k:Int)<G.slots m):(R.look N b r m).good.getD k false=(R.one N b r m (G.die m b r (k:Nat))).2/\(R.look N b r m).slots.getD k Sh.zero=(R.one N b r m (G.die m b r (k:Nat))).1:=by
 have hk2:k<(G.slots m).toNat:=by omega
 unfold R.look R.ones;simp only[f9,j5,I8 hk2,B6,j6,and_self]
structure Ev (C:En->Prop) (N:Nand) (b r m:Int) (l:List En):Prop where
 is:RowIs N b r m l
 inn:RowIn N b r m l
 kind:∀e∈l,e.role=3\/C e
structure Old (d:Nat) (E:En->Prop) (N:Nand) (b r:Int) (l:List En):Prop where
 is:RowIs N b r (L.all N.dies) l
 inn:∀x∈R.job b r (L.all N.dies) l,x.1=(d:Int)->∀c,N.pageAt (d:Int) b r=some c->a0L x.2 c
 kind:∀e∈l,e.role=3\/E e
inductive DscG (fd:Int) (C E:En->Prop) (N:Nand) (b r:Int):Prop
 | none:(∀(d:Int) (c:NCell),N.pageAt d b r=some c->c.lost=true)->DscG fd C E N b r
 | all (l:List En):Ev C N b r (L.all N.dies) l->DscG fd C E N b r
 | but (d:Nat) (l:List En):fd=(d:Int)->d<N.dies->Ev C N b r (L.without (L.all N.dies) (d:Nat)) l->((∀c,N.pageAt (d:Int) b r=some c->c.lost=true)\/∃l',Old d E N b r l')->DscG fd C E N b r
theorem Ev.look {C:En->Prop} {N:Nand} {b r m:Int} {l:List En} (h:Ev C N b r m l) {x:Int×Sh} (hx:x∈R.job b r m l) (h1:(M.look N x.1 b r).2=1):M.look N x.1 b r=(x.2,1):=by
 cases hp:N.pageAt x.1 b r with
 | none=>exact absurd h1 (a2B hp)
 | some c=>exact a3D (h.is.sh x hx).1 hp (h.inn x hx c hp) h1
theorem Ev.found {C:En->Prop} {N:Nand} {b r m:Int} {l:List En} (h:Ev C N b r m l) (hoff:N.off=false) {f:Fnd} (hf:f∈R.allM N b r m):C f.en/\f.mask=m/\∃k:Nat,k<l.length/\f.slot=k/\f.en=l.getD k En.zero/\R.read N b r f.slot m=(f.en,0)/\f.whole=gOf N b r m l l.length:=by
 have hp:=h.inn.part h.is;rw[hp.allM h.is]at hf;unfold b8A at hf;obtain⟨k,hk,hx⟩:=List.mem_filterMap.1 hf;have hk:=List.mem_range.1 hk;split at hx
 ·rename_i hok;rw[i4]at hok;injection hx with hx;subst hx;have hrd:=hp.read h.is hoff hk;rw[hok.1,i3 rfl]at hrd;refine⟨?_,rfl,k,hk,rfl,rfl,hrd,rfl⟩;rcases h.kind _ (X3 hk)with e | e
  ·have:=hok.2;rw[e]at this;cases this
  ·exact e
 ·cases hx
theorem Old.found {d:Nat} {E:En->Prop} {N:Nand} {b r:Int} {l:List En} (h:Old d E N b r l) (h6:3<=N.dies/\N.dies<=6) (hno:∀i:Nat,i<N.dies->i≠d->(M.look N (i:Nat) b r).2=1->(M.look N (i:Nat) b r).1.mask≠L.all N.dies) {f:Fnd} (hf:f∈R.allM N b r (L.all N.dies)):E f.en:=by
 have hsl:=(a8C N.dies (by omega) h6.1).1;have hlen:=h.is.len;have hone:∀x∈R.job b r (L.all N.dies) l,(R.one N b r (L.all N.dies) x.1).2=true->x.1=(d:Int)/\(R.one N b r (L.all N.dies) x.1).1=x.2:=λx hx h1=>by
  obtain⟨g1,g2⟩:=one_iff.1 h1;obtain⟨n1,n2,_⟩:=h.is.inn x hx;have hto:((x.1.toNat:Nat):Int)=x.1:=M5 n1;have hxd:x.1=(d:Int):=H4 λhne=>hno x.1.toNat (by omega) (by omega) (by rw[hto];exact g1) (by rw[hto];exact g2);refine⟨hxd,?_⟩;cases hp:N.pageAt x.1 b r with
  | none=>exact absurd g1 (a2B hp)
  | some c=>
   have:=a3D (h.is.sh x hx).1 hp (h.inn x hx hxd c (by rw[<- hxd];exact hp)) g1;unfold R.one;rw[this]
 unfold R.allM at hf;obtain⟨k,hk,hx⟩:=List.mem_filterMap.1 hf;have hk:=List.mem_range.1 hk;rw[(X2 N b r _).1]at hk;unfold R.fnd at hx;split at hx
 ·rename_i hok;rw[i4]at hok;injection hx with hx;subst hx;have hkl:k<l.length:=by omega
  have hj:=p6 (a5u b r (L.all N.dies) l k hkl);obtain⟨a1,a2⟩:=b3p (N:=N) (b:=b) (r:=r) (m:=L.all N.dies) (k:=k) (by omega);cases hg:(R.look N b r (L.all N.dies)).good.getD k false with
  | true=>
   rw[hg]at a1;obtain⟨_,e2⟩:=hone _ hj a1.symm;have he:R.enAt (R.look N b r (L.all N.dies)) k=l.getD k En.zero:=by
    unfold R.enAt;rw[hg,i3 rfl,a2,e2];rfl
   show E (R.enAt (R.look N b r (L.all N.dies)) k);rcases h.kind _ (X3 hkl)with e | e
   ·have:=hok.2;rw[he,e]at this;cases this
   ·rw[he];exact e
  | false=>
   exfalso
   have hm:R.mendB (R.look N b r (L.all N.dies)) k=true:=by
    have:=hok.1;unfold R.okAt at this;rw[hg,C0]at this;exact this
   unfold R.mendB at hm;simp only[i4]at hm;have hrest:=hm.1.1;have hwh:(R.one N b r (L.all N.dies) (G.parity (L.all N.dies) b r)).2=true:=hm.1.2;obtain⟨j,hjk,hjl⟩:∃j,j≠k/\j<l.length:=⟨if k=0 then 1 else 0,by split<;>omega,by split<;>omega⟩;unfold R.rest at hrest;rw[D6]at hrest;have h1:=hrest j (List.mem_range.2 (by rw[(X2 N b r _).1];omega));have h1:(R.look N b r (L.all N.dies)).good.getD j false=true:=by
    rw[j8]at h1;rcases h1 with e | e
    ·exact absurd (a6c e) hjk
    ·exact e
   rw[(b3p (by omega)).1]at h1;have d1:=(hone _ (p6 (a5u b r (L.all N.dies) l j hjl)) h1).1;have d2:=(hone _ (p6 (a0R b r (L.all N.dies) l)) hwh).1;have hnd:=h.is.nodup;have e3:((R.job b r (L.all N.dies) l).map (·.1))[j]? =((R.job b r (L.all N.dies) l).map (·.1))[l.length]?:=by
    rw[j5,j5,a5u b r (L.all N.dies) l j hjl,a0R];exact congrArg some (d1.trans d2.symm)
   have:=(R5 (by rw[n5];simp[R.job];omega) hnd).1 e3;omega
 ·cases hx
namespace DscG
variable {fd : Int} {C C' E E' : En → Prop} {N N' : Nand} {b r : Int}
theorem mono (h:DscG fd C E N b r) (hC:∀e,C e->C' e) (hE:∀e,E e->E' e):DscG fd C' E' N b r:=by
 cases h with
 | none h=>exact .none h
 | all l h=>exact .all l ⟨h.is,h.inn,λe he=>(h.kind e he).imp id (hC e)⟩
 | but d l e hd h o=>exact .but d l e hd ⟨h.is,h.inn,λe he=>(h.kind e he).imp id (hC e)⟩ (o.imp id λ⟨l',o⟩=>⟨l',o.is,o.inn,λe he=>(o.kind e he).imp id (hE e)⟩)
theorem less (h:DscG fd C E N b r) (hl:N.Like N') (hp:∀(d:Int) (c:NCell),N'.pageAt d b r=some c->c.lost=true\/∃c0,N.pageAt d b r=some c0/\(∀s,a0L s c0->a0L s c)/\(c0.lost=true->c.lost=true)):DscG fd C E N' b r:=by
 have hev:∀m l,Ev C N b r m l->Ev C N' b r m l:=λm l h=>⟨h.is.like hl,λx hx c hc=>by
  rcases hp _ c hc with e | ⟨c0,h1,h2,_⟩
  ·exact .inl e
  ·exact h2 _ (h.inn x hx c0 h1),h.kind⟩
 cases h with
 | none h=>
  refine .none λd c hc=>?_;rcases hp d c hc with e | ⟨c0,h1,_,h3⟩
  ·exact e
  ·exact h3 (h d c0 h1)
 | all l h=>exact .all l (by rw[hl.dies];exact hev _ _ h)
 | but d l e hd h o=>
  refine .but d l e (by rw[hl.dies];exact hd) (by rw[hl.dies];exact hev _ _ h) ?_;rcases o with o | ⟨l',o⟩
  ·left;intro c hc;rcases hp _ c hc with e | ⟨c0,h1,_,h3⟩
   ·exact e
   ·exact h3 (o c0 h1)
  ·right;refine⟨l',by rw[hl.dies];exact o.is.like hl,λx hx hxd c hc=>?_,o.kind⟩;rw[hl.dies]at hx;rcases hp _ c hc with e | ⟨c0,h1,h2,_⟩
   ·exact .inl e
   ·exact h2 _ (o.inn x hx hxd c0 h1)
theorem gone (h:DscG fd C E N b r) (hl:N.Like N') (hp:∀(d:Int) (c:NCell),N'.pageAt d b r=some c->c.lost=true\/N.pageAt d b r=some c):DscG fd C E N' b r:=
 h.less hl λd c hc=>(hp d c hc).imp id λh=>⟨c,h,λ_ h=>h,λh=>h⟩
theorem fnd (h:DscG fd C E N b r) (hoff:N.off=false) (h6:3<=N.dies/\N.dies<=6) {f:Fnd} (hf:f∈R.all N b r):
  E f.en\/C f.en/\(f.mask=L.all N.dies\/∃d:Nat,fd=(d:Int)/\d<N.dies/\f.mask=L.without (L.all N.dies) (d:Nat))/\∃l,Ev C N b r f.mask l/\∃k:Nat,k<l.length/\f.slot=k/\f.en=l.getD k En.zero/\R.read N b r f.slot f.mask=(f.en,0)/\f.whole=gOf N b r f.mask l l.length:=by
 have hall:=L.all_has N.dies (by omega);unfold R.all at hf;obtain⟨m,hm,hf⟩:=List.mem_flatMap.1 hf;obtain⟨i,hi,g1,g2⟩:=mem_masks.1 hm;have hfin:∀m l,Ev C N b r m l->f∈R.allM N b r m->C f.en/\f.mask=m/\∃l,Ev C N b r f.mask l/\∃k:Nat,k<l.length/\f.slot=k/\f.en=l.getD k En.zero/\R.read N b r f.slot f.mask=(f.en,0)/\f.whole=gOf N b r f.mask l l.length:=λm l h hf=>by
  obtain⟨a1,a2,a3⟩:=h.found hoff hf;subst a2;exact⟨a1,rfl,l,h,a3⟩
 have hpg:∃c,N.pageAt (i:Int) b r=some c/\c.lost=false:=by
  cases hp:N.pageAt (i:Int) b r with
  | none=>exact absurd g1 (a2B hp)
  | some c=>
   refine⟨c,rfl,?_⟩;cases hl:c.lost with
   | false=>rfl
   | true=>
    exfalso
    have:(M.look N (i:Nat) b r).2≠1:=b4o (by
     unfold Nand.readE;split
     ·assumption
     ·rw[hp];dsimp only;rw[hl];exact(by decide:(6:Int)≠0))
    exact this g1
 obtain⟨c,hc,hcl⟩:=hpg;cases h with
 | none h=>rw[h _ c hc]at hcl;cases hcl
 | all l h=>
  right;obtain⟨x,hx,hxi⟩:=h.is.on (d:=i) (by rw[hall,i9 (by omega),i9 (by omega)];rfl);have h1:=h.look hx (by rw[hxi];exact g1);rw[hxi]at h1;rw[h1]at g2;have:m=L.all N.dies:=g2.symm.trans (h.is.sh x hx).2;subst this;obtain⟨a1,a2,a3⟩:=hfin _ l h hf;exact⟨a1, .inl a2,a3⟩
 | but d l e hd h o=>
  have hwo:=L.without_has (L.set_all N.dies (by omega)) (d:=(d:Int)) (by omega);have hmain:∀j:Nat,j<N.dies->j≠d->(M.look N (j:Nat) b r).2=1->(M.look N (j:Nat) b r).1.mask=L.without (L.all N.dies) (d:Nat):=λj hj hjd k1=>by
   obtain⟨x,hx,hxi⟩:=h.is.on (d:=j) (by rw[hwo,hall,i9 (by omega),i9 (by omega),s8 (by omega)];rfl);have h1:=h.look hx (by rw[hxi];exact k1);rw[hxi]at h1;rw[h1];exact(h.is.sh x hx).2
  by_cases hid:i=d
  ·subst hid;rcases o with o | ⟨l',o⟩
   ·rw[o c hc]at hcl;cases hcl
   ·obtain⟨x,hx,hxi⟩:=o.is.on (d:=i) (by rw[hall,i9 (by omega),i9 (by omega)];rfl);have h1:=a3D (o.is.sh x hx).1 (by rw[hxi];exact hc) (o.inn x hx hxi c hc) (by rw[hxi];exact g1);rw[hxi]at h1;rw[h1]at g2;have:m=L.all N.dies:=g2.symm.trans (o.is.sh x hx).2;subst this;left;refine o.found h6 (λj hj hjd k1 k2=>?_) hf;have:=hmain j hj hjd k1;rw[k2]at this;have h2:L.has (L.all N.dies) (i:Int)=L.has (L.without (L.all N.dies) (i:Nat)) (i:Int):=congrArg (λz=>L.has z (i:Int)) this;rw[hwo,hall,i9 (by omega),i9 (by omega)]at h2;simp at h2
  ·right;have:m=L.without (L.all N.dies) (d:Nat):=g2.symm.trans (hmain i hi hid g1);subst this;obtain⟨a1,a2,a3⟩:=hfin _ l h hf;exact⟨a1, .inr ⟨d,e,hd,a2⟩,a3⟩
end DscG
theorem Full.found2 {fd:Int} {N:Nand} {b r m:Int} {l:List En} (h:Full fd N b r m l) (hoff:N.off=false) (hdead:∀i:Nat,(i:Int)≠fd->N.dead.getD i false=false) (hm:∃i:Nat,(i:Int)≠fd/\L.has m (i:Nat)=true) {j:Nat} (hj:j<l.length) (hr:(l.getD j En.zero).role≠3):∃f∈R.all N b r,f.en=l.getD j En.zero/\f.mask=m/\f.slot=j:=by
 obtain⟨i,hi,hmi⟩:=hm;obtain⟨x,hx,hxi⟩:=h.is.on hmi;obtain⟨n1,n2,_⟩:=h.is.inn x hx;obtain⟨t,ht⟩:=h.good x hx (by rw[hxi];exact hi);have hrf:N.refuses x.1 b r=0:=by
  unfold Nand.refuses;rw[hoff,g7 (by decide),Nand.geoIn_of ⟨n1,n2⟩ h.is.blk h.is.row,g7 (by decide),hdead _ (by omega)];rfl
 have hlk:=a4D (h.is.sh x hx).1 hrf ht;have hmem:m∈M.masks N b r:=mem_masks.2 ⟨i,by omega,by rw[<- hxi,hlk],by rw[<- hxi,hlk];exact(h.is.sh x hx).2⟩;refine⟨⟨l.getD j En.zero,b,r,j,m,gOf N b r m l l.length,!(gOf N b r m l j)⟩,?_,rfl,rfl,rfl⟩;unfold R.all;refine List.mem_flatMap.2 ⟨m,hmem,?_⟩;rw[(h.inn.part h.is).allM h.is];unfold b8A;refine List.mem_filterMap.2 ⟨j,List.mem_range.2 hj,?_⟩;rw[i3];rw[h.okAll hoff hdead hj,s7];exact bne_iff_ne.2 hr
theorem Full.mask_eq {fd:Int} {C:En->Prop} {N:Nand} {b r m m':Int} {l l':List En} (h:Full fd N b r m l) (hoff:N.off=false) (hdead:∀i:Nat,(i:Int)≠fd->N.dead.getD i false=false) {i:Nat} (hi:(i:Int)≠fd) (hm:L.has m (i:Nat)=true) (hm':L.has m' (i:Nat)=true) (h2:Ev C N b r m' l'):m'=m:=by
 obtain⟨x,hx,hxi⟩:=h.is.on hm;obtain⟨n1,n2,_⟩:=h.is.inn x hx;obtain⟨t,ht⟩:=h.good x hx (by rw[hxi];exact hi);have hrf:N.refuses x.1 b r=0:=by
  unfold Nand.refuses;rw[hoff,g7 (by decide),Nand.geoIn_of ⟨n1,n2⟩ h.is.blk h.is.row,g7 (by decide),hdead _ (by omega)];rfl
 have hlk:=a4D (h.is.sh x hx).1 hrf ht;obtain⟨y,hy,hyi⟩:=h2.is.on hm';have hyx:y.1=x.1:=by rw[hxi,hyi]
 have hl2:=h2.look hy (by rw[hyx,hlk]);rw[hyx,hlk]at hl2;injection hl2 with hl2 _;rw[<- (h2.is.sh y hy).2,<- (h.is.sh x hx).2,hl2]
def CS (W:List (Int×En)) (T:Tb) (b r:Int) (e:En):Prop:=∃w a,Tb.look W e.lpn=some w/\Tb.look T.at_ e.lpn=some a/\(e.seq<a.seq\/e.seq=a.seq/\a.block=b/\a.row=r/\e.role=w.role/\e.data=w.data)
def CE (T:Tb) (e:En):Prop:=∃a,Tb.look T.at_ e.lpn=some a/\e.seq<a.seq
structure GI (fd:Int) (W:List (Int×En)) (S:Dv):Prop where
 inv:Inv fd S
 hd:Hd S W
 wok:WOk W
 msk:∀i a,Tb.look S.T.at_ i=some a->Msk S.N.dies fd a.mask
 dsc:∀b r:Nat,b<S.N.blocks->r<S.N.pages->DscG fd (CS W S.T b r) (CE S.T) S.N b r
theorem b0G {W:List (Int×En)} {l:List En} (h:WOk W) (hf:∀e∈l,FitR e):∀n,n<=l.length->WOk (a0Z W l n)
 | 0,_=>h
 | n+1,hn=>by
  rw[a1j];exact(b0G h hf n (by omega)).put (hf _ (X3 (by omega)))
theorem a9j {l:List En} (hnd:(l.map (·.lpn)).Nodup) {n:Nat} (hn:n<=l.length):∀a b,a<b->b<n->(l.getD a En.zero).lpn≠(l.getD b En.zero).lpn:=λa b hab hb e=>by
 have g1:a<l.length:=by omega
 have g2:b<l.length:=by omega
 have h3:(l.map (·.lpn))[a]? =(l.map (·.lpn))[b]?:=by
  rw[j5,j5,d6 g1,d6 g2];rw[f9,f9,d6 g1,d6 g2]at e;exact congrArg some e
 have:=(R5 (by rw[n5];exact g1) hnd).1 h3;omega
namespace GI
variable {fd : Int} {W : List (Int × En)} {S Q : Dv} {k m : Nat} {l : List En}
theorem at1 (h:GI fd W S) (hO:S.Ok k m) (h0:¬(S.left=false/\S.pick<0)):GI fd W S.at1:=by
 have hat:=Dv.at1_like S;have hw:Went fd S S.at1 0:=by
  unfold Dv.at1;cases hl:S.left with
  | true=>rw[i3 rfl];exact Went.refl h.inv
  | false=>rw[g7 m6];exact(h.inv.opens hO hl λe=>h0 ⟨hl,e⟩).1
 refine⟨hw.inv,h.hd.went h.inv hw,h.wok,λi a ha=>?_,λb r hb hr=>?_⟩
 ·rw[hat.2.1]at ha;rw[hat.1];exact h.msk i a ha
 ·rw[hat.1]at hb hr ⊢;rw[hat.2.1];exact h.dsc b r hb hr
theorem wrote (h:GI fd W Q) (hO:Q.Ok k m) (hl:Last fd Q l) (hf:∀e∈l,FitR e) (hnd:(l.map (·.lpn)).Nodup) (hlg:∀e∈l,e.lpn<Q.T.logical):GI fd (a0Z W l (Q.fit l)) (M6 Q l):=by
 have hg:=hO.gd.ok.bd16;obtain⟨l1,l2⟩:=hl.look h.inv hO hf hlg hnd;have hH:=h.hd.wrote h.inv hO hl hf hlg hnd;have hlk:Q.N.Like (M6 Q l).N:=hl.turn.like;have hfit:=Dv.fit_le Q l;have hfd:Q.fit l=min l.length (G.slots Q.mask).toNat:=rfl;obtain⟨n,hn⟩:∃n,Q.fit l=n:=⟨_,rfl⟩;rw[hn]at l1 l2 hH hfit hfd ⊢;obtain⟨w1,w2⟩:=a0A (W:=W) (l:=l) n (a9j hnd hfit.2.1);have hR:=h.inv.rowIs hO hl.left hf hl.bd;have ho:=h.inv.opn hl.left;have hrdy:RdyW Q.N Q.op Q.row Q.mask:=⟨h.inv.lit,λd hd ha=>(ho.cells d hd).2 ha⟩;have hq:=hrdy.rdy hR;have w3:WroteR Q.N (M6 Q l).N Q.op Q.row (R.job Q.op Q.row Q.mask (Q.es l)):=(a2v hrdy hR).2.2;have hF:Full fd (M6 Q l).N Q.op Q.row Q.mask (Q.es l):=hl.turn.full;have hsq:∀i a,Tb.look Q.T.at_ i=some a->a.seq<Q.next:=λi a ha=>(h.inv.st i a ha).seq.2;have hmono:∀b r e,CS W Q.T b r e->CS (a0Z W l n) (M6 Q l).T b r e:=λb r e ⟨w,a,h1,h2,h3⟩=>by
  by_cases hex:∃j,j<n/\(l.getD j En.zero).lpn=e.lpn
  ·obtain⟨j,hj,hje⟩:=hex;have x1:=l1 j hj;have x2:=w1 j hj;have ha:=hsq _ _ h2;rw[hje]at x1 x2;refine⟨_,_,x2,x1, .inl ?_⟩;show e.seq<Q.next+(j:Int);omega
  ·have hno:∀j,j<n->(l.getD j En.zero).lpn≠e.lpn:=λj hj hh=>hex ⟨j,hj,hh⟩;exact⟨w,a,by rw[w2 _ hno];exact h1,by rw[l2 _ hno];exact h2,h3⟩
 have hmonoE:∀e,CE Q.T e->CE (M6 Q l).T e:=λe ⟨a,h2,h3⟩=>by
  by_cases hex:∃j,j<n/\(l.getD j En.zero).lpn=e.lpn
  ·obtain⟨j,hj,hje⟩:=hex;have x1:=l1 j hj;have ha:=hsq _ _ h2;rw[hje]at x1;refine⟨_,x1,?_⟩;show e.seq<Q.next+(j:Int);omega
  ·have hno:∀j,j<n->(l.getD j En.zero).lpn≠e.lpn:=λj hj hh=>hex ⟨j,hj,hh⟩;exact⟨a,by rw[l2 _ hno];exact h2,h3⟩
 have hold:∀e,CS W Q.T Q.op Q.row e->CE (M6 Q l).T e:=λe ⟨w,a,_,h2,h3⟩=>by
  refine hmonoE e ⟨a,h2,?_⟩;rcases h3 with h3 | ⟨_,h4,h5,_⟩
  ·exact h3
  ·have:=(h.inv.st _ _ h2).below h4;omega
 refine⟨hl.inv h.inv hO,hH,b0G h.wok hf n hfit.2.1,λi a ha=>?_,λb r hb hr=>?_⟩
 ·by_cases hex:∃j,j<n/\(l.getD j En.zero).lpn=i
  ·obtain⟨j,hj,rfl⟩:=hex;rw[l1 j hj]at ha;injection ha with ha;rw[<- ha,hlk.dies];exact ho.mask
  ·rw[l2 i λj hj e=>hex ⟨j,hj,e⟩]at ha;rw[hlk.dies];exact h.msk i a ha
 ·by_cases e:(b:Int)=Q.op/\(r:Int)=Q.row
  ·have hev:Ev (CS (a0Z W l n) (M6 Q l).T Q.op Q.row) (M6 Q l).N Q.op Q.row Q.mask (Q.es l):=⟨hF.is,hF.inn,λx hx=>by
    rcases b3j hx with⟨i,hi,hin,rfl⟩ | rfl
    ·right;have hin2:i<n:=by rw[hfd];omega
     exact⟨_,_,w1 i hin2,l1 i hin2, .inr ⟨rfl,rfl,rfl,rfl,rfl⟩⟩
    ·exact .inl rfl⟩
   rw[e.1,e.2];rcases ho.mask.eq hg.1 with⟨hm,_⟩ | ⟨f0,f1,fno,hm⟩
   ·refine .all (Q.es l) ?_;rw[hlk.dies,<- hm];exact hev
   ·obtain⟨d,rfl⟩:=i6 f0;have hd:d<Q.N.dies:=by omega
    have hpg:(M6 Q l).N.pageAt (d:Int) Q.op Q.row=Q.N.pageAt (d:Int) Q.op Q.row:=by
     unfold Nand.pageAt;rw[j4,w3.rest d Q.op.toNat (.inr λx hx he=>by
      obtain⟨n1,_,n3⟩:=hR.inn x hx;rw[show x.1=(d:Int)from by omega,fno]at n3;cases n3)]
    refine .but d (Q.es l) rfl (by rw[hlk.dies];exact hd) (by rw[hlk.dies,<- hm];exact hev) ?_;have hb0:=ho.blk;have hr0:=ho.row;have hrp:=(Dv.left_spec hl.left).2.1;have h0:=h.dsc Q.op.toNat Q.row.toNat (by omega) (by omega);rw[M5 hb0.1,M5 hr0.1]at h0;cases h0 with
    | none h0=>exact .inl λc hc=>h0 d c (by rw[<- hpg];exact hc)
    | all l0 h0=>
     refine .inr ⟨l0,by rw[hlk.dies];exact h0.is.like hlk,λx hx hxd c hc=>?_,λe he=>(h0.kind e he).imp id (hold e)⟩;rw[hlk.dies]at hx;exact h0.inn x hx c (by rw[hxd,<- hpg];exact hc)
    | but d' l0 e' hd' h0 o=>
     obtain rfl:d'=d:=by omega
     rcases o with o | ⟨l',o⟩
     ·exact .inl λc hc=>o c (by rw[<- hpg];exact hc)
     ·refine .inr ⟨l',by rw[hlk.dies];exact o.is.like hlk,λx hx hxd c hc=>?_,λe he=>(o.kind e he).imp id (hmonoE e)⟩;rw[hlk.dies]at hx;exact o.inn x hx hxd c (by rw[<- hpg];exact hc)
  ·refine((h.dsc b r (by rw[<- hlk.blocks];exact hb) (by rw[<- hlk.pages];exact hr)).gone hlk λd c hc=> .inr ?_).mono (hmono b r) hmonoE;rw[b2k]at hc ⊢;rw[<- w3.page hq (a0r _) (a0r _) (a0r _) λe1 e2=>e ⟨e1,e2⟩];exact hc
theorem pen (h:GI fd W S) (hO:S.Ok (8*Dv.fuel+k) m) (hot:Hot2 fd S 0) (hf:∀e∈l,FitR e) (hl0:l.length≠0) (hnd:(l.map (·.lpn)).Nodup) (hlg:∀e∈l,e.lpn<S.T.logical) (hnx:S.next<=1099511627775-1200):
  S.pen l=(S,0,11)/\S.rows=0\/∃(V:Dv) (n:Nat),S.pen l=(V,(n:Int),0)/\Pnd fd S l V n 0/\V.Ok k m/\GI fd (a0Z W l n) V/\Hot2 fd V 0:=by
 by_cases hr:S.rows=0
 ·obtain⟨e1,e2⟩:=h.inv.full (hO.less (j7 _)) hr;left;refine⟨?_,hr⟩;show Dv.write (159+1) S l=_;rw[Dv.write_succ,g7 hl0,i3 ⟨e1,e2⟩]
 ·right;obtain⟨V,n,γ,p1,p2,p3,p4⟩:=h.inv.pen_step hO hot (by omega) hf hl0 hnd hlg hnx h.hd;obtain⟨γ',Q,g1,g2,g3,g4,g5,_,_,_,g9,_⟩:=h.inv.write_go (l:=l) 0 159 S k (m:=m) hO hot.hot (by omega) hf hl0 (by omega);obtain rfl:γ'=0:=by omega
  obtain rfl:=g9 rfl;obtain⟨q1,q2⟩:=p2.hot 0 hot;obtain rfl:γ=0:=by omega
  have hp:S.pen l=(M6 S.at1 l,(S.at1.fit l:Int),(0:Int)):=g5;rw[hp]at p1;have e1:=congrArg Prod.fst p1;have e2:=congrArg (λz=>z.2.1) p1;dsimp only at e1 e2;have hns:¬(S.left=false/\S.pick<0):=λe=>by
   rcases h.inv.rows_pos (hO.less (j7 _)) (by omega)with e2 | e2
   ·rw[e.1]at e2;cases e2
   ·exact e2 e.2
  have hat:=Dv.at1_like S;have hG:=(h.at1 (hO.less (j7 _)) hns).wrote g3 g4 hf hnd (λe he=>by rw[hat.2.1];exact hlg e he);subst e1;have e2:S.at1.fit l=n:=by omega
  rw[e2]at hG hp;exact⟨_,n,hp,p2,p3,hG,q2⟩
theorem swap {E:List En} {n:Nat} (h:GI fd (a0Z W E n) S) (hW:WOk W) (hE:∀j,j<n->∃e sq,Tb.look W (E.getD j En.zero).lpn=some e/\E.getD j En.zero={e with seq:=sq}) (hd:∀i j,i<j->j<n->(E.getD i En.zero).lpn≠(E.getD j En.zero).lpn):GI fd W S:=by
 obtain⟨w1,w2⟩:=a0A (W:=W) (l:=E) n hd;refine⟨h.inv,h.hd.swap hE hd,hW,h.msk,λb r hb hr=>(h.dsc b r hb hr).mono (λe ⟨w,a,x1,x2,x3⟩=>?_) λe he=>he⟩
 by_cases hex:∃j,j<n/\(E.getD j En.zero).lpn=e.lpn
 ·obtain⟨j,hj,hje⟩:=hex;obtain⟨e0,sq,y1,y2⟩:=hE j hj;have z1:=w1 j hj;rw[hje]at z1 y1;rw[z1]at x1;injection x1 with x1;refine⟨e0,a,y1,x2,x3.imp id λ⟨z2,z3,z4,z5,z6⟩=>⟨z2,z3,z4,?_,?_⟩⟩
  ·rw[z5,<- x1,y2]
  ·rw[z6,<- x1,y2]
 ·exact⟨w,a,by rw[<- w2 _ λj hj hh=>hex ⟨j,hj,hh⟩];exact x1,x2,x3⟩
theorem carry_go:∀(f:Nat) (S:Dv) (I:List Int) (done:Int) (k:Nat),GI fd W S->S.Ok (Dv.cost*f+k) m->Hot2 fd S 0->I.length<=f->(∀i∈I,(Tb.look W i).isSome=true)->I.Nodup->S.next+1000*(f:Int)<=1099511627775-1300->
  ∃(V:Dv) (n e:Int),Dv.carryGo f S I done=(V,n,e)/\GI fd W V/\V.Ok k m/\Hot2 fd V 0/\V.next<=S.next+1000*(f:Int)/\V.T.logical=S.T.logical/\S.N.Like V.N
 | 0,S,I,done,k,h,hO,hot,hL,_,_,_=>⟨S,done,0,rfl,h,hO.less (by omega),hot,by omega,rfl,Nand.Like.refl _⟩
 | f+1,S,I,done,k,h,hO,hot,hL,hin,hnd,hnx=>by
  by_cases hl0:I.length=0
  ·have:I=[]:=l9 hl0;subst this;exact⟨S,done,0,by rw[Dv.carryGo,i3 (show([]:List Int).length=0 from rfl)],h,hO.less (by omega),hot,by omega,rfl,Nand.Like.refl _⟩
  ·have hg:=hO.gd.ok.bd16;obtain⟨c,hc⟩:∃c,(max S.slots 1).toNat=c:=⟨_,rfl⟩;have hc2:1<=c:=by omega
   obtain⟨E,e1,e2,e3,e4,e5⟩:=h.hd.rds h.wok (I.take c) λi hi=>hin i (D7 hi);have hEl:E.length=min c I.length:=by rw[e2,m9]
   have hnd2:(E.map (·.lpn)).Nodup:=by rw[e3];exact hnd.sublist (a2s _ _)
   have hlgE:∀e∈E,e.lpn<S.T.logical:=λe he=>by
    have:e.lpn∈I.take c:=by rw[<- e3];exact M4 he
    have h1:=hin _ (D7 this);obtain⟨w,hw⟩:=Option.isSome_iff_exists.1 h1;obtain⟨_,a,ha,_⟩:=h.hd.each _ _ hw;exact(hO.T.rng _ (Tb.look_mem ha)).2
   have hstep:Dv.carryGo (f+1) S I done=(let w:=S.pen E;if w.2.2≠0 then(w.1,done+w.2.1,w.2.2)else Dv.carryGo f w.1 (I.drop w.2.1.toNat) (done+w.2.1)):=by
    rw[Dv.carryGo,g7 hl0,hc];dsimp only;rw[e1];dsimp only;rw[g7 (by decide)]
   rcases h.pen (k:=Dv.cost*f+k) (m:=m) (by have:Dv.cost*(f+1)=Dv.cost*f+Dv.cost:=E9 _ _;exact hO.less (by unfold Dv.cost at this ⊢;omega)) hot e4 (by omega) hnd2 hlgE (by omega)with⟨p1,_⟩ | ⟨V,n,p1,p2,p3,p4,p5⟩
   ·rw[hstep,p1];dsimp only;rw[i3 (by decide)];exact⟨S,_,11,rfl,h,hO.less (by omega),hot,by omega,rfl,Nand.Like.refl _⟩
   ·have hnE:=p2.n1;have hV:GI fd W V:=p4.swap h.wok (λj hj=>e5 j (by rw[<- e2];omega)) (a9j hnd2 hnE);rw[hstep,p1];dsimp only;rw[g7 (by decide),j4];have hdl:(I.drop n).length=I.length-n:=B2;have hn1:=p2.n3;have hnx2:=p2.next;obtain⟨U,n2,e2',r1,r2,r3,r4,r5,r6,r7⟩:=carry_go f V (I.drop n) (done+(n:Int)) k hV p3 p5 (by omega) (λi hi=>hin i (O1 hi)) (hnd.sublist (a6r _ _)) (by omega);exact⟨U,n2,e2',r1,r2,r3,r4,by omega,r6.trans p2.logical,p2.like.trans r7⟩
theorem carry (h:GI fd W S) (hO:S.Ok (Dv.costC+k) m) (hot:Hot2 fd S 0) (hlg:S.T.logical<=1000) (hnx:S.next<=1099511627775-2000000) (b most:Int):
  ∃(V:Dv) (n e:Int),S.carry b most=(V,n,e)/\GI fd W V/\V.Ok k m/\Hot2 fd V 0/\V.next<=S.next+1000000/\V.T.logical=S.T.logical/\S.N.Like V.N:=by
 obtain⟨I,hI⟩:∃I,(S.T.ins b).take (max most 0).toNat=I:=⟨_,rfl⟩;have hsub:∀j∈I,j∈S.T.ins b:=λj hj=>by rw[<- hI]at hj;exact D7 hj
 have hlen:I.length<=1000:=by
  have h1:=ins_len hO.T b;have h2:Tb.cntB S.T.at_ b<=S.T.at_.length:=a2V;have h3:=b7Q hO.T;rw[<- hI,m9];omega
 have hnd:I.Nodup:=by
  rw[<- hI];refine a5a (a2s _ _) ?_;unfold Tb.ins;split
  ·exact a0X
  ·unfold Tb.inK;exact List.pairwise_map.2 ((List.nodup_range.filter _).imp λhne e=>hne (by omega))
 have hcost:Dv.cost*I.length<=Dv.costC:=x5 _ (by omega);obtain⟨V,n,e,r1,r2,r3,r4,r5,r6,r7⟩:=carry_go I.length S I 0 k h (hO.less (by omega)) hot (j7 _) (λj hj=>by
  obtain⟨a,ha,_⟩:=b2B (hsub j hj);cases hw:Tb.look W j with
  | none=>rw[h.hd.none hw]at ha;cases ha
  | some e=>rfl) hnd (by omega)
 refine⟨V,n,e,?_,r2,r3,r4,by omega,r6,r7⟩;unfold Dv.carry;rw[hI];exact r1
theorem cleared (h:GI fd W S) {N':Nand} {t':Tl} (c1:S.clear=({S with N:=N',t:=t'},0)) (c2:Inv.Cleared fd S (y5 (C9 S.t S.T) S.op S.t.b) N' t') (c3:Hd {S with N:=N',t:=t'} W):GI fd W {S with N:=N',t:=t'}:=by
 have hers:ErsP S.N N' (y5 (C9 S.t S.T) S.op S.t.b):=by
  have:=a3t (y5 (C9 S.t S.T) S.op S.t.b) S.N S.t;have e:S.clear.1.N=(Dv.clearGo (y5 (C9 S.t S.T) S.op S.t.b) S.N S.t).1:=rfl;rw[<- e,c1]at this;exact this
 refine⟨c2.inv,c3,h.wok,λi a ha=>?_,λb r hb hr=>?_⟩
 ·show Msk N'.dies fd a.mask;rw[c2.like.dies];exact h.msk i a ha
 ·have hb:b<N'.blocks:=hb;have hr:r<N'.pages:=hr;rw[c2.like.blocks]at hb;rw[c2.like.pages]at hr;exact(h.dsc b r hb hr).gone c2.like λd c hc=>hers.less d b r c hc
theorem clear(h:GI fd W S) (hO:S.Ok (96+k) m):∃V,S.clear=(V,0)/\GI fd W V/\V.Ok k m/\V.next=S.next/\V.T=S.T/\V.op=S.op/\S.N.Like V.N/\(Hot2 fd S 0->Hot2 fd V 0):=by
 have hk:=Dv.clear_keep hO;obtain⟨N',t',c1,c2,c3⟩:=h.inv.clear_hd hO h.hd;have hG:=h.cleared c1 c2 c3;rw[c1]at hk;refine⟨_,c1,hG,hk.1,rfl,rfl,rfl,c2.like,λhh=>?_⟩;cases hh with
 | calm hno=>
  have hnf:=c2.nofl ⟨hno.dead,hno.fl⟩;exact .calm ⟨λi=>by show N'.dead.getD i false=false;rw[c2.dead];exact hno.dead i,List.eq_nil_iff_forall_not_mem.2 λa ha=>(by have:=c2.plan a ha;rw[hno.plan]at this;cases this),λi j=>by show(N'.blk i j).met=false;rw[hnf.2];exact hno.met i j,hnf.1.2⟩
 | cold h1 h2=>exact .cold (c2.td fd h1) h2
 | brn hb=>exact .brn (hb.cleared hO.t.b c2)
 | ers hE=>exact .ers (hE.cleared h.inv hO c1)
theorem room_go:∀(f:Nat) (S:Dv) (k:Nat),GI fd W S->S.Ok (Dv.costR*f+k) m->Hot2 fd S 0->S.T.logical<=1000->S.next+1000000*(f:Int)<=1099511627775-2000000->
  ∃(V:Dv) (e:Int),Dv.roomGo f S=(V,e)/\GI fd W V/\Hot2 fd V 0
 | 0,S,k,h,hO,hot,_,_=>⟨S,0,rfl,h,hot⟩
 | f+1,S,k,h,hO,hot,hlg,hnx=>by
  rw[E9]at hO;rw[Dv.roomGo];split
  ·exact⟨S,0,rfl,h,hot⟩
  split
  ·exact⟨S,0,rfl,h,hot⟩
  obtain⟨U,n,e,c1,c2,c3,c4,c5,c6,c7⟩:=h.carry (k:=96+(Dv.costR*f+k)) (hO.less (by unfold Dv.costR;omega)) hot hlg (by omega) S.victim (S.T.count S.victim);dsimp only;rw[c1];dsimp only;split
  ·exact⟨U,e,rfl,c2,c4⟩
  ·obtain⟨V,d1,d2,d3,d4,d5,_,_,d8⟩:=c2.clear (k:=Dv.costR*f+k) c3;rw[d1];dsimp only;rw[g7 (by decide)];exact room_go f V k d2 d3 (d8 c4) (by rw[d5,c6];exact hlg) (by omega)
theorem room (h:GI fd W S) (hO:S.Ok (Dv.costM+k) m) (hot:Hot2 fd S 0) (hlg:S.T.logical<=1000) (hnx:S.next<=1099511627775-20000000):GI fd W S.room.1/\Hot2 fd S.room.1 0:=by
 have hg:=hO.gd.ok.bd16;have htb:=hO.t.b;obtain⟨U,u1,u2,u3,u4,u5,_,_,u8⟩:=h.clear (k:=Dv.costR*16+k) (hO.less (by unfold Dv.costM;omega));have hm:Dv.costR*S.t.b<=Dv.costR*16:=x5 _ (by omega);obtain⟨V,e,v1,v2,v3⟩:=room_go S.t.b U k u2 (u3.less (by omega)) (u8 hot) (by rw[u5];exact hlg) (by omega);unfold Dv.room;rw[u1];dsimp only;rw[g7 (by decide),v1];exact⟨v2,v3⟩
theorem same (h:GI fd W S) {N':Nand} (hl:S.N.Like N') (hb:N'.blk=S.N.blk) (hd:N'.dead=S.N.dead) (hp:N'.plan=S.N.plan) (hlit:N'.Lit) (hi:Inv fd {S with N:=N'}) (hH:Hd {S with N:=N'} W):GI fd W {S with N:=N'}:=by
 refine⟨hi,hH,h.wok,λi a ha=>?_,λb r hb' hr'=>?_⟩
 ·show Msk N'.dies fd a.mask;rw[hl.dies];exact h.msk i a ha
 ·have hb':b<N'.blocks:=hb';have hr':r<N'.pages:=hr';rw[hl.blocks]at hb';rw[hl.pages]at hr';refine(h.dsc b r hb' hr').gone hl λd c hc=> .inr ?_;have hc:N'.pageAt d b r=some c:=hc;unfold Nand.pageAt at hc ⊢;rw[hb]at hc;exact hc
end GI
def lgN (d b p:Nat):Nat:=((b-5)*p*(d-2)+1)/2
theorem b6I (d b p:Nat) (hd:2<=d) (hb:5<=b):(((b:Int)-5)*p*((d:Int)-2)+1).tdiv 2=(lgN d b p:Int):=by
 have e1:(b:Int)-5=((b-5:Nat):Int):=by omega
 have e2:(d:Int)-2=((d-2:Nat):Int):=by omega
 rw[e1,e2,<- a3O,<- a3O,show(((b-5)*p*(d-2):Nat):Int)+1=(((b-5)*p*(d-2)+1:Nat):Int)from by omega,Int.tdiv_eq_ediv_of_nonneg (by omega)];unfold lgN;omega
namespace Tl
def ofD (N:Nand) (b:Nat) (t:Tl) (d:Nat):Tl:=
 let t:=t.wore b (N.wornAt d b)
 if L.has (t.mask b) d&&decide ((N.next d b:Int)>0)then t.clean b false else t
def ofB (N:Nand) (t:Tl) (b:Nat):Tl:=(List.range N.dies).foldl (ofD N b) t
def of (N:Nand):Tl:=(List.range N.blocks).foldl (ofB N) (Dv.seeDead N (Tl.new N.dies N.blocks N.pages))
end Tl
structure Fv where
 S:Dv
 L:List En
 nx:Int
 off:Bool
namespace Fv
def lg (F:Fv):Int:=lgN F.S.N.dies F.S.N.blocks F.S.N.pages
def ask (F:Fv):Fv:={F with off:=F.off||F.S.N.off}
def told (F:Fv) (e:Int):Fv:={F with off:=F.off||e==9}
def get (F:Fv) (i:Int):List UInt8×Int:=
 if(a2m F.L i).2 then((a2m F.L i).1.data,0)
 else match Tb.look F.S.T.at_ i with
  | none=>(zeros16,0)
  | some a=>
   if a.role=2 then(zeros16,0)else if a.role=4 then(zeros16,10)
   else
    let x:=R.read F.S.N a.block a.row a.slot a.mask
    if x.2≠0\/x.1.lpn≠i\/x.1.seq≠a.seq then(zeros16,10)else(x.1.data,0)
def read (F:Fv) (i:Int):Fv×List UInt8×Int:=
 if F.ask.off then(F.ask,zeros16,9)
 else if i<0\/i>=F.ask.lg then(F.ask,zeros16,3)
 else(F.ask,F.ask.get i)
def writes (F:Fv):Fv×Int:=
 let r:=F.S.room
 if r.2≠0 then({F with S:=r.1}.told r.2,r.2)
 else
  let w:=r.1.pen F.L
  ({F with S:=w.1,L:=Z6 F.L (F.L.take w.2.1.toNat)}.told w.2.2,w.2.2)
def put (F:Fv) (e:En):Fv:={F with L:=a2l F.L {e with seq:=F.nx},nx:=F.nx+1}
def waits (F:Fv) (e:En):Fv×Int:=
 if F.ask.off then(F.ask,9)
 else if e.lpn<0\/e.lpn>=F.ask.lg then(F.ask,3)
 else if(F.ask.L.length:Int)>=F.ask.S.slots then
  let w:=F.ask.writes
  if w.2≠0 then w else(w.1.put e,0)
 else(F.ask.put e,0)
def write (F:Fv) (i:Int) (d:List UInt8):Fv×Int:=F.waits ⟨i,0,1,d⟩
def trim (F:Fv) (i:Int):Fv×Int:=F.waits ⟨i,0,2,zeros16⟩
def flushGo:Nat->Fv->Fv×Int
 | 0,F=>(F,0)
 | k+1,F=>
  if F.L.length=0 then(F,0)
  else
   let w:=F.writes
   if w.2≠0 then w else flushGo k w.1
def flush (F:Fv):Fv×Int:=if F.ask.off then(F.ask,9)else flushGo F.L.length F.ask
def tick (F:Fv):Fv×Int:=
 if F.ask.off then(F.ask,9)
 else
  let s:=F.ask.S.step 4
  ({F.ask with S:=s.1}.told s.2.2,s.2.2)
def whole (F:Fv):Fv×Bool:=
 if F.ask.off then(F.ask,false)
 else({F.ask with S:=F.ask.S.seen},F.ask.S.seen.leftN==0)
end Fv
namespace Dv
def holds (S:Dv) (l:List Int) (on:Bool):Dv:={S with t:=l.foldl (λt b=>t.hold b on) S.t}
end Dv
def M3 (N:Nand):Dv×Int:=
 let s:=V.scan N (lgN N.dies N.blocks N.pages)
 let S:Dv:=⟨N,Tl.of N,s.tb,-1,0,0,max s.next 1⟩
 let a:=(S.holds s.held true).torn (s.torn.take s.first)
 if a.2≠0 then a
 else
  let b:=(a.1.holds s.held false).clear
  if b.2≠0 then b
  else
   let c:=b.1.torn (s.torn.drop s.first)
   if c.2≠0 then c else c.1.room
def Fv.of (S:Dv):Fv:=⟨S,[],0,false⟩
end Go.Proofs.YtpakpgkdpofbhaaGreat
