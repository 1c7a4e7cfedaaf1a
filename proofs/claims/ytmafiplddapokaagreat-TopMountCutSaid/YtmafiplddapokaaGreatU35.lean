/- Helpers. No condition. -/
import Derived.Test.YtmafiplddapokaaGreatU34
import Derived.Below
import Derived.BigQuiet
import Derived.ChangeOld
import Derived.Deep.AppendLies
import Derived.Deep.DeepCutAuto
import Derived.Deep.DrawnRows
import Derived.Deep.Draws
import Derived.Deep.MidRow
import Derived.Deep.QuietTactic
import Derived.Deep.RegionHeld3
import Derived.Deep.RegionLaw
import Derived.Deep.Slices
import Derived.Deep.Strs
import Derived.Defers
import Derived.JoinedOf
import Derived.Laws.AppendOwn
import Derived.Laws.CopyOwn
import Derived.Laws.MakeOwn
import Derived.Laws.OwnMore
import Derived.Laws.ResultCell
import Derived.Laws.StructEq
import Derived.Lib.Hide
import Derived.Lib.SmallJoins
import Derived.Maps.AppendAt
import Derived.Maps.RangeRun
import Derived.OpenShut
import Derived.ProofKit
import Derived.Shelf.GgSortFunc.InsertionK
import Derived.Shelf.SlLaysF0
import Derived.Shelf.SlSortCmp.WholeK
import Derived.Shelf.Sort.Plain
import Derived.Sort.Grow
import Derived.StillTailTactics
import Derived.WalkKit
import Derived.WalkLawsBesides
import Derived.WalkSpells
import Derived.WideKeyEntry
set_option maxRecDepth 20000
set_option linter.all false
namespace Go.Proofs.YtmafiplddapokaaGreat
open Go
theorem Full.to2 {N:Nand} {b r m:Int} {l:List En} (h:Full (-1) N b r m l):Full (-2) N b r m l:=⟨h.is,λx hx _=>h.good x hx (by have:=(h.is.inn x hx).1;omega),h.inn⟩
theorem GI.cut {W:List (Int×En)} {S:Dv} {N':Nand} (h:GI (-2) W S) (like:S.N.Like N') (lit:N'.Lit) (dead:N'.dead=S.N.dead) (plan:∀a∈N'.plan,a∈S.N.plan) (flags:∀i j,(N'.blk i j).met=(S.N.blk i j).met/\(N'.blk i j).fails=(S.N.blk i j).fails)
  (blank:∀b,S.t.has b=true->(S.t.at_ b).used=false->∀d:Nat,(N'.blk d b.toNat).cells=(S.N.blk d b.toNat).cells)
  (pages:∀(d:Int) (b r:Nat) (c:NCell),N'.pageAt d b r=some c->a3W c\/∃c0,S.N.pageAt d b r=some c0/\(∀s,a1w s c0->a1w s c)/\(a3W c0->a3W c))
  (own:∀i a,Tb.look S.T.at_ i=some a->(∀d:Int,N'.pageAt d a.block a.row=S.N.pageAt d a.block a.row)\/∃l,FullW (-2) S.N a.block a.row a.mask l a.slot.toNat/\FullW (-2) N' a.block a.row a.mask l a.slot.toNat/\a.slot.toNat<l.length):
  GI (-2) W {S with N:=N',op:= -1}:=by
 have hdead:∀i:Nat,(i:Int)≠ -2->N'.dead.getD i false=false:=λi hi=>by rw[dead];exact h.inv.dead i hi
 have key:∀i a,Tb.look S.T.at_ i=some a->0<=a.slot/\∃l,FullW (-2) N' a.block a.row a.mask l a.slot.toNat/\a.slot.toNat<l.length/\(l.getD a.slot.toNat En.zero).lpn=i/\(l.getD a.slot.toNat En.zero).seq=a.seq/\(l.getD a.slot.toNat En.zero).role=a.role/\R.read N' a.block a.row a.slot a.mask=R.read S.N a.block a.row a.slot a.mask:=λi a ha=>by
  obtain⟨l,g1,g2,g3,g4,g5,g6⟩:=(h.inv.st i a ha).row;refine⟨g2,?_⟩;have hs:((a.slot.toNat:Nat):Int)=a.slot:=W3 g2;have r1:=g1.read h.inv.lit.off h.inv.dead g3;rcases own i a ha with e | ⟨l',f1,f2,f3⟩
  ·have k1:=g1.keep like λx _=>e x.1;have r2:=k1.read lit.off hdead g3;rw[hs]at r1 r2;exact⟨l,k1,g3,g4,g5,g6,by rw[r1,r2]⟩
  ·have r2:=f1.read h.inv.lit.off h.inv.dead f3;have r3:=f2.read lit.off hdead f3;rw[hs]at r1 r2 r3;have e:l'.getD a.slot.toNat En.zero=l.getD a.slot.toNat En.zero:=by rw[r1]at r2;injection r2 with r2 _;exact r2.symm
   exact⟨l',f2,f3,by rw[e];exact g4,by rw[e];exact g5,by rw[e];exact g6,by rw[r3,r2]⟩
 refine⟨⟨lit,hdead,λa ha=>h.inv.plan a (plan a ha),λi j hi=>?_,h.inv.tdead,h.inv.tbad, .inl rfl,λb hb hu d hd=>?_,λi a ha=>?_⟩,⟨h.hd.keys,λi e he=>?_⟩,h.wok,λi a ha=>?_,λb r hb hr=>?_⟩
 ·show(N'.blk i j).met=false/\(N'.blk i j).fails=false;rw[(flags i j).1,(flags i j).2];exact h.inv.flags i j hi
 ·show(N'.blk d b.toNat).cells=[];rw[blank b hb hu d];exact h.inv.blank b hb hu d hd
 ·obtain⟨k1,l,f1,f2,f3,f4,f5,_⟩:=key i a ha;have hs:=h.inv.st i a ha;exact⟨⟨l,f1,k1,f2,f3,f4,f5⟩,hs.used,λe=>by have:=f1.is.blk;have e:a.block= -1:=e;omega,hs.seq⟩
 ·obtain⟨h1,a,h2,h3⟩:=h.hd.each i e he;obtain⟨_,_,_,_,_,_,_,f6⟩:=key i a h2;refine⟨h1,a,h2,?_⟩;show R.read N' a.block a.row a.slot a.mask=_;rw[f6];exact h3
 ·show Msk N'.dies (-2) a.mask;rw[like.dies];exact h.msk i a ha
 ·have hb:b<N'.blocks:=hb;have hr:r<N'.pages:=hr;rw[like.blocks]at hb;rw[like.pages]at hr;exact(h.dsc b r hb hr).less like λd c hc=>pages d b r c hc
def a4p (q:List (Int×Sh)) (c:Nat) (kp:Int):Nat:=match q[c]? with
 | some x=>if S.getE (Nand.fillP kp.toNat (O9 x.2))=0 then c+1 else c
 | none=>c
theorem a7o {q:List (Int×Sh)} {c:Nat} {kp:Int} {x:Int×Sh} (h:q[c]? =some x):a4p q c kp=if S.getE (Nand.fillP kp.toNat (O9 x.2))=0 then c+1 else c:=by unfold a4p;rw[h]
theorem b1m (q:List (Int×Sh)) (c:Nat) (kp:Int):c<=a4p q c kp:=by
 unfold a4p;split
 ·split<;>omega
 ·exact i7 _
theorem num_take_lt {l:List En} {next:Int} {p k:Nat} (hp:p<=l.length) (hk:k<p):Dv.numAt (l.take p) next k=Dv.numAt l next k:=by
 unfold Dv.numAt;rw[d8 (by rw[j9];omega),d8 (by omega)];have:(l.take p).getD k En.zero=l.getD k En.zero:=by
  rw[d7,d7,C2,d8 hk]
 rw[this]
theorem b6U {l:List En} {next:Int} {n p:Nat} (hp:p=min l.length n):Dv.num (l.take p) next n=Dv.num l next n:=by
 unfold Dv.num;refine W1 λk hk=>?_;have hk:=List.mem_range.1 hk
 by_cases h:k<p
 ·exact num_take_lt (by omega) h
 ·unfold Dv.numAt;rw[d6 (by rw[j9];omega),d6 (by omega)]
structure TornW (Q V:Dv) (N':Nand) (l:List En):Prop where
 pages:∀(d:Int) (b r:Nat) (c:NCell),N'.pageAt d b r=some c->a3W c\/∃c0,V.N.pageAt d b r=some c0/\(∀s,a1w s c0->a1w s c)/\(a3W c0->a3W c)
 other:∀d b r:Int,0<=b->0<=r->(b=Q.op->r≠Q.row)->N'.pageAt d b r=V.N.pageAt d b r
 own:∀j,j<l.length->FullW (-2) N' Q.op Q.row Q.mask (Q.es l) j
 after:∀d:Nat,d<Q.N.dies->∀r,Q.row<r->N'.pageAt d Q.op r=none
 par:Full (-1) N' Q.op Q.row Q.mask (Q.es l)\/(M.look N'.onN (G.parity Q.mask Q.op Q.row) Q.op Q.row).2≠1
theorem b6b {Q:Dv} {l:List En} {N':Nand} {k m c p:Nat} {kp:Int} (hI:Inv (-2) Q) (hO:Q.Ok k m) (hno:NoF Q) (hl:Q.left=true) (hf:∀e∈l,FitR e) (hn:¬Q.next>1099511627775-(Q.fit l:Int)+1) (hkp:kp<=32) (hc:c<Q.N.dies) (t:TornR Q.N N' Q.op Q.row (R.job Q.op Q.row Q.mask (Q.es l)) c kp) (hp:p=min (Q.fit l) (a4p (R.job Q.op Q.row Q.mask (Q.es l)) c kp)):TornW Q (M6 Q (l.take p)) N' (l.take p):=by
 have hg:=hO.gd.ok.bd16;have ho:=hI.opn hl;obtain⟨m1,m2⟩:=a4d ho.mask.calm2 hg.1;have hR:=hI.rowIs hO hl hf hn;have hf':∀e∈l.take p,FitR e:=λe he=>hf e (I8 he);have hfit:Q.fit l=min l.length (G.slots Q.mask).toNat:=rfl;have hpl:p<=l.length/\p<=Q.fit l:=by omega
 have hlen:(l.take p).length=p:=by rw[j9];omega
 have hfit':Q.fit (l.take p)=p:=by unfold Dv.fit;rw[hlen];omega
 have hn':¬Q.next>1099511627775-(Q.fit (l.take p):Int)+1:=by rw[hfit'];omega
 have hR':=hI.rowIs hO hl hf' hn';have hrdy:RdyW Q.N Q.op Q.row Q.mask:=⟨hI.lit,λd hd ha=>(ho.cells d hd).2 ha⟩;have hq:=hrdy.rdy hR;have hq':=hrdy.rdy hR';have w3:WroteR Q.N (M6 Q (l.take p)).N Q.op Q.row (R.job Q.op Q.row Q.mask (Q.es (l.take p))):=(a3X hrdy hR').2.2;obtain⟨V,hV⟩:∃V,M6 Q (l.take p)=V:=⟨_,rfl⟩;rw[hV]at w3 ⊢;obtain⟨n,hnn⟩:∃n,(G.slots Q.mask).toNat=n:=⟨_,rfl⟩;have hel:(Q.es l).length=n:=by rw[Dv.es_len,hnn]
 have hel':(Q.es (l.take p)).length=n:=by rw[Dv.es_len,hnn]
 have hnD:n+1=Q.N.dies:=by omega
 have hdd:∀d:Nat,Q.N.dead.getD d false=false:=hno.dead;have hrow:=hR.row;have hjl:(R.job Q.op Q.row Q.mask (Q.es l)).length=n+1:=by rw[a4f,hel]
 have hjl':(R.job Q.op Q.row Q.mask (Q.es (l.take p))).length=n+1:=by rw[a4f,hel']
 have hat:∀k,k<=n->∃x x',(R.job Q.op Q.row Q.mask (Q.es l))[k]? =some x/\(R.job Q.op Q.row Q.mask (Q.es (l.take p)))[k]? =some x'/\x'.1=x.1:=λk hk=>by
  rcases O7 k n with h | h
  ·exact⟨_,_,a2Y _ _ _ _ k (by omega),a2Y _ _ _ _ k (by omega),rfl⟩
  ·obtain rfl:k=n:=by omega
   have a1:=X0 Q.op Q.row Q.mask (Q.es l);have a2:=X0 Q.op Q.row Q.mask (Q.es (l.take p));rw[hel]at a1;rw[hel']at a2;exact⟨_,_,a1,a2,rfl⟩
 have hfull:p=Q.fit l->Q.es (l.take p)=Q.es l:=λe=>by
  unfold Dv.es;exact b6U (by omega)
 have hsame:∀(k:Nat) (x x':Int×Sh),(R.job Q.op Q.row Q.mask (Q.es l))[k]? =some x->(R.job Q.op Q.row Q.mask (Q.es (l.take p)))[k]? =some x'->k<p\/p=Q.fit l->x'=x:=λk x x' h1 h2 hk=>by
  by_cases e:p=Q.fit l
  ·rw[hfull e,h1]at h2;injection h2 with h2;exact h2.symm
  ·have hk:k<p:=by omega
   rw[a2Y _ _ _ _ k (by omega)]at h1 h2;have e2:(Q.es (l.take p)).getD k En.zero=(Q.es l).getD k En.zero:=by
    unfold Dv.es;rw[a7c (by omega),a7c (by omega),num_take_lt (by omega) hk]
   rw[e2]at h2;injection h1 with h1;injection h2 with h2;rw[<- h1,<- h2]
 have hcell:∀(k:Nat) (x:Int×Sh),(R.job Q.op Q.row Q.mask (Q.es l))[k]? =some x->N'.pageAt x.1 Q.op Q.row=(if k<c then some ⟨O9 x.2,false,false⟩else if k=c then some ⟨Nand.fillP kp.toNat (O9 x.2),false,true⟩else none)/\∀r,Q.row<r->N'.pageAt x.1 Q.op r=none:=λk x hk=>by
  have hcl:=hq.cells x (j8 hk) (hdd _);refine⟨?_,λr hr=>?_⟩
  ·unfold Nand.pageAt;rw[t.cells k x hk,B2 (by omega),show Q.row.toNat-(Q.N.blk x.1.toNat Q.op.toNat).cells.length=0 from by omega];split
   ·rfl
   split<;>rfl
  ·unfold Nand.pageAt;rw[t.cells k x hk,j5];rw[f8];have:(if k<c then[(⟨O9 x.2,false,false⟩:NCell)]else if k=c then[⟨Nand.fillP kp.toNat (O9 x.2),false,true⟩]else[]).length<=1:=by
    split
    ·exact i7 _
    split
    ·exact i7 _
    ·exact j7 _
   omega
 have hcellV:∀(k:Nat) (x':Int×Sh),(R.job Q.op Q.row Q.mask (Q.es (l.take p)))[k]? =some x'->V.N.pageAt x'.1 Q.op Q.row=some ⟨O9 x'.2,false,false⟩:=λk x' hk=>by
  have hx:=j8 hk;have hcl:=hq'.cells x' hx (hdd _);have hfl:Q.N.fails x'.1 Q.op Q.row=false:=by
   have:=hno.fails Q.op Q.row x'.1.toNat
   rw[show((x'.1.toNat:Nat):Int)=x'.1 from by have:=(hR'.inn x' hx).1;omega]at this;unfold Nand.failB at this;rw[E5]at this;exact this.2
  have hc:=w3.cells x' hx;rw[hdd,d6 (by decide),hfl]at hc;unfold Nand.pageAt;rw[hc,B2 (by omega),show Q.row.toNat-(Q.N.blk x'.1.toNat Q.op.toNat).cells.length=0 from by omega];rfl
 have hother:∀d b r:Int,0<=b->0<=r->(b=Q.op->r≠Q.row)->N'.pageAt d b r=V.N.pageAt d b r:=λd b r hb hr hne=>by
  rw[t.page hq (λx _=>hdd _) hb hr hne,a0r,a0r V.N];exact(w3.page hq' (K9 _) hb hr hne).symm
 have hpage:∀(d:Int) (c':NCell),N'.pageAt d Q.op Q.row=some c'->a3W c'\/∃c0,V.N.pageAt d Q.op Q.row=some c0/\(∀s,a1w s c0->a1w s c')/\(a3W c0->a3W c'):=λd c' hc'=>by
  by_cases hd:d.toNat<Q.N.dies
  ·obtain⟨x0,hx,hxd⟩:=hR.on (d:=d.toNat) (by rw[m1,L.all_has _ (by omega),i6 (by omega),i6 (by omega)];rfl);obtain⟨k,hk⟩:=a0b hx;have hkn:k<=n:=by
    have:=(List.getElem?_eq_some_iff.1 hk).1;omega
   obtain⟨x,x',e1,e2,e3⟩:=hat k hkn;rw[hk]at e1;injection e1 with e1;subst e1;have hv:=hcellV k x' e2;rw[e3]at hv;rw[a0r,<- hxd,(hcell k x0 hk).1]at hc';rw[a0r,<- hxd];have htp:=b1m (R.job Q.op Q.row Q.mask (Q.es l)) c kp
   by_cases hkc:k<c
   ·rw[d8 hkc]at hc';injection hc' with hc';have:=hsame k x0 x' hk e2 (by omega);rw[this]at hv;rw[<- hc'];exact .inr ⟨_,hv,λ_ h=>h,λh=>h⟩
   ·rw[d6 hkc]at hc'
    by_cases hkc2:k=c
    ·subst hkc2;rw[d8 rfl]at hc';injection hc' with hc';rw[<- hc'];have htk:=a7o (kp:=kp) hk
     by_cases hE:S.getE (Nand.fillP kp.toNat (O9 x0.2))=0
     ·rw[d8 hE]at htk;have:=hsame k x0 x' hk e2 (by omega);rw[this]at hv;refine .inr ⟨_,hv,λs hs=>?_,λhb=>?_⟩
      ·rcases hs with hs | hs | ⟨hs,_⟩
       ·rcases hs with hs | ⟨hs,_⟩<;>cases hs
       ·have hs:O9 x0.2=O9 s:=hs;exact .inr (.inr ⟨rfl, .inr ⟨kp.toNat,by omega,by rw[<- hs]⟩⟩)
       ·cases hs
      ·rcases hb with hb | ⟨hb,_⟩<;>cases hb
     ·exact .inl (.inr ⟨rfl,hE⟩)
    ·rw[d6 hkc2]at hc';cases hc'
  ·refine .inr ⟨c',?_,λ_ h=>h,λh=>h⟩;rw[<- hc'];unfold Nand.pageAt;rw[t.rest d.toNat Q.op.toNat (.inr λx hx=>by have:=hR.inn x hx;omega),w3.rest d.toNat Q.op.toNat (.inr λx hx=>by have:=hR'.inn x hx;omega)]
 have hin:RowIn N' Q.op Q.row Q.mask (Q.es (l.take p)):=λx' hx' c' hc'=>by
  rcases hpage _ c' hc' with e | ⟨c0,e1,e2,_⟩
  ·exact .inl e
  ·obtain⟨k,hk⟩:=a0b hx';rw[hcellV k x' hk]at e1;injection e1 with e1;exact e2 _ (by rw[<- e1];exact .inr (.inl rfl))
 have htp:=b1m (R.job Q.op Q.row Q.mask (Q.es l)) c kp;have hgood:∀(k:Nat) (x:Int×Sh),(R.job Q.op Q.row Q.mask (Q.es l))[k]? =some x->k<a4p (R.job Q.op Q.row Q.mask (Q.es l)) c kp->a6M N' x Q.op Q.row:=λk x hk hlt=>by
  have h1:=(hcell k x hk).1
  by_cases hkc:k<c
  ·rw[d8 hkc]at h1;exact⟨_,h1,rfl,a5Z (hR.sh x (j8 hk)).1⟩
  ·have e:k=c:=by
    have:a4p (R.job Q.op Q.row Q.mask (Q.es l)) c kp<=c+1:=by
     unfold a4p;split
     ·split<;>omega
     ·omega
    omega
   subst e;rw[d6 hkc,d8 rfl]at h1;have htk:=a7o (kp:=kp) hk
   by_cases hE:S.getE (Nand.fillP kp.toNat (O9 x.2))=0
   ·exact⟨_,h1,rfl,hE⟩
   ·rw[d6 hE]at htk;omega
 refine⟨λd b r c' hc'=>?_,hother,λj hj=>⟨hR'.like t.like, .inr ⟨rfl,?_,λi hi hij=>?_⟩,hin⟩,λd hd r hr=>?_,?_⟩
 ·by_cases e:(b:Int)=Q.op/\(r:Int)=Q.row
  ·rw[e.1,e.2]at hc' ⊢;exact hpage d c' hc'
  ·refine .inr ⟨c',?_,λ_ h=>h,λh=>h⟩;rw[<- hc'];exact(hother d b r (K9 _) (K9 _) λe1 e2=>e ⟨e1,e2⟩).symm
 ·rw[hlen]at hj;obtain⟨x,x',e1,e2,e3⟩:=hat j (by omega);obtain⟨c0,y1,y2,y3⟩:=hgood j x e1 (by omega);exact⟨x',e2,c0,by rw[e3];exact y1,y2,y3⟩
 ·rw[hlen]at hj;have hnx:=hO.next;have hget:∀i,i<n->(Q.es (l.take p)).getD i En.zero=Dv.numAt (l.take p) Q.next i:=λi hi=>by
   unfold Dv.es;exact a7c (by omega)
  rw[hget i (by omega),hget j (by omega)]at hij;unfold Dv.numAt at hij;rw[d8 (by omega:j<(l.take p).length)]at hij
  by_cases hil:i<(l.take p).length
  ·rw[d8 hil]at hij;have hij:Q.next+(i:Int)=Q.next+(j:Int):=hij;omega
  ·rw[d6 hil]at hij;have hij:(0:Int)=Q.next+(j:Int):=hij;omega
 ·obtain⟨x,hx,hxd⟩:=hR.on (d:=d) (by rw[m1,L.all_has _ (by omega),i6 (by omega),i6 (by omega)];rfl);obtain⟨k,hk⟩:=a0b hx;rw[<- hxd];exact(hcell k x hk).2 r hr
 ·obtain⟨x,x',e1,e2,e3⟩:=hat n (i7 _);have hpx:x'.1=G.parity Q.mask Q.op Q.row:=by
   have a2:=X0 Q.op Q.row Q.mask (Q.es (l.take p));rw[hel',e2]at a2;injection a2 with a2;rw[a2]
  have h1:=(hcell n x e1).1;rw[<- e3,hpx]at h1
  by_cases hcn:n=c
  ·have htk:=a7o (kp:=kp) (c:=c) (by rw[<- hcn];exact e1);rw[d6 (by omega),d8 hcn]at h1
   by_cases hE:S.getE (Nand.fillP kp.toNat (O9 x.2))=0
   ·rw[d8 hE]at htk;refine .inl ⟨hR'.like t.like,λy hy _=>?_,hin⟩;obtain⟨k,hk⟩:=a0b hy;have hkn:k<=n:=by
     have:=(List.getElem?_eq_some_iff.1 hk).1;omega
    obtain⟨z,z',f1,f2,f3⟩:=hat k hkn;rw[hk]at f2;injection f2 with f2;obtain⟨c0,y1,y2,y3⟩:=hgood k z f1 (by omega);exact⟨c0,by rw[f2,f3];exact y1,y2,y3⟩
   ·exact .inr (b1L (N:=N'.onN) h1 (.inr ⟨rfl,hE⟩))
  ·rw[d6 (by omega),d6 (by omega)]at h1;exact .inr (a1N (N:=N'.onN) h1)
theorem b9x {N N':Nand} {d b r:Int} (hl:N.Like N') (ho:N'.off=N.off) (hd:N'.dead=N.dead) (hp:N'.pageAt d b r=N.pageAt d b r):M.look N' d b r=M.look N d b r:=by
 have hr:N'.refuses d b r=N.refuses d b r:=by
  unfold Nand.refuses;rw[ho,hl.dies,hl.blocks,hl.pages,hd]
 have h1:N'.readE d b r=N.readE d b r:=by unfold Nand.readE;rw[hr,hp]
 have h2:N'.readV d b r=N.readV d b r:=by unfold Nand.readV;rw[hr,hp]
 unfold M.look;simp only[h1,h2]
structure TornAt (N:Nand) (a:AtV):Prop where
 after:∀d:Nat,d<N.dies->∀r:Int,a.row<r->N.pageAt d a.block r=none
 par:(M.look N (G.parity a.mask a.block a.row) a.block a.row).2≠1
theorem TornAt.keep {N N':Nand} {a:AtV} (h:TornAt N a) (hl:N.Like N') (ho:N'.off=N.off) (hd:N'.dead=N.dead) (hr:0<=a.row) (hp:∀d r:Int,0<=r->N'.pageAt d a.block r=N.pageAt d a.block r):TornAt N' a:=
 ⟨λd hdd r hrr=>by rw[hp d r (by omega)];exact h.after d (by rw[<- hl.dies];exact hdd) r hrr,by rw[b9x hl ho hd (hp _ _ hr)];exact h.par⟩
structure Trn (X:List Int) (S:Dv):Prop where
 each:∀i a,Tb.look S.T.at_ i=some a->(∃l,Full (-1) S.N a.block a.row a.mask l)\/(i∈X/\a.block≠S.op/\TornAt S.N a)
theorem Trn.mono {X X':List Int} {S:Dv} (h:Trn X S) (hX:∀i∈X,i∈X'):Trn X' S:=⟨λi a ha=>(h.each i a ha).imp id λ⟨h1,h2⟩=>⟨hX i h1,h2⟩⟩
namespace Trn
variable {X X' : List Int} {W : List (Int × En)} {lg k m : Nat} {S Q : Dv} {l : List En}
theorem at1 (h:Trn X S) (hI:Inv (-2) S) (h0:¬(S.left=false/\S.pick<0)):Trn X S.at1:=by
 have hat:=Dv.at1_like S;refine⟨λi a ha=>?_⟩;rw[hat.2.1]at ha;rw[hat.1];refine(h.each i a ha).imp id λ⟨h1,h2,h3⟩=>⟨h1,?_,h3⟩;unfold Dv.at1;cases hl:S.left with
 | true=>rw[d8 rfl];exact h2
 | false=>
  rw[d6 (by decide)];have hb:=Dv.pick_blank (S:=S) λe=>h0 ⟨hl,e⟩;intro e;have e:a.block=S.pick:=e;have hu:=(hI.st i a ha).used;unfold Tl.blank at hb;rw[f7,i4]at hb;rw[e,hb.2]at hu;cases hu
theorem wrote (h:Trn X Q) (hI:Inv (-2) Q) (hno:NoF Q) (hO:Q.Ok k m) (hL:Last (-2) Q l) (hf:∀e∈l,FitR e) (hlg:∀e∈l,e.lpn<Q.T.logical) (hnd:(l.map (·.lpn)).Nodup) (hX:∀i∈X,i∈X'\/∃j,j<Q.fit l/\(l.getD j En.zero).lpn=i):Trn X' (M6 Q l):=by
 obtain⟨l1,l2⟩:=hL.look hI hO hf hlg hnd;have hR:=hI.rowIs hO hL.left hf hL.bd;have hfull:=a7l hI hL.left hR λd _=>hno.fails _ _ _;have ho:=hI.opn hL.left;have hrdy:RdyW Q.N Q.op Q.row Q.mask:=⟨hI.lit,λd hd ha=>(ho.cells d hd).2 ha⟩;have hq:=hrdy.rdy hR;have w:WroteR Q.N (M6 Q l).N Q.op Q.row (R.job Q.op Q.row Q.mask (Q.es l)):=(a3X hrdy hR).2.2;refine⟨λi a ha=>?_⟩
 by_cases hex:∃j,j<Q.fit l/\(l.getD j En.zero).lpn=i
 ·obtain⟨j,hj,rfl⟩:=hex;rw[l1 j hj]at ha;injection ha with ha;rw[<- ha];exact .inl ⟨_,hfull⟩
 ·rw[l2 i λj hj e=>hex ⟨j,hj,e⟩]at ha;have hst:=hI.st i a ha;rcases h.each i a ha with⟨l',g1⟩ | ⟨g1,g2,g3⟩
  ·exact .inl ⟨l',g1.keep w.like λx hx=>w.page hq (g1.is.inn x hx).1 g1.is.blk.1 g1.is.row.1 λe=>by have:=hst.below e;omega⟩
  ·obtain⟨l',f1,_⟩:=hst.row;refine .inr ⟨(hX i g1).resolve_right hex,g2,g3.keep w.like (w.lit.off.trans hI.lit.off.symm) w.dead f1.is.row.1 λd r hr=>?_⟩;rw[a0r,a0r Q.N];exact w.page hq (K9 _) f1.is.blk.1 hr λe=>absurd e g2
end Trn
structure Lf (N0:Nand) (W:List (Int×En)) (lg:Nat) (X:List Int) (β k m:Nat) (nx:Int) (N':Nand):Prop where
 off:N'.off=true
 like:N0.Like N'
 dead:N'.dead=N0.dead
 broken:N'.broken=N0.broken
 ex:∃V:Dv,V.N=N'.onN/\Cm W lg V/\Trn X V/\V.Ok k m/\V.op= -1/\β<=V.N.pages*V.t.blanks+V.N.pages/\V.next<=nx
theorem Lf.mono {N0 N1:Nand} {W:List (Int×En)} {lg β β' k k' m:Nat} {X X':List Int} {nx nx':Int} {N':Nand} (h:Lf N0 W lg X β k m nx N') (hN:N1.Like N0/\N0.dead=N1.dead/\N0.broken=N1.broken) (hX:∀i∈X,i∈X') (hβ:β'<=β) (hk:k'<=k) (hnx:nx<=nx'):Lf N1 W lg X' β' k' m nx' N':=by
 obtain⟨V,v1,v2,v3,v4,v5,v6,v7⟩:=h.ex;exact⟨h.off,hN.1.trans h.like,h.dead.trans hN.2.1,h.broken.trans hN.2.2,V,v1,v2,v3.mono hX,v4.less hk,v5,I7 hβ v6,Int.le_trans v7 hnx⟩
theorem b2F (N:Nand) (x y z:Int) (pg:List UInt8) (i j:Nat):((N.progN x y z pg).blk i j).met=(N.blk i j).met/\((N.progN x y z pg).blk i j).fails=(N.blk i j).fails:=by
 have key:∀(M:Nand) (c:NCell),M.blk=N.blk->((M.push x.toNat y.toNat c).blk i j).met=(N.blk i j).met/\((M.push x.toNat y.toNat c).blk i j).fails=(N.blk i j).fails:=λM c hM=>by
  have:(M.push x.toNat y.toNat c).blk i j=if i=x.toNat/\j=y.toNat then {M.blk x.toNat y.toNat with cells:=(M.blk x.toNat y.toNat).cells++[c]}else M.blk i j:=rfl
  rw[this,hM];split
  ·rename_i e;rw[e.1,e.2];exact⟨rfl,rfl⟩
  ·exact⟨rfl,rfl⟩
 unfold Nand.progN;split
 ·exact⟨rfl,rfl⟩
 split
 ·exact⟨rfl,rfl⟩
 split
 ·exact key _ _ rfl
 ·exact key _ _ rfl
theorem a8j (b r:Int) (i j:Nat):∀(q:List (Int×Sh)) (N:Nand) (f:Int),((R.go b r q N f).1.blk i j).met=(N.blk i j).met/\((R.go b r q N f).1.blk i j).fails=(N.blk i j).fails
 | [],_,_=>⟨rfl,rfl⟩
 | (d,s)::q,N,f=>by
  have h1:=b2F N d b r (O9 s) i j;rw[R.go];split
  ·have h2:=a8j b r i j q (N.progN d b r (O9 s)) f;exact⟨h2.1.trans h1.1,h2.2.trans h1.2⟩
  split
  ·exact h1
  ·have h2:=a8j b r i j q (N.progN d b r (O9 s)) (L.with_ f d);exact⟨h2.1.trans h1.1,h2.2.trans h1.2⟩
theorem a8Z (W:List (Int×En)) (l:List En) (p:Nat):∀n,n<=p->a0J W (l.take p) n=a0J W l n
 | 0,_=>rfl
 | n+1,h=>by
  have:(l.take p).getD n En.zero=l.getD n En.zero:=by
   rw[d7,d7,C2,d8 (by omega)]
  rw[a0U,a0U,a8Z W l p n (by omega),this]
theorem b4t {W:List (Int×En)} {lg k k' m c p:Nat} {kp:Int} {X X':List Int} {Q:Dv} {l:List En} {N':Nand} (hG1:GI (-2) W Q) (hN1:NoF Q) (hT1:Trn X Q) (hlog1:Q.T.logical=(lg:Int)) (p3:Q.Ok k m) (hl:Q.left=true) (hE:Ent lg l) (hbd:¬Q.next>1099511627775-(Q.fit l:Int)+1) (hkp:kp<=32) (hc:c<Q.N.dies) (t:TornR Q.N N' Q.op Q.row (R.job Q.op Q.row Q.mask (Q.es l)) c kp) (hfl:∀i j,(N'.blk i j).met=(Q.N.blk i j).met/\(N'.blk i j).fails=(Q.N.blk i j).fails) (hgd:N'.Gd k' m) (hp:p=min (Q.fit l) (a4p (R.job Q.op Q.row Q.mask (Q.es l)) c kp)) (hX1:∀i∈X,i∈X') (hX2:∀j,j<p->(l.getD j En.zero).lpn∈X'):
  Lf Q.N (a0J W l p) lg X' Q.rows k' m (Q.next+7) N':=by
 have hg:=p3.gd.ok.bd16;have hf:∀e∈l,FitR e:=λe he=>(hE.1 e he).1;have hQI:=hG1.inv;have ho:=hQI.opn hl;obtain⟨m1,m2⟩:=a4d ho.mask.calm2 hg.1;have hR:=hQI.rowIs p3 hl hf hbd;have hrdy:RdyW Q.N Q.op Q.row Q.mask:=⟨hQI.lit,λd hd ha=>(ho.cells d hd).2 ha⟩;have hq:=hrdy.rdy hR;have hdd0:∀d:Nat,Q.N.dead.getD d false=false:=hN1.dead;have hfit:Q.fit l=min l.length (G.slots Q.mask).toNat:=rfl;have hpl:p<=l.length/\p<=Q.fit l/\p<=Q.N.dies-1:=by omega
 have hlen:(l.take p).length=p:=by rw[j9];omega
 have hfit':Q.fit (l.take p)=p:=by unfold Dv.fit;rw[hlen];omega
 have tw:=b6b hQI p3 hN1 hl hf hbd hkp hc t hp;have hf':∀e∈l.take p,FitR e:=λe he=>hf e (I8 he);have hbd':¬Q.next>1099511627775-(Q.fit (l.take p):Int)+1:=by rw[hfit'];omega
 have hR':=hQI.rowIs p3 hl hf' hbd';have ht:=hQI.turn p3 hl hf' hbd';have herr':(Q.wr (l.take p)).2.1=0:=L.ext ht.set (by decide) λd hd=>by
  rw[L.has_zero];cases hh:L.has (Q.wr (l.take p)).2.1 (d:Nat)with
  | false=>rfl
  | true=>
   obtain⟨x1,x2⟩:=ht.only _ hh;omega
 have hL:Last (-2) Q (l.take p):=⟨hl,herr',hbd',ht⟩;have hnd':((l.take p).map (·.lpn)).Nodup:=hE.2.sublist ((List.take_sublist _ _).map _);have hlgQ:∀e∈l.take p,e.lpn<Q.T.logical:=λe he=>by rw[hlog1];exact(hE.1 e (I8 he)).2
 have hG2:=hG1.wrote p3 hL hf' hnd' hlgQ;obtain⟨l1,l2⟩:=hL.look hQI p3 hf' hlgQ hnd';have hF2:=a7l hQI hl hR' λd _=>hN1.fails _ _ _;rw[hfit']at hG2 l1 l2;rw[a8Z W l p p (i7 _)]at hG2;have hlkQ:Q.N.Like (M6 Q (l.take p)).N:=ht.like;have hlk:Q.N.Like N':=t.like;have hlkO:Q.N.Like N'.onN:=⟨hlk.dies,hlk.blocks,hlk.pages⟩;have hlk2:(M6 Q (l.take p)).N.Like N'.onN:=⟨hlk.dies.trans hlkQ.dies.symm,hlk.blocks.trans hlkQ.blocks.symm,hlk.pages.trans hlkQ.pages.symm⟩;have hout:∀d b r:Int,0<=b->0<=r->(b=Q.op->r≠Q.row)->N'.onN.pageAt d b r=Q.N.pageAt d b r:=λd b r hb hr hne=>t.page hq (λx _=>hdd0 _) hb hr hne;have hel':(Q.es (l.take p)).length=(G.slots Q.mask).toNat:=Dv.es_len _ _;have hcut:GI (-2) (a0J W l p) {M6 Q (l.take p)with N:=N'.onN,op:= -1}:=by
  refine hG2.cut hlk2 ⟨rfl,rfl⟩ (t.dead.trans ht.dead.symm) (λa ha=>?_) (λi j=>?_) (λb hb hu d=>?_) (λd b r c' hc'=>tw.pages d b r c' hc') (λi a ha=>?_)
  ·have:=t.plan a ha;rw[hN1.plan]at this;cases this
  ·have h1:=hfl i j;have h2:=ht.flags i j;exact⟨h1.1.trans h2.1.symm,h1.2.trans h2.2.1.symm⟩
  ·have hb:Q.t.has b=true:=hb;have hu:(Q.t.at_ b).used=false:=hu;have hb0:=Tl.has_iff.1 hb;have hne:b.toNat≠Q.op.toNat:=λe=>by
    have hbk:=ho.blk;have:b=Q.op:=by omega
    rw[this,ho.used]at hu;cases hu
   show(N'.blk d b.toNat).cells=((Q.wrote (l.take p)).N.blk d b.toNat).cells;rw[t.rest d b.toNat (.inl hne),ht.rest d b.toNat hne]
  ·by_cases hex:∃j,j<p/\((l.take p).getD j En.zero).lpn=i
   ·obtain⟨j,hj,rfl⟩:=hex;rw[l1 j hj]at ha;injection ha with ha;rw[<- ha];refine .inr ⟨Q.es (l.take p),?_,?_,?_⟩
    ·exact hF2.to2.w _
    ·exact(tw.own j (by omega)).keep (N':=N'.onN) ⟨rfl,rfl,rfl⟩ λ_ _=>rfl
    ·show((j:Nat):Int).toNat<_;rw[j4];omega
   ·rw[l2 i λj hj e=>hex ⟨j,hj,e⟩]at ha;left;intro d;obtain⟨l0,f1,_⟩:=(hQI.st i a ha).row;exact tw.other d _ _ f1.is.blk.1 f1.is.row.1 λe=>by have:=(hQI.st i a ha).below e;omega
 have hbl:Q.rows<=Q.N.pages*Q.t.blanks+Q.N.pages:=by
  unfold Dv.rows;have hrow:=ho.row;split<;>omega
 have hput:=Dv.puts_ok p3.T p3.sl Q.op Q.row Q.mask (Q.es (l.take p)) (Q.fit (l.take p)) (by omega);have hrp:=(Dv.left_spec hl).2.1;have hnx3:=p3.next;have hrow3:=p3.row;refine⟨t.off,t.like,t.dead,t.broken,{M6 Q (l.take p)with N:=N'.onN,op:= -1},rfl,⟨hcut,⟨λi=>?_,?_,λi j=>?_,λi j=>?_⟩,?_⟩,⟨λi a ha=>?_⟩,⟨Nand.Gd.on hgd,?_,hput.1,hput.2.1,?_,?_⟩,rfl,?_,?_⟩
 ·show N'.dead.getD i false=false;rw[t.dead];exact hN1.dead i
 ·exact List.eq_nil_iff_forall_not_mem.2 λa ha=>(by have:=t.plan a ha;rw[hN1.plan]at this;cases this)
 ·exact(hfl i j).1.trans (hN1.met i j)
 ·exact(hfl i j).2.trans (hN1.fl i j)
 ·show(Dv.puts Q.T Q.op Q.row Q.mask (Q.es (l.take p)) (Q.fit (l.take p))).logical=_;rw[hput.2.2];exact hlog1
 ·have ha:Tb.look (M6 Q (l.take p)).T.at_ i=some a:=ha
  by_cases hex:∃j,j<p/\((l.take p).getD j En.zero).lpn=i
  ·obtain⟨j,hj,rfl⟩:=hex;rw[l1 j hj]at ha;injection ha with ha;have hjl:(l.take p).getD j En.zero=l.getD j En.zero:=by
    rw[d7,d7,C2,d8 hj]
   rw[<- ha];rcases tw.par with hF | hP
   ·exact .inl ⟨_,hF.keep (N':=N'.onN) ⟨rfl,rfl,rfl⟩ λ_ _=>rfl⟩
   ·refine .inr ⟨by rw[hjl];exact hX2 j hj,λe=>by have:=ho.blk;have e:Q.op= -1:=e;omega,λd hd r hr=>?_,hP⟩;exact tw.after d (by rw[<- hlk.dies];exact hd) r hr
  ·rw[l2 i λj hj e=>hex ⟨j,hj,e⟩]at ha;have hst:=hQI.st i a ha;obtain⟨l0,f1,_⟩:=hst.row;have hb0:=f1.is.blk;rcases hT1.each i a ha with⟨l',g1⟩ | ⟨g1,g2,g3⟩
   ·exact .inl ⟨l',g1.keep hlkO λx _=>hout _ _ _ f1.is.blk.1 f1.is.row.1 λe=>by have:=hst.below e;omega⟩
   ·refine .inr ⟨hX1 i g1,λe=>by have e:a.block= -1:=e;omega,g3.keep hlkO hQI.lit.off.symm t.dead f1.is.row.1 λd r hr=>hout d _ r f1.is.blk.1 hr λe=>absurd e g2⟩
 ·exact p3.t.like hlkO
 ·show 0<=Q.row+1/\Q.row+1<=8;omega
 ·show 1<=Q.next+(Q.fit (l.take p):Int)/\Q.next+(Q.fit (l.take p):Int)<=1099511627776;omega
 ·show Q.rows<=N'.pages*Q.t.blanks+N'.pages;rw[hlk.pages];exact hbl
 ·show Q.next+(Q.fit (l.take p):Int)<=_;omega
theorem Inv.rows_bl {fd:Int} {S:Dv} (h:Inv fd S):S.rows<=S.N.pages*S.t.blanks+S.N.pages:=by
 unfold Dv.rows;split
 ·rcases h.op with e | ho
  ·omega
  ·have hrow:=ho.row;omega
 ·omega
structure Kp (S V:Dv):Prop where
 like:S.N.Like V.N
 dead:V.N.dead=S.N.dead
 broken:V.N.broken=S.N.broken
 has:∀b,V.t.has b=S.t.has b
 held:∀b,S.t.has b=true->(V.t.at_ b).held=(S.t.at_ b).held
 next:S.next<=V.next
theorem Kp.refl (S:Dv):Kp S S:=⟨Nand.Like.refl _,rfl,rfl,λ_=>rfl,λ_ _=>rfl,J7 _⟩
theorem Kp.trans {A B C:Dv} (h:Kp A B) (g:Kp B C):Kp A C:=
 ⟨h.like.trans g.like,g.dead.trans h.dead,g.broken.trans h.broken,λb=>(g.has b).trans (h.has b),λb hb=>(g.held b (by rw[h.has];exact hb)).trans (h.held b hb),Int.le_trans h.next g.next⟩
theorem Lf.kp {S V:Dv} {W:List (Int×En)} {lg β β' k k' m:Nat} {X X':List Int} {nx nx':Int} {N':Nand} (h:Lf V.N W lg X β k m nx N') (hN:Kp S V) (hX:∀i∈X,i∈X') (hβ:β'<=β) (hk:k'<=k) (hnx:nx<=nx'):Lf S.N W lg X' β' k' m nx' N':=
 h.mono ⟨hN.like,hN.dead,hN.broken⟩ hX hβ hk hnx
theorem Trn.moved {X:List Int} {S V:Dv} (h:Trn X S) (hI:Inv (-2) S) (hT:V.T=S.T) (hop:V.op=S.op\/V.op= -1) (hl:S.N.Like V.N) (ho:V.N.off=S.N.off) (hd:V.N.dead=S.N.dead) (hs:∀i a,Tb.look S.T.at_ i=some a->∀d r:Int,V.N.pageAt d a.block r=S.N.pageAt d a.block r):Trn X V:=⟨λi a ha=>by
 rw[hT]at ha;obtain⟨l0,f1,_⟩:=(hI.st i a ha).row;have hb:=f1.is.blk;refine(h.each i a ha).imp (λ⟨l',g1⟩=>⟨l',g1.keep hl λx _=>hs i a ha _ _⟩) λ⟨g1,g2,g3⟩=>⟨g1,λe=>?_,g3.keep hl ho hd f1.is.row.1 λd r _=>hs i a ha d r⟩;rcases hop with x | x
 ·exact g2 (e.trans x)
 ·omega⟩
theorem Inv.ers_same {S:Dv} {k m:Nat} {N N2:Nand} (h:Inv (-2) S) (hO:S.Ok k m) (he:ErsP N N2 (o0 (C3 S.t S.T) S.op S.t.b)) (hN:N.blk=S.N.blk) (i:Int) (a:AtV) (ha:Tb.look S.T.at_ i=some a) (d r:Int):N2.pageAt d a.block r=S.N.pageAt d a.block r:=by
 obtain⟨l0,f1,_⟩:=(h.st i a ha).row;have hb:=f1.is.blk;unfold Nand.pageAt;rw[he.rest _ _ λy hy e=>?_,hN];have:=(mem_pkSome.1 hy).1;exact((h.spent_er hO hy).emp i a ha) (by omega)
namespace Cm
variable {W : List (Int × En)} {lg k m : Nat} {X : List Int} {S : Dv} {l : List En}
theorem pen0 (h:Cm W lg S) (hT:Trn X S) (hO:S.Ok (8*Dv.fuel+k) m) (hr:0<S.rows) (hE:Ent lg l) (hl0:l.length≠0) (hnx:S.next<=1099511627775-1200):
  ∃(V:Dv) (n:Nat),n=min l.length (S.N.dies-1)/\S.pen l=(V,(n:Int),(0:Int))/\Cm (a0J W l n) lg V/\(∀X',(∀i∈X,i∈X'\/∃j,j<n/\(l.getD j En.zero).lpn=i)->Trn X' V)/\V.Ok k m/\V.rows+1=S.rows/\Kp S V/\V.next<=S.next+7/\1<=V.row/\(V.op=S.op\/(S.t.at_ V.op).used=false)/\(∀b,S.t.has b=true->(S.t.at_ b).used=true->(V.t.at_ b).used=true)/\(∀j,j<n->∃a,Tb.look V.T.at_ (l.getD j En.zero).lpn=some a/\a.block=V.op)/\(∀i,(∀j,j<n->(l.getD j En.zero).lpn≠i)->Tb.look V.T.at_ i=Tb.look S.T.at_ i)/\
   ∀(c:Nat) (kp:Int),(S.armed c kp).Ok (8*Dv.fuel+k) m->(∃c',(S.armed c kp).pen l=(V.armed c' kp,(n:Int),(0:Int)))\/∃Z p,(S.armed c kp).pen l=(Z,(0:Int),(9:Int))/\p<=n/\∀X',(∀i∈X,i∈X')->(∀j,j<p->(l.getD j En.zero).lpn∈X')->Lf S.N (a0J W l p) lg X' S.rows k m (S.next+7) Z.N:=by
 have hg:=hO.gd.ok.bd16;have hf:∀e∈l,FitR e:=λe he=>(hE.1 e he).1;have hdt:∀e∈l,e.data.length=16:=λe he=>(hf e he).len;have hat:=Dv.at1_like S;have hrp:=h.gi.inv.rows_pos hO hr;have h0:¬(S.left=false/\S.pick<0):=λe=>by
  rcases hrp with x | x
  ·rw[e.1]at x;cases x
  ·exact x e.2
 have hl:=Dv.at1_left' hO h0;have w:=h.gi.inv.went1 hO hl;have hG1:=h.gi.at1 hO h0;have hN1:=h.no.went w;have hT1:=hT.at1 h.gi.inv h0;have p3:S.at1.Ok (8*Dv.fuel+k) m:=hO.at1;have hhas:=Inv.has_same hO.t p3.t w.like;have hlog1:S.at1.T.logical=(lg:Int):=by rw[hat.2.1];exact h.log
 have hop:S.at1.op=S.op\/(S.t.at_ S.at1.op).used=false:=by
  unfold Dv.at1;cases hl2:S.left with
  | true=>rw[d8 rfl];exact .inl rfl
  | false=>
   rw[d6 (by decide)];have hb:=Dv.pick_blank (hrp.resolve_left (by rw[hl2];decide));unfold Tl.blank at hb;rw[f7,i4]at hb;exact .inr hb.2
 obtain⟨Q,hQ⟩:∃Q,S.at1=Q:=⟨_,rfl⟩;rw[hQ]at hat hl w hG1 hN1 hT1 p3 hhas hlog1 hop;have hQI:=hG1.inv;have ho:=hQI.opn hl;obtain⟨m1,m2⟩:=a4d ho.mask.calm2 (by rw[hat.1];exact hg.1);rw[hat.1]at m1 m2;have hfit:Q.fit l=min l.length (S.N.dies-1):=by unfold Dv.fit;rw[m2];omega
 have hbd:¬Q.next>1099511627775-(Q.fit l:Int)+1:=by rw[hat.2.2];omega
 have ht:=hQI.turn p3 hl hf hbd;have herr:(Q.wr l).2.1=0:=L.ext ht.set (by decide) λd hd=>by
  rw[L.has_zero];cases hh:L.has (Q.wr l).2.1 (d:Nat)with
  | false=>rfl
  | true=>
   obtain⟨e1,e2⟩:=ht.only _ hh;omega
 have hL:Last (-2) Q l:=⟨hl,herr,hbd,ht⟩;have herr2:(Q.wr l).2.2=0:=by rw[ht.err,d8 herr]
 have hlgQ:∀e∈l,e.lpn<Q.T.logical:=λe he=>by rw[hlog1];exact(hE.1 e he).2
 have hpen:S.pen l=(M6 Q l,(Q.fit l:Int),(0:Int)):=by
  show Dv.write (159+1) S l=_;rw[Dv.write_succ,d6 hl0,d6 h0,hQ,d6 hbd,d6 (by rw[herr2];decide),d8 herr2];rfl
 have hk:=Dv.pen_keep hO hdt;rw[hpen]at hk;have hrw:=hL.rows hQI;have hrw2:=w.rows;obtain⟨l1,l2⟩:=hL.look hQI p3 hf hlgQ hE.2;have hCV:Cm (a0J W l (Q.fit l)) lg (M6 Q l):=⟨hG1.wrote p3 hL hf hE.2 hlgQ,hN1.wrote hL,hk.2.2.trans h.log⟩;have hnx2:=hat.2.2;refine⟨M6 Q l,Q.fit l,hfit,hpen,hCV,λX' hX=>hT1.wrote hQI hN1 p3 hL hf hlgQ hE.2 hX,hk.1,by omega,⟨w.like.trans ht.like,ht.dead.trans w.dead,ht.broken.trans w.broken,hhas,λb hb=>(w.sb b hb).2.1,?_⟩,?_,?_,hop,λb hb=>(w.sb b hb).2.2,λj hj=>⟨_,l1 j hj,rfl⟩,λi hi=>by rw[l2 i hi,hat.2.1],λc kp hA=>?_⟩
 ·show S.next<=Q.next+(Q.fit l:Int);omega
 ·show Q.next+(Q.fit l:Int)<=_;omega
 ·show 1<=Q.row+1;have:=ho.row;omega
 ·have hkp:=hA.gd.ok.kp.2;have hkp:kp<=32:=hkp;have hkA:=Dv.pen_keep hA hdt;have hR:=hQI.rowIs p3 hl hf hbd;have hrdy:RdyW Q.N Q.op Q.row Q.mask:=⟨hQI.lit,λd hd ha=>(ho.cells d hd).2 ha⟩;have hq:=hrdy.rdy hR;have hfail:∀x∈R.job Q.op Q.row Q.mask (Q.es l),Q.N.failB Q.op Q.row x.1=false:=λx hx=>by
   have hxi:=hR.inn x hx;have:=hN1.fails Q.op Q.row x.1.toNat
   rwa [show((x.1.toNat:Nat):Int)=x.1 from by omega]at this
  have hql:(R.job Q.op Q.row Q.mask (Q.es l)).length=S.N.dies:=by
   rw[a4f,Dv.es_len,m2];omega
  obtain⟨g1,g2⟩:=b7P Q.op Q.row kp _ Q.N 0 c hq hfail;rw[hql]at g1 g2;have hwr:∀N2,R.write N2 Q.op Q.row Q.mask (Q.es l)=R.go Q.op Q.row (R.job Q.op Q.row Q.mask (Q.es l)) N2 0:=λN2=>by unfold R.write;rw[d8 hR.par]
  have hwa:(Q.armed c kp).wr l=R.go Q.op Q.row (R.job Q.op Q.row Q.mask (Q.es l)) (arm Q.N c kp) 0:=hwr _;have hwc:Q.wr l=R.go Q.op Q.row (R.job Q.op Q.row Q.mask (Q.es l)) Q.N 0:=hwr _;have hpA:(S.armed c kp).pen l=Dv.write (159+1) (S.armed c kp) l:=rfl;rw[hpA]at hkA ⊢;rw[Dv.write_succ,d6 hl0,d6 (show¬((S.armed c kp).left=false/\(S.armed c kp).pick<0)from h0),Dv.armed_at1,hQ,d6 (show¬(Q.armed c kp).next>1099511627775-((Q.armed c kp).fit l:Int)+1 from hbd)]at hkA ⊢;rcases O7 c S.N.dies with hc | hc
  ·right;obtain⟨N',g3,t⟩:=g2 hc;have hfl:=λi j=>a8j Q.op Q.row i j (R.job Q.op Q.row Q.mask (Q.es l)) (arm Q.N c kp) 0;rw[g3]at hfl;rw[<- hwa]at g3;have e1:(Q.armed c kp).wrote l={Q.wrote l with N:=N'}:=by
    unfold Dv.wrote;rw[g3];rfl
   rw[d6 (by rw[g3];show¬(9:Int)=1;decide),d6 (by rw[g3];show¬(9:Int)=0;decide),d8 (by rw[g3]),e1]at hkA ⊢;refine⟨_,min (Q.fit l) (a4p (R.job Q.op Q.row Q.mask (Q.es l)) c kp),rfl,Nat.min_le_left _ _,λX' hX1 hX2=>?_⟩;have:=b4t (X':=X') hG1 hN1 hT1 hlog1 p3 hl hE hbd hkp (by rw[hat.1];exact hc) t hfl hkA.1.gd rfl hX1 hX2;rw[hat.1,hat.2.2]at this;exact this.mono ⟨Nand.Like.refl _,rfl,rfl⟩ (λ_ h=>h) (by omega) (i7 _) (J7 _)
  ·left;have g1:=g1 hc;rw[<- hwc,<- hwa]at g1;rw[d6 (by rw[g1,herr2];decide),d8 (by rw[g1];exact herr2)];have e1:(Q.armed c kp).wrote l=(Q.wrote l).armed (c-S.N.dies) kp:=by
    unfold Dv.wrote;rw[g1];rfl
   rw[e1];exact⟨_,rfl⟩
theorem clear0 (h:Cm W lg S) (hT:Trn X S) (hO:S.Ok (96+k) m):
  ∃V,S.clear=(V,0)/\Cm W lg V/\Trn X V/\V.Ok k m/\Kp S V/\V.T=S.T/\V.op=S.op/\V.next=S.next/\V.rows=S.rows+S.N.pages*(o0 (C3 S.t S.T) S.op S.t.b).length/\((∀b,S.t.has b=true->(S.t.at_ b).held=false)->o0 (C3 V.t V.T) V.op V.t.b=[])/\
   ∀(c:Nat) (kp:Int) (β:Nat),(S.armed c kp).Ok (96+k) m->β<=S.N.pages*S.t.blanks+S.N.pages->(∃c',(S.armed c kp).clear=(V.armed c' kp,0))\/∃Z,(S.armed c kp).clear=(Z,(9:Int))/\Lf S.N W lg X β k m S.next Z.N:=by
 have hk:=Dv.clear_keep hO;have hI:=h.gi.inv;obtain⟨N',t',c1,c2,c3⟩:=hI.clear_hd hO h.gi.hd;have hnf:=c2.nofl ⟨h.no.dead,h.no.fl⟩;have he:ErsP S.N S.clear.1.N (o0 (C3 S.t S.T) S.op S.t.b):=a2j _ _ _;rw[c1]at hk he;refine⟨_,c1,⟨h.gi.cleared c1 c2 c3,⟨hnf.1.1,List.eq_nil_iff_forall_not_mem.2 λa ha=>(by have:=c2.plan a ha;rw[h.no.plan]at this;cases this),λi j=>(hnf.2 i j).trans (h.no.met i j),hnf.1.2⟩,h.log⟩,hT.moved hI rfl (.inl rfl) c2.like (c2.lit.off.trans hI.lit.off.symm) c2.dead (hI.ers_same hO he rfl),hk.1,⟨c2.like,c2.dead,c2.broken,c2.has,c2.held,J7 _⟩,rfl,rfl,rfl,?_,λhh=>?_,λc kp β hA hβ=>?_⟩
 ·unfold Dv.rows;show N'.pages*t'.blanks+(if S.op>=0 then((N'.pages:Int)-S.row).toNat else 0)=_;rw[c2.blanks,c2.like.pages,a2u];omega
 ·refine a4x _ λx hx=>?_;have hx:x<t'.b:=hx;have htb:t'.b=S.t.b:=by rw[c2.fit.b,hO.t.b,c2.like.blocks]
  have hhas:S.t.has (x:Int)=true:=Tl.has_iff.2 (by omega);have hhas':t'.has (x:Int)=true:=by rw[c2.has];exact hhas
  cases h1:(((x:Int) !=S.op)&&C3 t' S.T x)with
  | false=>rfl
  | true=>
   exfalso
   rw[f7]at h1;have h2:=h1.2;unfold C3 at h2;simp only[f7,i4]at h2;have hu':(t'.at_ x).used=true:=by
    have:=h2.1.1.2;unfold Tl.blank at this;rw[hhas']at this;simpa using this
   by_cases hm:(x:Int)∈o0 (C3 S.t S.T) S.op S.t.b
   ·rw[c2.blank _ hm]at hu';cases hu'
   ·refine hm (mem_pkSome.2 ⟨by omega,by omega,by simpa using h1.1,?_⟩);unfold C3;rw[hI.usable hO hhas,h2.2];unfold Tl.blank Tl.held;rw[hhas,<- c2.rest _ hhas hm,hu',hh _ hhas];rfl
 ·obtain⟨a1,a2⟩:=S.clear_arm c kp hI.lit;rcases a2 with⟨c',g⟩ | ⟨N2,t2,g1,g2⟩
  ·exact .inl ⟨c',by rw[g,c1]⟩
  ·right;refine⟨_,g1,?_⟩;have hkA:=(Dv.clear_keep hA).1.gd;have he:ErsP (arm S.N c kp) (S.armed c kp).clear.1.N (o0 (C3 S.t S.T) S.op S.t.b):=a2j _ _ _;have hq0:Qt S.N:=⟨h.no.dead,h.no.plan,λi j=>⟨h.no.met i j,h.no.fl i j⟩⟩;have hq:Qt (S.armed c kp).clear.1.N:=Qt.clearGo (o0 (C3 S.t S.T) S.op S.t.b) (arm S.N c kp) S.t (hq0.arm c kp);rw[g1]at hkA he hq;have hkA:N2.Gd k m:=hkA;have he:ErsP (arm S.N c kp) N2 (o0 (C3 S.t S.T) S.op S.t.b):=he;have hq:Qt N2:=hq;have hlkO:S.N.Like N2.onN:=⟨he.like.dies,he.like.blocks,he.like.pages⟩;have hs:=hI.ers_same hO he rfl;refine⟨g2,⟨he.like.dies,he.like.blocks,he.like.pages⟩,he.dead,he.broken,{S with N:=N2.onN,op:= -1},rfl,⟨?_,⟨hq.dead,hq.plan,λi j=>(hq.flags i j).1,λi j=>(hq.flags i j).2⟩,h.log⟩,hT.moved hI rfl (.inr rfl) hlkO hI.lit.off.symm he.dead hs,⟨Nand.Gd.on hkA,hO.t.like hlkO,hO.T,hO.sl,hO.row,hO.next⟩,rfl,?_,J7 _⟩
   ·refine h.gi.cut hlkO ⟨rfl,rfl⟩ he.dead (λa ha=>?_) (λi j=>?_) (λb hb hu d=>?_) (λd b r c' hc'=>?_) (λi a ha=> .inl λd=>hs i a ha d _)
    ·have ha:a∈N2.plan:=ha;rw[hq.plan]at ha;cases ha
    ·exact⟨(hq.flags i j).1.trans (h.no.met i j).symm,(hq.flags i j).2.trans (h.no.fl i j).symm⟩
    ·show(N2.blk d b.toNat).cells=(S.N.blk d b.toNat).cells;rw[he.rest _ _ λy hy e=>?_]
     ·rfl
     ·have y2:=(hI.spent_er hO hy).used;have y1:=(mem_pkSome.1 hy).1;have:=Tl.has_iff.1 hb;have:b=y:=by omega
      rw[this,y2]at hu;cases hu
    ·rcases he.less d b r c' hc' with e | e
     ·exact .inl (.inl e)
     ·exact .inr ⟨c',e,λ_ h=>h,λh=>h⟩
   ·show β<=N2.pages*S.t.blanks+N2.pages;rw[show N2.pages=S.N.pages from he.like.pages];exact hβ
end Cm
theorem Lf.swap {N0:Nand} {W:List (Int×En)} {lg β k m n:Nat} {X:List Int} {nx:Int} {N':Nand} {E:List En} (h:Lf N0 (a0J W E n) lg X β k m nx N') (hW:WOk W) (hE:∀j,j<n->∃e sq,Tb.look W (E.getD j En.zero).lpn=some e/\E.getD j En.zero={e with seq:=sq}) (hd:∀i j,i<j->j<n->(E.getD i En.zero).lpn≠(E.getD j En.zero).lpn):Lf N0 W lg X β k m nx N':=by
 obtain⟨V,v1,v2,v3⟩:=h.ex;exact⟨h.off,h.like,h.dead,h.broken,V,v1,⟨v2.gi.swap hW hE hd,v2.no,v2.log⟩,v3⟩
namespace Cm
variable {W : List (Int × En)} {lg k m : Nat} {S : Dv} {X : List Int}
theorem carry_nil (f:Nat) (S:Dv) (done:Int):Dv.carryGo f S [] done=(S,done,0):=by
 cases f with
 | zero=>rfl
 | succ f=>rw[Dv.carryGo,d8 (show([]:List Int).length=0 from rfl)]
end Cm
structure Lft (v:Int) (I:List Int) (S:Dv):Prop where
 ne:v≠S.op
 has:S.t.has v=true
 used:(S.t.at_ v).used=true
 all:∀i a,Tb.look S.T.at_ i=some a->a.block=v->i∈I
namespace Cm
variable {W : List (Int × En)} {lg m : Nat} {X : List Int}
theorem carryA {v:Int}:∀(f:Nat) (S:Dv) (I:List Int) (done:Int) (ρ k:Nat),Cm W lg S->Trn X S->S.Ok (Dv.cost*f+k) m->I.length<=f->(∀i∈I,(Tb.look W i).isSome=true)->I.Nodup->I.length<=(S.N.dies-1)*ρ->ρ<=S.rows->Lft v I S->S.next+7*(f:Int)<=1099511627775-1300->
  ∃V,Dv.carryGo f S I done=(V,done+(I.length:Int),(0:Int))/\Cm W lg V/\Trn X V/\V.Ok k m/\S.rows<=V.rows+ρ/\Kp S V/\V.next<=S.next+7*(f:Int)/\Lft v [] V/\(I≠[]->1<=V.row)/\
   ∀(c:Nat) (kp:Int) (β:Nat),(S.armed c kp).Ok (Dv.cost*f+k) m->β+ρ<=S.rows+1->(∃c',Dv.carryGo f (S.armed c kp) I done=(V.armed c' kp,done+(I.length:Int),(0:Int)))\/∃Z n X',Dv.carryGo f (S.armed c kp) I done=(Z,n,(9:Int))/\X'.length<=X.length+(S.N.dies-1)/\(∀i∈X,i∈X')/\Lf S.N W lg X' β k m (S.next+7*(f:Int)) Z.N
 | f,S,[],done,ρ,k,h,hT,hO,_,_,_,_,_,hv,_=>⟨S,by rw[carry_nil];simp,h,hT,hO.less (by omega),by omega,Kp.refl S,by omega,hv,λe=>absurd rfl e,λc kp β _ _=> .inl ⟨c,by rw[carry_nil];simp⟩⟩
 | 0,S,_::_,done,ρ,k,_,_,_,hL,_,_,_,_,_,_=>absurd hL (by simp)
 | f+1,S,i0::I0,done,ρ,k,h,hT,hO,hL,hin,hnd,hlen,hrw,hv,hnx=>by
  obtain⟨I,hI⟩:∃I,i0::I0=I:=⟨_,rfl⟩;have hl0:I.length≠0:=by rw[<- hI];simp
  rw[hI]at hL hin hnd hlen hv ⊢;clear hI;have hg:=hO.gd.ok.bd16;have hρ:1<=ρ:=by
   rcases P5 ρ with e | e
   ·subst e;omega
   ·exact e
  have hr:0<S.rows:=by omega
  have hs:=h.gi.inv.slots_full2 hO hr;obtain⟨z,hz⟩:∃z,(max S.slots 1).toNat=z:=⟨_,rfl⟩;have hz2:z=S.N.dies-1:=by omega
  obtain⟨E,e1,e2,e3,e4,e5⟩:=h.gi.hd.rds h.gi.wok (I.take z) λi hi=>hin i (I8 hi);have hEl:E.length=min z I.length:=by rw[e2,j9]
  have hnd2:(E.map (·.lpn)).Nodup:=by rw[e3];exact hnd.sublist (List.take_sublist _ _)
  have hEnt:Ent lg E:=⟨λe he=>⟨e4 e he,by
   have:e.lpn∈I.take z:=by rw[<- e3];exact L6 he
   have h1:=hin _ (I8 this);obtain⟨w,hw⟩:=Option.isSome_iff_exists.1 h1;obtain⟨_,a,ha,_⟩:=h.gi.hd.each _ _ hw;have:=(hO.T.rng _ (Tb.look_mem ha)).2;rw[<- h.log];exact this⟩,hnd2⟩
  have hdisj:=a4g hnd2 (i7 E.length);have hE':∀j,j<E.length->∃e sq,Tb.look W (E.getD j En.zero).lpn=some e/\E.getD j En.zero={e with seq:=sq}:=λj hj=>e5 j (by rw[<- e2];omega);have hcs:Dv.cost*(f+1)=Dv.cost*f+Dv.cost:=H3 _ _;have hO1:S.Ok (8*Dv.fuel+(Dv.cost*f+k)) m:=hO.less (by unfold Dv.cost at hcs ⊢;omega);obtain⟨V,n,p0,p1,p2,p3,p4,p5,p6,p7,p8,p9,p10,p11,p12,p13⟩:=h.pen0 (k:=Dv.cost*f+k) hT hO1 hr hEnt (by omega) (by omega);have hn:n=E.length:=by omega
  subst hn;have hCV:Cm W lg V:=⟨p2.gi.swap h.gi.wok hE' hdisj,p2.no,p2.log⟩;have hTV:Trn X V:=p3 X λi hi=> .inl hi;have hmem:∀i∈I,i∉I.drop E.length->∃j,j<E.length/\(E.getD j En.zero).lpn=i:=λi hi hd=>by
   rw[<- C9 z I]at hi;rcases List.mem_append.1 hi with h1 | h1
   ·rw[<- e3]at h1;obtain⟨e,he,hei⟩:=List.mem_map.1 h1;obtain⟨j,hj,hje⟩:=List.mem_iff_getElem.1 he;exact⟨j,hj,by rw[d7,c9 hj,j3,hje];exact hei⟩
   ·refine absurd ?_ hd;rw[hEl];rcases Nat.le_total z I.length with e | e
    ·rw[L8 e];exact h1
    ·rw[a2Q e]at h1;cases h1
  have hne:v≠V.op:=λe=>by
   rcases p9 with x | x
   ·exact hv.ne (e.trans x)
   ·rw[<- e,hv.used]at x;cases x
  have hvV:Lft v (I.drop E.length) V:=⟨hne,by rw[p6.has];exact hv.has,p10 v hv.has hv.used,λi a ha hb=>by
   refine I1 λhd=>?_
   by_cases hex:∃j,j<E.length/\(E.getD j En.zero).lpn=i
   ·obtain⟨j,hj,rfl⟩:=hex;obtain⟨a',x1,x2⟩:=p11 j hj;rw[ha]at x1;injection x1 with x1;rw[<- x1,hb]at x2;exact hne x2
   ·rw[p12 i λj hj e=>hex ⟨j,hj,e⟩]at ha;exact hex (hmem i (hv.all i a ha hb) hd)⟩
  have hdl:(I.drop E.length).length=I.length-E.length:=C1;have hmul:(S.N.dies-1)*ρ=(S.N.dies-1)*(ρ-1)+(S.N.dies-1):=by
   obtain⟨z,rfl⟩:∃z,ρ=z+1:=⟨ρ-1,by omega⟩;rw[H3];rfl
  have hdies:=p6.like.dies;obtain⟨U,r1,r2,r3,r4,r5,r6,r7,r8,r9,r10⟩:=carryA f V (I.drop E.length) (done+(E.length:Int)) (ρ-1) k hCV hTV p4 (by omega) (λi hi=>hin i (V1 hi)) (hnd.sublist (List.drop_sublist _ _)) (by rw[hdies];omega) (by omega) hvV (by omega);have hdn:done+(E.length:Int)+((I.drop E.length).length:Int)=done+(I.length:Int):=by omega
  rw[hdn]at r1 r10;refine⟨U,?_,r2,r3,r4,by omega,p6.trans r6,by omega,r8,λ_=>?_,λc kp β hA hβ=>?_⟩
  ·rw[Dv.carryGo,d6 hl0,hz];dsimp only;rw[e1];dsimp only;rw[d6 (by decide),p1];dsimp only;rw[d6 (by decide),j4];exact r1
  ·by_cases he:I.drop E.length=[]
   ·rw[he,carry_nil]at r1;injection r1 with r1;rw[<- r1];exact p8
   ·exact r9 he
  ·have hA1:(S.armed c kp).Ok (8*Dv.fuel+(Dv.cost*f+k)) m:=hA.less (by unfold Dv.cost at hcs ⊢;omega);have hkA:=Dv.pen_keep hA1 (λe he=>(hEnt.1 e he).1.len);rw[Dv.carryGo,d6 hl0,show(S.armed c kp).slots=S.slots from rfl,hz];dsimp only;rw[Hd.rds_arm,e1];dsimp only;rw[d6 (by decide)];rcases p13 c kp hA1 with⟨c',hc⟩ | ⟨Z,p,c1,c2,c4⟩
   ·rw[hc]at hkA ⊢;dsimp only;rw[d6 (by decide),j4];rcases r10 c' kp β hkA.1 (by omega)with r | ⟨Z,n,X',r1,r3,r4,r5⟩
    ·exact .inl r
    ·exact .inr ⟨Z,n,X',r1,by rw[hdies]at r3;exact r3,r4,r5.kp p6 (λ_ h=>h) (i7 _) (i7 _) (by omega)⟩
   ·rw[c1];dsimp only;rw[d8 (by decide)];refine .inr ⟨Z,done+0,X++E.map (·.lpn),rfl,by rw[f8,l7];omega,λi hi=>List.mem_append_left _ hi,?_⟩;have:=(c4 (X++E.map (·.lpn)) (λi hi=>List.mem_append_left _ hi) (λj hj=>List.mem_append_right _ (L6 (U9 (by omega))))).swap h.gi.wok (λj hj=>hE' j (by omega)) (λi j hij hj=>hdisj i j hij (by omega));exact this.mono ⟨Nand.Like.refl _,rfl,rfl⟩ (λ_ h=>h) (by omega) (by omega) (by omega)
theorem emptyA {S:Dv} {ρ k:Nat} (h:Cm W lg S) (hT:Trn X S) (hO:S.Ok (Dv.costR+k) m) (hlg:lg<=1000) (hρ:ρ<=S.N.pages) (hr:ρ<=S.rows) (hnx:S.next<=1099511627775-3000000) {v:Int} (hv:v∈o0 (O2 S.t S.T) S.op S.t.b) (hlen:(S.T.ins v).length<=(S.N.dies-1)*ρ):
  ∃C n U,S.carry v (S.T.count v)=(C,n,(0:Int))/\C.clear=(U,0)/\Cm W lg U/\Trn X U/\U.Ok k m/\Kp S U/\S.rows+S.N.pages<=U.rows+ρ/\U.next<=S.next+400/\((∀b,S.t.has b=true->(S.t.at_ b).held=false)->o0 (C3 U.t U.T) U.op U.t.b=[])/\
   ∀(c:Nat) (kp:Int) (β:Nat),(S.armed c kp).Ok (Dv.costR+k) m->β+ρ<=S.rows+1->(∃c' c2,(S.armed c kp).carry v (S.T.count v)=(C.armed c' kp,n,(0:Int))/\(C.armed c' kp).clear=(U.armed c2 kp,0))\/∃Z X',((∃n,(S.armed c kp).carry v (S.T.count v)=(Z,n,(9:Int)))\/∃c',(S.armed c kp).carry v (S.T.count v)=(C.armed c' kp,n,(0:Int))/\(C.armed c' kp).clear=(Z,(9:Int)))/\X'.length<=X.length+(S.N.dies-1)/\(∀i∈X,i∈X')/\Lf S.N W lg X' β k m (S.next+400) Z.N:=by
 have hg:=hO.gd.ok.bd16;obtain⟨v1,v2,v3,v4⟩:=mem_pkSome.1 hv;unfold O2 Tl.held at v4;simp only[f7,d5,i4]at v4;obtain⟨v5,v6⟩:=v4;have vh:S.t.has v=true:=Tl.has_iff.2 ⟨v1,v2⟩;rw[vh,q9]at v6;have hcn:=hO.T.cnt v;have hil:=ins_len hO.T v;obtain⟨w,hw⟩:∃i,i∈S.T.ins v:=by
  have hpos:0<Tb.cntB S.T.at_ v:=by omega
  obtain⟨x,hx,hxb⟩:=List.countP_pos_iff.1 hpos;exact⟨x.1,b3N hO.T (a5e hO.T hx) (by simpa using hxb)⟩
 have hvu:(S.t.at_ v).used=true:=by
  obtain⟨a,ha,hab⟩:=b7z hw;rw[<- hab];exact(h.gi.inv.st _ a ha).used
 have hlρ:(S.N.dies-1)*ρ<=5*8:=R1 (by omega) (by omega);have htake:(S.T.ins v).take (max (S.T.count v) 0).toNat=S.T.ins v:=B1 (by omega);have hcar:S.carry v (S.T.count v)=Dv.carryGo (S.T.ins v).length S (S.T.ins v) 0:=by unfold Dv.carry;dsimp only;rw[htake]
 have hcarA:∀c kp,(S.armed c kp).carry v (S.T.count v)=Dv.carryGo (S.T.ins v).length (S.armed c kp) (S.T.ins v) 0:=λc kp=>by
  unfold Dv.carry;show Dv.carryGo ((S.T.ins v).take (max (S.T.count v) 0).toNat).length (S.armed c kp) ((S.T.ins v).take (max (S.T.count v) 0).toNat) 0=_;rw[htake]
 have hcost:Dv.cost*(S.T.ins v).length<=Dv.cost*65536:=y9 _ (by omega);have hle:Dv.cost*(S.T.ins v).length+(96+k)<=Dv.costR+k:=by unfold Dv.costR Dv.costC;omega
 obtain⟨V,r1,r2,r3,r4,r5,r6,r7,r8,r9,r10⟩:=carryA (v:=v) (S.T.ins v).length S (S.T.ins v) 0 ρ (96+k) h hT (hO.less hle) (i7 _) (λi hi=>by
  obtain⟨a,ha,_⟩:=b7z hi;cases hw:Tb.look W i with
  | none=>rw[h.gi.hd.none hw]at ha;cases ha
  | some e=>rfl) (b5e _ _) hlen hr ⟨v3,vh,hvu,λi a ha hb=>b3N hO.T ha hb⟩ (by omega)
 have r9:=r9 λe=>by rw[e]at hw;cases hw
 obtain⟨U,u1,u2,u3,u4,u5,u6,u7,u8,u9,u10,u11⟩:=r2.clear0 (k:=k) r3 r4;have hgV:=r4.gd.ok.bd16;have hVb:V.t.b=S.t.b:=by
  have h1:=r4.t.b;have h2:=hO.t.b;have h3:=r6.like.blocks;omega
 have hvs:v∈o0 (C3 V.t V.T) V.op V.t.b:=by
  refine mem_pkSome.2 ⟨v1,by omega,r8.ne,?_⟩;unfold C3 Tl.blank Tl.held;have hcv:V.T.count v=0:=by
   rw[r4.T.cnt];have:Tb.cntB V.T.at_ v=0:=by
    unfold Tb.cntB;rw[a4K];intro x hx hxb;have:=r8.all _ _ (a5e r4.T hx) (by simpa using hxb);cases this
   rw[this];rfl
  rw[r2.gi.inv.usable r4 r8.has,r8.has,r8.used,r6.held v vh,v6,hcv];rfl
 have hsl:1<=(o0 (C3 V.t V.T) V.op V.t.b).length:=b0e hvs;have hmul:V.N.pages*1<=V.N.pages*(o0 (C3 V.t V.T) V.op V.t.b).length:=y9 _ hsl;have hpp:=r6.like.pages;refine⟨V,_,U,hcar.trans r1,u1,u2,u3,u4,r6.trans u5,by omega,by omega,λhh=>u10 λb hb=>by rw[r6.has]at hb;rw[r6.held b hb];exact hh b hb,λc kp β hA hβ=>?_⟩;have hkA:=Dv.carry_keep (k:=96+k) (hA.less (by unfold Dv.costR;omega)) v (S.T.count v);rw[hcarA]at hkA ⊢;rcases r10 c kp β (hA.less hle) hβ with⟨c',hc⟩ | ⟨Z,n,X',z1,z2,z3,z4⟩
 ·rw[hc]at hkA;rcases u11 c' kp β hkA.1 (by
   have h1:V.rows+1<=V.N.pages*V.t.blanks+V.N.pages:=by
    unfold Dv.rows;split<;>omega
   omega)with⟨c2,hc2⟩ | ⟨Z,z1,z2⟩
  ·exact .inl ⟨c',c2,hc,hc2⟩
  ·exact .inr ⟨Z,X, .inr ⟨c',hc,z1⟩,by omega,λ_ h=>h,z2.kp r6 (λ_ h=>h) (i7 _) (i7 _) (by omega)⟩
 ·exact .inr ⟨Z,X', .inl ⟨n,z1⟩,z2,z3,z4.mono ⟨Nand.Like.refl _,rfl,rfl⟩ (λ_ h=>h) (i7 _) (by omega) (by omega)⟩
theorem roomGoA {Q : Nat → Dv → Prop} {β : Nat} (hQ : ∀ (f : Nat) (S : Dv) (k : Nat), Q (f + 1) S → Cm W lg S → S.Ok k m → ¬ (S.free : Int) > 4 → S.victim ∈ o0 (O2 S.t S.T) S.op S.t.b → S.T.count S.victim < S.t.p * G.slots (S.t.mask S.victim) →
   ∃ρ,(S.T.ins S.victim).length<=(S.N.dies-1)*ρ/\ρ<=S.N.pages/\ρ<=S.rows/\β+ρ<=S.rows+1/\∀U,Kp S U->S.rows+S.N.pages<=U.rows+ρ->((∀b,S.t.has b=true->(S.t.at_ b).held=false)->o0 (C3 U.t U.T) U.op U.t.b=[])->Q f U) (hlg:lg<=1000):
  ∀(f:Nat) (S:Dv) (k:Nat),Q f S->Cm W lg S->Trn X S->S.Ok (Dv.costR*f+k) m->S.next+400*(f:Int)<=1099511627775-3000000->
  ∃V,Dv.roomGo f S=(V,0)/\Cm W lg V/\Trn X V/\V.Ok k m/\Kp S V/\V.next<=S.next+400*(f:Int)/\(∃f',Q f' V/\(f'=0\/(V.free:Int)>4\/V.victim<0\/V.T.count V.victim>=V.t.p*G.slots (V.t.mask V.victim)))/\
   ∀(c:Nat) (kp:Int),(S.armed c kp).Ok (Dv.costR*f+k) m->(∃c',Dv.roomGo f (S.armed c kp)=(V.armed c' kp,0))\/∃Z X',Dv.roomGo f (S.armed c kp)=(Z,(9:Int))/\X'.length<=X.length+(S.N.dies-1)/\(∀i∈X,i∈X')/\Lf S.N W lg X' β k m (S.next+400*(f:Int)) Z.N
 | 0,S,k,hq,h,hT,hO,_=>⟨S,rfl,h,hT,hO.less (by omega),Kp.refl S,by omega,⟨0,hq, .inl rfl⟩,λc _ _=> .inl ⟨c,rfl⟩⟩
 | f+1,S,k,hq,h,hT,hO,hnx=>by
  have hg:=hO.gd.ok.bd16;have hA0:∀c kp,Dv.roomGo (f+1) (S.armed c kp)=if(S.free:Int)>4 then(S.armed c kp,0)else if S.victim<0\/S.T.count S.victim>=S.t.p*G.slots (S.t.mask S.victim)then(S.armed c kp,0)else(let x:=(S.armed c kp).carry S.victim (S.T.count S.victim);if x.2.2≠0 then(x.1,x.2.2)else(let d:=x.1.clear;if d.2≠0 then d else Dv.roomGo f d.1)):=λ_ _=>rfl
  rw[Dv.roomGo]
  by_cases hfr:(S.free:Int)>4
  ·rw[d8 hfr];exact⟨S,rfl,h,hT,hO.less (by omega),Kp.refl S,by omega,⟨_,hq, .inr (.inl hfr)⟩,λc _ _=> .inl ⟨c,by rw[hA0,d8 hfr]⟩⟩
  rw[d6 hfr]
  by_cases hvc:S.victim<0\/S.T.count S.victim>=S.t.p*G.slots (S.t.mask S.victim)
  ·rw[d8 hvc];exact⟨S,rfl,h,hT,hO.less (by omega),Kp.refl S,by omega,⟨_,hq, .inr (.inr hvc)⟩,λc _ _=> .inl ⟨c,by rw[hA0,d6 hfr,d8 hvc]⟩⟩
  rw[d6 hvc];have hvm:S.victim∈o0 (O2 S.t S.T) S.op S.t.b:=by
   rcases a5S (λx y=>orI [Q9 (S.T.count x) (S.T.count y),Q9 (S.t.wear x) (S.t.wear y)]) (O2 S.t S.T) S.op S.t.b with e | e
   ·exact absurd (.inl (by show S.victim<0;unfold Dv.victim;rw[e.1];decide)) hvc
   ·exact e.1
  obtain⟨ρ,q1,q2,q3,q4,q5⟩:=hQ f S _ hq h hO hfr hvm (by
   rcases Int.lt_or_le (S.T.count S.victim) (S.t.p*G.slots (S.t.mask S.victim))with e | e
   ·exact e
   ·exact absurd (.inr e) hvc)
  rw[H3]at hO;obtain⟨C,n,U,u1,u2,u3,u4,u5,u6,u7,u8,u9,u10⟩:=h.emptyA (k:=Dv.costR*f+k) hT (hO.less (by omega)) hlg q2 q3 (by omega) hvm q1;obtain⟨V,w1,w2,w3,w4,w5,w6,w7,w8⟩:=roomGoA hQ hlg f U k (q5 U u6 u7 u9) u3 u4 u5 (by omega);have hdies:=u6.like.dies;rw[u1];dsimp only;rw[d6 (by decide),u2];dsimp only;rw[d6 (by decide)];refine⟨V,w1,w2,w3,w4,u6.trans w5,by omega,w7,λc kp hA=>?_⟩;rw[H3]at hA;have hA2:(S.armed c kp).Ok (Dv.costR+(Dv.costR*f+k)) m:=hA.less (by omega);rw[hA0,d6 hfr,d6 hvc];have hkA:=Dv.carry_keep (k:=96+(Dv.costR*f+k)) (hA2.less (by unfold Dv.costR;omega)) S.victim (S.T.count S.victim);rcases u10 c kp β hA2 q4 with⟨c',c2,a1,a2⟩ | ⟨Z,X',hz,z2,z3,z4⟩
  ·rw[a1]at hkA ⊢;have hkU:=Dv.clear_keep hkA.1;dsimp only at hkU ⊢;rw[d6 (by decide),a2]at*;dsimp only;rw[d6 (by decide)];rcases w8 c2 kp hkU.1 with r | ⟨Z,X',z1,z2,z3,z4⟩
   ·exact .inl r
   ·exact .inr ⟨Z,X',z1,by rw[hdies]at z2;exact z2,z3,z4.kp u6 (λ_ h=>h) (i7 _) (i7 _) (by omega)⟩
  ·refine .inr ⟨Z,X',?_,z2,z3,z4.mono ⟨Nand.Like.refl _,rfl,rfl⟩ (λ_ h=>h) (i7 _) (by omega) (by omega)⟩;rcases hz with⟨n',z1⟩ | ⟨c',a1,z1⟩
   ·rw[z1];dsimp only;rw[d8 (by decide)]
   ·rw[a1];dsimp only;rw[d6 (by decide),z1];dsimp only;rw[d8 (by decide)]
theorem roomA {S : Dv} {k : Nat} {Q : Nat → Dv → Prop} {β : Nat} (hQ : ∀ (f : Nat) (S : Dv) (k : Nat), Q (f + 1) S → Cm W lg S → S.Ok k m → ¬ (S.free : Int) > 4 → S.victim ∈ o0 (O2 S.t S.T) S.op S.t.b → S.T.count S.victim < S.t.p * G.slots (S.t.mask S.victim) →
   ∃ρ,(S.T.ins S.victim).length<=(S.N.dies-1)*ρ/\ρ<=S.N.pages/\ρ<=S.rows/\β+ρ<=S.rows+1/\∀U,Kp S U->S.rows+S.N.pages<=U.rows+ρ->((∀b,S.t.has b=true->(S.t.at_ b).held=false)->o0 (C3 U.t U.T) U.op U.t.b=[])->Q f U) (hlg:lg<=1000)
  (hq:∀U,Kp S U->S.rows<=U.rows->((∀b,S.t.has b=true->(S.t.at_ b).held=false)->o0 (C3 U.t U.T) U.op U.t.b=[])->Q S.t.b U) (h:Cm W lg S) (hT:Trn X S) (hO:S.Ok (Dv.costM+k) m) (hβ:β<=S.rows) (hnx:S.next<=1099511627775-4000000):
  ∃V,S.room=(V,0)/\Cm W lg V/\Trn X V/\V.Ok k m/\Kp S V/\V.next<=S.next+6400/\(∃f',Q f' V/\(f'=0\/(V.free:Int)>4\/V.victim<0\/V.T.count V.victim>=V.t.p*G.slots (V.t.mask V.victim)))/\
   ∀(c:Nat) (kp:Int),(S.armed c kp).Ok (Dv.costM+k) m->(∃c',(S.armed c kp).room=(V.armed c' kp,0))\/∃Z X',(S.armed c kp).room=(Z,(9:Int))/\X'.length<=X.length+(S.N.dies-1)/\(∀i∈X,i∈X')/\Lf S.N W lg X' β k m (S.next+6400) Z.N:=by
 have hg:=hO.gd.ok.bd16;have hb:=hO.t.b;have hcb:Dv.costR*S.t.b<=Dv.costR*16:=y9 _ (by omega);have hle:96+(Dv.costR*S.t.b+k)<=Dv.costM+k:=by unfold Dv.costM;omega
 obtain⟨U,u1,u2,u3,u4,u5,u6,u7,u8,u9,u10,u11⟩:=h.clear0 (k:=Dv.costR*S.t.b+k) hT (hO.less hle);obtain⟨V,w1,w2,w3,w4,w5,w6,w7,w8⟩:=roomGoA hQ hlg S.t.b U k (hq U u5 (by omega) u10) u2 u3 u4 (by omega);have e2:∀c kp,(S.armed c kp).room=if(S.armed c kp).clear.2≠0 then(S.armed c kp).clear else Dv.roomGo S.t.b (S.armed c kp).clear.1:=λ_ _=>rfl
 have hrb:=h.gi.inv.rows_bl;refine⟨V,?_,w2,w3,w4,u5.trans w5,by omega,w7,λc kp hA=>?_⟩
 ·unfold Dv.room;rw[u1];dsimp only;rw[d6 (by decide)];exact w1
 ·have hkU:=Dv.clear_keep (hA.less hle);rw[e2];rcases u11 c kp β (hA.less hle) (by omega)with⟨c2,hc2⟩ | ⟨Z,z1,z2⟩
  ·rw[hc2]at hkU ⊢;dsimp only;rw[d6 (by decide)];rcases w8 c2 kp hkU.1 with r | ⟨Z,X',z1,z2,z3,z4⟩
   ·exact .inl r
   ·exact .inr ⟨Z,X',z1,by rw[u5.like.dies]at z2;exact z2,z3,z4.kp u5 (λ_ h=>h) (i7 _) (i7 _) (by omega)⟩
  ·rw[z1];dsimp only;rw[d8 (by decide)];exact .inr ⟨Z,X,rfl,by omega,λ_ h=>h,z2.mono ⟨Nand.Like.refl _,rfl,rfl⟩ (λ_ h=>h) (i7 _) (by omega) (by omega)⟩
end Cm
theorem Inv.mt_blanks {S:Dv} {k m:Nat} (h:Inv (-2) S) (hO:S.Ok k m):S.N.pages*S.t.blanks<=(Dv.mt0 S.N).rows:=by
 have hg:=hO.gd.ok.bd16;have hO0:(Dv.mt0 S.N).Ok k m:=Dv.Ok.mt0 hO.gd;obtain⟨_,_,t3⟩:=Tl.of_spec hO.gd.ok;have hb1:=hO.t.b;have hb2:=hO0.t.b;have hN0:(Dv.mt0 S.N).N=S.N:=rfl;have hbl:S.t.blanks<=(Dv.mt0 S.N).t.blanks:=by
  rw[a1E hO.t.len,a1E hO0.t.len,show(Dv.mt0 S.N).t.b=S.t.b from by rw[hb2,hb1];rfl];refine List.countP_mono_left λx hx hu=>?_;have hx:=List.mem_range.1 hx;have hhas:S.t.has (x:Int)=true:=Tl.has_iff.2 (by omega);have hu:(S.t.at_ (x:Int)).used=false:=by simpa using hu
  have h3:=(t3 x (by omega)).2.2;show(!((Tl.of S.N).at_ (x:Nat)).used)=true;rw[h3];have:a4o (Tl.of S.N).dead S.N x S.N.dies=false:=by
   unfold a4o;rw[a0c];intro d hd;have hd:=List.mem_range.1 hd;have hm:=(h.msk hO hhas).all d hd (by omega);have hc:=h.blank _ hhas hu d hm;rw[j4]at hc;rw[hc];simp
  rw[this];rfl
 show S.N.pages*S.t.blanks<=S.N.pages*(Dv.mt0 S.N).t.blanks+(if(-1:Int)>=0 then _ else 0);have:=y9 S.N.pages hbl;omega
theorem b4Q {N:Nand} {d b r:Int} (hoff:N.off=false) (hd:0<=d/\d<N.dies) (hb:0<=b/\b<N.blocks) (hr:0<=r/\r<N.pages) (hdead:N.dead.getD d.toNat false=false):(M.look N d b r).2≠4:=by
 have hrf:N.refuses d b r=0:=by
  unfold Nand.refuses;rw[hoff,d6 (by decide),Nand.geoIn_of hd hb hr,d6 (by decide),hdead];rfl
 have he:N.readE d b r=5\/N.readE d b r=6\/N.readE d b r=0:=by
  unfold Nand.readE;rw[hrf,d6 (by simp)];cases N.pageAt d b r with
  | none=>exact .inl rfl
  | some c=>
   dsimp only;cases c.lost with
   | true=>exact .inr (.inl rfl)
   | false=>exact .inr (.inr rfl)
 unfold M.look;rcases he with e | e | e
 ·simp[e]
 ·simp[e]
 ·simp only[e,X7];split
  ·show(3:Int)≠4;decide
  ·show(1:Int)≠4;decide
namespace GI
variable {W : List (Int × En)} {S : Dv} {X : List Int} {k m : Nat}
theorem torn_stand (h:GI (-2) W S) (hno:NoF S) (hT:Trn X S) (hO:S.Ok k m) (i:Int) (hs:(V.standOf (V.of (V.all S.N) i)).2=true) (hw:(V.standOf (V.of (V.all S.N) i)).1.whole=false):i∈X/\V.last S.N (V.standOf (V.of (V.all S.N) i)).1=true:=by
 have hg:=hO.gd.ok.bd16;cases ha:Tb.look S.T.at_ i with
 | none=>rw[h.stand_none hO ha]at hs;cases hs
 | some a=>
  obtain⟨w,f,g1,g2,g3,g4,g5,g6,g7,⟨l,k',g8,_⟩,g9⟩:=h.stand hO ha;rw[g2]at hw ⊢;dsimp only at hw ⊢;rw[hw]at g9;rcases hT.each i a ha with⟨l',hF⟩ | ⟨t1,t2,t3⟩
  ·rw[hF.par_good h.inv.lit.off hno.dead]at g9;cases g9
  ·refine⟨t1,?_⟩;have hx:=j8 (X0 a.block a.row a.mask l);obtain⟨n1,n2,_⟩:=g8.is.inn _ hx;unfold V.last;rw[g5,g6,g7,f7];refine⟨List.all_eq_true.2 λr hr=>?_,bne_iff_ne.2 (b4Q h.inv.lit.off ⟨n1,n2⟩ g8.is.blk g8.is.row (hno.dead _))⟩;rw[j6]
   by_cases hle:(r:Int)<=a.row
   ·exact .inl (i6 hle)
   ·right;unfold V.blankRow M.rowN;rw[D9];intro x hx;obtain⟨d,hd,rfl⟩:=List.mem_map.1 hx;have hd:=List.mem_range.1 hd;have hp:=t3.after d hd r (by omega);unfold Nand.pageAt at hp;rw[List.getElem?_eq_none_iff]at hp;rcases a8c hp with e | e<;>rw[e]<;>rfl
theorem torn_few (h:GI (-2) W S) (hno:NoF S) (hT:Trn X S) (hO:S.Ok k m) (lg:Nat):((List.range lg).filterMap (V.tornF S.N (V.all S.N))).length<=X.length:=by
 have hgF:∀i e,V.tornF S.N (V.all S.N) i=some e->V.tornAt (V.all S.N) i=some e:=λi e he=>by
  unfold V.tornF at he;split at he
  ·exact he
  ·cases he
 have hsA:=b0j (g:=V.tornF S.N (V.all S.N)) (λi e he=>V.torn_lpn (hgF i e he)) lg;have hrn:((List.range lg).map λi:Nat=>(i:Int)).Nodup:=by
  have:(List.range lg).Nodup:=a3u;exact List.pairwise_map.2 (this.imp λhne e=>hne (by omega))
 have:=a2y (M:=X) (hsA.nodup hrn) λx hx=>by
  obtain⟨e,he,rfl⟩:=List.mem_map.1 hx;obtain⟨i,_,hi⟩:=List.mem_filterMap.1 he;have hi:=hgF i e hi;rw[V.torn_lpn hi];unfold V.tornAt at hi;split at hi
  ·rename_i hc;exact(h.torn_stand hno hT hO i hc.1 hc.2).1
  ·cases hi
 rwa [l7]at this
end GI
theorem Cm.victim_len {W:List (Int×En)} {lg k m:Nat} {S:Dv} (h:Cm W lg S) (hO:S.Ok k m) (hv:S.victim∈o0 (O2 S.t S.T) S.op S.t.b) (hc:S.T.count S.victim<S.t.p*G.slots (S.t.mask S.victim)):(S.T.ins S.victim).length<=(S.N.dies-1)*S.N.pages:=by
 have hg:=hO.gd.ok.bd16;obtain⟨v1,v2,v3,v4⟩:=mem_pkSome.1 hv;have vh:S.t.has S.victim=true:=Tl.has_iff.2 ⟨v1,v2⟩;have hcn:=hO.T.cnt S.victim;have hil:=ins_len hO.T S.victim;have hms:=a4d (h.gi.inv.msk hO vh).calm2 hg.1;have hp:=hO.t.p;have e1:G.slots (S.t.mask S.victim)=((S.N.dies-1:Nat):Int):=by rw[hms.2];omega
 have e2:S.T.count S.victim<((S.N.pages*(S.N.dies-1):Nat):Int):=by
  rw[a2a,<- e1,<- hp];exact hc
 rw[O0];omega
namespace Cm
variable {W : List (Int × En)} {lg k m : Nat} {X : List Int} {S : Dv}
theorem roomHeld (β:Nat) (h:Cm W lg S) (hT:Trn X S) (hO:S.Ok (Dv.costM+k) m) (hlg:lg<=1000) (hr:S.N.pages<=S.rows) (hβ:β+S.N.pages<=S.rows+1) (hnx:S.next<=1099511627775-4000000):
  ∃V,S.room=(V,0)/\Cm W lg V/\Trn X V/\V.Ok k m/\Kp S V/\S.rows<=V.rows/\V.next<=S.next+6400/\
   ∀(c:Nat) (kp:Int),(S.armed c kp).Ok (Dv.costM+k) m->(∃c',(S.armed c kp).room=(V.armed c' kp,0))\/∃Z X',(S.armed c kp).room=(Z,(9:Int))/\X'.length<=X.length+(S.N.dies-1)/\(∀i∈X,i∈X')/\Lf S.N W lg X' β k m (S.next+6400) Z.N:=by
 have hg:=hO.gd.ok.bd16;obtain⟨V,v1,v2,v3,v4,v5,v6,⟨_,⟨_,v7⟩,_⟩,v8⟩:=h.roomA (β:=β) (Q:=λ_ U=>Kp S U/\S.rows<=U.rows) (λf U k hQ hC hU _ hv hc=>by
  have hp:=hQ.1.like.pages;refine⟨U.N.pages,hC.victim_len hU hv hc,i7 _,by omega,by omega,λU' hk hr _=>⟨hQ.1.trans hk,by omega⟩⟩) hlg (λU hk hr _=>⟨hk,hr⟩) hT hO (by omega) hnx
 exact⟨V,v1,v2,v3,v4,v5,v7,v6,v8⟩
theorem roomFree (β z:Nat) (h:Cm W lg S) (hT:Trn X S) (hO:S.Ok (Dv.costM+k) m) (hlg:lg<=1000) (hcap:2*lg<=(S.N.blocks-5)*(S.N.pages*(S.N.dies-2))+1) (hh:∀b,S.t.has b=true->(S.t.at_ b).held=false) (h1:(S.N.pages+1)/2<=S.rows) (h2:5*S.N.pages<=S.rows+S.N.blocks*(S.N.pages/2)+z) (hβ:β+(S.N.pages+1)/2<=S.rows+1) (hnx:S.next<=1099511627775-4000000):
  ∃V,S.room=(V,0)/\Cm W lg V/\Trn X V/\V.Ok k m/\Kp S V/\(5*S.N.pages<=V.rows+z/\S.rows<=V.rows)/\V.next<=S.next+6400/\
   ∀(c:Nat) (kp:Int),(S.armed c kp).Ok (Dv.costM+k) m->(∃c',(S.armed c kp).room=(V.armed c' kp,0))\/∃Z X',(S.armed c kp).room=(Z,(9:Int))/\X'.length<=X.length+(S.N.dies-1)/\(∀i∈X,i∈X')/\Lf S.N W lg X' β k m (S.next+6400) Z.N:=by
 have hg:=hO.gd.ok.bd16;have hrm:∀(U:Dv) (k:Nat),Cm W lg U->U.Ok k m->Kp S U->Rmy (-2) W U:=λU k hC hU hk=>by
  refine⟨hC.gi.inv,hC.gi.hd,hC.gi.wok,λb hb=>by rw[hk.has]at hb;rw[hk.held b hb];exact hh b hb,?_⟩;have e1:U.T.at_.length=W.length:=by have:=congrArg List.length hC.gi.hd.keys;simpa using this
  have e2:=b3m hU.T;rw[hC.log]at e2;rw[hk.like.blocks,hk.like.pages,hk.like.dies];omega
 obtain⟨V,v1,v2,v3,v4,v5,v6,⟨f',⟨q1,q2,q3,q4⟩,q5⟩,v8⟩:=h.roomA (β:=β) (Q:=λf U=>Kp S U/\o0 (C3 U.t U.T) U.op U.t.b=[]/\S.rows<=U.rows/\5*S.N.pages<=U.rows+f*(S.N.pages/2)+z) (λf U k hQ hC hU hfr hv hc=>by
  obtain⟨b1,b2,b3,b4⟩:=hQ;obtain⟨_,_,_,_,_,a6,_⟩:=(hrm U k hC hU b1).victim hU b2 hfr;have hil:=ins_len hU.T U.victim;have hp:=b1.like.pages;have hd:=b1.like.dies;rw[hp,hd]at a6;have e1:S.N.pages*(S.N.dies-2)<=(2*((S.N.pages+1)/2))*(S.N.dies-1):=R1 (by omega) (by omega);have e2:(2*((S.N.pages+1)/2))*(S.N.dies-1)=2*((S.N.dies-1)*((S.N.pages+1)/2)):=by rw[Nat.mul_assoc,O0 (_/2)]
  rw[K6 f]at b4;refine⟨(S.N.pages+1)/2,by rw[hd];omega,by omega,by omega,by omega,λU' hk hr hs=>⟨b1.trans hk,hs λb hb=>by rw[b1.has]at hb;rw[b1.held b hb];exact hh b hb,by omega,by omega⟩⟩) hlg (λU hk hr hs=>⟨hk,hs hh,hr,by rw[show S.t.b=S.N.blocks from hO.t.b];omega⟩) hT hO (by omega) hnx
 refine⟨V,v1,v2,v3,v4,v5,⟨?_,q3⟩,v6,v8⟩;have hR:=hrm V k v2 v4 v5
 by_cases hfr:(V.free:Int)>4
 ·have:=hR.many v4 hfr;rw[v5.like.pages]at this;omega
 ·obtain⟨a1,_,_,_,_,_,a7⟩:=hR.victim v4 q2 hfr;rcases q5 with rfl | x | x | x
  ·omega
  ·exact absurd x hfr
  ·omega
  ·omega
end Cm
theorem Dv.tornGo_nil (f:Nat) (S:Dv):Dv.tornGo f S []=(S,0):=by
 cases f with
 | zero=>rfl
 | succ f=>rw[Dv.tornGo,d8 (show([]:List En).length=0 from rfl)]
namespace Cm
variable {W : List (Int × En)} {lg k m : Nat} {X : List Int} {S : Dv}
theorem tornA {β:Nat} (hlg:lg<=1000):∀(f:Nat) (S:Dv) (E:List En) (r k β1:Nat),Cm W lg S->Trn (E.map (·.lpn)) S->S.Ok (Dv.costT*f+k) m->E.length<=f->Ent lg E->(∀e∈E,∃w sq,Tb.look W e.lpn=some w/\e={w with seq:=sq})->E.length<=(S.N.dies-1)*r->S.N.pages+r<=S.rows+1->β+S.N.pages+r<=S.rows+2->β1+S.N.pages<=S.rows+1->S.next+6500*(f:Int)<=1099511627775-5000000->
  ∃V,Dv.tornGo f S E=(V,0)/\Cm W lg V/\Trn [] V/\V.Ok k m/\Kp S V/\S.rows<=V.rows+r/\V.next<=S.next+6500*(f:Int)/\
   ∀(c:Nat) (kp:Int),(S.armed c kp).Ok (Dv.costT*f+k) m->(∃c',Dv.tornGo f (S.armed c kp) E=(V.armed c' kp,0))\/∃Z X',Dv.tornGo f (S.armed c kp) E=(Z,(9:Int))/\(X'.length<=E.length\/X'.length<=E.length+(S.N.dies-1)/\Lf S.N W lg X' β1 k m (S.next+6500*(f:Int)) Z.N)/\Lf S.N W lg X' β k m (S.next+6500*(f:Int)) Z.N
 | f,S,[],r,k,β1,h,hT,hO,_,_,_,_,_,_,_,_=>by
  exact⟨S,Dv.tornGo_nil f S,h,hT,hO.less (by omega),Kp.refl S,by omega,by omega,λc kp _=> .inl ⟨c,Dv.tornGo_nil f _⟩⟩
 | 0,S,_::_,r,k,β1,_,_,_,hL,_,_,_,_,_,_,_=>absurd hL (by simp)
 | f+1,S,e0::E0,r,k,β1,h,hT,hO,hL,hE,hm,hlen,hr,hβ,hβ1,hnx=>by
  obtain⟨E,hEE⟩:∃E,e0::E0=E:=⟨_,rfl⟩;have hl0:E.length≠0:=by rw[<- hEE];simp
  rw[hEE]at hT hL hE hm hlen ⊢;clear hEE;have hg:=hO.gd.ok.bd16;have hr1:1<=r:=by
   rcases P5 r with e | e
   ·subst e;omega
   ·exact e
  have hct:Dv.costT*(f+1)+k=Dv.costM+(8*Dv.fuel+(Dv.costT*f+k)):=by
   rw[H3];unfold Dv.costT Dv.cost;omega
  rw[hct]at hO;obtain⟨U,u1,u2,u3,u4,u5,u6,u7,u8⟩:=h.roomHeld (max β β1) hT hO hlg (by omega) (by omega) (by omega);obtain⟨V,n,p0,p1,p2,p3,p4,p5,p6,p7,_,_,_,_,_,p13⟩:=u2.pen0 (k:=Dv.costT*f+k) u3 u4 (by omega) hE hl0 (by omega);have hn:n<=E.length:=by omega
  have hdies:=u5.like.dies;have hdies2:=p6.like.dies;have hpp:=u5.like.pages;have hpp2:=p6.like.pages;have hE':∀j,j<E.length->∃e sq,Tb.look W (E.getD j En.zero).lpn=some e/\E.getD j En.zero={e with seq:=sq}:=λj hj=>hm _ (U9 hj);have hdisj:=a4g hE.2 hn;have hCV:Cm W lg V:=⟨p2.gi.swap h.gi.wok (λj hj=>hE' j (by omega)) hdisj,p2.no,p2.log⟩;have hdl:(E.drop n).length=E.length-n:=C1;have hTV:Trn ((E.drop n).map (·.lpn)) V:=p3 _ λi hi=>by
   obtain⟨e,he,rfl⟩:=List.mem_map.1 hi;rw[<- C9 n E]at he;rcases List.mem_append.1 he with h1 | h1
   ·obtain⟨j,hj,hje⟩:=List.mem_iff_getElem.1 h1;rw[j9]at hj;refine .inr ⟨j,by omega,?_⟩;rw[d7,c9 (by omega),j3,<- hje,a0a]
   ·exact .inl (L6 h1)
  have hmul:(S.N.dies-1)*r=(S.N.dies-1)*(r-1)+(S.N.dies-1):=by
   obtain⟨z,rfl⟩:∃z,r=z+1:=⟨r-1,by omega⟩;rw[H3];rfl
  obtain⟨Y,r1,r2,r3,r4,r5,r6,r7,r8⟩:=tornA (β:=β) hlg f V (E.drop n) (r-1) k 0 hCV hTV p4 (by omega) ⟨λe he=>hE.1 e (V1 he),hE.2.sublist ((List.drop_sublist _ _).map _)⟩ (λe he=>hm e (V1 he)) (by rw[hdies2,hdies];omega) (by omega) (by omega) (by omega) (by omega);have hk:=u5.trans p6;have hA0:∀S:Dv,Dv.tornGo (f+1) S E=(let r:=S.room;if r.2≠0 then r else let w:=r.1.pen E;if w.2.2≠0 then(w.1,w.2.2)else Dv.tornGo f w.1 (E.drop w.2.1.toNat)):=λS=>by rw[Dv.tornGo,d6 hl0]
  refine⟨Y,?_,r2,r3,r4,hk.trans r5,by omega,by omega,λc kp hA=>?_⟩
  ·rw[hA0,u1];dsimp only;rw[d6 (by decide),p1];dsimp only;rw[d6 (by decide),j4];exact r1
  ·rw[hct]at hA;have hkR:=Dv.room_keep hA;rw[hA0];rcases u8 c kp hA with⟨c',hc⟩ | ⟨Z,X',z1,z2,z3,z4⟩
   ·rw[hc]at hkR ⊢;have hkP:=Dv.pen_keep hkR.1 (λe he=>(hE.1 e he).1.len);dsimp only at hkP ⊢;rw[d6 (by decide)];rcases p13 c' kp hkR.1 with⟨c2,hc2⟩ | ⟨Z,p,z1,z2,z3⟩
    ·rw[hc2]at hkP ⊢;dsimp only;rw[d6 (by decide),j4];rcases r8 c2 kp hkP.1 with q | ⟨Z,X',z1,z2,z3⟩
     ·exact .inl q
     ·refine .inr ⟨Z,X',z1, .inl ?_,z3.kp hk (λ_ h=>h) (i7 _) (i7 _) (by omega)⟩;rw[hdies2,hdies]at z2
      by_cases hd0:E.drop n=[]
      ·rw[hd0,Dv.tornGo_nil]at z1;injection z1 with _ z1;cases z1
      ·have:=List.length_pos_iff.2 hd0;omega
    ·rw[z1];dsimp only;rw[d8 (by decide)];refine .inr ⟨Z,E.map (·.lpn),rfl, .inl (by rw[l7];omega),?_⟩;have:=(z3 (E.map (·.lpn)) (λi hi=>hi) (λj hj=>L6 (U9 (by omega)))).swap h.gi.wok (λj hj=>hE' j (by omega)) (λi j hij hj=>hdisj i j hij (by omega));exact this.kp u5 (λ_ h=>h) (by omega) (by omega) (by omega)
   ·rw[z1];dsimp only;rw[d8 (by decide)];have hm:=λβ (h:β<=_)=>z4.mono (β':=β) (k':=k) (nx':=S.next+6500*((f+1:Nat):Int)) ⟨Nand.Like.refl _,rfl,rfl⟩ (λ_ h=>h) h (by omega) (by omega);exact .inr ⟨Z,X',rfl, .inr ⟨by rw[l7]at z2;omega,hm β1 (Nat.le_max_right _ _)⟩,hm β (Nat.le_max_left _ _)⟩
end Cm
structure Fq (W:List (Int×En)) (lg:Nat) (F:Fv):Prop where
 fi:FI (-2) W lg F
 cm:Cm W lg F.S
 trn:Trn [] F.S
 held:∀b,F.S.t.has b=true->(F.S.t.at_ b).held=false
 rows:5*F.S.N.pages<=F.S.rows+1
 cap:2*lg<=(F.S.N.blocks-5)*(F.S.N.pages*(F.S.N.dies-2))+1
def mtA (E:List En) (H:List Int) (A:Dv):Dv×Int:=if(A.torn E).2≠0 then A.torn E else if((A.torn E).1.holds H false).clear.2≠0 then((A.torn E).1.holds H false).clear else((A.torn E).1.holds H false).clear.1.room
theorem b1F {N:Nand} {s:Scd} {E:List En} (h:V.scan N (lgN N.dies N.blocks N.pages)=s) (h1:s.torn=E) (h2:s.first=E.length):G9 N=mtA E s.held ((Dv.mt0 N).holds s.held true):=by
 rw[a7V];dsimp only;rw[h,h1,h2,S8,List.drop_length];unfold mtA;split
 ·rfl
 split
 ·rfl
 rfl
namespace Cm
variable {W : List (Int × En)} {lg k m : Nat} {X : List Int} {S : Dv}
theorem mount_prep (h:Cm W lg S) (hT:Trn X S) (hO:S.Ok k m) (hlg:lgN S.N.dies S.N.blocks S.N.pages=lg):
  ∃(s:Scd) (W':List (Int×En)) (E:List En) (A:Dv),V.scan S.N (lgN S.N.dies S.N.blocks S.N.pages)=s/\s.torn=E/\s.first=E.length/\(Dv.mt0 S.N).holds s.held true=A/\E.length<=X.length/\(∀e∈E,e.lpn∈X)/\Cm W' lg A/\Trn (E.map (·.lpn)) A/\A.Ok k m/\Ent lg E/\(∀e∈E,∃w sq,Tb.look W' e.lpn=some w/\e={w with seq:=sq})/\(∀i,Tb.look W' i=Tb.look W i)/\S.N.pages*S.t.blanks<=A.rows/\A.N=S.N/\A.next<=S.next/\A.op= -1/\∀b,A.t.has b=true->b∉s.held->(A.t.at_ b).held=false:=by
 have hl2:=a1f hO.gd.ok;have hn1:=hO.next;have hnle:=h.gi.next_le hO;have hlogS:S.T.logical=(lgN S.N.dies S.N.blocks S.N.pages:Int):=by rw[hlg];exact h.log
 obtain⟨W',w1,w2,w3,w4,w5⟩:=h.gi.mt0 hO hlogS;have hO0:(Dv.mt0 S.N).Ok k m:=Dv.Ok.mt0 hO.gd;have hC0:Cm W' lg (Dv.mt0 S.N):=⟨w3,⟨h.no.dead,h.no.plan,h.no.met,h.no.fl⟩,by rw[Dv.mt0_log hO.gd,hlg]⟩;obtain⟨s1,s2⟩:=V.goS_fb (N:=S.N) (L:=V.all S.N) (lg:Int) lg;have hsz:V.size (lg:Int)=lg:=by unfold V.size;omega
 have hfew:=h.gi.torn_few h.no hT hO lg;have htorn:=h.gi.torn_stand h.no hT hO;obtain⟨E,hE⟩:∃E,(List.range lg).filterMap (V.tornF S.N (V.all S.N))=E:=⟨_,rfl⟩;have hEB:(List.range lg).filterMap (V.tornB S.N (V.all S.N))=[]:=by
  rw[List.filterMap_eq_nil_iff];intro i _;unfold V.tornB;split
  ·rfl
  ·rename_i hl;unfold V.tornAt;rw[d6];rintro⟨x1,x2⟩;exact hl (htorn i x1 x2).2
 rw[hE]at s1 hfew;rw[hEB]at s2;have hmF:∀i e,V.tornF S.N (V.all S.N) i=some e->V.tornAt (V.all S.N) i=some e:=λi e he=>by
  unfold V.tornF at he;split at he
  ·exact he
  ·cases he
 have hsA:=b0j (g:=V.tornF S.N (V.all S.N)) (λi e he=>V.torn_lpn (hmF i e he)) lg;rw[hE]at hsA;have hrn:((List.range lg).map λi:Nat=>(i:Int)).Nodup:=by
  have:(List.range lg).Nodup:=a3u;exact List.pairwise_map.2 (this.imp λhne e=>hne (by omega))
 have hm:∀e∈E,(FitR e/\e.lpn<(lg:Int))/\e.lpn∈X/\∃w sq,Tb.look W' e.lpn=some w/\e={w with seq:=sq}:=λe he=>by
  rw[<- hE,a2n]at he;obtain⟨i,hi,hie⟩:=he;have hi:=List.mem_range.1 hi;have hie:=hmF i e hie;have hlp:=V.torn_lpn hie;unfold V.tornAt at hie;split at hie
  ·rename_i hc;injection hie with hie;cases ha:Tb.look S.T.at_ (i:Int)with
   | none=>have:=hc.1;rw[h.gi.stand_none hO ha]at this;cases this
   | some a=>
    obtain⟨w,f,g1,g2,_,g4,_⟩:=h.gi.stand hO ha;rw[g2]at hie;have i3:e={w with seq:=a.seq}:=hie.symm.trans g4;have hwk:=h.gi.wok _ w g1;exact⟨⟨by rw[i3];exact⟨hwk.2.lpn,hwk.2.role,hwk.2.len⟩,by omega⟩,by rw[hlp];exact(htorn i hc.1 hc.2).1,w,a.seq,by rw[hlp,w1];exact g1,i3⟩
  ·cases hie
 obtain⟨s,hs⟩:∃s,V.scan S.N (lgN S.N.dies S.N.blocks S.N.pages)=s:=⟨_,rfl⟩;have hst:s.torn=E:=by
  rw[<- hs,hlg];show(V.goS S.N (V.all S.N) lg (V.size lg)).torn++(V.goS S.N (V.all S.N) lg (V.size lg)).others=E;rw[hsz,s1,s2,m6]
 have hsf:s.first=E.length:=by
  rw[<- hs,hlg];show(V.goS S.N (V.all S.N) lg (V.size lg)).torn.length=E.length;rw[hsz,s1]
 obtain⟨a1,a2,a3⟩:=hC0.holds hO0.t s.held true;refine⟨s,W',E,_,hs,hst,hsf,rfl,hfew,λe he=>(hm e he).2.1,a1,⟨λi a' ha'=>?_⟩,hO0.holds s.held true,⟨λe he=>(hm e he).1,hsA.nodup hrn⟩,λe he=>(hm e he).2.2,w1,?_,rfl,?_,rfl,λb hb hn=>?_⟩
 ·have ha':Tb.look (Dv.mt0 S.N).T.at_ i=some a':=ha';obtain⟨a,ha,_⟩:=w5 i a' ha';obtain⟨_,t2⟩:=h.gi.table hO hlogS i;obtain⟨w,f,b,x1,x2,x3,x4,x5,x6,x7,x8⟩:=t2 a ha;rw[ha']at x5;injection x5 with x5;subst x5;rw[x6];rcases hT.each i a ha with⟨l',hF⟩ | ⟨t1,t2,t3⟩
  ·exact .inl ⟨l',hF⟩
  ·have hi:=hO.T.rng _ (Tb.look_mem ha);rw[h.log]at hi;obtain⟨l0,f1,_⟩:=(h.gi.inv.st i a ha).row;have hbk:=f1.is.blk;refine .inr ⟨?_,λe=>by have e:a.block= -1:=e;omega,t3.after,t3.par⟩;obtain⟨j,rfl⟩:=f9 hi.1;have hw:f.whole=false:=by rw[x8,l8];exact t3.par
   have hl:=(htorn j (by rw[x2]) (by rw[x2];exact hw)).2;refine List.mem_map.2 ⟨f.en,?_,by rw[x4];exact(h.gi.wok _ w x1).1⟩;rw[<- hE,a2n];refine⟨j,List.mem_range.2 (by omega),?_⟩;unfold V.tornF V.tornAt;rw[d8 hl,x2,d8 ⟨rfl,hw⟩]
 ·rw[a2];exact h.gi.inv.mt_blanks hO
 ·show(Dv.mt0 S.N).next<=_;omega
 ·have hb0:(Dv.mt0 S.N).t.has b=true:=by rw[<- (a5h true s.held (Dv.mt0 S.N).t hO0.t.len).1.has b];exact hb
  rw[(a3 b hb0).2,d6 hn];exact w4 b hb0
theorem mountG {r R:Nat} (h:Cm W lg S) (hT:Trn X S) (hO:S.Ok (Dv.costK+k) m) (hlg:lgN S.N.dies S.N.blocks S.N.pages=lg) (hR:S.N.pages*S.t.blanks=R) (hX:X.length<=(S.N.dies-1)*r) (hr:S.N.pages+r<=R+1) (hx10:X.length<=100)
  (hroom:∀(W':List (Int×En)) (U:Dv),Cm W' lg U->Trn [] U->U.Ok (Dv.costM+k) m->S.N.Like U.N->(∀b,U.t.has b=true->(U.t.at_ b).held=false)->R<=U.rows+r->U.next<=1099511627775-4000000->∃V,U.room=(V,0)/\Cm W' lg V/\Trn [] V/\V.Ok k m/\Kp U V/\5*U.N.pages<=V.rows+1/\V.next<=U.next+6400) (hnx:S.next<=1099511627775-60000000):
  ∃V W',G9 S.N=(V,0)/\Cm W' lg V/\Trn [] V/\V.Ok k m/\(∀i,Tb.look W' i=Tb.look W i)/\(∀b,V.t.has b=true->(V.t.at_ b).held=false)/\5*S.N.pages<=V.rows+1/\V.next<=S.next+4000000/\V.N.dead=S.N.dead/\V.N.broken=S.N.broken/\S.N.Like V.N:=by
 obtain⟨s,W',E,A,a1,a2,a3,a4,a5,a6,a7,a8,a9,a10,a11,a12,a13,a14,a15,a16,a17⟩:=h.mount_prep hT hO hlg;have hl2:=a1f hO.gd.ok;have hct:Dv.costT*E.length<=Dv.costT*200:=y9 _ (by omega);have hd:A.N.dies=S.N.dies:=by rw[a14]
 have hp:A.N.pages=S.N.pages:=by rw[a14]
 obtain⟨Y,y1,y2,y3,y4,y5,y6,y7,_⟩:=tornA (β:=0) (by omega) E.length A E r (96+(Dv.costM+k)) 0 a7 a8 (a9.less (by unfold Dv.costK;omega)) (i7 _) a10 a11 (by rw[hd];omega) (by omega) (by omega) (by omega) (by omega);obtain⟨b1,b2,b3⟩:=y2.holds y4.t s.held false;obtain⟨Z,hZ⟩:∃Z,Y.holds s.held false=Z:=⟨_,rfl⟩;have bO:=y4.holds s.held false;have hZN:Z.N=Y.N:=by rw[<- hZ];rfl
 have hZn:Z.next=Y.next:=by rw[<- hZ];rfl
 have hTZ:Trn [] Z:=by rw[<- hZ];exact y3.moved y2.gi.inv rfl (.inl rfl) (Nand.Like.refl _) rfl rfl λ_ _ _ _ _=>rfl
 have hheld:∀b,Z.t.has b=true->(Z.t.at_ b).held=false:=λb hb=>by
  rw[<- hZ]at hb ⊢;have hb:Y.t.has b=true:=by rw[<- (a5h false s.held Y.t y4.t.len).1.has b];exact hb
  rw[(b3 b hb).2];split
  ·rfl
  ·rename_i hn;rw[y5.has]at hb;rw[y5.held b hb];exact a17 b hb hn
 rw[hZ]at b1 b2 bO;obtain⟨U,u1,u2,u3,u4,u5,u6,u7,u8,u9,u10,_⟩:=b1.clear0 (k:=Dv.costM+k) hTZ bO;have hlk:S.N.Like U.N:=by rw[<- a14];exact y5.like.trans (by rw[<- hZN];exact u5.like)
 obtain⟨V,v1,v2,v3,v4,v5,v6,v7⟩:=hroom W' U u2 u3 u4 hlk (λb hb=>by rw[u5.has]at hb;rw[u5.held b hb];exact hheld b hb) (by omega) (by omega);refine⟨V,W',?_,v2,v3,v4,a12,λb hb=>?_,by rw[<- hlk.pages];exact v6,by omega,?_,?_,hlk.trans v5.like⟩
 ·rw[b1F a1 a2 a3,a4];have y1:A.torn E=(Y,0):=y1;unfold mtA;rw[y1];dsimp only;rw[d6 (by decide),hZ,u1];dsimp only;rw[d6 (by decide)];exact v1
 ·rw[v5.has,u5.has]at hb;rw[v5.held b (by rw[u5.has];exact hb),u5.held b hb];exact hheld b hb
 ·rw[v5.dead,u5.dead,hZN,y5.dead,a14]
 ·rw[v5.broken,u5.broken,hZN,y5.broken,a14]
end Cm
end Go.Proofs.YtmafiplddapokaaGreat
