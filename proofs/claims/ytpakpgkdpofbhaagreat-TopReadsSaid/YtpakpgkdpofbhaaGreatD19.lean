/- Helpers. No condition. -/
import Derived.Test.YtpakpgkdpofbhaaGreatD20
import Derived.Test.YtpakpgkdpofbhaaGreatD00
import Derived.Test.YtpakpgkdpofbhaaGreatD04
import Derived.Test.YtpakpgkdpofbhaaGreatD12
import Derived.Test.YtpakpgkdpofbhaaGreatD14
import Derived.Test.YtpakpgkdpofbhaaGreatD15
import Derived.Test.YtpakpgkdpofbhaaGreatD16
import Derived.Test.YtpakpgkdpofbhaaGreatD17
import Derived.Test.YtpakpgkdpofbhaaGreatD18
import Derived.Test.YtpakpgkdpofbhaaGreatRows
import Derived.JoinedOf
set_option maxRecDepth 20000
set_option linter.all false
namespace Go.Proofs.YtpakpgkdpofbhaaGreat
open Go Go.RowKit
structure FdCh (fd:Nat) (N N':Nand):Prop where
 like:N.Like N'
 off:N'.off=N.off
 cuts:N'.cuts=N.cuts
 broken:N'.broken=N.broken
 dead:∀i:Nat,i≠fd->N'.dead.getD i false=N.dead.getD i false
 dead2:N'.dead.getD fd false=false->N.dead.getD fd false=false
 plan:∀a∈N'.plan,a∈N.plan\/a.1=(fd:Int)
 blk:∀i j:Nat,i≠fd->N'.blk i j=N.blk i j
 len:∀j:Nat,(N'.blk fd j).cells.length=(N.blk fd j).cells.length
 cell:∀(j r:Nat) (c:NCell),(N'.blk fd j).cells[r]? =some c->∃c0,(N.blk fd j).cells[r]? =some c0/\∀s,X8 s c0->X8 s c
namespace FdCh
variable {fd : Nat} {N N' : Nand}
theorem refl (fd:Nat) (N:Nand):FdCh fd N N:=⟨Nand.Like.refl _,rfl,rfl,rfl,λ_ _=>rfl,λh=>h,λ_ h=> .inl h,λ_ _ _=>rfl,λ_=>rfl,λ_ _ c h=>⟨c,h,λ_ h=>h⟩⟩
theorem same_blk (like:N.Like N') (off:N'.off=N.off) (cuts:N'.cuts=N.cuts) (broken:N'.broken=N.broken) (hd:∀i:Nat,i≠fd->N'.dead.getD i false=N.dead.getD i false) (hd2:N'.dead.getD fd false=false->N.dead.getD fd false=false) (plan:∀a∈N'.plan,a∈N.plan\/a.1=(fd:Int)) (hb:∀i j,N'.blk i j=N.blk i j\/i=fd/\(N'.blk i j).cells=(N.blk i j).cells):FdCh fd N N':=by
 refine⟨like,off,cuts,broken,hd,hd2,plan,λi j hi=>?_,λj=>?_,λj r c hc=>?_⟩
 ·rcases hb i j with h | ⟨h,_⟩
  ·exact h
  ·exact absurd h hi
 ·rcases hb fd j with h | ⟨_,h⟩
  ·rw[h]
  ·rw[h]
 ·refine⟨c,?_,λ_ h=>h⟩;rcases hb fd j with h | ⟨_,h⟩
  ·rw[<- h];exact hc
  ·rw[<- h];exact hc
theorem cellCh {y z:Int} (f:NCell->NCell) (hf:∀c,N.pageAt (fd:Int) y z=some c->∀s,X8 s c->X8 s (f c)):FdCh fd N (N.setCell (fd:Int) y z f):=by
 have hb:∀i j,(N.setCell (fd:Int) y z f).blk i j=if i=fd/\j=y.toNat then {N.blk fd y.toNat with cells:=(N.blk fd y.toNat).cells.modify z.toNat f}else N.blk i j:=λi j=>by
  show(if i=(fd:Int).toNat/\j=y.toNat then _ else _)=_;rw[j3]
 refine⟨⟨rfl,rfl,rfl⟩,rfl,rfl,rfl,λ_ _=>rfl,λh=>h,λ_ h=> .inl h,λi j hi=>by rw[hb,f8 (λh=>hi h.1)],λj=>?_,λj r c hc=>?_⟩
 ·rw[hb];split
  ·rename_i h;rw[h.2];show((N.blk fd y.toNat).cells.modify z.toNat f).length=_;rw[K4]
  ·rfl
 ·rw[hb]at hc;split at hc
  ·rename_i h;rw[h.2];have hc:((N.blk fd y.toNat).cells.modify z.toNat f)[r]? =some c:=hc;rw[V1]at hc;cases h0:(N.blk fd y.toNat).cells[r]? with
   | none=>rw[h0]at hc;cases hc
   | some c0=>
    rw[h0]at hc;refine⟨c0,rfl,λs hs=>?_⟩
    by_cases hz:z.toNat=r
    ·have hc:some (if z.toNat=r then f c0 else c0)=some c:=hc;rw[f9 hz]at hc;injection hc with hc;rw[<- hc];refine hf c0 ?_ s hs;unfold Nand.pageAt;rw[j3,hz];exact h0
    ·have hc:some (if z.toNat=r then f c0 else c0)=some c:=hc;rw[f8 hz]at hc;injection hc with hc;rw[<- hc];exact hs
  ·exact⟨c,hc,λ_ h=>h⟩
theorem cell_lost (c:NCell) (s:Sh):X8 s {c with lost:=true}:= .inl rfl
theorem xor_zero (p:List UInt8) (n:Nat):Nand.xorAt p n 0=p:=by
 unfold Nand.xorAt;rw[UInt8.xor_zero];apply x7;intro i;rw[x5];split
 ·rename_i h;subst h;split
  ·rename_i h;rw[f7,d6 h];rfl
  ·rename_i h;rw[j8 (by omega)]
 ·rfl
theorem fault (N:Nand) (kind y z n xx:Int):FdCh fd N (N.fault kind (fd:Int) y z n xx).2:=by
 unfold Nand.fault;split
 ·exact refl fd N
 split
 ·exact same_blk ⟨rfl,rfl,rfl⟩ rfl rfl rfl (λ_ _=>rfl) (λh=>h) (λa ha=>by
   have ha:a∈Nand.addP N.plan ((fd:Int),y,z):=ha;unfold Nand.addP at ha;split at ha
   ·exact .inl ha
   ·rcases List.mem_append.1 ha with h | h
    ·exact .inl h
    ·simp at h;rw[h];exact .inr rfl) (λ_ _=> .inl rfl)
 split
 ·exact same_blk ⟨rfl,rfl,rfl⟩ rfl rfl rfl (λ_ _=>rfl) (λh=>h) (λ_ h=> .inl h) (λi j=>by
   show(if i=(fd:Int).toNat/\j=y.toNat then _ else _)=_\/_;rw[j3]
   by_cases e:i=fd/\j=y.toNat
   ·right;refine⟨e.1,?_⟩;show(if i=(fd:Int).toNat/\j=y.toNat then _ else _:NBlock).cells=_;rw[j3,f9 e,e.1,e.2]
   ·left;rw[f8 e])
 split
 ·exact cellCh _ λc _ s _=>cell_lost c s
 split
 ·exact same_blk ⟨rfl,rfl,rfl⟩ rfl rfl rfl (λi hi=>by
   show(N.dead.set (fd:Int).toNat true).getD i false=_;rw[f7,x5,f8 (by omega),<- f7]) (λh=>by
   have h:(N.dead.set (fd:Int).toNat true).getD fd false=false:=h;rw[f7,x5,f9 (by omega)]at h;rw[f7];split at h
   ·cases h
   ·rename_i hlt;rw[j8 (by omega)];rfl) (λ_ h=> .inl h) (λ_ _=> .inl rfl)
 split
 ·split
  ·exact refl fd N
  ·rename_i hn;cases hp:N.pageAt (fd:Int) y z with
   | none=>exact refl fd N
   | some c=>
    dsimp only;split
    ·exact refl fd N
    split
    ·exact refl fd N
    ·rename_i ht hl;refine cellCh _ λc' hc' s hs=>?_;rw[hp]at hc';injection hc' with hc';subst hc';rcases hs with h | h | ⟨h,_⟩
     ·exact absurd h hl
     ·obtain⟨x,hx⟩:∃x,UInt8.ofNat (xx % 256).toNat=x:=⟨_,rfl⟩;show X8 s {c with p:=Nand.xorAt c.p n.toNat (UInt8.ofNat (xx % 256).toNat),turned:=true};rw[hx]
      by_cases h0:x=0
      ·rw[h0];exact .inr (.inl (by show Nand.xorAt c.p n.toNat 0=W0 s;rw[xor_zero];exact h))
      ·exact .inr (.inr ⟨rfl, .inl ⟨n.toNat,x,by omega,h0,by show Nand.xorAt c.p n.toNat x=_;rw[h]⟩⟩)
     ·exact absurd h ht
 ·exact refl fd N
end FdCh
theorem Inv.changed {S:Dv} {fd:Nat} {N':Nand} (h:Inv fd S) (c:FdCh fd S.N N'):Inv fd {S with N:=N'}/\∀i a,Std fd S i a->Std fd {S with N:=N'} i a/\R.read N' a.block a.row a.slot a.mask=R.read S.N a.block a.row a.slot a.mask:=by
 have hoff:N'.off=false:=c.off.trans h.lit.off;have hdead:∀i:Nat,(i:Int)≠fd->N'.dead.getD i false=false:=λi hi=>by rw[c.dead i (by omega)];exact h.dead i hi
 have hpage:∀(d b r:Int),d.toNat≠fd->N'.pageAt d b r=S.N.pageAt d b r:=λd b r hd=>by
  unfold Nand.pageAt;rw[c.blk _ _ hd]
 have hfull:∀b r m l,Full fd S.N b r m l->Full fd N' b r m l:=λb r m l hF=>by
  refine⟨hF.is.like c.like,λx hx hne=>?_,λx hx y hy=>?_⟩
  ·obtain⟨t,ht⟩:=hF.good x hx hne;have:=(hF.is.inn x hx).1;exact⟨t,by rw[hpage _ _ _ (by omega)];exact ht⟩
  ·by_cases e:x.1.toNat=fd
   ·unfold Nand.pageAt at hy;rw[e]at hy;obtain⟨c0,h1,h2⟩:=c.cell _ _ y hy;refine h2 _ (hF.inn x hx c0 ?_);unfold Nand.pageAt;rw[e];exact h1
   ·rw[hpage _ _ _ e]at hy;exact hF.inn x hx y hy
 have hstd:∀i a,Std fd S i a->Std fd {S with N:=N'} i a/\R.read N' a.block a.row a.slot a.mask=R.read S.N a.block a.row a.slot a.mask:=λi a ha=>by
  obtain⟨l,g1,g2,g3,g4⟩:=ha.row;have hk:=hfull _ _ _ _ g1;have r1:=hk.read hoff hdead g3;have r2:=g1.read h.lit.off h.dead g3;rw[show((a.slot.toNat:Nat):Int)=a.slot from by omega]at r1 r2;exact⟨⟨⟨l,hk,g2,g3,g4⟩,ha.used,ha.below,ha.seq⟩,by rw[r1,r2]⟩
 have hlen:∀d j:Nat,(N'.blk d j).cells.length=(S.N.blk d j).cells.length:=λd j=>by
  by_cases e:d=fd
  ·rw[e];exact c.len j
  ·rw[c.blk d j e]
 refine⟨⟨⟨hoff,c.cuts.trans h.lit.cuts⟩,hdead,λa ha=>?_,λi j hi=>?_,h.tdead,h.tbad,?_,λb hb hu d hd=>?_,λi a ha=>(hstd i a (h.st i a ha)).1⟩,hstd⟩
 ·rcases c.plan a ha with e | e
  ·exact h.plan a e
  ·exact e
 ·show(N'.blk i j).met=false/\(N'.blk i j).fails=false;rw[c.blk i j (by omega)];exact h.flags i j hi
 ·rcases h.op with e | e
  ·exact .inl e
  ·refine .inr ⟨by have:=e.blk;show 0<=S.op/\S.op<(N'.blocks:Int);rw[c.like.blocks];exact this,e.used,by have:=e.row;show 0<=S.row/\S.row<=(N'.pages:Int);rw[c.like.pages];exact this,by have:=e.mask;show Msk N'.dies fd S.mask;rw[c.like.dies];exact this,λd hd=>?_⟩;have h1:=e.cells d hd;show((N'.blk d S.op.toNat).cells.length:Int)<=S.row/\(N'.dead.getD d false=false->((N'.blk d S.op.toNat).cells.length:Int)=S.row);rw[hlen];refine⟨h1.1,λhdd=>h1.2 ?_⟩
   by_cases e2:d=fd
   ·rw[e2]at hdd ⊢;exact c.dead2 hdd
   ·rw[<- c.dead d e2];exact hdd
 ·have h1:=h.blank b hb hu d hd;have h2:=hlen d b.toNat
  rw[h1]at h2;exact j9 h2
def V.tornAt (L:List Fnd) (i:Nat):Option En:=if(V.standOf (V.of L i)).2=true/\(V.standOf (V.of L i)).1.whole=false then some (V.standOf (V.of L i)).1.en else none
theorem V.torn_lpn {L:List Fnd} {i:Nat} {e:En} (h:V.tornAt L i=some e):e.lpn=(i:Int):=by
 unfold V.tornAt at h;split at h
 ·rename_i hc;injection h with h;have:=(List.mem_filter.1 (V.standOf_mem hc.1)).2;rw[<- h];exact a2E this
 ·cases h
theorem a6T:∀(k:Nat) (F:Fv),(F.L.map (·.lpn)).Nodup->Dv.tornGo k F.S F.L=((Fv.flushGo k F).1.S,(Fv.flushGo k F).2)
 | 0,F,_=>rfl
 | k+1,F,h=>by
  rw[Dv.tornGo,Fv.flushGo]
  by_cases hl:F.L.length=0
  ·rw[f9 hl,f9 hl]
  ·rw[f8 hl,f8 hl];unfold Fv.writes;dsimp only
   by_cases h0:F.S.room.2=0
   ·have n0:¬F.S.room.2≠0:=by rw[h0];simp
    rw[f8 n0,f8 n0]
    by_cases h1:(F.S.room.1.pen F.L).2.2=0
    ·have n1:¬(F.S.room.1.pen F.L).2.2≠0:=by rw[h1];simp
     rw[f8 n1,f8 n1];have ih:=a6T k ({F with S:=(F.S.room.1.pen F.L).1,L:=a0g F.L (F.L.take (F.S.room.1.pen F.L).2.1.toNat)}.told (F.S.room.1.pen F.L).2.2) (by
      show((a0g F.L (F.L.take (F.S.room.1.pen F.L).2.1.toNat)).map (·.lpn)).Nodup;exact h.sublist ((Fv.done_sub _ _).map _))
     exact(congrArg (Dv.tornGo k (F.S.room.1.pen F.L).1) (a3T h _).symm).trans ih
    ·rw[f9 h1,f9 h1];rfl
   ·rw[f9 h0,f9 h0,f9 h0];rfl
theorem DscG.any {fd:Int} {C E:En->Prop} {N:Nand} {b r:Int} (h:DscG (-1) C E N b r):DscG fd C E N b r:=by
 cases h with
 | none h=>exact .none h
 | all l h=>exact .all l h
 | but d l e _ _ _=>omega
namespace FG
variable {fd : Int} {W : List (Int × En)} {lg k m : Nat} {F : Fv}
theorem room (h:FG fd W lg F) (hO:F.S.Ok (Dv.costM+k) m) (hnx:F.S.next<=1099511627775-30000000):
  ∃V,F.S.room=(V,0)/\FG fd W lg {F with S:=V}/\V.Ok k m/\V.next<=F.S.next+6400/\V.N.broken=F.S.N.broken/\F.S.N.Like V.N/\V.N.dead=F.S.N.dead:=by
 have hg:=hO.gd.ok.bd16;have htb:=hO.t.b;obtain⟨V,β',v1,v2,v3,v4,v5,v6,v7,v8,v9,v10,v11,v12,v13⟩:=h.rmy.room (k:=k) (hO.less (by
  have:Dv.costR*F.S.t.b<=Dv.costR*16:=s8 _ (by omega);unfold Dv.costM;omega)) h.hot (by have:=h.rows;omega) (by omega) (by omega)
 obtain rfl:β'=0:=by omega
 have hmany:=v2.many v3 v4;obtain⟨hg1,hg2⟩:=h.gi.room (k:=k) hO h.hot (by have:=h.fi.log;have:=h.fi.lg2;omega) (by omega);rw[v1]at hg1;refine⟨V,v1,⟨⟨v2.inv,v2.hd,h.fi.wok,h.fi.wr,v12.trans h.fi.log,?_,h.fi.lg2,h.fi.des,h.fi.nd,h.fi.off⟩,v2,v6,by show 5*V.N.pages<=V.rows+1;omega,?_,hg1⟩,v3,v8,v10,v11,v9⟩
 ·have:=h.fi.lgn;unfold Fv.lg at this ⊢;show((lgN V.N.dies V.N.blocks V.N.pages:Nat):Int)=_;rw[v11.dies,v11.blocks,v11.pages];exact this
 ·show 2*lg<=(V.N.blocks-5)*(V.N.pages*(V.N.dies-2))+1;rw[v11.blocks,v11.pages,v11.dies];exact h.cap
theorem of (h:FG fd W lg F) (hL:F.L=[]):FG fd W lg (Fv.of F.S):=
 ⟨⟨h.fi.inv,h.fi.hd,h.fi.wok,h.fi.wr,h.fi.log,h.fi.lgn,h.fi.lg2,λe he=>(by cases he),a0n,rfl⟩,h.rmy,h.hot,h.rows,h.cap,h.gi⟩
end FG
theorem a8V {V:Dv} (h1:(V.free:Int)>4) (h2:y6 (C8 V.t V.T) V.op V.t.b=[]):V.room=(V,0):=by
 have hc:V.clear=(V,0):=by unfold Dv.clear Dv.clearX;rw[h2];rfl
 unfold Dv.room;rw[hc];dsimp only;rw[f8 (by simp)];cases hb:V.t.b with
 | zero=>rfl
 | succ n=>rw[Dv.roomGo,f9 h1]
theorem b1i {S:Dv} {N':Nand} (h:N'.pages=S.N.pages):({S with N:=N'}:Dv).rows=S.rows:=by
 unfold Dv.rows;show N'.pages*S.t.blanks+(if S.op>=0 then((N'.pages:Int)-S.row).toNat else 0)=_;rw[h]
def V.tornF (N:Nand) (L:List Fnd) (i:Nat):Option En:=if V.last N (V.standOf (V.of L i)).1=true then V.tornAt L i else none
def V.tornB (N:Nand) (L:List Fnd) (i:Nat):Option En:=if V.last N (V.standOf (V.of L i)).1=true then none else V.tornAt L i
theorem V.goS_both {N:Nand} {L:List Fnd} (h:∀i:Nat,(V.standOf (V.of L i)).2=true->(V.standOf (V.of L i)).1.whole=false->V.last N (V.standOf (V.of L i)).1=true->V.holds (V.of L i)=[]) (n:Int):∀k,(V.goS N L n k).torn=(List.range k).filterMap (V.tornF N L)/\(V.goS N L n k).others=(List.range k).filterMap (V.tornB N L)/\(V.goS N L n k).held=[]
 | 0=>⟨rfl,rfl,rfl⟩
 | k+1=>by
  obtain⟨i1,i2,i3⟩:=V.goS_both h n k;rw[V.goS_succ,u0,T5,T5,<- i1,<- i2];unfold V.step
  by_cases hs:(V.standOf (V.of L k)).2=true
  ·rw[f9 hs];cases hw:(V.standOf (V.of L k)).1.whole with
   | true=>
    rw[f9 rfl];have e:V.tornAt L k=none:=by unfold V.tornAt;rw[f8];rintro⟨_,e⟩;rw[hw]at e;cases e
    have e1:V.tornF N L k=none:=by unfold V.tornF;rw[e];split<;>rfl
    have e2:V.tornB N L k=none:=by unfold V.tornB;rw[e];split<;>rfl
    rw[H6,H6,e1,e2];exact⟨(s7 _).symm,(s7 _).symm,i3⟩
   | false=>
    have e:V.tornAt L k=some (V.standOf (V.of L k)).1.en:=by unfold V.tornAt;rw[f9 ⟨hs,hw⟩]
    rw[f8 (by decide)];cases hl:V.last N (V.standOf (V.of L k)).1 with
    | true=>
     have e1:V.tornF N L k=some (V.standOf (V.of L k)).1.en:=by unfold V.tornF;rw[hl,f9 rfl,e]
     have e2:V.tornB N L k=none:=by unfold V.tornB;rw[hl,f9 rfl]
     rw[f9 rfl,H6,H6,e1,e2];refine⟨rfl,(s7 _).symm,?_⟩;show(V.goS N L n k).held++V.holds (V.of L k)=[];rw[i3,h k hs hw hl];rfl
    | false=>
     have e1:V.tornF N L k=none:=by unfold V.tornF;rw[hl,f8 (by decide)]
     have e2:V.tornB N L k=some (V.standOf (V.of L k)).1.en:=by unfold V.tornB;rw[hl,f8 (by decide),e]
     rw[f8 (by decide),H6,H6,e1,e2];exact⟨(s7 _).symm,rfl,i3⟩
  ·rw[f8 hs];have e:V.tornAt L k=none:=by unfold V.tornAt;rw[f8];rintro⟨e,_⟩;exact hs e
   have e1:V.tornF N L k=none:=by unfold V.tornF;rw[e];split<;>rfl
   have e2:V.tornB N L k=none:=by unfold V.tornB;rw[e];split<;>rfl
   rw[H6,H6,e1,e2];exact⟨(s7 _).symm,(s7 _).symm,i3⟩
theorem a8L (N:Nand) (L:List Fnd):∀k,((List.range k).filterMap (V.tornF N L)).length+((List.range k).filterMap (V.tornB N L)).length<=k
 | 0=>j6 _
 | k+1=>by
  have ih:=a8L N L k;have h1:(V.tornF N L k).toList.length+(V.tornB N L k).toList.length<=1:=by
   unfold V.tornF V.tornB;split<;>cases V.tornAt L k<;>simp
  rw[u0,T5,T5,i4,i4];have e1:([k].filterMap (V.tornF N L)).length=(V.tornF N L k).toList.length:=by rw[H6];cases V.tornF N L k<;>rfl
  have e2:([k].filterMap (V.tornB N L)).length=(V.tornB N L k).toList.length:=by rw[H6];cases V.tornB N L k<;>rfl
  omega
theorem a9W {g:Nat->Option En} (hg:∀i e,g i=some e->e.lpn=(i:Int)):∀k,(((List.range k).filterMap g).map (·.lpn)).Sublist ((List.range k).map λi:Nat=>(i:Int))
 | 0=>a6A _
 | k+1=>by
  have ih:=a9W hg k;rw[u0,T5,x9,x9];refine ih.append ?_;rw[H6];cases he:g k with
  | none=>exact List.nil_sublist _
  | some e=>dsimp only;simp[hg k e he]
theorem a8K {S V:Dv} (h1:S.room=(V,0)) (h2:V.room=(V,0)) {E:List En} (hE:E≠[]):S.torn E=V.torn E:=by
 unfold Dv.torn;obtain⟨n,hn⟩:∃n,E.length=n+1:=by
  cases E with
  | nil=>exact absurd rfl hE
  | cons x l=>exact⟨l.length,rfl⟩
 have hne:¬E.length=0:=by omega
 rw[hn,Dv.tornGo,Dv.tornGo,f8 hne,f8 hne,h1,h2]
theorem b2C {S U:Dv} (h1:S.clear=(U,0)) (h2:U.clear=(U,0)) (hb:S.t.b=U.t.b):S.room=U.room:=by
 unfold Dv.room;rw[h1,h2,hb]
theorem b3e {V:Dv} (h2:y6 (C8 V.t V.T) V.op V.t.b=[]):V.clear=(V,0):=by unfold Dv.clear Dv.clearX;rw[h2];rfl
namespace FG
variable {fd : Int} {W : List (Int × En)} {lg k m : Nat} {V : Dv}
theorem tornL (h:FG fd W lg (Fv.of V)) {E:List En} (hE:∀e∈E,(FitR e/\e.role≠4/\e.lpn<(lg:Int))/\e.data=cur W [] e.lpn) (hnd:(E.map (·.lpn)).Nodup) (hlen:E.length<=200) (hO:V.Ok (FI.costW*E.length+k) m) (hnx:V.next<=1099511627775-50000000):
  ∃Q W2,V.torn E=(Q,0)/\FG fd W2 lg (Fv.of Q)/\(∀i,cur W2 [] i=cur W [] i)/\Q.Ok k m/\Q.next<=V.next+1400000/\Q.N.dead=V.N.dead/\Q.N.broken=V.N.broken/\V.N.Like Q.N:=by
 have hF:FG fd W lg ⟨V,E,0,false⟩:=⟨⟨h.fi.inv,h.fi.hd,h.fi.wok,h.fi.wr,h.fi.log,h.fi.lgn,h.fi.lg2,λe he=>(hE e he).1,hnd,rfl⟩,h.rmy,h.hot,h.rows,h.cap,h.gi⟩;obtain⟨F',W2,r1,r2,r3,r4,r5,r6,r7,r8,r9⟩:=FG.flush_go (k:=k) (m:=m) E.length ⟨V,E,0,false⟩ W hF hO (j6 _) (by dsimp only;omega);dsimp only at r4 r5 r6 r9;have e2:=a6T E.length ⟨V,E,0,false⟩ hnd;rw[r1]at e2;refine⟨F'.S,W2,e2,r2.of r7,λi=>?_,r3,by omega,r9,r5,r6⟩;have:=r8 i;rw[r7]at this;rw[this];unfold cur;rw[List.find?_nil];dsimp only;cases hf:E.find? (λx=>x.lpn==i)with
 | none=>rfl
 | some e=>
  have hi:e.lpn=i:=by have:=List.find?_some hf;simpa using this
  have:=(hE e (List.mem_of_find?_eq_some hf)).2;rw[hi]at this;dsimp only;rw[this];unfold cur;rw[List.find?_nil]
theorem clear(h:FG fd W lg (Fv.of V)) (hO:V.Ok (96+k) m):∃U,V.clear=(U,0)/\FG fd W lg (Fv.of U)/\U.Ok k m/\U.next=V.next/\U.N.dead=V.N.dead/\U.N.broken=V.N.broken/\V.N.Like U.N:=by
 obtain⟨U,u1,u2,u3,u4,_,u6,u7,_,u9,u10,u11,u12,u13,u14,u15⟩:=h.rmy.clear (β:=0) hO;obtain⟨U',x1,x2,_⟩:=h.gi.clear hO;have u1:V.clear=(U,0):=u1;have x1:V.clear=(U',0):=x1;rw[u1]at x1;injection x1 with x1 _;subst x1;have hr:=h.rows;have hr:5*V.N.pages<=V.rows+1:=hr;have u10:U.rows=V.rows+V.N.pages*_:=u10;have u13:V.N.Like U.N:=u13;refine⟨U,u1,⟨⟨u2.inv,u2.hd,h.fi.wok,h.fi.wr,?_,?_,h.fi.lg2,λe he=>(by cases he),a0n,rfl⟩,u2,u15 h.hot,?_,?_,x2⟩,u3,u9,u11,u12,u13⟩
 ·have:=h.fi.log;show U.T.logical=_;rw[u6];exact this
 ·have:=h.fi.lgn;unfold Fv.lg at this ⊢;show((lgN U.N.dies U.N.blocks U.N.pages:Nat):Int)=_;rw[u13.dies,u13.blocks,u13.pages];exact this
 ·show 5*U.N.pages<=U.rows+1;rw[u13.pages,u10];omega
 ·show 2*lg<=(U.N.blocks-5)*(U.N.pages*(U.N.dies-2))+1;rw[u13.blocks,u13.pages,u13.dies];exact h.cap
end FG
namespace GI
variable {fd : Int} {W : List (Int × En)} {S : Dv} {k m : Nat}
theorem mountedB (h:GI fd W S) (hR:Rmy fd W S) (hO:S.Ok (Dv.costK+k) m) (hlog:S.T.logical=(lgN S.N.dies S.N.blocks S.N.pages:Int)) (hwr:∀i e,Tb.look W i=some e->e.role≠4) (hcap:2*lgN S.N.dies S.N.blocks S.N.pages<=(S.N.blocks-5)*(S.N.pages*(S.N.dies-2))+1)
  (hh:∀i:Nat,(V.standOf (V.of (V.all S.N) i)).2=true->(V.standOf (V.of (V.all S.N) i)).1.whole=false->V.last S.N (V.standOf (V.of (V.all S.N) i)).1=true->V.holds (V.of (V.all S.N) i)=[]) (hot:Hot2 fd (Dv.mt0 S.N) 0) (hr:4*S.N.pages<=S.rows) (hnx:S.next<=1099511627775-60000000):
  ∃V W',N9 S.N=(V,0)/\FG fd W' (lgN S.N.dies S.N.blocks S.N.pages) (Fv.of V)/\(∀i,cur W' [] i=cur W [] i)/\V.Ok k m/\V.next<=S.next+4000000/\V.N.dead=S.N.dead/\V.N.broken=S.N.broken/\S.N.Like V.N:=by
 have hg:=hO.gd.ok.bd16;have hct:96+(Dv.costM+(FI.costW*200+(96+(Dv.costM+k))))<=Dv.costK+k:=by
  have hfu:Dv.fuel=160:=rfl;unfold Dv.costK Dv.costT FI.costW Dv.cost;omega
 have hO1:S.Ok (96+(Dv.costM+(FI.costW*200+(96+(Dv.costM+k))))) m:=hO.less hct;have hn1:=hO.next;have hnle:=h.next_le hO;have hl2:=a2P hO.gd.ok;obtain⟨W',w1,w2,w3,w4,w5⟩:=h.mt0 hO1 hlog;have hlog0:=Dv.mt0_log hO.gd;have hR0:Rmy fd W' (Dv.mt0 S.N):=⟨w3.inv,w3.hd,w3.wok,w4,w3.ff,by have:=hR.cap;show 2*W'.length<=(S.N.blocks-5)*(S.N.pages*(S.N.dies-2))+1;omega⟩;have hO0:(Dv.mt0 S.N).Ok (96+(Dv.costM+(FI.costW*200+(96+(Dv.costM+k))))) m:=Dv.Ok.mt0 hO1.gd;have hall:∀i:Nat,(V.standOf (V.of (V.all S.N) i)).2=true->∃w sq,Tb.look W (i:Int)=some w/\(V.standOf (V.of (V.all S.N) i)).1.en={w with seq:=sq}:=λi hs=>by
  cases ha:Tb.look S.T.at_ (i:Int)with
  | none=>rw[h.stand_none hO ha]at hs;cases hs
  | some a=>
   obtain⟨w,f,g1,g2,_,g4,_⟩:=h.stand hO ha;rw[g2];exact⟨w,a.seq,g1,g4⟩
 obtain⟨s1,s2,s3⟩:=V.goS_both (N:=S.N) hh (lgN S.N.dies S.N.blocks S.N.pages) (V.size (lgN S.N.dies S.N.blocks S.N.pages));have hsz:V.size (lgN S.N.dies S.N.blocks S.N.pages)=lgN S.N.dies S.N.blocks S.N.pages:=by unfold V.size;omega
 rw[hsz]at s1 s2 s3;have hbo:=a8L S.N (V.all S.N) (lgN S.N.dies S.N.blocks S.N.pages);obtain⟨EA,hEA⟩:∃E,(List.range (lgN S.N.dies S.N.blocks S.N.pages)).filterMap (V.tornF S.N (V.all S.N))=E:=⟨_,rfl⟩;obtain⟨EB,hEB⟩:∃E,(List.range (lgN S.N.dies S.N.blocks S.N.pages)).filterMap (V.tornB S.N (V.all S.N))=E:=⟨_,rfl⟩;have hgF:∀i e,V.tornF S.N (V.all S.N) i=some e->V.tornAt (V.all S.N) i=some e:=λi e he=>by
  unfold V.tornF at he;split at he
  ·exact he
  ·cases he
 have hgB:∀i e,V.tornB S.N (V.all S.N) i=some e->V.tornAt (V.all S.N) i=some e:=λi e he=>by
  unfold V.tornB at he;split at he
  ·cases he
  ·exact he
 have hsA:=a9W (g:=V.tornF S.N (V.all S.N)) (λi e he=>V.torn_lpn (hgF i e he)) (lgN S.N.dies S.N.blocks S.N.pages);have hsB:=a9W (g:=V.tornB S.N (V.all S.N)) (λi e he=>V.torn_lpn (hgB i e he)) (lgN S.N.dies S.N.blocks S.N.pages);rw[hEA]at s1 hsA hbo;rw[hEB]at s2 hsB hbo;have hrn:((List.range (lgN S.N.dies S.N.blocks S.N.pages)).map λi:Nat=>(i:Int)).Nodup:=by
  have:(List.range (lgN S.N.dies S.N.blocks S.N.pages)).Nodup:=a3n;exact List.pairwise_map.2 (this.imp λhne e=>hne (by omega))
 have hndA:(EA.map (·.lpn)).Nodup:=hsA.nodup hrn;have hndB:(EB.map (·.lpn)).Nodup:=hsB.nodup hrn;have hat:∀i e,i<lgN S.N.dies S.N.blocks S.N.pages->V.tornAt (V.all S.N) i=some e->(FitR e/\e.role≠4/\e.lpn<(lgN S.N.dies S.N.blocks S.N.pages:Int))/\e.data=cur W [] e.lpn:=λi e hi hie=>by
  have hlp:=V.torn_lpn hie;unfold V.tornAt at hie;split at hie
  ·rename_i hc;injection hie with hie;obtain⟨w,sq,x1,x2⟩:=hall i hc.1;have i3:e={w with seq:=sq}:=by rw[<- hie];exact x2
   have hwk:=h.wok _ w x1;refine⟨⟨by rw[i3];exact⟨hwk.2.lpn,hwk.2.role,hwk.2.len⟩,by rw[i3];exact hwr _ w x1,by omega⟩,?_⟩;unfold cur;rw[List.find?_nil];dsimp only;rw[hlp,x1,i3]
  ·cases hie
 have hmA:∀e∈EA,(FitR e/\e.role≠4/\e.lpn<(lgN S.N.dies S.N.blocks S.N.pages:Int))/\e.data=cur W [] e.lpn:=λe he=>by
  rw[<- hEA,a2h]at he;obtain⟨i,hi,hie⟩:=he;exact hat i e (List.mem_range.1 hi) (hgF i e hie)
 have hmB:∀e∈EB,(FitR e/\e.role≠4/\e.lpn<(lgN S.N.dies S.N.blocks S.N.pages:Int))/\e.data=cur W [] e.lpn:=λe he=>by
  rw[<- hEB,a2h]at he;obtain⟨i,hi,hie⟩:=he;exact hat i e (List.mem_range.1 hi) (hgB i e hie)
 have hs1:(V.scan S.N (lgN S.N.dies S.N.blocks S.N.pages)).torn=EA++EB:=by
  show(V.goS S.N (V.all S.N) (lgN S.N.dies S.N.blocks S.N.pages) (V.size (lgN S.N.dies S.N.blocks S.N.pages))).torn++(V.goS S.N (V.all S.N) (lgN S.N.dies S.N.blocks S.N.pages) (V.size (lgN S.N.dies S.N.blocks S.N.pages))).others=EA++EB;rw[hsz,s1,s2]
 have hsf:(V.scan S.N (lgN S.N.dies S.N.blocks S.N.pages)).first=EA.length:=by
  show(V.goS S.N (V.all S.N) (lgN S.N.dies S.N.blocks S.N.pages) (V.size (lgN S.N.dies S.N.blocks S.N.pages))).torn.length=EA.length;rw[hsz,s1]
 have hs2:(V.scan S.N (lgN S.N.dies S.N.blocks S.N.pages)).held=[]:=by
  show a7w (V.goS S.N (V.all S.N) (lgN S.N.dies S.N.blocks S.N.pages) (V.size (lgN S.N.dies S.N.blocks S.N.pages))).held=[];rw[hsz,s3];exact a5v
 obtain⟨U,u1,u2,u3,u4,_,u6,u7,_,u9,u10,u11,u12,u13,u14,u15⟩:=hR0.clear (β:=0) hO0;obtain⟨U',x1,x2,_⟩:=w3.clear hO0;rw[u1]at x1;injection x1 with x1 _;subst x1;have hUlog:U.T.logical=(lgN S.N.dies S.N.blocks S.N.pages:Int):=by rw[u6];exact hlog0
 have hrows:=h.rows_mt (V:=U) (hO1.less (show(Dv.costM+(FI.costW*200+(96+(Dv.costM+k))))<=_ by omega)) hlog u3 u2.inv u6 u7 u13 u2.held u4;have hUt:=u3.t.b;have hU4:=u15 hot;have hp:=u13.pages;have hb:=u13.blocks;have hb0:(Dv.mt0 S.N).N.blocks=S.N.blocks:=rfl;have hp0:(Dv.mt0 S.N).N.pages=S.N.pages:=rfl;obtain⟨V,β',v1,v2,v3,v4,v5,v6,v7,v8,v9,v10,v11,v12,v13⟩:=u2.room (k:=FI.costW*200+(96+(Dv.costM+k))) (u3.less (by
  have:Dv.costR*U.t.b<=Dv.costR*16:=s8 _ (by omega);unfold Dv.costM;omega)) hU4 (by omega) (by omega) (by omega)
 obtain rfl:β'=0:=by omega
 obtain⟨y1,y2⟩:=x2.room (k:=FI.costW*200+(96+(Dv.costM+k))) u3 hU4 (by rw[hUlog];omega) (by omega);rw[v1]at y1 y2;have y1:GI fd W' V:=y1;have y2:Hot2 fd V 0:=y2;have hlk:S.N.Like V.N:=u13.trans v11;have hmany:=v2.many v3 v4;have hfg:FG fd W' (lgN S.N.dies S.N.blocks S.N.pages) (Fv.of V):=by
  refine⟨⟨v2.inv,v2.hd,v2.wok,λi e he=>hwr i e (by rw[<- w1];exact he),v12.trans hUlog,?_,hl2.2,λe he=>(by cases he),a0n,rfl⟩,v2,y2,by show 5*V.N.pages<=V.rows+1;omega,?_,y1⟩
  ·show((lgN V.N.dies V.N.blocks V.N.pages:Nat):Int)=_;rw[hlk.dies,hlk.blocks,hlk.pages]
  ·show 2*_<=(V.N.blocks-5)*(V.N.pages*(V.N.dies-2))+1;rw[hlk.blocks,hlk.pages,hlk.dies];exact hcap
 have hcur0:∀i,cur W' [] i=cur W [] i:=λi=>by unfold cur;rw[w1]
 have hidle:=a8V v4 v5;have hUi:=b3e u4;have hSr:(Dv.mt0 S.N).room=(V,0):=(b2C u1 hUi (by
  have:=hO0.t.b;rw[this,hUt,hb])).trans v1
 have hlen:FI.costW*EA.length+FI.costW*EB.length<=FI.costW*200:=by rw[<- a2n];exact s8 _ (by omega)
 have hend:∃Q1 Q2 Q3 X W2,(Dv.mt0 S.N).torn EA=(Q1,0)/\Q1.clear=(Q2,0)/\Q2.torn EB=(Q3,0)/\Q3.room=(X,0)/\FG fd W2 (lgN S.N.dies S.N.blocks S.N.pages) (Fv.of X)/\(∀i,cur W2 [] i=cur W [] i)/\X.Ok k m/\X.next<=S.next+4000000/\X.N.dead=S.N.dead/\X.N.broken=S.N.broken/\S.N.Like X.N:=by
  by_cases hA:EA=[]
  ·rw[hA]
   by_cases hB:EB=[]
   ·rw[hB];exact⟨Dv.mt0 S.N,U,U,V,W',rfl,u1,rfl,v1,hfg,hcur0,v3.less (by omega),by omega,v9.trans u11,v10.trans u12,hlk⟩
   ·obtain⟨Q,W2,q1,q2,q3,q4,q5,q6,q7,q8⟩:=hfg.tornL (k:=Dv.costM+k) (E:=EB) (λe he=>⟨(hmB e he).1,by rw[hcur0];exact(hmB e he).2⟩) hndB (by omega) (v3.less (by omega)) (by omega);obtain⟨X,z1,z2,z3,z4,z5,z6,z7⟩:=q2.room (k:=k) q4 (by show Q.next<=_;omega);have z4:X.next<=Q.next+6400:=z4;exact⟨Dv.mt0 S.N,U,Q,X,W2,rfl,u1,(a8K v1 hidle hB).trans q1,z1,z2.of rfl,λi=>(q3 i).trans (hcur0 i),z3,by omega,(z7.trans q6).trans (v9.trans u11),(z5.trans q7).trans (v10.trans u12),(hlk.trans q8).trans z6⟩
  ·obtain⟨P,W1,p1,p2,p3,p4,p5,p6,p7,p8⟩:=hfg.tornL (k:=FI.costW*EB.length+(96+(Dv.costM+k))) (E:=EA) (λe he=>⟨(hmA e he).1,by rw[hcur0];exact(hmA e he).2⟩) hndA (by omega) (v3.less (by omega)) (by omega);obtain⟨Y,c1,c2,c3,c4,c5,c6,c7⟩:=p2.clear (k:=FI.costW*EB.length+(Dv.costM+k)) (p4.less (by omega));obtain⟨Q,W2,q1,q2,q3,q4,q5,q6,q7,q8⟩:=c2.tornL (k:=Dv.costM+k) (E:=EB) (λe he=>⟨(hmB e he).1,by rw[p3,hcur0];exact(hmB e he).2⟩) hndB (by omega) c3 (by omega);obtain⟨X,z1,z2,z3,z4,z5,z6,z7⟩:=q2.room (k:=k) q4 (by show Q.next<=_;omega);have z4:X.next<=Q.next+6400:=z4;exact⟨P,Y,Q,X,W2,(a8K hSr hidle hA).trans p1,c1,q1,z1,z2.of rfl,λi=>(q3 i).trans ((p3 i).trans (hcur0 i)),z3,by omega,(z7.trans q6).trans ((c5.trans p6).trans (v9.trans u11)),(z5.trans q7).trans ((c6.trans p7).trans (v10.trans u12)),((hlk.trans p8).trans (c7.trans q8)).trans z6⟩
 obtain⟨Q1,Q2,Q3,X,W2,e1,e2,e3,e4,q3,q5,q6,q7,q8,q9,q10⟩:=hend;refine⟨X,W2,?_,q3,q5,q6,q7,q8,q9,q10⟩;rw[a7B];dsimp only;rw[hs1,hs2,hsf,List.take_left,List.drop_left];have h1:(Dv.mt0 S.N).holds [] true=Dv.mt0 S.N:=rfl;have h2:Q1.holds [] false=Q1:=rfl;rw[h1,e1];dsimp only;rw[f8 (by simp),h2,e2];dsimp only;rw[f8 (by simp),e3];dsimp only;rw[f8 (by simp),e4]
end GI
def Wrs (fd:Nat) (N N':Nand):Prop:=∀(j r:Nat) (c:NCell),(N'.blk fd j).cells[r]? =some c->∃c0,(N.blk fd j).cells[r]? =some c0/\(∀s,X8 s c0->X8 s c)/\(c0.lost=true->c.lost=true)
theorem Wrs.refl (fd:Nat) (N:Nand):Wrs fd N N:=λ_ _ c h=>⟨c,h,λ_ h=>h,λh=>h⟩
theorem Wrs.cell {fd:Nat} {N:Nand} {y z:Int} (f:NCell->NCell) (hf:∀c,N.pageAt (fd:Int) y z=some c->(∀s,X8 s c->X8 s (f c))/\(c.lost=true->(f c).lost=true)):Wrs fd N (N.setCell (fd:Int) y z f):=by
 have hb:∀i j,(N.setCell (fd:Int) y z f).blk i j=if i=fd/\j=y.toNat then {N.blk fd y.toNat with cells:=(N.blk fd y.toNat).cells.modify z.toNat f}else N.blk i j:=λi j=>by
  show(if i=(fd:Int).toNat/\j=y.toNat then _ else _)=_;rw[j3]
 intro j r c hc;rw[hb]at hc;split at hc
 ·rename_i h;rw[h.2];have hc:((N.blk fd y.toNat).cells.modify z.toNat f)[r]? =some c:=hc;rw[V1]at hc;cases h0:(N.blk fd y.toNat).cells[r]? with
  | none=>rw[h0]at hc;cases hc
  | some c0=>
   rw[h0]at hc
   by_cases hz:z.toNat=r
   ·have hc:some (if z.toNat=r then f c0 else c0)=some c:=hc;rw[f9 hz]at hc;injection hc with hc;obtain⟨x1,x2⟩:=hf c0 (by unfold Nand.pageAt;rw[j3,hz];exact h0);exact⟨c0,rfl,λs hs=>by rw[<- hc];exact x1 s hs,λhl=>by rw[<- hc];exact x2 hl⟩
   ·have hc:some (if z.toNat=r then f c0 else c0)=some c:=hc;rw[f8 hz]at hc;injection hc with hc;exact⟨c0,rfl,λs hs=>by rw[<- hc];exact hs,λhl=>by rw[<- hc];exact hl⟩
 ·exact⟨c,hc,λ_ h=>h,λh=>h⟩
theorem Wrs.fault (fd:Nat) (N:Nand) (kind y z n xx:Int) (hk:kind=3\/kind=5):Wrs fd N (N.fault kind (fd:Int) y z n xx).2:=by
 unfold Nand.fault;split
 ·exact Wrs.refl fd N
 rw[f8 (by omega),f8 (by omega)];split
 ·exact Wrs.cell _ λc _=>⟨λs _=>FdCh.cell_lost c s,λ_=>rfl⟩
 rw[f8 (by omega)];split
 ·split
  ·exact Wrs.refl fd N
  ·rename_i hn;cases hp:N.pageAt (fd:Int) y z with
   | none=>exact Wrs.refl fd N
   | some c=>
    dsimp only;split
    ·exact Wrs.refl fd N
    split
    ·exact Wrs.refl fd N
    ·rename_i ht hl;refine Wrs.cell _ λc' hc'=>⟨λs hs=>?_,λh=>h⟩;rw[hp]at hc';injection hc' with hc';subst hc';rcases hs with h | h | ⟨h,_⟩
     ·exact absurd h hl
     ·obtain⟨x,hx⟩:∃x,UInt8.ofNat (xx % 256).toNat=x:=⟨_,rfl⟩;show X8 s {c with p:=Nand.xorAt c.p n.toNat (UInt8.ofNat (xx % 256).toNat),turned:=true};rw[hx]
      by_cases h0:x=0
      ·rw[h0];exact .inr (.inl (by show Nand.xorAt c.p n.toNat 0=W0 s;rw[FdCh.xor_zero];exact h))
      ·exact .inr (.inr ⟨rfl, .inl ⟨n.toNat,x,by omega,h0,by show Nand.xorAt c.p n.toNat x=_;rw[h]⟩⟩)
     ·exact absurd h ht
 ·exact Wrs.refl fd N
theorem GI.changed {fd:Nat} {W:List (Int×En)} {S:Dv} {N':Nand} (h:GI (fd:Int) W S) (c:FdCh fd S.N N') (hw:Wrs fd S.N N') (hff:(∀i:Nat,N'.dead.getD i false=false)->∀i j:Nat,(N'.blk i j).fails=false):GI (fd:Int) W {S with N:=N'}:=by
 obtain⟨k1,k2⟩:=h.inv.changed c;refine⟨k1,⟨h.hd.keys,λi e he=>?_⟩,h.wok,λi a ha=>by show Msk N'.dies (fd:Int) a.mask;rw[c.like.dies];exact h.msk i a ha,λb r hb hr=>?_,hff⟩
 ·obtain⟨h1,a,h2,h3⟩:=h.hd.each i e he;exact⟨h1,a,h2,by rw[<- h3];exact(k2 i a (h.inv.st i a h2)).2⟩
 ·refine(h.dsc b r (by rw[<- c.like.blocks];exact hb) (by rw[<- c.like.pages];exact hr)).less c.like λd cc hcc=> .inr ?_;unfold Nand.pageAt at hcc ⊢
  by_cases hd:d.toNat=fd
  ·rw[hd]at hcc ⊢;exact hw _ _ _ hcc
  ·have e:N'.blk d.toNat (Int.toNat (b:Int))=S.N.blk d.toNat (Int.toNat (b:Int)):=c.blk _ _ hd;have hcc:(N'.blk d.toNat (Int.toNat (b:Int))).cells[Int.toNat (r:Int)]? =some cc:=hcc;rw[e]at hcc;exact⟨cc,hcc,λ_ h=>h,λh=>h⟩
def CF (T:Tb) (e:En):Prop:=∃a,Tb.look T.at_ e.lpn=some a/\a.seq=e.seq
theorem Dsc.mono {C C':En->Prop} {N:Nand} {b r:Int} (h:Dsc C N b r) (hC:∀e,C e->C' e):Dsc C' N b r:=by
 rcases h with h | ⟨l,h1,h2,h3⟩
 ·exact .inl h
 ·exact .inr ⟨l,h1,h2,λe he=>(h3 e he).imp id (hC e)⟩
theorem Dv.at1_used {S:Dv} (hF:S.t.Fit S.N) {b:Int} (hb:S.at1.t.has b=true) (hu:(S.at1.t.at_ b).used=true):S.t.has b=true/\((S.t.at_ b).used=true\/b=S.at1.op):=by
 cases hl:S.left with
 | true=>
  have e:S.at1=S:=by unfold Dv.at1;rw[f9 hl]
  rw[e]at hb hu ⊢;exact⟨hb, .inl hu⟩
 | false=>
  have e:S.at1=S.opened:=by unfold Dv.at1;rw[f8 (by rw[hl];decide)]
  rw[e]at hb hu ⊢;have hb:(S.t.clean S.pick false).has b=true:=hb;have hu:((S.t.clean S.pick false).at_ b).used=true:=hu;unfold Tl.clean at hb hu;rw[Tl.has_set]at hb;refine⟨hb,?_⟩;cases hp:S.t.has S.pick with
  | false=>rw[Tl.set_no _ hp]at hu;exact .inl hu
  | true=>
   rw[Tl.at_set hF.len _ hp hb]at hu;split at hu
   ·rename_i h;exact .inr h
   ·exact .inl hu
theorem b7R {D B P w lg rows:Nat} (hB:8<=B) (hP:2<=P) (hD:3<=D) (hcap:2*lg<=(B-5)*(P*(D-2))+1) (hc:w*(D-1)<=lg) (hr:rows+w=B*P):5*P<rows:=by
 have h1:2*w<=(B-5)*P:=by
  by_cases h:2*w<=(B-5)*P
  ·exact h
  ·exfalso
   have a1:((B-5)*P+1)*(D-1)<=2*w*(D-1):=I1 _ (by omega);rw[M2,Nat.mul_assoc 2]at a1;have a2:(B-5)*P*(D-2)<=(B-5)*P*(D-1):=s8 _ (by omega);rw[<- Nat.mul_assoc]at hcap;omega
 have h2:(B-5)*P=B*P-5*P:=Nat.sub_mul ..;have h3:8*P<=B*P:=I1 _ hB;omega
namespace Inv
variable {fd : Int} {S : Dv} {k m : Nat}
theorem free_of (h:Inv fd S) (hO:S.Ok k m) (hr:5*S.N.pages<S.rows):(S.free:Int)>4:=by
 have hf:=h.free_len hO;have hrow:=hO.row;unfold Dv.rows at hr;rcases O4 S.t.blanks 5 with hb | hb
 ·have:S.N.pages*S.t.blanks<=S.N.pages*4:=s8 _ (by omega);split at hr<;>omega
 ·omega
theorem slots_full (h:Inv (-1) S) (hO:S.Ok k m) (hr:0<S.rows):S.slots=(S.N.dies:Int)-1:=by
 have hg:=hO.gd.ok.bd16;unfold Dv.slots;cases hl:S.left with
 | true=>rw[f9 rfl];exact(b0o (h.opn hl).mask hg.1).2
 | false=>
  rw[f8 (by decide)];have hp:=(h.rows_pos hO hr).resolve_left (by rw[hl];decide);have hb:=Dv.pick_blank hp;have hh:S.t.has S.pick=true:=by unfold Tl.blank at hb;simp only[g7]at hb;exact hb.1
  exact(b0o (h.msk hO hh) hg.1).2
end Inv
def Usd (S:Dv):Prop:=∀b,S.t.has b=true->(S.t.at_ b).used=true->∃x a,Tb.look S.T.at_ x=some a/\a.block=b
theorem Usd.spent {S:Dv} {k m:Nat} (h:Usd S) (hO:S.Ok k m):y6 (C8 S.t S.T) S.op S.t.b=[]:=a2K _ λx hx=>by
 rw[Bool.and_eq_false_iff];right;unfold C8;have hh:S.t.has (x:Int)=true:=Tl.has_iff.2 ⟨by omega,by omega⟩;cases hbl:S.t.blank (x:Int)with
 | true=>rw[a0M,a5k];rfl
 | false=>
  have hu:(S.t.at_ (x:Int)).used=true:=by unfold Tl.blank at hbl;rw[hh]at hbl;simpa using hbl
  obtain⟨y,a,ha,hab⟩:=h _ hh hu;have h1:0<Tb.cntB S.T.at_ (x:Int):=List.countP_pos_iff.2 ⟨_,Tb.look_mem ha,by simp[hab]⟩;have h2:=hO.T.cnt (x:Int);rw[show(S.T.count (x:Int)==0)=false from by rw[n4];omega,a5k]
structure Frs (D B P i w:Nat) (F:Fv):Prop where
 dsc:DscA (CF F.S.T) F.S.N
 us:Usd F.S
 key:∀x a,Tb.look F.S.T.at_ x=some a->x+F.L.length<(i:Int)
 lst:∀e∈F.L,(i:Int)<=e.lpn+F.L.length/\e.lpn<(i:Int)
 rows:F.S.rows+w=B*P
 cnt:w*(D-1)+F.L.length<=i
namespace Frs
variable {D B P i w : Nat} {F : Fv}
theorem writes {W:List (Int×En)} {lg k m:Nat} (h:Frs D B P i w F) (hF:FC W lg F) (hg:F.S.N.dies=D/\F.S.N.blocks=B/\F.S.N.pages=P) (hO:F.S.Ok (8*Dv.fuel+k) m) (hi:i<=lg) (hlen:1<=F.L.length/\F.L.length+1<=D) (hnx:F.S.next<=1099511627775-7):
  ∃V,F.writes=({F with S:=V,L:=[]},0)/\DscA (CF V.T) V.N/\Usd V/\(∀x a,Tb.look V.T.at_ x=some a->x<(i:Int))/\V.rows+(w+1)=B*P:=by
 obtain⟨g1,g2,g3⟩:=hg;have hbd:=hO.gd.ok.bd16;have hcap:=hF.cap;rw[g1,g2,g3]at hcap;have hrw:5*F.S.N.pages<F.S.rows:=by
  rw[g3];exact b7R (by omega) (by omega) (by omega) hcap (by have:=h.cnt;omega) h.rows
 have hidle:=a8V (hF.fi.inv.free_of hO hrw) (h.us.spent hO);have hf:∀e∈F.L,FitR e:=λe he=>(hF.fi.des e he).1;obtain⟨p1,p2,p3,p4⟩:=hF.fi.inv.pen_calm hO hF.no (by omega) hf (by omega) hnx;have hat:=Dv.at1_like F.S;have ho:=p2.inv.opn p4.left;have hms:=ho.mask;rw[hat.1]at hms;obtain⟨m1,m2⟩:=b0o hms hbd.1;have hfit:F.S.at1.fit F.L=F.L.length:=by unfold Dv.fit;rw[m2];omega
 obtain⟨l1,l2⟩:=p4.look p2.inv p3 hf (λe he=>by rw[hat.2.1,hF.fi.log];exact(hF.fi.des e he).2.2) hF.fi.nd;rw[hfit]at p1 l1 l2;have hnew:∀j,j<F.L.length->Tb.look F.S.T.at_ (F.L.getD j En.zero).lpn=none:=λj hj=>by
  cases hl:Tb.look F.S.T.at_ (F.L.getD j En.zero).lpn with
  | none=>rfl
  | some a=>
   have h1:=h.key _ a hl;have h2:=(h.lst _ (U8 hj)).1;omega
 have hold:∀x a,Tb.look F.S.T.at_ x=some a->Tb.look (J4 F.S.at1 F.L).T.at_ x=some a:=λx a ha=>by
  rw[l2 x (λj hj e=>by rw[<- e,hnew j hj]at ha;cases ha),hat.2.1];exact ha
 have h1:=p4.rows p2.inv;have h2:=p2.rows;have h3:=h.rows;refine⟨J4 F.S.at1 F.L,?_,?_,λb hb hu=>?_,λx a ha=>?_,by omega⟩
 ·unfold Fv.writes;rw[hidle];dsimp only;rw[f8 (by decide),p1];dsimp only;rw[j3,a3T hF.fi.nd,List.drop_length];have e:(F.off||(0:Int)==9)=F.off:=by rw[hF.fi.off];rfl
  show(({{F with S:=J4 F.S.at1 F.L,L:=[]}with off:=F.off||(0:Int)==9}:Fv),(0:Int))=_;rw[e]
 ·have hd1:DscA (CF (J4 F.S.at1 F.L).T) F.S.at1.N:=by
   rw[hat.1];exactλb r hb hr=>(h.dsc b r hb hr).mono λe ⟨a,x1,x2⟩=>⟨a,hold _ a x1,x2⟩
  exact hd1.wrote p2.inv p3 p4 hf (by rw[hat.1];exact m1) (DscA.kind λi hi _=>⟨_,l1 i hi,rfl⟩)
 ·obtain⟨hb0,h1⟩:=Dv.at1_used hO.t hb hu;rcases h1 with h1 | rfl
  ·obtain⟨x,a,ha,hab⟩:=h.us b hb0 h1;exact⟨x,a,hold x a ha,hab⟩
  ·exact⟨_,_,l1 0 (by omega),rfl⟩
 ·by_cases hex:∃j,j<F.L.length/\(F.L.getD j En.zero).lpn=x
  ·obtain⟨j,hj,e⟩:=hex;rw[<- e];exact(h.lst _ (U8 hj)).2
  ·rw[l2 x λj hj e=>hex ⟨j,hj,e⟩,hat.2.1]at ha;have:=h.key x a ha;omega
theorem write {n:Nat} {c:Nat->List UInt8} (h:Frs D B P i w F) (hD:Dev D B P F (n+1) c) (hi:i<lgN D B P) (d:List UInt8):∃w',Frs D B P (i+1) w' (F.write i d).1:=by
 obtain⟨W,hW,_⟩:=hD.fc;have hg:=hD.ok.dv.gd.ok.bd16;have hU:UN*(n+1)=UN*n+UN:=I0 _ _;have hU2:=b2n;have hO:F.S.Ok (8*Dv.fuel+0) 0:=hD.ok.dv.less (by omega);have hs:=hW.fi.inv.slots_full hO (by have:=hW.rows;omega);rw[hD.geo.1]at hs;unfold Fv.write Fv.waits;rw[hW.fi.ask,hW.fi.off,f8 l9,hW.fi.lgn,f8 (by dsimp only;omega)]
 by_cases hc:(F.L.length:Int)>=F.S.slots
 ·rw[f9 hc];rw[hD.geo.1]at hg;obtain⟨V,w1,w2,w3,w4,w5⟩:=h.writes hW hD.geo hO (by omega) ⟨by omega,hD.wt⟩ (by have:=hD.nx;omega);rw[w1];dsimp only;rw[f8 (by decide)];refine⟨w+1,w2,w3,λx a ha=>?_,λe he=>?_,w5,?_⟩
  ·show x+((1:Nat):Int)<((i+1:Nat):Int);have:=w4 x a ha;omega
  ·have he:e∈[({(⟨(i:Int),0,1,d⟩:En)with seq:=F.nx}:En)]:=he;rw[E6]at he;subst he;show((i+1:Nat):Int)<=(i:Int)+((1:Nat):Int)/\(i:Int)<((i+1:Nat):Int);omega
  ·show(w+1)*(D-1)+1<=i+1;rw[M2];have:=h.cnt;omega
 ·rw[f8 hc];have hput:(F.put ⟨(i:Int),0,1,d⟩).L=F.L++[({(⟨(i:Int),0,1,d⟩:En)with seq:=F.nx}:En)]:=by
   show a0e F.L _=_;unfold a0e;rw[List.filter_eq_self.2 λx hx=>by
    have:=(h.lst x hx).2;show(!(x.lpn==(i:Int)))=true;rw[i5,n4];omega]
  have hpl:(F.put ⟨(i:Int),0,1,d⟩).L.length=F.L.length+1:=by rw[hput,i4];rfl
  refine⟨w,h.dsc,h.us,λx a ha=>?_,λe he=>?_,h.rows,?_⟩
  ·dsimp only;rw[hpl];have:=h.key x a ha;omega
  ·dsimp only at he ⊢;rw[hpl];rw[hput,J7]at he;rcases he with he | he
   ·have:=h.lst e he;omega
   ·rw[E6]at he;subst he;show((i+1:Nat):Int)<=(i:Int)+((F.L.length+1:Nat):Int)/\(i:Int)<((i+1:Nat):Int);omega
  ·dsimp only;rw[hpl];have:=h.cnt;omega
theorem flush {n:Nat} {c:Nat->List UInt8} (h:Frs D B P i w F) (hD:Dev D B P F (n+200) c) (hi:i<=lgN D B P):DscA (CF F.flush.1.S.T) F.flush.1.S.N:=by
 obtain⟨W,hW,_⟩:=hD.fc;have hU:UN*(n+200)=UN*n+UN*200:=a2n _ _ _;have hU2:=b2n;have hO:F.S.Ok (8*Dv.fuel+0) 0:=hD.ok.dv.less (by omega);unfold Fv.flush;rw[hW.fi.ask,hW.fi.off,f8 l9];cases hl:F.L.length with
 | zero=>exact h.dsc
 | succ q=>
  rw[Fv.flushGo,f8 (by omega)];obtain⟨V,w1,w2,_⟩:=h.writes hW hD.geo hO hi ⟨by omega,hD.wt⟩ (by have:=hD.nx;omega);rw[w1];dsimp only;rw[f8 (by decide)];cases q with
  | zero=>exact w2
  | succ q=>rw[Fv.flushGo,f9 (show({F with S:=V,L:=[]}:Fv).L.length=0 from rfl)];exact w2
theorem new (D B P:Nat):Frs D B P 0 0 (Fv.of (Dv.new D B P (lgN D B P))):=by
 refine⟨DscA.new _ D B P,λb _ hu=>?_,λx a ha=>(by cases ha),λe he=>(by cases he),?_,?_⟩
 ·have hu:((Tl.new D B P).at_ b).used=true:=hu;rw[b0N]at hu;exact absurd hu (by decide)
 ·show(Dv.new D B P (lgN D B P)).rows+0=B*P;rw[a8T,U6];rfl
 ·show 0*(D-1)+0<=0;omega
end Frs
theorem DscA.worse {C:En->Prop} {N N':Nand} {fd:Nat} (h:DscA C N) (c:FdCh fd N N') (hw:Wrs fd N N'):DscA C N':=λb r hb hr=>by
 have hp:∀(d:Int) (x:NCell),N'.pageAt d b r=some x->∃x0,N.pageAt d b r=some x0/\(∀s,X8 s x0->X8 s x)/\(x0.lost=true->x.lost=true):=λd x hx=>by
  unfold Nand.pageAt at hx ⊢
  by_cases hd:d.toNat=fd
  ·rw[hd]at hx ⊢;exact hw _ _ _ hx
  ·have e:N'.blk d.toNat (Int.toNat (b:Int))=N.blk d.toNat (Int.toNat (b:Int)):=c.blk _ _ hd;rw[e]at hx;exact⟨x,hx,λ_ h=>h,λh=>h⟩
 rcases h b r (by rw[<- c.like.blocks];exact hb) (by rw[<- c.like.pages];exact hr)with h1 | ⟨l,h1,h2,h3⟩
 ·left;intro d x hx;obtain⟨x0,e1,_,e3⟩:=hp d x hx;exact e3 (h1 d x0 e1)
 ·right;rw[c.like.dies];refine⟨l,h1.like c.like,λx hx y hy=>?_,h3⟩;obtain⟨y0,e1,e2,_⟩:=hp _ y hy;exact e2 _ (h2 x hx y0 e1)
theorem b2Z {N:Nand} {T:Tb} (h:DscA (CF T) N) (hoff:N.off=false) {i:Nat} (h2:(V.standOf (V.of (V.all N) i)).2=true) (hw:(V.standOf (V.of (V.all N) i)).1.whole=false):V.holds (V.of (V.all N) i)=[]:=by
 have hsq:∀f∈V.of (V.all N) i,∃a,Tb.look T.at_ (i:Int)=some a/\a.seq=f.en.seq:=λf hf=>by
  have hm:=List.mem_filter.1 hf;obtain⟨b,r,hb,hr,hr2⟩:=V.mem_all.1 hm.1;obtain⟨a,x1,x2⟩:=((h b r hb hr).fnd hoff hr2).1;have:f.en.lpn=(i:Int):=a2E hm.2;rw[this]at x1;exact⟨a,x1,x2⟩
 obtain⟨a0,s1,s2⟩:=hsq _ (V.standOf_mem h2);have hno:(V.of (V.all N) i).filter (λf=>f.whole)=[]:=by
  rw[List.filter_eq_nil_iff];intro f hf hfw;obtain⟨a,f1,f2⟩:=hsq f hf;rw[s1]at f1;injection f1 with f1;subst f1;have:=(V.stand_max _ _ rfl f hf).2 (by rw[<- f2,s2]) hfw;rw[hw]at this;cases this
 unfold V.holds;rw[hno];rfl
theorem GI.any {W:List (Int×En)} {S:Dv} {fd:Int} (h:GI (-1) W S) (hno:NoF S):GI fd W S:=
 ⟨h.inv.any hno.plan,h.hd,h.wok,λi a ha=>(h.msk i a ha).any,λb r hb hr=>(h.dsc b r hb hr).any,h.ff⟩
theorem Nand.cell_flags (N:Nand) (x y z:Int) (f:NCell->NCell):(N.setCell x y z f).dead=N.dead/\(N.setCell x y z f).plan=N.plan/\∀i j:Nat,((N.setCell x y z f).blk i j).met=(N.blk i j).met/\((N.setCell x y z f).blk i j).fails=(N.blk i j).fails:=by
 refine⟨rfl,rfl,λi j=>?_⟩;show((if i=x.toNat/\j=y.toNat then _ else _:NBlock)).met=_/\((if i=x.toNat/\j=y.toNat then _ else _:NBlock)).fails=_;split
 ·rename_i h;rw[h.1,h.2];exact⟨rfl,rfl⟩
 ·exact⟨rfl,rfl⟩
theorem Nand.fault_flags (N:Nand) (kind x y z n xx:Int) (hk:kind=3\/kind=5):(N.fault kind x y z n xx).2.dead=N.dead/\(N.fault kind x y z n xx).2.plan=N.plan/\∀i j:Nat,((N.fault kind x y z n xx).2.blk i j).met=(N.blk i j).met/\((N.fault kind x y z n xx).2.blk i j).fails=(N.blk i j).fails:=by
 have hs:N.dead=N.dead/\N.plan=N.plan/\∀i j:Nat,(N.blk i j).met=(N.blk i j).met/\(N.blk i j).fails=(N.blk i j).fails:=⟨rfl,rfl,λ_ _=>⟨rfl,rfl⟩⟩;unfold Nand.fault;split
 ·exact hs
 rw[f8 (by omega),f8 (by omega)];split
 ·exact Nand.cell_flags _ _ _ _ _
 rw[f8 (by omega)];split
 ·split
  ·exact hs
  ·cases N.pageAt x y z with
   | none=>exact hs
   | some c=>
    dsimp only;split
    ·exact hs
    split
    ·exact hs
    ·exact Nand.cell_flags _ _ _ _ _
 ·exact hs
structure DevP (die D B P:Nat) (F:Fv) (n m:Nat) (c:Nat->List UInt8):Prop where
 fi:∃W,FI (die:Int) W (lgN D B P) F/\Rmy (die:Int) W F.S/\GI (die:Int) W F.S/\∀i:Nat,i<lgN D B P->cur W [] i=c i
 no:NoF F.S
 ff:∀i j:Nat,(F.S.N.blk i j).fails=false
 dsc:DscA (CF F.S.T) F.S.N
 rows:5*P<=F.S.rows+1
 cap:2*lgN D B P<=(B-5)*(P*(D-2))+1
 ok:F.Ok (UN*n) m
 nx:F.S.next+8000*(n:Int)<=1099000000000
 br:F.S.N.broken=0
 geo:F.S.N.dies=D/\F.S.N.blocks=B/\F.S.N.pages=P
 le:n<=200000
 L:F.L=[]
 dl:die<D
theorem Dev.devP {die D B P n:Nat} {F:Fv} {c:Nat->List UInt8} (h:Dev D B P F n c) (hd:DscA (CF F.S.T) F.S.N) (hL:F.L=[]) (hdl:die<D):DevP die D B P F n 0 c:=by
 obtain⟨W,hW,hc⟩:=h.fc;obtain⟨g1,g2,g3⟩:=h.geo;have hG:=hW.gi.any (fd:=(die:Int)) hW.no;have hcap:=hW.cap;have hrw:=hW.rows;rw[g1,g2,g3]at hcap;rw[g3]at hrw;exact⟨⟨W,⟨hG.inv,hW.fi.hd,hW.fi.wok,hW.fi.wr,hW.fi.log,hW.fi.lgn,hW.fi.lg2,hW.fi.des,hW.fi.nd,hW.fi.off⟩,⟨hG.inv,hW.fi.hd,hW.fi.wok,hW.rmy.held,hW.rmy.ff,hW.rmy.cap⟩,hG,λi hi=>by rw[<- hc i hi,hL]⟩,hW.no,hW.gi.ff hW.no.dead,hd,hrw,hcap,h.ok,h.nx,h.br,h.geo,h.le,hL,hdl⟩
namespace DevP
variable {die D B P n m : Nat} {F : Fv} {c : Nat → List UInt8}
theorem lg (h:DevP die D B P F n m c):F.lg=(lgN D B P:Int):=by
 obtain⟨W,hW,_⟩:=h.fi;exact hW.lgn
theorem all (h:DevP die D B P F n m c):F.all=(F,(List.range (lgN D B P)).map c,0):=by
 obtain⟨W,hW,_,_,hc⟩:=h.fi;exact Fv.all_of h.lg λj hj=>by rw[hW.read,f8 (by omega),h.L,hc j hj]
theorem fault (h:DevP die D B P F n m c) (kind y z nn xx:Int) (hk:kind=3\/kind=5):DevP die D B P (F.setN (F.S.N.fault kind (die:Int) y z nn xx).2) n (m+1) c:=by
 obtain⟨W,hW,hR,hG,hc⟩:=h.fi;have hch:=FdCh.fault (fd:=die) F.S.N kind y z nn xx;have hwr:=Wrs.fault die F.S.N kind y z nn xx hk;have hG1:(F.S.N.fault kind (die:Int) y z nn xx).2.Gd (UN*n) (m+1):=a4Q h.ok.dv.gd [⟨0,kind,die,y,z,nn,xx⟩];have hfl:=Nand.fault_flags F.S.N kind (die:Int) y z nn xx hk;obtain⟨M,hM⟩:∃M,(F.S.N.fault kind (die:Int) y z nn xx).2=M:=⟨_,rfl⟩;rw[hM]at hch hwr hG1 hfl ⊢;obtain⟨f1,f2,f3⟩:=hfl;have hff:∀i j:Nat,(M.blk i j).fails=false:=λi j=>by rw[(f3 i j).2];exact h.ff i j
 have hG2:GI (die:Int) W {F.S with N:=M}:=hG.changed hch hwr λ_=>hff;have hlgn:(F.setN M).lg=(lgN D B P:Int):=by
  have:=hW.lgn;unfold Fv.lg at this ⊢;show((lgN M.dies M.blocks M.pages:Nat):Int)=_;rw[hch.like.dies,hch.like.blocks,hch.like.pages];exact this
 refine⟨⟨W,⟨hG2.inv,hG2.hd,hG2.wok,hW.wr,hW.log,hlgn,hW.lg2,hW.des,hW.nd,hW.off⟩,⟨hG2.inv,hG2.hd,hG2.wok,hR.held,hG2.ff,?_⟩,hG2,hc⟩,⟨λi=>?_,?_,λi j=>?_⟩,hff,h.dsc.worse hch hwr,?_,h.cap,h.ok.setN hch.like hG1,h.nx,hch.broken.trans h.br,⟨hch.like.dies.trans h.geo.1,hch.like.blocks.trans h.geo.2.1,hch.like.pages.trans h.geo.2.2⟩,h.le,h.L,h.dl⟩
 ·have:=hR.cap;show 2*W.length<=(M.blocks-5)*(M.pages*(M.dies-2))+1;rw[hch.like.dies,hch.like.blocks,hch.like.pages];exact this
 ·show M.dead.getD i false=false;rw[f1];exact h.no.dead i
 ·show M.plan=[];rw[f2];exact h.no.plan
 ·show(M.blk i j).met=false;rw[(f3 i j).1];exact h.no.met i j
 ·show 5*P<=({F.S with N:=M}:Dv).rows+1;rw[b1i hch.like.pages];exact h.rows
theorem again (h:DevP die D B P F (n+403) m c) (hn:n<=190000):(N9 F.S.N.cyc).2=0/\F.S.N.cyc.Gd (Dv.costK+UN*n) m/\(Fv.of (N9 F.S.N.cyc).1).Ok (UN*n) m/\(Fv.of (N9 F.S.N.cyc).1).lg=(lgN D B P:Int)/\(Fv.of (N9 F.S.N.cyc).1).all=(Fv.of (N9 F.S.N.cyc).1,(List.range (lgN D B P)).map c,0):=by
 obtain⟨W,hW,hR,hG,hc⟩:=h.fi;obtain⟨c1,c2,c3,c4,c5,c6⟩:=F.S.N.cyc_same hW.inv.lit;obtain⟨g1,g2,g3⟩:=h.geo;have hU:UN*(n+403)=UN*n+UN*403:=a2n _ _ _;have hm:=b8l;have hg:=h.ok.dv.gd.ok.bd16;have hGd:F.S.N.cyc.Gd (Dv.costK+UN*n) m:=((h.ok.dv.less (show Dv.costK+UN*n<=UN*(n+403)by omega)).gd.cut (-1) 0 (by decide) (by decide)).on;obtain⟨S,hS⟩:∃S:Dv,({F.S with N:=F.S.N.cyc}:Dv)=S:=⟨_,rfl⟩;have e1:S.N=F.S.N.cyc:=by rw[<- hS]
 have e2:S.T=F.S.T:=by rw[<- hS]
 have e3:S.t=F.S.t:=by rw[<- hS]
 have hGS:GI (die:Int) W S:=by rw[<- hS];exact FC.GI.cyc hG
 have hRS:Rmy (die:Int) W S:=⟨hGS.inv,hGS.hd,hGS.wok,λb hb=>by rw[e3]at hb ⊢;exact hR.held b hb,hGS.ff,by rw[e1,c1.dies,c1.blocks,c1.pages];exact hR.cap⟩;have hOS:S.Ok (Dv.costK+UN*n) m:=by rw[<- hS];exact⟨hGd,h.ok.dv.t.like c1,h.ok.dv.T,h.ok.dv.sl,h.ok.dv.row,h.ok.dv.next⟩
 have hdl:S.N.dies=D/\S.N.blocks=B/\S.N.pages=P:=by rw[e1];exact⟨c1.dies.trans g1,c1.blocks.trans g2,c1.pages.trans g3⟩
 obtain⟨d1,d2,d3⟩:=hdl;have hdA:DscA (CF F.S.T) S.N:=by
  rw[e1];exact h.dsc.less c1 λd b r x hx=> .inr (by unfold Nand.pageAt at hx ⊢;rw[c2]at hx;exact hx)
 have hrw:S.rows=F.S.rows:=by rw[<- hS];exact b1i c1.pages
 have hrw2:=h.rows;have hnx:S.next=F.S.next:=by rw[<- hS]
 have hnx2:=h.nx;obtain⟨V,W',r1,r2,r3,r4,r5,r6,r7,r8⟩:=hGS.mountedB (k:=UN*n) (m:=m) hRS hOS (by rw[d1,d2,d3,e2];exact hW.log) hW.wr (by rw[d1,d2,d3];exact h.cap)
  (λi h2 hw _=>b2Z hdA hGS.inv.lit.off h2 hw) (.calm ⟨λi=>by show S.N.dead.getD i false=false;rw[e1,c3];exact h.no.dead i,by show S.N.plan=[];rw[e1,c4];exact h.no.plan,λi j=>by show(S.N.blk i j).met=false;rw[e1,c2];exact h.no.met i j⟩) (by rw[d3,hrw];omega) (by omega)
 rw[e1]at r1;rw[r1];rw[d1,d2,d3]at r2;have hlg:(Fv.of V).lg=(lgN D B P:Int):=r2.fi.lgn;refine⟨rfl,hGd,Fv.of_ok r4 (c2b (by omega)),hlg,Fv.all_of hlg λj hj=>?_⟩;rw[r2.fi.read,f8 (by omega)];show(Fv.of V,cur W' [] j,0)=_;rw[r3,hc j hj]
end DevP
theorem b5Q (f p n t l d:Nat) {D B P k:Nat} {Z:Fv} (c:Int) (hc:0<=c/\c<=100000) (h:Dev D B P Z (400+k) (λ_=>zeros16)) (hZ:Z=Fv.of (Dv.new D B P (lgN D B P))):
  FP 69 [pp f,iI c] (FvP f p n t l d Z) (λv As=>∃Y,v= .bool true/\(Dev D B P Y k (λj=>a3X (c+j))/\Y.L=[]/\DscA (CF Y.S.T) Y.S.N)/\As=FvP f p n t l d Y):=by
 have hlg:=(Fv.lg_bd (F:=Z) h.ok.dv.gd.ok).2;rw[h.lg]at hlg;have hUN:UN=Fv.cW+1:=rfl;refine b8E f p n t l d Z c hc (lgN D B P) 0 (by omega) (by decide) (λi Y=>Dev D B P Y (200-i+200+k) (λj=>if j<i then a3X (c+j)else zeros16)/\∃w,Frs D B P i w Y) (λY=>Dev D B P Y k (λj=>a3X (c+j))/\Y.L=[]/\DscA (CF Y.S.T) Y.S.N) ?_ (λi Y hY=>⟨hY.1.lg,hY.1.ok.dv.gd.ok⟩) (λi Y hY hi=>?_) λY hY=>?_
 ·exact⟨(h.less (by omega)).congr λi _=>by rw[f8 (by omega)],0,by rw[hZ];exact Frs.new D B P⟩
 ·obtain⟨hY,w,hw⟩:=hY;have hY:Dev D B P Y ((200-(i+1)+200+k)+1) _:=hY.less (by omega);have hok:=hY.ok.less (k':=UN) (by rw[I0];omega);obtain⟨w1,w2,_⟩:=hY.write hi (b5T (c+i));exact⟨hok,w1,w2.congr λj _=>by
   by_cases e:j=i
   ·rw[f9 e,f9 (by omega),e]
   ·rw[f8 e]
    by_cases e2:j<i
    ·rw[f9 e2,f9 (by omega)]
    ·rw[f8 e2,f8 (by omega)],hw.write hY hi _⟩
 ·obtain⟨hY,w,hw⟩:=hY;have hY:Dev D B P Y (k+200) _:=hY.less (by omega);have hok:=hY.ok.less (k':=Fv.cW*200+0) (by rw[a2n];have:=b2m;omega);obtain⟨w1,w2,w3⟩:=hY.flush;exact⟨hok,w1,w2.congr λj hj=>f9 hj,w3,hw.flush hY (j6 _)⟩
theorem b2z (g0 g1 g2 dd:Int) (A:Atom) (ao:Option Addr) (no co:Nat) (xs:List Int) (hA:Rd A ao 1 no (xs.flatMap λx=>[Value.int .i64 x])) (hlo:xs.length=no) (hdo:∀x∈xs,-9223372036854775808<=x/\x<=9223372036854775807):
  FP 21 [.agg #[iI g0,iI g1,iI g2],iI dd, .slice ao no co] [A] (Ps (.bool true) [A]):=by
 rw[b2g]at hA;refine FE [0,0,0] Tryz.func21 λX F hX=>?_;refine J.q λbb=>?_;refine J.cb (b5R) [] ?_;refine cpq ⟨_,rfl,trivial,?_⟩;refine J.qF λ_=>?_;refine J.qc (b2s g0 g1 g2) [] λ_=>?_;rintro v As ⟨D,B,P,n,f,p,t,l,d,Z,rfl,hD,hB,hP,hZ,rfl⟩;refine⟨_,rfl,trivial,?_⟩;have hgb:=b9s hD hB hP;have hgm:M7 D B P=true:=by simp[M7];omega
 have hDv:Dev D B P Z 200000 (λ_=>zeros16):=by rw[hZ];exact Dev.new hD hB hP hgb.2.1 hgb.2.2 hgm
 refine J.qc (b5Q f p n t l d 60 (by decide) (hDv.less (k:=400+130000) (by decide)) hZ) [3,4,5,6,7,8] λ_=>?_;rintro v As ⟨Y,rfl,⟨hY,hYL,hYd⟩,rfl⟩;refine⟨_,rfl,trivial,?_⟩;refine J.qF λ_=>?_;refine J.qp (a0x n Y.S.N) [5] λ_=>?_;rw[hY.geo.1,hY.geo.2.1,hY.geo.2.2];refine J.qp (Y3 dd D (by omega)) [] λ_=>?_;have hb:=a3L dd (k:=(D:Int)) (by omega);obtain⟨dn,hdn⟩:∃k:Nat,U3 dd D=(k:Int):=⟨(U3 dd D).toNat,by omega⟩;rw[hdn]at hb ⊢;have hP0:=hY.devP (die:=dn) hYd hYL (by omega);refine J.q λ_=>?_;refine J.l (α:=(Nat×Nand)) (λz=>(z.1<=no/\z.1<=25)/\DevP dn D B P (Y.setN z.2) 130000 z.1 (λj=>a3X (60+j))) (λz=>[si 10 z.1,si 1 dn,sv 2 (.slice ao no co),sp 8 n,sp 9 f]) [5] (λz=>[B3 n z.2]) (λz=>no-z.1) ((0,Y.S.N)) (⟨⟨l8 _,l8 _⟩,hP0⟩) λz hI=>?_;obtain⟨i,N⟩:=z;dsimp only at hI ⊢;obtain⟨⟨hi1,hi2⟩,hNP⟩:=hI;have hOk:N.Ok:=hNP.ok.dv.gd.ok;obtain⟨hg1,hg2,hg3⟩:N.dies=D/\N.blocks=B/\N.pages=P:=hNP.geo;refine J.qd (λ_ h1=>?_) λ_ h1=>?_
 ·simp only[g7,d7,i7]at h1;obtain⟨h1,h2⟩:=h1;have h2:i<25:=by omega
  obtain⟨x,hx⟩:∃x,xs[i]? =some x:=⟨_,d6 (by omega)⟩;have hxd:=hdo x (o0 hx);refine J.know (p:=∃g o,ao=some ⟨g,o,none⟩) (λh' s=>Rd.addr (hA _ (s.get (i:=1) rfl)) (by omega)) λhk=>?_;obtain⟨gm,om,rfl⟩:=hk;have hs1:=a3L x (k:=(B:Int)) (by omega);have hs2:=a3L (x.tdiv 16) (k:=(P:Int)) (by omega);have htn:(x.tdiv 16).natAbs=x.natAbs/16:=Int.natAbs_tdiv x 16;have ht1: -9223372036854775808<=x.tdiv 16:=by omega
  have ht2:x.tdiv 16<=9223372036854775807:=by omega
  refine J.p (.take true 0 (.take true 1 (.take true 2 (.take true 3 (.take false 4 (.take true 5 (.take true 9 (.take true 10 (.take true 11 (.take false 12 (.take true 13 (.take true 14 (.alt false 6 ((.take true 7 (.alt false 8 ((.alt false 15 ((.take true 16 (.alt false 17 ((.of [72,78,83])) (.alt false 19 ((.of [70,72,83])) .non)))) (.alt false 19 ((.of [62,64,70,72,83])) .non))) (.alt false 19 ((.of [34,62,64,70,72,83])) .non)))) (.alt false 19 ((.of [26,28,34,62,64,70,72,83])) .non)))))))))))))) [20] [1] λ_=>?_;refine J.join (α:=Nat) (λx1=>[⟨11,pp x1,10, .tt⟩,si 10 i,si 1 dn,sv 2 (.slice (some ⟨gm,om,none⟩) no co),sp 8 n,sp 9 f]) (λx1=>[.hp F,A, .pt (bb 0) 23 (Value.agg #[iI g0,iI g1,iI g2]).cells.toList,a3k f n t l p d Y,a1v p n t l Y.S,B3 n N,TlA t Y.S.t,TbA l Y.S.T,a1Q d Y.L, .pt x1 55 [iI dn,iI (U3 x B),iI (U3 (x.tdiv 16) P)]]) (λhj=>?_) (λx1=>?_)
  ·skip
   refine J.qn 4 λ_=>?_;refine J.vT (iI x) rfl rfl (λhg aa w he hC=>a1Y tk rfl rfl he rfl rfl rfl (hA _ (hC rfl _ (B4 (i:=1) rfl))) (by omega) (j:=i) (by omega) (a0s hx)) ?_;refine J.qn 4 λ_=>?_;refine J.vT (iI x) rfl rfl (λhg aa w he hC=>a1Y tk rfl rfl he rfl rfl rfl (hA _ (hC rfl _ (B4 (i:=1) rfl))) (by omega) (j:=i) (by omega) (a0s hx)) ?_;refine J.qn 2 λ_=>?_;refine J.alts ?_ ?_
   ·skip
    refine J.qp (a0x n N) [5] λ_=>?_;rw[hg1,hg2,hg3];refine J.qn 1 λ_=>?_;refine J.alts ?_ ?_
    ·skip
     refine J.qp (Y3 x B (by omega)) [] λ_=>?_;refine J.alts ?_ ?_
     ·skip
      refine J.qp (a0x n N) [5] λ_=>?_;rw[hg1,hg2,hg3];refine J.qn 1 λ_=>?_;refine J.alts ?_ ?_
      ·skip
       refine J.qp (Y3 (x.tdiv 16) P (by omega)) [] λ_=>?_;refine J.qn 4 λx1=>?_;exact J.goto [0,1,2,3,4,5,6,7,8,9] (hj (x1 0)) stq rfl rfl
      ·skip
       refine J.qn 1 λx1=>?_;refine J.qp (Y3 (x.tdiv 16) P (by omega)) [] λ_=>?_;refine J.qn 3 λx2=>?_;exact J.goto [0,1,2,3,4,5,6,7,8,9] (hj (x1 0)) stq rfl rfl
     ·skip
      refine J.qn 1 λx1=>?_;refine J.qp (a0x n N) [5] λ_=>?_;rw[hg1,hg2,hg3];refine J.qn 1 λ_=>?_;refine J.qp (Y3 (x.tdiv 16) P (by omega)) [] λ_=>?_;refine J.qn 3 λx2=>?_;exact J.goto [0,1,2,3,4,5,6,7,8,9] (hj (x1 0)) stq rfl rfl
    ·skip
     refine J.qn 1 λx1=>?_;refine J.qp (Y3 x B (by omega)) [] λ_=>?_;refine J.qp (a0x n N) [5] λ_=>?_;rw[hg1,hg2,hg3];refine J.qn 1 λ_=>?_;refine J.qp (Y3 (x.tdiv 16) P (by omega)) [] λ_=>?_;refine J.qn 3 λx2=>?_;exact J.goto [0,1,2,3,4,5,6,7,8,9] (hj (x1 0)) stq rfl rfl
   ·skip
    refine J.qn 1 λx1=>?_;refine J.qp (a0x n N) [5] λ_=>?_;rw[hg1,hg2,hg3];refine J.qn 1 λ_=>?_;refine J.qp (Y3 x B (by omega)) [] λ_=>?_;refine J.qp (a0x n N) [5] λ_=>?_;rw[hg1,hg2,hg3];refine J.qn 1 λ_=>?_;refine J.qp (Y3 (x.tdiv 16) P (by omega)) [] λ_=>?_;refine J.qn 3 λx2=>?_;exact J.goto [0,1,2,3,4,5,6,7,8,9] (hj (x1 0)) stq rfl rfl
  refine J.q λ_=>?_;refine J.v (iI x) rfl rfl (λhg a w he hw=>a1Y tk rfl rfl he rfl rfl rfl (hA _ (hw.get (i:=1) rfl)) (by omega) (j:=i) (by omega) (a0s hx)) ?_;refine J.qd (λ_ h3=>?_) λ_ h3=>?_
  ·skip
   refine J.qp (a1Z n N hOk 0 3 dn (U3 x B) (U3 (x.tdiv 16) P) 0 0) [5] λ_=>?_;refine J.q λ_=>?_;refine J.n ((i+1,(N.fault 3 dn (U3 x B) (U3 (x.tdiv 16) P) 0 0).2)) (⟨⟨by dsimp only;omega,by dsimp only;omega⟩,hNP.fault 3 _ _ 0 0 (.inl rfl)⟩) (by dsimp only;omega) [0,1,2,3,4,5,6,7,8]
  ·skip
   refine J.pq (.of [0,5,8,12,16,21,28,32,36,41,26,46,48,52,58]) [] [1,9] λ_ _=>?_;refine J.vT (iI x) rfl rfl (λhg aa w he hC=>a1Y tk rfl rfl he rfl rfl rfl (hA _ (hC rfl _ (B4 (i:=1) rfl))) (by omega) (j:=i) (by omega) (a0s hx)) ?_;refine J.q λ_=>?_;refine J.vT (iI x) rfl rfl (λhg aa w he hC=>a1Y tk rfl rfl he rfl rfl rfl (hA _ (hC rfl _ (B4 (i:=1) rfl))) (by omega) (j:=i) (by omega) (a0s hx)) ?_;refine J.qp (Y3 x 32 (by decide)) [] λ_=>?_;refine J.qp (Y3 x 255 (by decide)) [] λ_=>?_;have hs3:=a3L x (k:=255) (by decide);refine J.qp (a1Z n N hOk 0 5 dn (U3 x B) (U3 (x.tdiv 16) P) (U3 x 32) (1+U3 x 255)) [5] λ_=>?_;refine J.q λ_=>?_;refine J.n ((i+1,(N.fault 5 dn (U3 x B) (U3 (x.tdiv 16) P) (U3 x 32) (1+U3 x 255)).2)) (⟨⟨by dsimp only;omega,by dsimp only;omega⟩,hNP.fault 5 _ _ _ _ (.inr rfl)⟩) (by dsimp only;omega) [0,1,2,3,4,5,6,7,8]
 clear h1;obtain⟨Z1,hZ1⟩:∃Z1,Y.setN N=Z1:=⟨_,rfl⟩;rw[hZ1]at hNP;refine J.turn1 [3,4,5,6,7,8] rfl (As:=FvP f p n t l d Z1) (λh s=>by rw[<- hZ1];exact s) rfl ?_;refine J.qp (b3s f p n t l d Z1 60 (by decide) (lgN D B P) (UN*130000) i (by omega) hNP.ok hNP.lg hNP.all) [3,4,5,6,7,8] λ_=>?_;refine J.qF λ_=>?_;refine J.q λ_=>?_;obtain⟨w1,w2,w3,w4,w5⟩:=hNP.again (n:=129597) (by decide);refine J.qc (b5S n Z1.S.N (UN*129597) i w2 (by omega) w1) [5] λ_=>?_;rintro v As ⟨f2,p2,t2,l2,d2,rfl,rfl⟩;refine⟨_,rfl,trivial,?_⟩;refine J.q λ_=>?_;refine J.ca hX (by kernel_rfl) (b3s f2 p2 n t2 l2 d2 _ 60 (by decide) (lgN D B P) (UN*129597) i (by omega) w3 w4 w5) [5,9,10,11,12,13] 0 rfl rfl rfl rfl rfl rfl (λ_=>rfl) ?_;refine cpq ⟨_,rfl,trivial,?_⟩;exact J.qx [1]
theorem a0u {a b:Bool} (ha:a=true) (hb:b=true):(a&&b)=true:=by rw[ha,hb];rfl
theorem b4V {P:Program} {f:FuncId} {fn:Func} {s:ChangeSpec} {c:OpenClaim} (k0:(c.wf (OpenSpec.ofChange s))=true) (k1:(laidOutB P)=true) (k2:(mapsRowed P)=true) (k3:(fn.params.all (P.readableRec ·))=true) (k4:(namedTie P c.named s.vars)=true) (k5:(c.stops==[])=true) (k6:(P.stops==[])=true) (k7:(c.knobs==[])=true) (k8:(P.stopKnobs==[])=true) (k9:(c.inPlace==P.inPlace f)=true) (k10:(c.unfollowed==P.unfollowed f)=true) (k11:(c.recurses==P.recurses f)=true) (k12:(c.named==P.varsNamed f)=true) (k13:(c.maps==(fn.params.toList++s.plain.varTypes P).any (P.mapsRec ·))=true) (k14:(c.ifaces==(fn.params.toList++s.plain.varTypes P).any (P.ifacesRec ·))=true) (k15:(c.mapsOut==P.mapsAmong fn.resultTypes.toList)=true) (k16:(c.loops==(fn.params.toList++s.plain.varTypes P).any (P.loopsFrom ·))=true) (k17:(c.wideKeys==(fn.params.toList++s.plain.varTypes P++fn.resultTypes.toList).any (P.wideKeysFrom ·))=true) (k18:(s.vars.all (P.varReadable ·))=true) (k19:(fn.resultTypes.all (λt=>P.readableRec t&&decide (t<P.types.size)))=true) (k20:(c.ifacesOut==fn.resultTypes.toList.any (P.ifacesRec ·))=true) (k21:(c.loopsOut==fn.resultTypes.toList.any (P.loopsFrom ·))=true) (k22:(c.plainKeys==P.plainKeys)=true) (k23:(c.shortTexts.isNone)=true) (k24:(P.stopsHeard)=true) (k25:(P.mayEnter)=true) (k26:(c.lifted==P.liftsFinal)=true) (k27:(P.make==some c.make)=true) (k28a:c.domain.isEmpty=true) (k28:(c.kinds==[])=true) (k29:(c.pinned==c.pinnedBy)=true) (k30:(c.veiled==(fn.params.toList++s.plain.varTypes P++fn.resultTypes.toList).any (P.veiledRec ·))=true) (k31:(c.veiledFits P fn.params.toList (fn.params.toList++s.plain.varTypes P++fn.resultTypes.toList))=true):joinedFacts P f fn s c=true:=by
 unfold joinedFacts;rw[f9 k28a];exact(a0u (a0u (a0u (a0u (a0u (a0u (a0u (a0u (a0u (a0u (a0u (a0u (a0u (a0u (a0u (a0u (a0u (a0u (a0u (a0u (a0u (a0u (a0u (a0u (a0u (a0u (a0u (a0u (a0u (a0u (a0u k0 k1) k2) k3) k4) k5) k6) k7) k8) k9) k10) k11) k12) k13) k14) k15) k16) k17) k18) k19) k20) k21) k22) k23) k24) k25) k26) k27) k28) k29) k30) k31)
end Go.Proofs.YtpakpgkdpofbhaaGreat
