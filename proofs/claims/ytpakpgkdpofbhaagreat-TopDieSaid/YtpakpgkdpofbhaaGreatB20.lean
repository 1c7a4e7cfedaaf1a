/- Helpers. No condition. -/
import Derived.Test.YtpakpgkdpofbhaaGreatB00
import Derived.Test.YtpakpgkdpofbhaaGreatB16
import Derived.Test.YtpakpgkdpofbhaaGreatB17
set_option maxRecDepth 20000
set_option linter.all false
namespace Go.Proofs.YtpakpgkdpofbhaaGreat
open Go
structure FdCh (fd:Nat) (N N':Nand):Prop where
 like:N.Like N'
 off:N'.off=N.off
 cuts:N'.cuts=N.cuts
 broken:N'.broken=N.broken
 dead:∀i:Nat,i≠fd->N'.dead.getD i false=N.dead.getD i false
 dead2:N'.dead.getD fd false=false->N.dead.getD fd false=false
 plan:∀a∈N'.plan,a∈N.plan\/a.1=(fd:Int)
 blk:∀i j:Nat,i≠fd->N'.blk i j=N.blk i j
 len:∀j:Nat,(N'.blk fd j).cells.length=(N.blk fd j).cells.length
 cell:∀(j r:Nat) (c:NCell),(N'.blk fd j).cells[r]? =some c->∃c0,(N.blk fd j).cells[r]? =some c0/\∀s,a2l s c0->a2l s c
namespace FdCh
variable {fd : Nat} {N N' : Nand}
theorem refl (fd:Nat) (N:Nand):FdCh fd N N:=⟨Nand.Like.refl _,rfl,rfl,rfl,λ_ _=>rfl,λh=>h,λ_ h=> .inl h,λ_ _ _=>rfl,λ_=>rfl,λ_ _ c h=>⟨c,h,λ_ h=>h⟩⟩
theorem same_blk (like:N.Like N') (off:N'.off=N.off) (cuts:N'.cuts=N.cuts) (broken:N'.broken=N.broken) (hd:∀i:Nat,i≠fd->N'.dead.getD i false=N.dead.getD i false) (hd2:N'.dead.getD fd false=false->N.dead.getD fd false=false) (plan:∀a∈N'.plan,a∈N.plan\/a.1=(fd:Int)) (hb:∀i j,N'.blk i j=N.blk i j\/i=fd/\(N'.blk i j).cells=(N.blk i j).cells):FdCh fd N N':=by
 refine⟨like,off,cuts,broken,hd,hd2,plan,λi j hi=>?_,λj=>?_,λj r c hc=>?_⟩
 ·rcases hb i j with h | ⟨h,_⟩
  ·exact h
  ·exact absurd h hi
 ·rcases hb fd j with h | ⟨_,h⟩
  ·rw[h]
  ·rw[h]
 ·refine⟨c,?_,λ_ h=>h⟩;rcases hb fd j with h | ⟨_,h⟩
  ·rw[<- h];exact hc
  ·rw[<- h];exact hc
theorem cellCh {y z:Int} (f:NCell->NCell) (hf:∀c,N.pageAt (fd:Int) y z=some c->∀s,a2l s c->a2l s (f c)):FdCh fd N (N.setCell (fd:Int) y z f):=by
 have hb:∀i j,(N.setCell (fd:Int) y z f).blk i j=if i=fd/\j=y.toNat then {N.blk fd y.toNat with cells:=(N.blk fd y.toNat).cells.modify z.toNat f}else N.blk i j:=λi j=>by
  show(if i=(fd:Int).toNat/\j=y.toNat then _ else _)=_;rw[l9]
 refine⟨⟨rfl,rfl,rfl⟩,rfl,rfl,rfl,λ_ _=>rfl,λh=>h,λ_ h=> .inl h,λi j hi=>by rw[hb,i7 (λh=>hi h.1)],λj=>?_,λj r c hc=>?_⟩
 ·rw[hb];split
  ·rename_i h;rw[h.2];show((N.blk fd y.toNat).cells.modify z.toNat f).length=_;rw[K7]
  ·rfl
 ·rw[hb]at hc;split at hc
  ·rename_i h;rw[h.2];have hc:((N.blk fd y.toNat).cells.modify z.toNat f)[r]? =some c:=hc;rw[a0f]at hc;cases h0:(N.blk fd y.toNat).cells[r]? with
   | none=>rw[h0]at hc;cases hc
   | some c0=>
    rw[h0]at hc;refine⟨c0,rfl,λs hs=>?_⟩
    by_cases hz:z.toNat=r
    ·have hc:some (if z.toNat=r then f c0 else c0)=some c:=hc;rw[i9 hz]at hc;injection hc with hc;rw[<- hc];refine hf c0 ?_ s hs;unfold Nand.pageAt;rw[l9,hz];exact h0
    ·have hc:some (if z.toNat=r then f c0 else c0)=some c:=hc;rw[i7 hz]at hc;injection hc with hc;rw[<- hc];exact hs
  ·exact⟨c,hc,λ_ h=>h⟩
theorem cell_lost (c:NCell) (s:Sh):a2l s {c with lost:=true}:= .inl rfl
theorem xor_zero (p:List UInt8) (n:Nat):Nand.xorAt p n 0=p:=by
 unfold Nand.xorAt;rw[UInt8.xor_zero];apply y6;intro i;rw[u0];split
 ·rename_i h;subst h;split
  ·rename_i h;rw[d7,d6 h];rfl
  ·rename_i h;rw[n4 (by omega)]
 ·rfl
theorem fault (N:Nand) (kind y z n xx:Int):FdCh fd N (N.fault kind (fd:Int) y z n xx).2:=by
 unfold Nand.fault;split
 ·exact refl fd N
 split
 ·exact same_blk ⟨rfl,rfl,rfl⟩ rfl rfl rfl (λ_ _=>rfl) (λh=>h) (λa ha=>by
   have ha:a∈Nand.addP N.plan ((fd:Int),y,z):=ha;unfold Nand.addP at ha;split at ha
   ·exact .inl ha
   ·rcases List.mem_append.1 ha with h | h
    ·exact .inl h
    ·simp at h;rw[h];exact .inr rfl) (λ_ _=> .inl rfl)
 split
 ·exact same_blk ⟨rfl,rfl,rfl⟩ rfl rfl rfl (λ_ _=>rfl) (λh=>h) (λ_ h=> .inl h) (λi j=>by
   show(if i=(fd:Int).toNat/\j=y.toNat then _ else _)=_\/_;rw[l9]
   by_cases e:i=fd/\j=y.toNat
   ·right;refine⟨e.1,?_⟩;show(if i=(fd:Int).toNat/\j=y.toNat then _ else _:NBlock).cells=_;rw[l9,i9 e,e.1,e.2]
   ·left;rw[i7 e])
 split
 ·exact cellCh _ λc _ s _=>cell_lost c s
 split
 ·exact same_blk ⟨rfl,rfl,rfl⟩ rfl rfl rfl (λi hi=>by
   show(N.dead.set (fd:Int).toNat true).getD i false=_;rw[d7,u0,i7 (by omega),<- d7]) (λh=>by
   have h:(N.dead.set (fd:Int).toNat true).getD fd false=false:=h;rw[d7,u0,i9 (by omega)]at h;rw[d7];split at h
   ·cases h
   ·rename_i hlt;rw[n4 (by omega)];rfl) (λ_ h=> .inl h) (λ_ _=> .inl rfl)
 split
 ·split
  ·exact refl fd N
  ·rename_i hn;cases hp:N.pageAt (fd:Int) y z with
   | none=>exact refl fd N
   | some c=>
    dsimp only;split
    ·exact refl fd N
    split
    ·exact refl fd N
    ·rename_i ht hl;refine cellCh _ λc' hc' s hs=>?_;rw[hp]at hc';injection hc' with hc';subst hc';rcases hs with h | h | ⟨h,_⟩
     ·exact absurd h hl
     ·obtain⟨x,hx⟩:∃x,UInt8.ofNat (xx % 256).toNat=x:=⟨_,rfl⟩;show a2l s {c with p:=Nand.xorAt c.p n.toNat (UInt8.ofNat (xx % 256).toNat),turned:=true};rw[hx]
      by_cases h0:x=0
      ·rw[h0];exact .inr (.inl (by show Nand.xorAt c.p n.toNat 0=W5 s;rw[xor_zero];exact h))
      ·exact .inr (.inr ⟨rfl, .inl ⟨n.toNat,x,by omega,h0,by show Nand.xorAt c.p n.toNat x=_;rw[h]⟩⟩)
     ·exact absurd h ht
 ·exact refl fd N
end FdCh
theorem Inv.changed {S:Dv} {fd:Nat} {N':Nand} (h:Inv fd S) (c:FdCh fd S.N N'):Inv fd {S with N:=N'}/\∀i a,Std fd S i a->Std fd {S with N:=N'} i a/\R.read N' a.block a.row a.slot a.mask=R.read S.N a.block a.row a.slot a.mask:=by
 have hoff:N'.off=false:=c.off.trans h.lit.off;have hdead:∀i:Nat,(i:Int)≠fd->N'.dead.getD i false=false:=λi hi=>by rw[c.dead i (by omega)];exact h.dead i hi
 have hpage:∀(d b r:Int),d.toNat≠fd->N'.pageAt d b r=S.N.pageAt d b r:=λd b r hd=>by
  unfold Nand.pageAt;rw[c.blk _ _ hd]
 have hfull:∀b r m l,Full fd S.N b r m l->Full fd N' b r m l:=λb r m l hF=>by
  refine⟨hF.is.like c.like,λx hx hne=>?_,λx hx y hy=>?_⟩
  ·obtain⟨t,ht⟩:=hF.good x hx hne;have:=(hF.is.inn x hx).1;exact⟨t,by rw[hpage _ _ _ (by omega)];exact ht⟩
  ·by_cases e:x.1.toNat=fd
   ·unfold Nand.pageAt at hy;rw[e]at hy;obtain⟨c0,h1,h2⟩:=c.cell _ _ y hy;refine h2 _ (hF.inn x hx c0 ?_);unfold Nand.pageAt;rw[e];exact h1
   ·rw[hpage _ _ _ e]at hy;exact hF.inn x hx y hy
 have hstd:∀i a,Std fd S i a->Std fd {S with N:=N'} i a/\R.read N' a.block a.row a.slot a.mask=R.read S.N a.block a.row a.slot a.mask:=λi a ha=>by
  obtain⟨l,g1,g2,g3,g4⟩:=ha.row;have hk:=hfull _ _ _ _ g1;have r1:=hk.read hoff hdead g3;have r2:=g1.read h.lit.off h.dead g3;rw[show((a.slot.toNat:Nat):Int)=a.slot from by omega]at r1 r2;exact⟨⟨⟨l,hk,g2,g3,g4⟩,ha.used,ha.below,ha.seq⟩,by rw[r1,r2]⟩
 have hlen:∀d j:Nat,(N'.blk d j).cells.length=(S.N.blk d j).cells.length:=λd j=>by
  by_cases e:d=fd
  ·rw[e];exact c.len j
  ·rw[c.blk d j e]
 refine⟨⟨⟨hoff,c.cuts.trans h.lit.cuts⟩,hdead,λa ha=>?_,λi j hi=>?_,h.tdead,h.tbad,?_,λb hb hu d hd=>?_,λi a ha=>(hstd i a (h.st i a ha)).1⟩,hstd⟩
 ·rcases c.plan a ha with e | e
  ·exact h.plan a e
  ·exact e
 ·show(N'.blk i j).met=false/\(N'.blk i j).fails=false;rw[c.blk i j (by omega)];exact h.flags i j hi
 ·rcases h.op with e | e
  ·exact .inl e
  ·refine .inr ⟨by have:=e.blk;show 0<=S.op/\S.op<(N'.blocks:Int);rw[c.like.blocks];exact this,e.used,by have:=e.row;show 0<=S.row/\S.row<=(N'.pages:Int);rw[c.like.pages];exact this,by have:=e.mask;show Msk N'.dies fd S.mask;rw[c.like.dies];exact this,λd hd=>?_⟩;have h1:=e.cells d hd;show((N'.blk d S.op.toNat).cells.length:Int)<=S.row/\(N'.dead.getD d false=false->((N'.blk d S.op.toNat).cells.length:Int)=S.row);rw[hlen];refine⟨h1.1,λhdd=>h1.2 ?_⟩
   by_cases e2:d=fd
   ·rw[e2]at hdd ⊢;exact c.dead2 hdd
   ·rw[<- c.dead d e2];exact hdd
 ·have h1:=h.blank b hb hu d hd;have h2:=hlen d b.toNat
  rw[h1]at h2;exact p6 h2
theorem FI.faulted {fd lg:Nat} {W:List (Int×En)} {F:Fv} (h:FI fd W lg F) (kind y z n xx:Int):FI fd W lg {F with S:={F.S with N:=(F.S.N.fault kind (fd:Int) y z n xx).2}}:=by
 have c:=FdCh.fault (fd:=fd) F.S.N kind y z n xx;obtain⟨h1,h2⟩:=h.inv.changed c;refine⟨h1,⟨h.hd.keys,λi e he=>?_⟩,h.wok,h.wr,h.log,?_,h.lg2,h.des,h.nd,h.off⟩
 ·obtain⟨g1,a,g2,g3⟩:=h.hd.each i e he;refine⟨g1,a,g2,?_⟩;show R.read (F.S.N.fault kind (fd:Int) y z n xx).2 _ _ _ _=_;rw[(h2 i a (h.inv.st i a g2)).2];exact g3
 ·have:=h.lgn;unfold Fv.lg at this ⊢;show((lgN (F.S.N.fault kind (fd:Int) y z n xx).2.dies (F.S.N.fault kind (fd:Int) y z n xx).2.blocks (F.S.N.fault kind (fd:Int) y z n xx).2.pages:Nat):Int)=_;rw[c.like.dies,c.like.blocks,c.like.pages];exact this
structure DevF (fd:Int) (D B P:Nat) (F:Fv) (n m:Nat) (c:Nat->List UInt8):Prop where
 fi:∃W,FI fd W (lgN D B P) F/\∀i:Nat,i<lgN D B P->cur W F.L i=c i
 ok:F.Ok (UN*n) m
 nx:F.S.next+20000000*(n:Int)<=1098000000000
 br:F.S.N.broken=0
 geo:F.S.N.dies=D/\F.S.N.blocks=B/\F.S.N.pages=P
 le:n<=54500
namespace DevF
variable {fd : Int} {D B P n m : Nat} {F : Fv} {c : Nat → List UInt8}
theorem lg (h:DevF fd D B P F n m c):F.lg=(lgN D B P:Int):=by
 obtain⟨W,hW,_⟩:=h.fi;exact hW.lgn
theorem less (h:DevF fd D B P F n m c) {k:Nat} (hk:k<=n):DevF fd D B P F k m c:=
 ⟨h.fi,h.ok.less (s7 _ hk),by have:=h.nx;omega,h.br,h.geo,by have:=h.le;omega⟩
theorem like (h:DevF fd D B P F n m c) {G:Fv} (hl:F.S.N.Like G.S.N):G.S.N.dies=D/\G.S.N.blocks=B/\G.S.N.pages=P:=
 ⟨hl.dies.trans h.geo.1,hl.blocks.trans h.geo.2.1,hl.pages.trans h.geo.2.2⟩
theorem put (h:DevF fd D B P F (n+1) m c) {e:En} (he:0<=e.lpn->e.lpn<(lgN D B P:Int)->FitR e/\e.role≠4) (hk:(F.waits e).1.Ok (UN*n) m):
  ∃er c',(F.waits e).2=er/\DevF fd D B P (F.waits e).1 n m c'/\((er=0/\(0<=e.lpn/\e.lpn<(lgN D B P:Int))/\c'=λj=>if j=e.lpn.toNat then e.data else c j)\/((er=3/\¬(0<=e.lpn/\e.lpn<(lgN D B P:Int)))\/er=11)/\c'=c):=by
 obtain⟨W,hW,hc⟩:=h.fi;have hU:UN*(n+1)=UN*n+UN:=C2 _ _;have hU2:=a8J;have hnx:=h.nx;obtain⟨F',er,W',r1,r2,r3,r4,r5,r6,r7⟩:=hW.waits (k:=UN*n) (h.ok.dv.less (by omega)) (by omega) he;rw[r1]at hk ⊢;have hle:=h.le;rcases r7 with⟨q1,q2,q3,q4⟩ | ⟨q1,q2⟩
 ·exact⟨er,_,rfl,⟨⟨W',r2,λi hi=>(q4 i).trans (by
   rw[hc i hi]
   by_cases e0:i=e.lpn.toNat
   ·rw[i9 e0,i9 (by omega)]
   ·rw[i7 e0,i7 (by omega)])⟩,hk,by dsimp only;omega,r5.trans h.br,h.like r6,by omega⟩, .inl ⟨q1,⟨q2,q3⟩,rfl⟩⟩
 ·exact⟨er,c,rfl,⟨⟨W',r2,λi hi=>(q2 i).trans (hc i hi)⟩,hk,by dsimp only;omega,r5.trans h.br,h.like r6,by omega⟩, .inr ⟨q1,rfl⟩⟩
theorem write (h:DevF fd D B P F (n+1) m c) (i:Int) {d:List UInt8} (hd:d.length=16):
  ∃er c',(F.write i d).2=er/\DevF fd D B P (F.write i d).1 n m c'/\((er=0/\(0<=i/\i<(lgN D B P:Int))/\c'=λj=>if j=i.toNat then d else c j)\/((er=3/\¬(0<=i/\i<(lgN D B P:Int)))\/er=11)/\c'=c):=by
 have h200:=(Fv.lg_bd (F:=F) h.ok.dv.gd.ok).2;rw[h.lg]at h200;have hU:UN*(n+1)=UN*n+UN:=C2 _ _;exact h.put (e:=⟨i,0,1,d⟩) (λa b=>⟨⟨⟨a,by show i<=65535;have b:i<(lgN D B P:Int):=b;omega⟩, .inl rfl,hd⟩,by show(1:Int)≠4;decide⟩) (Fv.write_keep (k:=UN*n) (h.ok.less (by unfold UN at hU ⊢;omega)) i hd).1
theorem faulted {d:Nat} (h:DevF d D B P F n m c) (kind y z a b:Int):DevF d D B P {F with S:={F.S with N:=(F.S.N.fault kind (d:Int) y z a b).2}} n (m+1) c:=by
 obtain⟨W,hW,hc⟩:=h.fi;have hl:=Nand.like_fault F.S.N kind (d:Int) y z a b;have hG:(F.S.N.fault kind (d:Int) y z a b).2.Gd (UN*n) (m+1):=a3n h.ok.dv.gd [⟨0,kind,d,y,z,a,b⟩];have hb:=(FdCh.fault (fd:=d) F.S.N kind y z a b).broken;exact⟨⟨W,hW.faulted kind y z a b,hc⟩,⟨⟨hG,h.ok.dv.t.like hl,h.ok.dv.T,h.ok.dv.sl,h.ok.dv.row,h.ok.dv.next⟩,h.ok.dat,λe he=>by
  have:=h.ok.rng e he;unfold Fv.lg at this ⊢;show 0<=e.lpn/\e.lpn<((lgN (F.S.N.fault kind (d:Int) y z a b).2.dies (F.S.N.fault kind (d:Int) y z a b).2.blocks (F.S.N.fault kind (d:Int) y z a b).2.pages:Nat):Int);rw[a8i hl];exact this,h.ok.nd,h.ok.nx⟩,h.nx,hb.trans h.br,h.like (G:={F with S:={F.S with N:=(F.S.N.fault kind (d:Int) y z a b).2}}) hl,h.le⟩
theorem new (fd:Int) (hD:3<=D/\D<=6) (hB:8<=B/\B<=16) (hP:2<=P/\P<=8) (hlg:lgN D B P<=200) (hgm:J3 D B P=true):DevF fd D B P (Fv.of (Dv.new D B P (lgN D B P))) 54500 0 (λ_=>zeros16):=
 ⟨⟨[],FI.new fd hD hB hP hlg,λ_ _=>rfl⟩,Fv.of_ok (Dv.Ok.new D B P _ hgm _ (c0D (by decide))) (c0D (by decide)),by show(1:Int)+20000000*((54500:Nat):Int)<=_;omega,rfl,⟨rfl,rfl,rfl⟩,m9 _⟩
end DevF
end Go.Proofs.YtpakpgkdpofbhaaGreat
