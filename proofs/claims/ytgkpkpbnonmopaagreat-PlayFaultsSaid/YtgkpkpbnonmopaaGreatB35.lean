/- Helpers, proved here. No condition. -/
import Derived.Test.YtgkpkpbnonmopaaGreatB06
import Derived.Test.YtgkpkpbnonmopaaGreatB16
import Derived.Test.YtgkpkpbnonmopaaGreatB26
import Derived.Test.YtgkpkpbnonmopaaGreatB27
import Derived.Test.YtgkpkpbnonmopaaGreatB29
import Derived.Test.YtgkpkpbnonmopaaGreatB30
import Derived.Test.YtgkpkpbnonmopaaGreatB31
set_option maxRecDepth 20000
set_option linter.all false
namespace Go.Proofs.YtgkpkpbnonmopaaGreat
open Go Go.RowKit
structure FdCh (fd:Nat) (N N':Nand):Prop where
 like:N.Like N'
 off:N'.off=N.off
 cuts:N'.cuts=N.cuts
 broken:N'.broken=N.broken
 dead:∀i:Nat,i≠fd->N'.dead.getD i false=N.dead.getD i false
 dead2:N'.dead.getD fd false=false->N.dead.getD fd false=false
 plan:∀a∈N'.plan,a∈N.plan\/a.1=(fd:Int)
 blk:∀i j:Nat,i≠fd->N'.blk i j=N.blk i j
 len:∀j:Nat,(N'.blk fd j).cells.length=(N.blk fd j).cells.length
 cell:∀(j r:Nat) (c:NCell),(N'.blk fd j).cells[r]? =some c->∃c0,(N.blk fd j).cells[r]? =some c0/\∀s,R7 s c0->R7 s c
namespace FdCh
variable {fd : Nat} {N N' : Nand}
theorem refl (fd:Nat) (N:Nand):FdCh fd N N:=⟨Nand.Like.refl _,rfl,rfl,rfl,λ_ _=>rfl,λh=>h,λ_ h=> .inl h,λ_ _ _=>rfl,λ_=>rfl,λ_ _ c h=>⟨c,h,λ_ h=>h⟩⟩
theorem same_blk (like:N.Like N') (off:N'.off=N.off) (cuts:N'.cuts=N.cuts) (broken:N'.broken=N.broken) (hd:∀i:Nat,i≠fd->N'.dead.getD i false=N.dead.getD i false) (hd2:N'.dead.getD fd false=false->N.dead.getD fd false=false) (plan:∀a∈N'.plan,a∈N.plan\/a.1=(fd:Int)) (hb:∀i j,N'.blk i j=N.blk i j\/i=fd/\(N'.blk i j).cells=(N.blk i j).cells):FdCh fd N N':=by
 refine⟨like,off,cuts,broken,hd,hd2,plan,λi j hi=>?_,λj=>?_,λj r c hc=>?_⟩
 ·rcases hb i j with h | ⟨h,_⟩
  ·exact h
  ·exact absurd h hi
 ·rcases hb fd j with h | ⟨_,h⟩
  ·rw[h]
  ·rw[h]
 ·refine⟨c,?_,λ_ h=>h⟩;rcases hb fd j with h | ⟨_,h⟩
  ·rw[<- h];exact hc
  ·rw[<- h];exact hc
theorem cellCh {y z:Int} (f:NCell->NCell) (hf:∀c,N.pageAt (fd:Int) y z=some c->∀s,R7 s c->R7 s (f c)):FdCh fd N (N.setCell (fd:Int) y z f):=by
 have hb:∀i j,(N.setCell (fd:Int) y z f).blk i j=if i=fd/\j=y.toNat then {N.blk fd y.toNat with cells:=(N.blk fd y.toNat).cells.modify z.toNat f}else N.blk i j:=λi j=>by
  show(if i=(fd:Int).toNat/\j=y.toNat then _ else _)=_;rw[Int.toNat_natCast]
 refine⟨⟨rfl,rfl,rfl⟩,rfl,rfl,rfl,λ_ _=>rfl,λh=>h,λ_ h=> .inl h,λi j hi=>by rw[hb,if_neg (λh=>hi h.1)],λj=>?_,λj r c hc=>?_⟩
 ·rw[hb];split
  ·rename_i h;rw[h.2];show((N.blk fd y.toNat).cells.modify z.toNat f).length=_;rw[List.length_modify]
  ·rfl
 ·rw[hb]at hc;split at hc
  ·rename_i h;rw[h.2];have hc:((N.blk fd y.toNat).cells.modify z.toNat f)[r]? =some c:=hc;rw[List.getElem?_modify]at hc;cases h0:(N.blk fd y.toNat).cells[r]? with
   | none=>rw[h0]at hc;cases hc
   | some c0=>
    rw[h0]at hc;refine⟨c0,rfl,λs hs=>?_⟩
    by_cases hz:z.toNat=r
    ·have hc:some (if z.toNat=r then f c0 else c0)=some c:=hc;rw[if_pos hz]at hc;injection hc with hc;rw[<- hc];refine hf c0 ?_ s hs;unfold Nand.pageAt;rw[Int.toNat_natCast,hz];exact h0
    ·have hc:some (if z.toNat=r then f c0 else c0)=some c:=hc;rw[if_neg hz]at hc;injection hc with hc;rw[<- hc];exact hs
  ·exact⟨c,hc,λ_ h=>h⟩
theorem cell_lost (c:NCell) (s:Sh):R7 s {c with lost:=true}:= .inl rfl
theorem xor_zero (p:List UInt8) (n:Nat):Nand.xorAt p n 0=p:=by
 unfold Nand.xorAt;rw[UInt8.xor_zero];apply List.ext_getElem?;intro i;rw[List.getElem?_set];split
 ·rename_i h;subst h;split
  ·rename_i h;rw[List.getD_eq_getElem?_getD,List.getElem?_eq_getElem h];rfl
  ·rename_i h;rw[List.getElem?_eq_none (by omega)]
 ·rfl
theorem fault (N:Nand) (kind y z n xx:Int):FdCh fd N (N.fault kind (fd:Int) y z n xx).2:=by
 unfold Nand.fault;split
 ·exact refl fd N
 split
 ·exact same_blk ⟨rfl,rfl,rfl⟩ rfl rfl rfl (λ_ _=>rfl) (λh=>h) (λa ha=>by
   have ha:a∈Nand.addP N.plan ((fd:Int),y,z):=ha;unfold Nand.addP at ha;split at ha
   ·exact .inl ha
   ·rcases List.mem_append.1 ha with h | h
    ·exact .inl h
    ·simp at h;rw[h];exact .inr rfl) (λ_ _=> .inl rfl)
 split
 ·exact same_blk ⟨rfl,rfl,rfl⟩ rfl rfl rfl (λ_ _=>rfl) (λh=>h) (λ_ h=> .inl h) (λi j=>by
   show(if i=(fd:Int).toNat/\j=y.toNat then _ else _)=_\/_;rw[Int.toNat_natCast]
   by_cases e:i=fd/\j=y.toNat
   ·right;refine⟨e.1,?_⟩;show(if i=(fd:Int).toNat/\j=y.toNat then _ else _:NBlock).cells=_;rw[Int.toNat_natCast,if_pos e,e.1,e.2]
   ·left;rw[if_neg e])
 split
 ·exact cellCh _ λc _ s _=>cell_lost c s
 split
 ·exact same_blk ⟨rfl,rfl,rfl⟩ rfl rfl rfl (λi hi=>by
   show(N.dead.set (fd:Int).toNat true).getD i false=_;rw[List.getD_eq_getElem?_getD,List.getElem?_set,if_neg (by omega),<- List.getD_eq_getElem?_getD]) (λh=>by
   have h:(N.dead.set (fd:Int).toNat true).getD fd false=false:=h;rw[List.getD_eq_getElem?_getD,List.getElem?_set,if_pos (by omega)]at h;rw[List.getD_eq_getElem?_getD];split at h
   ·cases h
   ·rename_i hlt;rw[List.getElem?_eq_none (by omega)];rfl) (λ_ h=> .inl h) (λ_ _=> .inl rfl)
 split
 ·split
  ·exact refl fd N
  ·rename_i hn;cases hp:N.pageAt (fd:Int) y z with
   | none=>exact refl fd N
   | some c=>
    dsimp only;split
    ·exact refl fd N
    split
    ·exact refl fd N
    ·rename_i ht hl;refine cellCh _ λc' hc' s hs=>?_;rw[hp]at hc';injection hc' with hc';subst hc';rcases hs with h | h | ⟨h,_⟩
     ·exact absurd h hl
     ·obtain⟨x,hx⟩:∃x,UInt8.ofNat (xx % 256).toNat=x:=⟨_,rfl⟩;show R7 s {c with p:=Nand.xorAt c.p n.toNat (UInt8.ofNat (xx % 256).toNat),turned:=true};rw[hx]
      by_cases h0:x=0
      ·rw[h0];exact .inr (.inl (by show Nand.xorAt c.p n.toNat 0=J2 s;rw[xor_zero];exact h))
      ·exact .inr (.inr ⟨rfl, .inl ⟨n.toNat,x,by omega,h0,by show Nand.xorAt c.p n.toNat x=_;rw[h]⟩⟩)
     ·exact absurd h ht
 ·exact refl fd N
end FdCh
theorem Inv.changed {S:Dv} {fd:Nat} {N':Nand} (h:Inv fd S) (c:FdCh fd S.N N'):Inv fd {S with N:=N'}/\∀i a,Std fd S i a->Std fd {S with N:=N'} i a/\R.read N' a.block a.row a.slot a.mask=R.read S.N a.block a.row a.slot a.mask:=by
 have hoff:N'.off=false:=c.off.trans h.lit.off;have hdead:∀i:Nat,(i:Int)≠fd->N'.dead.getD i false=false:=λi hi=>by rw[c.dead i (by omega)];exact h.dead i hi
 have hpage:∀(d b r:Int),d.toNat≠fd->N'.pageAt d b r=S.N.pageAt d b r:=λd b r hd=>by
  unfold Nand.pageAt;rw[c.blk _ _ hd]
 have hfull:∀b r m l,Full fd S.N b r m l->Full fd N' b r m l:=λb r m l hF=>by
  refine⟨hF.is.like c.like,λx hx hne=>?_,λx hx y hy=>?_⟩
  ·obtain⟨t,ht⟩:=hF.good x hx hne;have:=(hF.is.inn x hx).1;exact⟨t,by rw[hpage _ _ _ (by omega)];exact ht⟩
  ·by_cases e:x.1.toNat=fd
   ·unfold Nand.pageAt at hy;rw[e]at hy;obtain⟨c0,h1,h2⟩:=c.cell _ _ y hy;refine h2 _ (hF.inn x hx c0 ?_);unfold Nand.pageAt;rw[e];exact h1
   ·rw[hpage _ _ _ e]at hy;exact hF.inn x hx y hy
 have hstd:∀i a,Std fd S i a->Std fd {S with N:=N'} i a/\R.read N' a.block a.row a.slot a.mask=R.read S.N a.block a.row a.slot a.mask:=λi a ha=>by
  obtain⟨l,g1,g2,g3,g4⟩:=ha.row;have hk:=hfull _ _ _ _ g1;have r1:=hk.read hoff hdead g3;have r2:=g1.read h.lit.off h.dead g3;rw[show((a.slot.toNat:Nat):Int)=a.slot from by omega]at r1 r2;exact⟨⟨⟨l,hk,g2,g3,g4⟩,ha.used,ha.below,ha.seq⟩,by rw[r1,r2]⟩
 have hlen:∀d j:Nat,(N'.blk d j).cells.length=(S.N.blk d j).cells.length:=λd j=>by
  by_cases e:d=fd
  ·rw[e];exact c.len j
  ·rw[c.blk d j e]
 refine⟨⟨⟨hoff,c.cuts.trans h.lit.cuts⟩,hdead,λa ha=>?_,λi j hi=>?_,h.tdead,h.tbad,?_,λb hb hu d hd=>?_,λi a ha=>(hstd i a (h.st i a ha)).1⟩,hstd⟩
 ·rcases c.plan a ha with e | e
  ·exact h.plan a e
  ·exact e
 ·show(N'.blk i j).met=false/\(N'.blk i j).fails=false;rw[c.blk i j (by omega)];exact h.flags i j hi
 ·rcases h.op with e | e
  ·exact .inl e
  ·refine .inr ⟨by have:=e.blk;show 0<=S.op/\S.op<(N'.blocks:Int);rw[c.like.blocks];exact this,e.used,by have:=e.row;show 0<=S.row/\S.row<=(N'.pages:Int);rw[c.like.pages];exact this,by have:=e.mask;show Msk N'.dies fd S.mask;rw[c.like.dies];exact this,λd hd=>?_⟩;have h1:=e.cells d hd;show((N'.blk d S.op.toNat).cells.length:Int)<=S.row/\(N'.dead.getD d false=false->((N'.blk d S.op.toNat).cells.length:Int)=S.row);rw[hlen];refine⟨h1.1,λhdd=>h1.2 ?_⟩
   by_cases e2:d=fd
   ·rw[e2]at hdd ⊢;exact c.dead2 hdd
   ·rw[<- c.dead d e2];exact hdd
 ·have h1:=h.blank b hb hu d hd;have h2:=hlen d b.toNat
  rw[h1]at h2;exact List.eq_nil_of_length_eq_zero h2
theorem FI.faulted {fd lg:Nat} {W:List (Int×En)} {F:Fv} (h:FI fd W lg F) (kind y z n xx:Int):FI fd W lg {F with S:={F.S with N:=(F.S.N.fault kind (fd:Int) y z n xx).2}}:=by
 have c:=FdCh.fault (fd:=fd) F.S.N kind y z n xx;obtain⟨h1,h2⟩:=h.inv.changed c;refine⟨h1,⟨h.hd.keys,λi e he=>?_⟩,h.wok,h.wr,h.log,?_,h.lg2,h.des,h.nd,h.off⟩
 ·obtain⟨g1,a,g2,g3⟩:=h.hd.each i e he;refine⟨g1,a,g2,?_⟩;show R.read (F.S.N.fault kind (fd:Int) y z n xx).2 _ _ _ _=_;rw[(h2 i a (h.inv.st i a g2)).2];exact g3
 ·have:=h.lgn;unfold Fv.lg at this ⊢;show((lgN (F.S.N.fault kind (fd:Int) y z n xx).2.dies (F.S.N.fault kind (fd:Int) y z n xx).2.blocks (F.S.N.fault kind (fd:Int) y z n xx).2.pages:Nat):Int)=_;rw[c.like.dies,c.like.blocks,c.like.pages];exact this
structure DevF (fd:Int) (D B P:Nat) (F:Fv) (n m:Nat) (c:Nat->List UInt8):Prop where
 fi:∃W,FI fd W (lgN D B P) F/\∀i:Nat,i<lgN D B P->cur W F.L i=c i
 ok:F.Ok (UN*n) m
 nx:F.S.next+20000000*(n:Int)<=1098000000000
 br:F.S.N.broken=0
 geo:F.S.N.dies=D/\F.S.N.blocks=B/\F.S.N.pages=P
 le:n<=54500
namespace DevF
variable {fd : Int} {D B P n m : Nat} {F : Fv} {c : Nat → List UInt8}
theorem lg (h:DevF fd D B P F n m c):F.lg=(lgN D B P:Int):=by
 obtain⟨W,hW,_⟩:=h.fi;exact hW.lgn
theorem less (h:DevF fd D B P F n m c) {k:Nat} (hk:k<=n):DevF fd D B P F k m c:=
 ⟨h.fi,h.ok.less (Nat.mul_le_mul_left _ hk),by have:=h.nx;omega,h.br,h.geo,by have:=h.le;omega⟩
theorem like (h:DevF fd D B P F n m c) {G:Fv} (hl:F.S.N.Like G.S.N):G.S.N.dies=D/\G.S.N.blocks=B/\G.S.N.pages=P:=
 ⟨hl.dies.trans h.geo.1,hl.blocks.trans h.geo.2.1,hl.pages.trans h.geo.2.2⟩
theorem put (h:DevF fd D B P F (n+1) m c) {e:En} (he:0<=e.lpn->e.lpn<(lgN D B P:Int)->FitR e/\e.role≠4) (hk:(F.waits e).1.Ok (UN*n) m):
  ∃er c',(F.waits e).2=er/\DevF fd D B P (F.waits e).1 n m c'/\((er=0/\(0<=e.lpn/\e.lpn<(lgN D B P:Int))/\c'=λj=>if j=e.lpn.toNat then e.data else c j)\/((er=3/\¬(0<=e.lpn/\e.lpn<(lgN D B P:Int)))\/er=11)/\c'=c):=by
 obtain⟨W,hW,hc⟩:=h.fi;have hU:UN*(n+1)=UN*n+UN:=Nat.mul_succ _ _;have hU2:=a6a;have hnx:=h.nx;obtain⟨F',er,W',r1,r2,r3,r4,r5,r6,r7⟩:=hW.waits (k:=UN*n) (h.ok.dv.less (by omega)) (by omega) he;rw[r1]at hk ⊢;have hle:=h.le;rcases r7 with⟨q1,q2,q3,q4⟩ | ⟨q1,q2⟩
 ·exact⟨er,_,rfl,⟨⟨W',r2,λi hi=>(q4 i).trans (by
   rw[hc i hi]
   by_cases e0:i=e.lpn.toNat
   ·rw[if_pos e0,if_pos (by omega)]
   ·rw[if_neg e0,if_neg (by omega)])⟩,hk,by dsimp only;omega,r5.trans h.br,h.like r6,by omega⟩, .inl ⟨q1,⟨q2,q3⟩,rfl⟩⟩
 ·exact⟨er,c,rfl,⟨⟨W',r2,λi hi=>(q2 i).trans (hc i hi)⟩,hk,by dsimp only;omega,r5.trans h.br,h.like r6,by omega⟩, .inr ⟨q1,rfl⟩⟩
theorem write (h:DevF fd D B P F (n+1) m c) (i:Int) {d:List UInt8} (hd:d.length=16):
  ∃er c',(F.write i d).2=er/\DevF fd D B P (F.write i d).1 n m c'/\((er=0/\(0<=i/\i<(lgN D B P:Int))/\c'=λj=>if j=i.toNat then d else c j)\/((er=3/\¬(0<=i/\i<(lgN D B P:Int)))\/er=11)/\c'=c):=by
 have h200:=(Fv.lg_bd (F:=F) h.ok.dv.gd.ok).2;rw[h.lg]at h200;have hU:UN*(n+1)=UN*n+UN:=Nat.mul_succ _ _;exact h.put (e:=⟨i,0,1,d⟩) (λa b=>⟨⟨⟨a,by show i<=65535;have b:i<(lgN D B P:Int):=b;omega⟩, .inl rfl,hd⟩,by show(1:Int)≠4;decide⟩) (Fv.write_keep (k:=UN*n) (h.ok.less (by unfold UN at hU ⊢;omega)) i hd).1
theorem faulted {d:Nat} (h:DevF d D B P F n m c) (kind y z a b:Int):DevF d D B P {F with S:={F.S with N:=(F.S.N.fault kind (d:Int) y z a b).2}} n (m+1) c:=by
 obtain⟨W,hW,hc⟩:=h.fi;have hl:=Nand.like_fault F.S.N kind (d:Int) y z a b;have hG:(F.S.N.fault kind (d:Int) y z a b).2.Gd (UN*n) (m+1):=a1I h.ok.dv.gd [⟨0,kind,d,y,z,a,b⟩];have hb:=(FdCh.fault (fd:=d) F.S.N kind y z a b).broken;exact⟨⟨W,hW.faulted kind y z a b,hc⟩,⟨⟨hG,h.ok.dv.t.like hl,h.ok.dv.T,h.ok.dv.sl,h.ok.dv.row,h.ok.dv.next⟩,h.ok.dat,λe he=>by
  have:=h.ok.rng e he;unfold Fv.lg at this ⊢;show 0<=e.lpn/\e.lpn<((lgN (F.S.N.fault kind (d:Int) y z a b).2.dies (F.S.N.fault kind (d:Int) y z a b).2.blocks (F.S.N.fault kind (d:Int) y z a b).2.pages:Nat):Int);rw[a4k hl];exact this,h.ok.nd,h.ok.nx⟩,h.nx,hb.trans h.br,h.like (G:={F with S:={F.S with N:=(F.S.N.fault kind (d:Int) y z a b).2}}) hl,h.le⟩
theorem new (fd:Int) (hD:3<=D/\D<=6) (hB:8<=B/\B<=16) (hP:2<=P/\P<=8) (hlg:lgN D B P<=200) (hgm:n9 D B P=true):DevF fd D B P (Fv.of (Dv.new D B P (lgN D B P))) 54500 0 (λ_=>zeros16):=
 ⟨⟨[],FI.new fd hD hB hP hlg,λ_ _=>rfl⟩,Fv.of_ok (Dv.Ok.new D B P _ hgm _ (b7b (by decide))) (b7b (by decide)),by show(1:Int)+20000000*((54500:Nat):Int)<=_;omega,rfl,⟨rfl,rfl,rfl⟩,Nat.le_refl _⟩
end DevF
structure Mono (N N':Nand):Prop where
 dead:N'.dead=N.dead
 ops:N.ops<=N'.ops
namespace Mono
theorem refl (N:Nand):Mono N N:=⟨rfl,Int.le_refl _⟩
theorem trans {N N' N2:Nand} (h:Mono N N') (h2:Mono N' N2):Mono N N2:=⟨h2.dead.trans h.dead,Int.le_trans h.ops h2.ops⟩
theorem cutN (N:Nand):Mono N N.cutN:=⟨rfl,by show N.ops<=N.ops+1;omega⟩
theorem prog (N:Nand) (x y z:Int) (pg:List UInt8):Mono N (N.progN x y z pg):=by
 have h:=cutN N;unfold Nand.progN;split
 ·exact refl N
 split
 ·exact⟨rfl,Int.le_refl _⟩
 split
 ·exact h.trans ⟨rfl,Int.le_refl _⟩
 ·exact h.trans ⟨rfl,Int.le_refl _⟩
theorem erase (N:Nand) (x y:Int):Mono N (N.eraseN x y):=by
 have h:=cutN N;unfold Nand.eraseN;dsimp only;split
 ·exact refl N
 split
 ·exact h.trans ⟨rfl,Int.le_refl _⟩
 split
 ·exact h.trans ⟨rfl,Int.le_refl _⟩
 ·exact h.trans ⟨rfl,Int.le_refl _⟩
theorem go (b r:Int):∀(q:List (Int×Sh)) (N:Nand) (f:Int),Mono N (R.go b r q N f).1
 | [],N,f=>by rw[R.go];exact refl N
 | (d,s)::q,N,f=>by
  rw[R.go];split
  ·exact(prog _ _ _ _ _).trans (go b r q _ _)
  ·split
   ·exact prog _ _ _ _ _
   ·exact(prog _ _ _ _ _).trans (go b r q _ _)
theorem row (N:Nand) (b r m:Int) (l:List En):Mono N (R.write N b r m l).1:=by
 unfold R.write;split
 ·exact go b r _ _ _
 ·exact refl N
theorem wr (S:Dv) (l:List En):Mono S.N (S.wr l).1:=row _ _ _ _ _
theorem loses (f:Int):∀(q:List Nat) (S:Dv),(q.foldl (Dv.lose f) S).N=S.N
 | [],S=>rfl
 | d::q,S=>by rw[List.foldl_cons,loses f q];exact(Dv.lose_N f S d).1
theorem write:∀(f:Nat) (S:Dv) (l:List En),Mono S.N (Dv.write f S l).1.N
 | 0,S,l=>refl _
 | f+1,S,l=>by
  have h1:=(Dv.at1_like S).1;have hw:=wr S.at1 l;rw[h1]at hw;rw[Dv.write_succ];split
  ·exact refl _
  split
  ·exact refl _
  split
  ·rw[h1];exact refl _
  split
  ·exact hw
  split
  ·exact hw
  split
  ·exact hw
  ·have ih:=write f ((S.at1.wrote l).loses (S.at1.wr l).2.1) l;have e:((S.at1.wrote l).loses (S.at1.wr l).2.1).N=(S.at1.wr l).1:=loses _ _ _;rw[e]at ih;exact hw.trans ih
theorem pen (S:Dv) (l:List En):Mono S.N (S.pen l).1.N:=write _ _ _
theorem carryGo:∀(f:Nat) (S:Dv) (l:List Int) (d:Int),Mono S.N (Dv.carryGo f S l d).1.N
 | 0,S,l,d=>refl _
 | f+1,S,l,d=>by
  rw[Dv.carryGo];dsimp only;split
  ·exact refl _
  split
  ·exact refl _
  split
  ·exact pen _ _
  ·exact(pen _ _).trans (carryGo f _ _ _)
theorem carry (S:Dv) (b most:Int):Mono S.N (S.carry b most).1.N:=carryGo _ _ _ _
theorem eraseD (b mk:Int) (x:Nand×Tl×Int) (d:Nat):Mono x.1 (Dv.eraseD b mk x d).1:=by
 unfold Dv.eraseD;split
 ·exact refl _
 split
 ·exact refl _
 ·exact erase _ _ _
theorem eraseF (b mk:Int):∀(q:List Nat) (x:Nand×Tl×Int),Mono x.1 (q.foldl (Dv.eraseD b mk) x).1
 | [],x=>refl _
 | d::q,x=>by rw[List.foldl_cons];exact(eraseD b mk x d).trans (eraseF b mk q _)
theorem erase1 (N:Nand) (t:Tl) (b:Int):Mono N (Dv.erase N t b).1:=by
 have h:Mono N (Dv.eraseB N t b).1:=eraseF _ _ _ (N,t,0);unfold Dv.erase;dsimp only;split
 ·exact h
 ·exact h
theorem clearGo:∀(l:List Int) (N:Nand) (t:Tl),Mono N (Dv.clearGo l N t).1
 | [],N,t=>refl _
 | b::l,N,t=>by
  rw[Dv.clearGo];split
  ·exact erase1 _ _ _
  ·exact(erase1 _ _ _).trans (clearGo l _ _)
theorem clear(S:Dv):Mono S.N S.clear.1.N:=clearGo _ _ _
theorem roomGo:∀(f:Nat) (S:Dv),Mono S.N (Dv.roomGo f S).1.N
 | 0,S=>refl _
 | f+1,S=>by
  rw[Dv.roomGo];split
  ·exact refl _
  split
  ·exact refl _
  dsimp only;split
  ·exact carry _ _ _
  split
  ·exact(carry _ _ _).trans (clear _)
  ·exact((carry _ _ _).trans (clear _)).trans (roomGo f _)
theorem room (S:Dv):Mono S.N S.room.1.N:=by
 unfold Dv.room;split
 ·exact clear _
 ·exact(clear _).trans (roomGo _ _)
theorem writes (F:Fv):Mono F.S.N F.writes.1.S.N:=by
 unfold Fv.writes;dsimp only;split
 ·exact room _
 ·exact(room _).trans (pen _ _)
theorem waits (F:Fv) (e:En):Mono F.S.N (F.waits e).1.S.N:=by
 unfold Fv.waits;dsimp only;split
 ·exact refl _
 split
 ·exact refl _
 split
 ·split
  ·exact writes F.ask
  ·exact writes F.ask
 ·exact refl _
end Mono
theorem Pv.step_write (P:Pv) (Z:Fv) (hZ:P.Z=some Z) (s:Stp) (hs:s.fn=2):P.step s=(⟨M6 Z.S.N.ops P.L,P.log++[⟨((Z.setN (J3 Z.S.N (y9 Z.S.N.ops P.L))).write s.lpn s.data).2,zd⟩],some ((Z.setN (J3 Z.S.N (y9 Z.S.N.ops P.L))).write s.lpn s.data).1,P.M⟩,⟨((Z.setN (J3 Z.S.N (y9 Z.S.N.ops P.L))).write s.lpn s.data).2,zd⟩):=by
 have hnd:P.nd=Z.S.N:=by unfold Pv.nd;rw[hZ]
 have hrun:P.run=⟨M6 Z.S.N.ops P.L,P.log,some (Z.setN (J3 Z.S.N (y9 Z.S.N.ops P.L))),P.M⟩:=by unfold Pv.run;rw[hnd];unfold Pv.setN;rw[hZ]
 have hd:P.run.does s=({P.run with Z:=some ((Z.setN (J3 Z.S.N (y9 Z.S.N.ops P.L))).write s.lpn s.data).1},⟨((Z.setN (J3 Z.S.N (y9 Z.S.N.ops P.L))).write s.lpn s.data).2,zd⟩):=by
  rw[hrun];unfold Pv.does;rw[if_neg (by rw[hs];decide),if_pos hs]
 unfold Pv.step;rw[hd,hrun]
def a0Z (u:Nat) (v:Int):Fl:=⟨v,4,u,0,0,0,0⟩
theorem b4I {D B P u:Nat} {v:Int} (hu:u<D) (hB:0<B) (hP:0<P) (hv:0<=v):(a0Z u v).may D B P=true:=by
 have hg:C3 D B P (u:Int) 0 0=true:=Nand.geoIn_of ⟨by omega,by omega⟩ ⟨by decide,by omega⟩ ⟨by decide,by omega⟩;unfold Fl.may;show(decide (v>=0)&&decide ((4:Int)>=1)&&decide ((4:Int)<=5)&&C3 D B P (u:Int) 0 0&&(a0Z u v).turn)=true;rw[hg,decide_eq_true hv];rfl
theorem b1O {N:Nand} {u:Nat} (hN:N.Ok) (hu:u<N.dies):(N.fault 4 (u:Int) 0 0 0 0).2.dead.getD u false=true/\(N.fault 4 (u:Int) 0 0 0 0).2.ops=N.ops:=by
 have hg:=hN.bd16;have e:N.fault 4 (u:Int) 0 0 0 0=(true,{N with dead:=N.dead.set (u:Int).toNat true}):=by
  unfold Nand.fault;rw[if_neg (by rw[Nand.geoIn_of ⟨by omega,by omega⟩ ⟨by decide,by omega⟩ ⟨by decide,by omega⟩];decide),if_neg (by decide),if_neg (by decide),if_neg (by decide),if_pos rfl]
 rw[e];refine⟨?_,rfl⟩;show(N.dead.set (u:Int).toNat true).getD u false=true;rw[Int.toNat_natCast,List.getD_eq_getElem?_getD,List.getElem?_set,if_pos rfl,if_pos (by rw[hN.dead];exact hu)];rfl
theorem a5T {N:Nand} {u:Nat} (hu:u<N.dies):N.deadAt (u:Int)=N.dead.getD u false:=by
 unfold Nand.deadAt;rw[decide_eq_true (show(0:Int)<=(u:Int)by omega),decide_eq_true (show(u:Int)<N.dies by omega),Int.toNat_natCast];rfl
theorem b6K:Fv.cW*200+(Dv.costS+(Dv.costK+(1+0)))<=UN*605:=by
 have h1:=W9;have h2:=b4Z;have h3:Dv.costS<=UN*2:=by
  have:Dv.costC<=Dv.costM:=by unfold Dv.costM Dv.costR;omega
  have:=a6a;unfold Dv.costS;omega
 have h4:=b4Y;omega
def b8I (n:Int):List UInt8:=[u8 n,0,0,0,0,0,0,0,0,0,0,0,0,0,0,0]
structure Pq (D B Pg u:Nat) (v:Int) (i:Nat) (P:Pv) (Z:Fv):Prop where
 z:P.Z=some Z
 log:P.log.length=i
 st:(P.L=[a0Z u v]/\Z.S.N.dead.getD u false=false/\∃c,DevF u D B Pg Z (760-i) 0 c)\/(P.L=[]/\Z.S.N.dead.getD u false=true/\v<=Z.S.N.ops/\∃c,DevF u D B Pg Z (760-i) 1 c)
theorem Pq.new {D B Pg u:Nat} {v:Int} (hD:3<=D/\D<=6) (hB:8<=B/\B<=16) (hP:2<=Pg/\Pg<=8) (hlg:lgN D B Pg<=200) (hgm:n9 D B Pg=true) (hu:u<D) (hv:0<=v):Pq D B Pg u v 0 (Pv.new D B Pg [a0Z u v]) (Fv.of (Dv.new D B Pg (lgN D B Pg))):=by
 have hm:=a0B (Dv.Ok.new D B Pg (lgN D B Pg) hgm 0 (by decide));refine⟨?_,rfl, .inl ⟨?_,?_,_,(DevF.new (u:Int) hD hB hP hlg hgm).less (by omega)⟩⟩
 ·show(if(A6 (Nand.new D B Pg)).2=0 then some (Fv.of (A6 (Nand.new D B Pg)).1)else none)=_;rw[hm];rfl
 ·show B5 W8 (plF D B Pg [a0Z u v])=_;unfold plF;rw[List.filter_cons,if_pos (b4I hu (by omega) (by omega) hv)];rfl
 ·show(List.replicate D false).getD u false=false;rw[List.getD_eq_getElem?_getD,List.getElem?_replicate];split<;>rfl
namespace Pq
variable {D B Pg u i : Nat} {v : Int} {P : Pv} {Z : Fv}
theorem geo (h:Pq D B Pg u v i P Z):Z.S.N.Ok/\Z.S.N.dies=D:=by
 rcases h.st with⟨_,_,c,hd⟩ | ⟨_,_,_,c,hd⟩
 ·exact⟨hd.ok.dv.gd.ok,hd.geo.1⟩
 ·exact⟨hd.ok.dv.gd.ok,hd.geo.1⟩
theorem few (h:Pq D B Pg u v i P Z) (hi:i<60):∃m,Z.Ok (UN*605) m/\m+(y9 Z.S.N.ops P.L).length<=12/\P.L.length<=1000:=by
 rcases h.st with⟨e,_,c,hd⟩ | ⟨e,_,_,c,hd⟩
 ·refine⟨0,hd.ok.less (Nat.mul_le_mul_left _ (by omega)),?_,by rw[e];show 1<=1000;decide⟩;have:=b2y (a6V Z.S.N.ops) P.L;rw[e]at this ⊢;have h1:([a0Z u v]:List Fl).length=1:=rfl;unfold y9;omega
 ·refine⟨1,hd.ok.less (Nat.mul_le_mul_left _ (by omega)),?_,by rw[e];decide⟩;rw[e];show 1+0<=12;decide
theorem step (h:Pq D B Pg u v i P Z) (hi:i<60) (hu:u<D) {s:Stp} (hs:s.fn=2) (hd:s.data.length=16):
  ∃Z',Pq D B Pg u v (i+1) (P.step s).1 Z'/\Z'.S.N.dead.getD u false=decide (Z.S.N.ops>=v):=by
 have hg:=h.geo;rw[Pv.step_write P Z h.z s hs];have go:∀(m:Nat) (c:Nat->List UInt8) (Y:Fv),DevF u D B Pg Y (760-i) m c->Y.S.N.ops=Z.S.N.ops->∃c',DevF u D B Pg (Y.write s.lpn s.data).1 (760-(i+1)) m c'/\(Y.write s.lpn s.data).1.S.N.dead.getD u false=Y.S.N.dead.getD u false/\Z.S.N.ops<=(Y.write s.lpn s.data).1.S.N.ops:=λm c Y hY ho=>by
  have hY2:DevF u D B Pg Y ((760-(i+1))+1) m c:=hY.less (by omega);obtain⟨er,c',_,w2,_⟩:=hY2.write s.lpn hd;have hm:Mono Y.S.N (Y.write s.lpn s.data).1.S.N:=Mono.waits Y _;exact⟨c',w2,by rw[hm.dead],by rw[<- ho];exact hm.ops⟩
 rcases h.st with⟨e,h1,c,hd⟩ | ⟨e,h1,h2,c,hd⟩
 ·rw[e]
  by_cases hv:v<=Z.S.N.ops
  ·have e1:y9 Z.S.N.ops [a0Z u v]=[a0Z u v]:=by
    unfold y9;rw[List.takeWhile_cons,if_pos (by unfold a6V;exact decide_eq_true hv)];rfl
   have e2:M6 Z.S.N.ops [a0Z u v]=[]:=by
    unfold M6;rw[List.dropWhile_cons,if_pos (by unfold a6V;exact decide_eq_true hv)];rfl
   rw[e1,e2];have hf:=hd.faulted 4 0 0 0 0;obtain⟨q1,q2⟩:=b1O hg.1 (by rw[hg.2];exact hu);obtain⟨c',g1,g2,g3⟩:=go 1 c _ hf q2;refine⟨_,⟨rfl,?_, .inr ⟨rfl,?_,?_,c',g1⟩⟩,?_⟩
   ·show(P.log++[_]).length=i+1;rw[List.length_append,h.log];rfl
   ·exact g2.trans q1
   ·exact Int.le_trans hv g3
   ·rw[decide_eq_true hv];exact g2.trans q1
  ·have e1:y9 Z.S.N.ops [a0Z u v]=[]:=by
    unfold y9;rw[List.takeWhile_cons,if_neg (by unfold a6V;exactλh=>hv (of_decide_eq_true h))]
   have e2:M6 Z.S.N.ops [a0Z u v]=[a0Z u v]:=by
    unfold M6;rw[List.dropWhile_cons,if_neg (by unfold a6V;exactλh=>hv (of_decide_eq_true h))]
   rw[e1,e2];obtain⟨c',g1,g2,g3⟩:=go 0 c Z hd rfl;refine⟨_,⟨rfl,?_, .inl ⟨rfl,?_,c',g1⟩⟩,?_⟩
   ·show(P.log++[_]).length=i+1;rw[List.length_append,h.log];rfl
   ·exact g2.trans h1
   ·rw[decide_eq_false hv];exact g2.trans h1
 ·rw[e];obtain⟨c',g1,g2,g3⟩:=go 1 c Z hd rfl;refine⟨_,⟨rfl,?_, .inr ⟨rfl,?_,?_,c',g1⟩⟩,?_⟩
  ·show(P.log++[_]).length=i+1;rw[List.length_append,h.log];rfl
  ·exact g2.trans h1
  ·exact Int.le_trans h2 g3
  ·rw[decide_eq_true h2];exact g2.trans h1
end Pq
theorem a6p (g0 g1 g2 die att:Int) (A:Atom):FP 8 [.agg #[iI g0,iI g1,iI g2],iI die,iI att] [A] (λv As=>v= .bool true/\As=[A]):=by
 refine FE [0,0,0] Tryz.func8 λX F hX=>?_;refine J.q λbb=>?_;refine J.cb (a0E) [] ?_;refine cpq ⟨_,rfl,trivial,?_⟩;refine J.qF λ_=>?_;refine J.qc (a6I g0 g1 g2) [] λ_=>?_;rintro v As ⟨D,B,P,rfl,hD,hB,hP,rfl⟩;refine⟨_,rfl,trivial,?_⟩;have hgm:n9 D B P=true:=by simp[n9];omega
 have hgb:=a3l hD hB hP;have ht1:=a1h die D (by omega);have ht2:=b0N die D (by omega);have hs1:=a1h att 40 (by omega);have hs2:=b0N att 40 (by omega);refine J.pn 1 (.of [0,4,9,12,16,21,24,28,33,36,40]) [9,10] [2] λ_ _=>?_;obtain⟨u,hu⟩:=Int.eq_ofNat_of_zero_le ht2.1;obtain⟨v,hv⟩:∃v,(att.tmod 40+40).tmod 40=v:=⟨_,rfl⟩;refine J.q λby_=>?_;rw[hu,hv];rw[hu]at ht2;rw[hv]at hs2;refine J.q λ_=>?_;refine J.ca hX (by kernel_rfl) (b3e D B P hgm (.pt (by_ 0) 54 (i7 [a0Z u v])) (some ⟨by_ 0,0,none⟩) 1 1 [a0Z u v] (a2x _ _ _ _ _ rfl) rfl (by decide)) [3] 0 rfl rfl rfl rfl rfl rfl (λ_=>rfl) ?_;rintro _ As ⟨q,nn,A0,rfl,hA0,rfl⟩;have hQ0:=Pq.new (v:=v) hD hB hP hgb.2.1 hgm (show u<D by omega) hs2.1;generalize Fv.of (Dv.new D B P (lgN D B P))=Z0 at hQ0;generalize Pv.new D B P [a0Z u v]=P0 at hA0 hQ0 ⊢;rw[K1 q nn A0 P0 Z0 hQ0.z];refine⟨_,rfl,trivial,?_⟩;refine J.qF λ_=>?_;refine J.q λ_=>?_;refine J.lo (α:=(Nat×Pv×Pad×Fv)) (λz=>z.1<=60/\z.2.2.1.Ok z.2.1/\Pq D B P u v z.1 z.2.1 z.2.2.2) (λz=>[si 10 z.1,si 9 z.1,sp 8 q,si 1 u,si 2 v,⟨3,pp (bb 0),3, .tt⟩]) [4,5,6,7,8,9,10,11,12,13] (λz=>([PlQ q nn (some z.2.2.2) z.2.2.1.f (pp z.2.2.1.fp) (slv z.2.2.1.a2 z.2.1.log.length z.2.2.1.c2), .pt z.2.2.1.fp 232 [.slice (A5 z.2.2.1.a) z.2.1.L.length z.2.2.1.c],rdA (A5 z.2.2.1.a) 7 z.2.1.L.length (i7 z.2.1.L),c9 58 17 z.2.2.1.a2 z.2.1.log.length z.2.2.1.c2 (A9 z.2.1.log)]++FvP z.2.2.1.f z.2.2.1.p nn z.2.2.1.t z.2.2.1.l z.2.2.1.d z.2.2.2)) (λz=>60-z.1) ((0,P0,A0,Z0)) (⟨Nat.zero_le 60,hA0,hQ0⟩) rfl ?_ (λ_=>rfl) λz hI=>?_
 ·rfl
 obtain⟨i,P1,A1,Z1⟩:=z;dsimp only at hI ⊢;obtain⟨hi,hA1,hQ1⟩:=hI;refine J.qd (λ_ h1=>?_) λ_ h1=>?_
 ·simp only[decide_eq_true_eq]at h1;have hi1:i<60:=by omega
  obtain⟨hN1,hd1⟩:=hQ1.geo;obtain⟨m,k1,k2,k3⟩:=hQ1.few hi1;have hdead:Z1.S.N.deadAt (u:Int)=Z1.S.N.dead.getD u false:=a5T (by omega);refine J.qc (a3i q nn (flP (some Z1) A1.f) (pp A1.fp) (slv A1.a2 P1.log.length A1.c2)) [4] λ_=>?_;rintro _ As ⟨rfl,rfl⟩;refine⟨_,rfl,trivial,?_⟩;refine J.qc (b0i nn Z1.S.N) [10] λ_=>?_;rintro _ As ⟨rfl,rfl⟩;refine⟨_,rfl,trivial,?_⟩;refine J.qc (a3i q nn (flP (some Z1) A1.f) (pp A1.fp) (slv A1.a2 P1.log.length A1.c2)) [4] λ_=>?_;rintro _ As ⟨rfl,rfl⟩;refine⟨_,rfl,trivial,?_⟩;refine J.qc (a0Q nn Z1.S.N hN1 u) [10] λ_=>?_;rintro _ As ⟨rfl,rfl⟩;refine⟨_,rfl,trivial,?_⟩;rw[hdead];refine J.qd (λ_ h2=>?_) λ_ h2=>?_
  ·exfalso
   rcases hQ1.st with⟨_,q1,_⟩ | ⟨_,_,q2,_⟩
   ·rw[q1]at h2;cases h2
   ·rw[Bool.and_eq_true_iff,decide_eq_true_eq]at h2;omega
  refine J.qc (a4u D B P hgm) [] λ_=>?_;rintro _ As ⟨rfl,rfl⟩;refine⟨_,rfl,trivial,?_⟩;refine J.qn 2 λ_=>?_;have hu8:((u8 (i:Int)).toNat:Int)<=255:=by have:=(u8 (i:Int)).toNat_lt;omega
  refine J.v (bv (u8 (i:Int))) rfl rfl (λhg a w he hs=>by rw[<- T8 (i:Int)];exact A7 tk rfl rfl he rfl rfl rfl) ?_;obtain⟨s2,hs3⟩:∃s2:Stp,s2=⟨2,(i:Int).tmod (lgN D B P),b8I i,0,0,dF⟩:=⟨_,rfl⟩;have hst:=a3h q nn A1 P1 hA1 Z1 hQ1.z 0 m (k1.less b6K) k2 k3 (by rw[hQ1.log];omega) s2 (by rw[hs3];rfl);obtain⟨Z2,hQ2,hd2⟩:=hQ1.step hi1 (show u<D by omega) (s:=s2) (by rw[hs3]) (by rw[hs3];rfl);rw[K1 q nn A1 P1 Z1 hQ1.z,hs3]at hst;rw[hs3]at hQ2;refine J.qc (hst) [4,5,6,7,8,9,10,11,12,13] λ_=>?_;rintro _ As ⟨A2,rfl,hA2,rfl⟩;generalize P1.step ⟨2,(i:Int).tmod (lgN D B P),b8I i,0,0,dF⟩=R at hQ2 hA2 ⊢;obtain⟨P2,tq⟩:=R;dsimp only at hQ2 hA2 ⊢;obtain⟨hN2,hD2⟩:=hQ2.geo;have hdead2:Z2.S.N.deadAt (u:Int)=Z2.S.N.dead.getD u false:=a5T (by omega);rw[K1 q nn A2 P2 Z2 hQ2.z];refine⟨_,rfl,trivial,?_⟩;refine J.qc (a3i q nn (flP (some Z2) A2.f) (pp A2.fp) (slv A2.a2 P2.log.length A2.c2)) [4] λ_=>?_;rintro _ As ⟨rfl,rfl⟩;refine⟨_,rfl,trivial,?_⟩;refine J.qc (a0Q nn Z2.S.N hN2 u) [10] λ_=>?_;rintro _ As ⟨rfl,rfl⟩;refine⟨_,rfl,trivial,?_⟩;rw[hdead2,hd2];refine J.qd (λ_ h3=>?_) λ_ h3=>?_
  ·simp at h3
  refine J.q λ_=>?_;refine J.nS ((i+1,P2,A2,Z2)) (⟨by dsimp only;omega,hA2,hQ2⟩) (by dsimp only;omega) [0,1,2,3,4,5,6,7,8,9,10,11,12,13] rfl rfl
 exact J.qx [1]
end Go.Proofs.YtgkpkpbnonmopaaGreat
