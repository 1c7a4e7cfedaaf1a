/- Helpers. No condition. -/
import Derived.Test.YtnffkcabeecopaaGreatRows
import Derived.Test.YtnffkcabeecopaaGreatV15
import Derived.Test.YtnffkcabeecopaaGreatV16
import Derived.Test.YtnffkcabeecopaaGreatV17
import Derived.JoinedOf
set_option maxRecDepth 20000
set_option linter.all false
namespace Go.Proofs.YtnffkcabeecopaaGreat
open Go
structure FdCh (fd:Nat) (N N':Nand):Prop where
 like:N.Like N'
 off:N'.off=N.off
 cuts:N'.cuts=N.cuts
 broken:N'.broken=N.broken
 dead:∀i:Nat,i≠fd->N'.dead.getD i false=N.dead.getD i false
 dead2:N'.dead.getD fd false=false->N.dead.getD fd false=false
 plan:∀a∈N'.plan,a∈N.plan\/a.1=(fd:Int)
 blk:∀i j:Nat,i≠fd->N'.blk i j=N.blk i j
 len:∀j:Nat,(N'.blk fd j).cells.length=(N.blk fd j).cells.length
 cell:∀(j r:Nat) (c:NCell),(N'.blk fd j).cells[r]? =some c->∃c0,(N.blk fd j).cells[r]? =some c0/\∀s,Q0 s c0->Q0 s c
namespace FdCh
variable {fd : Nat} {N N' : Nand}
theorem refl (fd:Nat) (N:Nand):FdCh fd N N:=⟨Nand.Like.refl _,rfl,rfl,rfl,λ_ _=>rfl,λh=>h,λ_ h=> .inl h,λ_ _ _=>rfl,λ_=>rfl,λ_ _ c h=>⟨c,h,λ_ h=>h⟩⟩
theorem same_blk (like:N.Like N') (off:N'.off=N.off) (cuts:N'.cuts=N.cuts) (broken:N'.broken=N.broken) (hd:∀i:Nat,i≠fd->N'.dead.getD i false=N.dead.getD i false) (hd2:N'.dead.getD fd false=false->N.dead.getD fd false=false) (plan:∀a∈N'.plan,a∈N.plan\/a.1=(fd:Int)) (hb:∀i j,N'.blk i j=N.blk i j\/i=fd/\(N'.blk i j).cells=(N.blk i j).cells):FdCh fd N N':=by
 refine⟨like,off,cuts,broken,hd,hd2,plan,λi j hi=>?_,λj=>?_,λj r c hc=>?_⟩
 ·rcases hb i j with h | ⟨h,_⟩
  ·exact h
  ·exact absurd h hi
 ·rcases hb fd j with h | ⟨_,h⟩
  ·rw[h]
  ·rw[h]
 ·refine⟨c,?_,λ_ h=>h⟩;rcases hb fd j with h | ⟨_,h⟩
  ·rw[<- h];exact hc
  ·rw[<- h];exact hc
theorem cellCh {y z:Int} (f:NCell->NCell) (hf:∀c,N.pageAt (fd:Int) y z=some c->∀s,Q0 s c->Q0 s (f c)):FdCh fd N (N.setCell (fd:Int) y z f):=by
 have hb:∀i j,(N.setCell (fd:Int) y z f).blk i j=if i=fd/\j=y.toNat then {N.blk fd y.toNat with cells:=(N.blk fd y.toNat).cells.modify z.toNat f}else N.blk i j:=λi j=>by
  show(if i=(fd:Int).toNat/\j=y.toNat then _ else _)=_;rw[Int.toNat_natCast]
 refine⟨⟨rfl,rfl,rfl⟩,rfl,rfl,rfl,λ_ _=>rfl,λh=>h,λ_ h=> .inl h,λi j hi=>by rw[hb,if_neg (λh=>hi h.1)],λj=>?_,λj r c hc=>?_⟩
 ·rw[hb];split
  ·rename_i h;rw[h.2];show((N.blk fd y.toNat).cells.modify z.toNat f).length=_;rw[List.length_modify]
  ·rfl
 ·rw[hb]at hc;split at hc
  ·rename_i h;rw[h.2];have hc:((N.blk fd y.toNat).cells.modify z.toNat f)[r]? =some c:=hc;rw[List.getElem?_modify]at hc;cases h0:(N.blk fd y.toNat).cells[r]? with
   | none=>rw[h0]at hc;cases hc
   | some c0=>
    rw[h0]at hc;refine⟨c0,rfl,λs hs=>?_⟩
    by_cases hz:z.toNat=r
    ·have hc:some (if z.toNat=r then f c0 else c0)=some c:=hc;rw[if_pos hz]at hc;injection hc with hc;rw[<- hc];refine hf c0 ?_ s hs;unfold Nand.pageAt;rw[Int.toNat_natCast,hz];exact h0
    ·have hc:some (if z.toNat=r then f c0 else c0)=some c:=hc;rw[if_neg hz]at hc;injection hc with hc;rw[<- hc];exact hs
  ·exact⟨c,hc,λ_ h=>h⟩
theorem cell_lost (c:NCell) (s:Sh):Q0 s {c with lost:=true}:= .inl rfl
theorem xor_zero (p:List UInt8) (n:Nat):Nand.xorAt p n 0=p:=by
 unfold Nand.xorAt;rw[UInt8.xor_zero];apply List.ext_getElem?;intro i;rw[List.getElem?_set];split
 ·rename_i h;subst h;split
  ·rename_i h;rw[List.getD_eq_getElem?_getD,List.getElem?_eq_getElem h];rfl
  ·rename_i h;rw[List.getElem?_eq_none (by omega)]
 ·rfl
theorem fault (N:Nand) (kind y z n xx:Int):FdCh fd N (N.fault kind (fd:Int) y z n xx).2:=by
 unfold Nand.fault;split
 ·exact refl fd N
 split
 ·exact same_blk ⟨rfl,rfl,rfl⟩ rfl rfl rfl (λ_ _=>rfl) (λh=>h) (λa ha=>by
   have ha:a∈Nand.addP N.plan ((fd:Int),y,z):=ha;unfold Nand.addP at ha;split at ha
   ·exact .inl ha
   ·rcases List.mem_append.1 ha with h | h
    ·exact .inl h
    ·simp at h;rw[h];exact .inr rfl) (λ_ _=> .inl rfl)
 split
 ·exact same_blk ⟨rfl,rfl,rfl⟩ rfl rfl rfl (λ_ _=>rfl) (λh=>h) (λ_ h=> .inl h) (λi j=>by
   show(if i=(fd:Int).toNat/\j=y.toNat then _ else _)=_\/_;rw[Int.toNat_natCast]
   by_cases e:i=fd/\j=y.toNat
   ·right;refine⟨e.1,?_⟩;show(if i=(fd:Int).toNat/\j=y.toNat then _ else _:NBlock).cells=_;rw[Int.toNat_natCast,if_pos e,e.1,e.2]
   ·left;rw[if_neg e])
 split
 ·exact cellCh _ λc _ s _=>cell_lost c s
 split
 ·exact same_blk ⟨rfl,rfl,rfl⟩ rfl rfl rfl (λi hi=>by
   show(N.dead.set (fd:Int).toNat true).getD i false=_;rw[List.getD_eq_getElem?_getD,List.getElem?_set,if_neg (by omega),<- List.getD_eq_getElem?_getD]) (λh=>by
   have h:(N.dead.set (fd:Int).toNat true).getD fd false=false:=h;rw[List.getD_eq_getElem?_getD,List.getElem?_set,if_pos (by omega)]at h;rw[List.getD_eq_getElem?_getD];split at h
   ·cases h
   ·rename_i hlt;rw[List.getElem?_eq_none (by omega)];rfl) (λ_ h=> .inl h) (λ_ _=> .inl rfl)
 split
 ·split
  ·exact refl fd N
  ·rename_i hn;cases hp:N.pageAt (fd:Int) y z with
   | none=>exact refl fd N
   | some c=>
    dsimp only;split
    ·exact refl fd N
    split
    ·exact refl fd N
    ·rename_i ht hl;refine cellCh _ λc' hc' s hs=>?_;rw[hp]at hc';injection hc' with hc';subst hc';rcases hs with h | h | ⟨h,_⟩
     ·exact absurd h hl
     ·obtain⟨x,hx⟩:∃x,UInt8.ofNat (xx % 256).toNat=x:=⟨_,rfl⟩;show Q0 s {c with p:=Nand.xorAt c.p n.toNat (UInt8.ofNat (xx % 256).toNat),turned:=true};rw[hx]
      by_cases h0:x=0
      ·rw[h0];exact .inr (.inl (by show Nand.xorAt c.p n.toNat 0=B8 s;rw[xor_zero];exact h))
      ·exact .inr (.inr ⟨rfl, .inl ⟨n.toNat,x,by omega,h0,by show Nand.xorAt c.p n.toNat x=_;rw[h]⟩⟩)
     ·exact absurd h ht
 ·exact refl fd N
end FdCh
theorem Inv.changed {S:Dv} {fd:Nat} {N':Nand} (h:Inv fd S) (c:FdCh fd S.N N'):Inv fd {S with N:=N'}/\∀i a,Std fd S i a->Std fd {S with N:=N'} i a/\R.read N' a.block a.row a.slot a.mask=R.read S.N a.block a.row a.slot a.mask:=by
 have hoff:N'.off=false:=c.off.trans h.lit.off;have hdead:∀i:Nat,(i:Int)≠fd->N'.dead.getD i false=false:=λi hi=>by rw[c.dead i (by omega)];exact h.dead i hi
 have hpage:∀(d b r:Int),d.toNat≠fd->N'.pageAt d b r=S.N.pageAt d b r:=λd b r hd=>by
  unfold Nand.pageAt;rw[c.blk _ _ hd]
 have hfull:∀b r m l,Full fd S.N b r m l->Full fd N' b r m l:=λb r m l hF=>by
  refine⟨hF.is.like c.like,λx hx hne=>?_,λx hx y hy=>?_⟩
  ·obtain⟨t,ht⟩:=hF.good x hx hne;have:=(hF.is.inn x hx).1;exact⟨t,by rw[hpage _ _ _ (by omega)];exact ht⟩
  ·by_cases e:x.1.toNat=fd
   ·unfold Nand.pageAt at hy;rw[e]at hy;obtain⟨c0,h1,h2⟩:=c.cell _ _ y hy;refine h2 _ (hF.inn x hx c0 ?_);unfold Nand.pageAt;rw[e];exact h1
   ·rw[hpage _ _ _ e]at hy;exact hF.inn x hx y hy
 have hstd:∀i a,Std fd S i a->Std fd {S with N:=N'} i a/\R.read N' a.block a.row a.slot a.mask=R.read S.N a.block a.row a.slot a.mask:=λi a ha=>by
  obtain⟨l,g1,g2,g3,g4⟩:=ha.row;have hk:=hfull _ _ _ _ g1;have r1:=hk.read hoff hdead g3;have r2:=g1.read h.lit.off h.dead g3;rw[show((a.slot.toNat:Nat):Int)=a.slot from by omega]at r1 r2;exact⟨⟨⟨l,hk,g2,g3,g4⟩,ha.used,ha.below,ha.seq⟩,by rw[r1,r2]⟩
 have hlen:∀d j:Nat,(N'.blk d j).cells.length=(S.N.blk d j).cells.length:=λd j=>by
  by_cases e:d=fd
  ·rw[e];exact c.len j
  ·rw[c.blk d j e]
 refine⟨⟨⟨hoff,c.cuts.trans h.lit.cuts⟩,hdead,λa ha=>?_,λi j hi=>?_,h.tdead,h.tbad,?_,λb hb hu d hd=>?_,λi a ha=>(hstd i a (h.st i a ha)).1⟩,hstd⟩
 ·rcases c.plan a ha with e | e
  ·exact h.plan a e
  ·exact e
 ·show(N'.blk i j).met=false/\(N'.blk i j).fails=false;rw[c.blk i j (by omega)];exact h.flags i j hi
 ·rcases h.op with e | e
  ·exact .inl e
  ·refine .inr ⟨by have:=e.blk;show 0<=S.op/\S.op<(N'.blocks:Int);rw[c.like.blocks];exact this,e.used,by have:=e.row;show 0<=S.row/\S.row<=(N'.pages:Int);rw[c.like.pages];exact this,by have:=e.mask;show Msk N'.dies fd S.mask;rw[c.like.dies];exact this,λd hd=>?_⟩;have h1:=e.cells d hd;show((N'.blk d S.op.toNat).cells.length:Int)<=S.row/\(N'.dead.getD d false=false->((N'.blk d S.op.toNat).cells.length:Int)=S.row);rw[hlen];refine⟨h1.1,λhdd=>h1.2 ?_⟩
   by_cases e2:d=fd
   ·rw[e2]at hdd ⊢;exact c.dead2 hdd
   ·rw[<- c.dead d e2];exact hdd
 ·have h1:=h.blank b hb hu d hd;have h2:=hlen d b.toNat
  rw[h1]at h2;exact List.eq_nil_of_length_eq_zero h2
theorem FI.faulted {fd lg:Nat} {W:List (Int×En)} {F:Fv} (h:FI fd W lg F) (kind y z n xx:Int):FI fd W lg {F with S:={F.S with N:=(F.S.N.fault kind (fd:Int) y z n xx).2}}:=by
 have c:=FdCh.fault (fd:=fd) F.S.N kind y z n xx;obtain⟨h1,h2⟩:=h.inv.changed c;refine⟨h1,⟨h.hd.keys,λi e he=>?_⟩,h.wok,h.wr,h.log,?_,h.lg2,h.des,h.nd,h.off⟩
 ·obtain⟨g1,a,g2,g3⟩:=h.hd.each i e he;refine⟨g1,a,g2,?_⟩;show R.read (F.S.N.fault kind (fd:Int) y z n xx).2 _ _ _ _=_;rw[(h2 i a (h.inv.st i a g2)).2];exact g3
 ·have:=h.lgn;unfold Fv.lg at this ⊢;show((lgN (F.S.N.fault kind (fd:Int) y z n xx).2.dies (F.S.N.fault kind (fd:Int) y z n xx).2.blocks (F.S.N.fault kind (fd:Int) y z n xx).2.pages:Nat):Int)=_;rw[c.like.dies,c.like.blocks,c.like.pages];exact this
structure DevF (fd:Int) (D B P:Nat) (F:Fv) (n m:Nat) (c:Nat->List UInt8):Prop where
 fi:∃W,FI fd W (lgN D B P) F/\∀i:Nat,i<lgN D B P->cur W F.L i=c i
 ok:F.Ok (UN*n) m
 nx:F.S.next+20000000*(n:Int)<=1098000000000
 br:F.S.N.broken=0
 geo:F.S.N.dies=D/\F.S.N.blocks=B/\F.S.N.pages=P
 le:n<=54500
namespace DevF
variable {fd : Int} {D B P n m : Nat} {F : Fv} {c : Nat → List UInt8}
theorem lg (h:DevF fd D B P F n m c):F.lg=(lgN D B P:Int):=by
 obtain⟨W,hW,_⟩:=h.fi;exact hW.lgn
theorem read (h:DevF fd D B P F n m c) (i:Int):F.read i=if i<0\/i>=(lgN D B P:Int)then(F,zeros16,3)else(F,c i.toNat,0):=by
 obtain⟨W,hW,hc⟩:=h.fi;rw[hW.read]
 by_cases hi:i<0\/i>=(lgN D B P:Int)
 ·rw[if_pos hi,if_pos hi]
 ·rw[if_neg hi,if_neg hi,<- hc i.toNat (by omega),Int.toNat_of_nonneg (by omega)]
theorem like (h:DevF fd D B P F n m c) {G:Fv} (hl:F.S.N.Like G.S.N):G.S.N.dies=D/\G.S.N.blocks=B/\G.S.N.pages=P:=
 ⟨hl.dies.trans h.geo.1,hl.blocks.trans h.geo.2.1,hl.pages.trans h.geo.2.2⟩
theorem faulted {d:Nat} (h:DevF d D B P F n m c) (kind y z a b:Int):DevF d D B P {F with S:={F.S with N:=(F.S.N.fault kind (d:Int) y z a b).2}} n (m+1) c:=by
 obtain⟨W,hW,hc⟩:=h.fi;have hl:=Nand.like_fault F.S.N kind (d:Int) y z a b;have hG:(F.S.N.fault kind (d:Int) y z a b).2.Gd (UN*n) (m+1):=a0d h.ok.dv.gd [⟨0,kind,d,y,z,a,b⟩];have hb:=(FdCh.fault (fd:=d) F.S.N kind y z a b).broken;exact⟨⟨W,hW.faulted kind y z a b,hc⟩,⟨⟨hG,h.ok.dv.t.like hl,h.ok.dv.T,h.ok.dv.sl,h.ok.dv.row,h.ok.dv.next⟩,h.ok.dat,λe he=>by
  have:=h.ok.rng e he;unfold Fv.lg at this ⊢;show 0<=e.lpn/\e.lpn<((lgN (F.S.N.fault kind (d:Int) y z a b).2.dies (F.S.N.fault kind (d:Int) y z a b).2.blocks (F.S.N.fault kind (d:Int) y z a b).2.pages:Nat):Int);rw[a3y hl];exact this,h.ok.nd,h.ok.nx⟩,h.nx,hb.trans h.br,h.like (G:={F with S:={F.S with N:=(F.S.N.fault kind (d:Int) y z a b).2}}) hl,h.le⟩
theorem new (fd:Int) (hD:3<=D/\D<=6) (hB:8<=B/\B<=16) (hP:2<=P/\P<=8) (hlg:lgN D B P<=200) (hgm:n8 D B P=true):DevF fd D B P (Fv.of (Dv.new D B P (lgN D B P))) 54500 0 (λ_=>zeros16):=
 ⟨⟨[],FI.new fd hD hB hP hlg,λ_ _=>rfl⟩,Fv.of_ok (Dv.Ok.new D B P _ hgm _ (b5P (by decide))) (b5P (by decide)),by show(1:Int)+20000000*((54500:Nat):Int)<=_;omega,rfl,⟨rfl,rfl,rfl⟩,Nat.le_refl _⟩
end DevF
theorem H3 {a b:Bool} (ha:a=true) (hb:b=true):(a&&b)=true:=by rw[ha,hb];rfl
theorem a5d {P:Program} {f:FuncId} {fn:Func} {s:ChangeSpec} {c:OpenClaim} (k0:(c.wf (OpenSpec.ofChange s))=true) (k1:(laidOutB P)=true) (k2:(mapsRowed P)=true) (k3:(fn.params.all (P.readableRec ·))=true) (k4:(namedTie P c.named s.vars)=true) (k5:(c.stops==[])=true) (k6:(P.stops==[])=true) (k7:(c.knobs==[])=true) (k8:(P.stopKnobs==[])=true) (k9:(c.inPlace==P.inPlace f)=true) (k10:(c.unfollowed==P.unfollowed f)=true) (k11:(c.recurses==P.recurses f)=true) (k12:(c.named==P.varsNamed f)=true) (k13:(c.maps==(fn.params.toList++s.plain.varTypes P).any (P.mapsRec ·))=true) (k14:(c.ifaces==(fn.params.toList++s.plain.varTypes P).any (P.ifacesRec ·))=true) (k15:(c.mapsOut==P.mapsAmong fn.resultTypes.toList)=true) (k16:(c.loops==(fn.params.toList++s.plain.varTypes P).any (P.loopsFrom ·))=true) (k17:(c.wideKeys==(fn.params.toList++s.plain.varTypes P++fn.resultTypes.toList).any (P.wideKeysFrom ·))=true) (k18:(s.vars.all (P.varReadable ·))=true) (k19:(fn.resultTypes.all (λt=>P.readableRec t&&decide (t<P.types.size)))=true) (k20:(c.ifacesOut==fn.resultTypes.toList.any (P.ifacesRec ·))=true) (k21:(c.loopsOut==fn.resultTypes.toList.any (P.loopsFrom ·))=true) (k22:(c.plainKeys==P.plainKeys)=true) (k23:(c.shortTexts.isNone)=true) (k24:(P.stopsHeard)=true) (k25:(P.mayEnter)=true) (k26:(c.lifted==P.liftsFinal)=true) (k27:(P.make==some c.make)=true) (k28a:c.domain.isEmpty=true) (k28:(c.kinds==[])=true) (k29:(c.pinned==c.pinnedBy)=true) (k30:(c.veiled==(fn.params.toList++s.plain.varTypes P++fn.resultTypes.toList).any (P.veiledRec ·))=true) (k31:(c.veiledFits P fn.params.toList (fn.params.toList++s.plain.varTypes P++fn.resultTypes.toList))=true):joinedFacts P f fn s c=true:=by
 unfold joinedFacts;rw[if_pos k28a];exact(H3 (H3 (H3 (H3 (H3 (H3 (H3 (H3 (H3 (H3 (H3 (H3 (H3 (H3 (H3 (H3 (H3 (H3 (H3 (H3 (H3 (H3 (H3 (H3 (H3 (H3 (H3 (H3 (H3 (H3 (H3 k0 k1) k2) k3) k4) k5) k6) k7) k8) k9) k10) k11) k12) k13) k14) k15) k16) k17) k18) k19) k20) k21) k22) k23) k24) k25) k26) k27) k28) k29) k30) k31)
theorem a3C:laidOutB Tryz.prog=true:=by kernel_rfl
theorem a9C:mapsRowed Tryz.prog=true:=by kernel_rfl
theorem a9B:(Tryz.prog.stops==[])=true:=by kernel_rfl
theorem a9D:(Tryz.prog.stopKnobs==[])=true:=by kernel_rfl
theorem a9E:Tryz.prog.stopsHeard=true:=by kernel_rfl
theorem a9F:Tryz.prog.mayEnter=true:=by kernel_rfl
end Go.Proofs.YtnffkcabeecopaaGreat
