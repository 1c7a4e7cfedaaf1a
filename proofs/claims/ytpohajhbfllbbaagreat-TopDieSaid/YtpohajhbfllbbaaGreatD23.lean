/- Helpers. No condition. -/
import Derived.Test.YtpohajhbfllbbaaGreatD19
import Derived.Test.YtpohajhbfllbbaaGreatD22
set_option maxRecDepth 20000
set_option linter.all false
namespace Go.Proofs.YtpohajhbfllbbaaGreat
open Go
structure TlMore (fd:Int) (t t':Tl):Prop where
 has:∀b,t'.has b=t.has b
 d:t'.d=t.d
 used:∀b,t.has b=true->(t'.at_ b).used=(t.at_ b).used
 held:∀b,t.has b=true->(t'.at_ b).held=(t.at_ b).held
 tdead:L.set t'.dead=true/\∀d:Int,L.has t'.dead d=true->d=fd
 tbad:∀b,t.has b=true->L.set (t'.at_ b).bad=true/\∀d:Int,L.has (t'.at_ b).bad d=true->d=fd
 mask:∀b,t.has b=true->∀e:Int,L.has (t'.mask b) e=true->L.has (t.mask b) e=true
 td:∀e:Int,L.has t.dead e=true->L.has t'.dead e=true
theorem TlMore.refl {fd:Int} {t:Tl} (h1:L.set t.dead=true/\∀d:Int,L.has t.dead d=true->d=fd) (h2:∀b,t.has b=true->L.set (t.at_ b).bad=true/\∀d:Int,L.has (t.at_ b).bad d=true->d=fd):TlMore fd t t:=
 ⟨λ_=>rfl,rfl,λ_ _=>rfl,λ_ _=>rfl,h1,h2,λ_ _ _ h=>h,λ_ h=>h⟩
theorem TlMore.trans {fd:Int} {a b c:Tl} (h:TlMore fd a b) (g:TlMore fd b c):TlMore fd a c:=
 ⟨λx=>(g.has x).trans (h.has x),g.d.trans h.d,λx hx=>(g.used x (by rw[h.has];exact hx)).trans (h.used x hx),λx hx=>(g.held x (by rw[h.has];exact hx)).trans (h.held x hx),g.tdead,λx hx=>g.tbad x (by rw[h.has];exact hx),λx hx e he=>h.mask x hx e (g.mask x (by rw[h.has];exact hx) e he),λe he=>g.td e (h.td e he)⟩
theorem b1J {fd:Int} {t:Tl} (h8:t.d<=8) (h1:L.set t.dead=true/\∀d:Int,L.has t.dead d=true->d=fd) (h2:∀b,t.has b=true->L.set (t.at_ b).bad=true/\∀d:Int,L.has (t.at_ b).bad d=true->d=fd) {d:Nat} (hd:d<8) (hfd:(d:Int)=fd):TlMore fd t (t.die d)/\(d<t.d->∀b,t.has b=true->L.has ((t.die d).mask b) fd=false):=by
 unfold Tl.die;split
 ·have hw:=L.set_with h1.1 (d:=(d:Int)) (by omega);have hwh:=L.with_has h1.1 (d:=(d:Int)) (by omega);have hmk:∀b,t.has b=true->∀e:Int,L.has (Tl.mask ⟨t.d,t.b,t.p,t.l,L.with_ t.dead d⟩ b) e=((decide (0<=e)&&decide (e<t.d))&& !L.has (L.with_ t.dead (d:Int)) e&& !L.has (t.at_ b).bad e):=λb hb e=>(y6 (t:=⟨t.d,t.b,t.p,t.l,L.with_ t.dead d⟩) (b:=b) h8 hb hw (h2 b hb).1).2 e;refine⟨⟨λb=>rfl,rfl,λb hb=>rfl,λb hb=>rfl,⟨hw,λe he=>?_⟩,h2,λb hb e he=>?_,λe he=>?_⟩,λ_ b hb=>?_⟩
  ·have he:L.has (L.with_ t.dead (d:Int)) e=true:=he;rw[hwh]at he;rcases Bool.or_eq_true _ _▸he with he | he
   ·exact h1.2 e he
   ·simp only[decide_eq_true_eq]at he;omega
  ·rw[hmk b hb,hwh]at he;rw[(y6 h8 hb h1.1 (h2 b hb).1).2];simp only[Bool.and_eq_true,Bool.not_eq_true',Bool.or_eq_false_iff]at he ⊢;exact⟨⟨he.1.1,he.1.2.1⟩,he.2⟩
  ·show L.has (L.with_ t.dead (d:Int)) e=true;rw[hwh,he];rfl
  ·rw[hmk b hb,hwh,decide_eq_true hfd.symm];simp
 ·rename_i hh;refine⟨TlMore.refl h1 h2,λhlt=>?_⟩;simp only[Tl.hasDie,Bool.and_eq_true,decide_eq_true_eq]at hh;omega
theorem b1K {fd:Int} {t:Tl} (hl:t.l.length=t.b) (h8:t.d<=8) (h1:L.set t.dead=true/\∀d:Int,L.has t.dead d=true->d=fd) (h2:∀b,t.has b=true->L.set (t.at_ b).bad=true/\∀d:Int,L.has (t.at_ b).bad d=true->d=fd) {d:Nat} (hd:d<8) (hfd:(d:Int)=fd) (k:Int):TlMore fd t (t.bad d k)/\(d<t.d->t.has k=true->L.has ((t.bad d k).mask k) fd=false):=by
 unfold Tl.bad;split
 ·cases hop:t.has k with
  | false=>
   rw[Tl.set_no _ hop];exact⟨TlMore.refl h1 h2,λ_ h=>by cases h⟩
  | true=>
   have hb0:=h2 k hop;have hw:=L.set_with hb0.1 (d:=(d:Int)) (by omega);have hwh:=L.with_has hb0.1 (d:=(d:Int)) (by omega);have hat:∀b,t.has b=true->(t.set k {t.at_ k with bad:=L.with_ (t.at_ k).bad d}).at_ b=if b=k then {t.at_ k with bad:=L.with_ (t.at_ k).bad d}else t.at_ b:=λb hb=>Tl.at_set hl _ hop hb
   have hbad:∀b,t.has b=true->L.set ((t.set k {t.at_ k with bad:=L.with_ (t.at_ k).bad d}).at_ b).bad=true/\(∀e:Int,L.has ((t.set k {t.at_ k with bad:=L.with_ (t.at_ k).bad d}).at_ b).bad e=true->e=fd)/\(∀e:Int,L.has (t.at_ b).bad e=true->L.has ((t.set k {t.at_ k with bad:=L.with_ (t.at_ k).bad d}).at_ b).bad e=true):=λb hb=>by
    rw[hat b hb];split
    ·rename_i e;subst e;dsimp only;refine⟨hw,λe he=>?_,λe he=>?_⟩
     ·rw[hwh]at he;rcases Bool.or_eq_true _ _▸he with he | he
      ·exact hb0.2 e he
      ·simp only[decide_eq_true_eq]at he;omega
     ·rw[hwh,he];rfl
    ·exact⟨(h2 b hb).1,(h2 b hb).2,λe he=>he⟩
   have hmk:∀b,t.has b=true->∀e:Int,L.has ((t.set k {t.at_ k with bad:=L.with_ (t.at_ k).bad d}).mask b) e=((decide (0<=e)&&decide (e<t.d))&& !L.has t.dead e&& !L.has ((t.set k {t.at_ k with bad:=L.with_ (t.at_ k).bad d}).at_ b).bad e):=λb hb e=>by
    have:=(y6 (t:=t.set k {t.at_ k with bad:=L.with_ (t.at_ k).bad d}) (b:=b) (by rw[Tl.set_d];exact h8) (by rw[Tl.has_set];exact hb) (by rw[Tl.set_dead];exact h1.1) (hbad b hb).1).2 e
    rwa [Tl.set_d,Tl.set_dead]at this
   refine⟨⟨λb=>Tl.has_set _ _ _ _,Tl.set_d _ _ _,λb hb=>?_,λb hb=>?_,by rw[Tl.set_dead];exact h1,λb hb=>⟨(hbad b hb).1,(hbad b hb).2.1⟩,λb hb e he=>?_,λe he=>by rw[Tl.set_dead];exact he⟩,λ_ _=>?_⟩
   ·rw[hat b hb];split
    ·rename_i e;rw[e]
    ·rfl
   ·rw[hat b hb];split
    ·rename_i e;rw[e]
    ·rfl
   ·rw[hmk b hb]at he;rw[(y6 h8 hb h1.1 (h2 b hb).1).2];simp only[Bool.and_eq_true,Bool.not_eq_true']at he ⊢;refine⟨he.1,?_⟩;cases hx:L.has (t.at_ b).bad e with
    | false=>rfl
    | true=>rw[(hbad b hb).2.2 e hx]at he;exact absurd he.2 (by decide)
   ·rw[hmk k hop,hat k hop,if_pos rfl,hwh,decide_eq_true hfd.symm];simp
 ·rename_i hh;refine⟨TlMore.refl h1 h2,λhlt=>?_⟩;simp only[Tl.hasDie,Bool.and_eq_true,decide_eq_true_eq]at hh;omega
namespace Inv
variable {fd : Int} {S : Dv} {k m : Nat}
def Empty (S:Dv) (b:Int):Prop:=∀i a,Tb.look S.T.at_ i=some a->a.block≠b
structure ErN (fd:Int) (N N':Nand) (b:Int):Prop where
 lit:N'.Lit
 like:N.Like N'
 dead:N'.dead=N.dead
 broken:N'.broken=N.broken
 plan:∀a∈N'.plan,a∈N.plan
 rest:∀i j,j≠b.toNat->N'.blk i j=N.blk i j
 flags:∀i j:Nat,(i:Int)≠fd->(N'.blk i j).met=(N.blk i j).met/\(N'.blk i j).fails=(N.blk i j).fails
 nof:(∀i j,(N.blk i j).fails=false)->∀i j,(N'.blk i j).met=(N.blk i j).met/\(N'.blk i j).fails=false
theorem ErN.refl (fd:Int) {N:Nand} (h:N.Lit) (b:Int):ErN fd N N b:=⟨h,Nand.Like.refl _,rfl,rfl,λ_ h=>h,λ_ _ _=>rfl,λ_ _ _=>⟨rfl,rfl⟩,λh i j=>⟨rfl,h i j⟩⟩
theorem ErN.trans {fd:Int} {A B C:Nand} {b:Int} (h:ErN fd A B b) (g:ErN fd B C b):ErN fd A C b:=
 ⟨g.lit,h.like.trans g.like,g.dead.trans h.dead,g.broken.trans h.broken,λa ha=>h.plan a (g.plan a ha),λi j hj=>(g.rest i j hj).trans (h.rest i j hj),λi j hi=>⟨(g.flags i j hi).1.trans (h.flags i j hi).1,(g.flags i j hi).2.trans (h.flags i j hi).2⟩,λhf i j=>⟨(g.nof (λi j=>(h.nof hf i j).2) i j).1.trans (h.nof hf i j).1,(g.nof (λi j=>(h.nof hf i j).2) i j).2⟩⟩
theorem er_one {N:Nand} (hl:N.Lit) {d:Nat} {b:Int} (hd:d<N.dies) (hb:0<=b/\b<N.blocks) (hp:0<N.pages) (hfl:(d:Int)≠fd->N.dead.getD d false=false/\(N.blk d b.toNat).fails=false):
  ErN fd N (N.eraseN d b) b/\(N.eraseE d b=0\/(N.eraseE d b=8\/N.eraseE d b=7)/\(d:Int)=fd)/\(N.eraseE d b=0->((N.eraseN d b).blk d b.toNat).cells=[])/\(∀i:Nat,i≠d->(N.eraseN d b).blk i b.toNat=N.blk i b.toNat)/\((N.dead.getD d false=false/\(N.blk d b.toNat).fails=false)->N.eraseE d b=0/\((N.eraseN d b).blk d b.toNat).worn=(N.blk d b.toNat).worn+1/\(N.eraseN d b).ops=N.ops+1):=by
 have hr:N.refuses d b 0=if N.dead.getD d false then 8 else 0:=by
  have:=hl.refuses (x:=(d:Int)) (y:=b) (z:=0) (by omega) hb (by omega)
  rwa [Int.toNat_natCast]at this
 cases hdd:N.dead.getD d false with
 | true=>
  rw[hdd,if_pos rfl]at hr;have e1:N.eraseE d b=8:=by unfold Nand.eraseE;rw[hr];rfl
  have e2:N.eraseN d b=N:=by unfold Nand.eraseN;dsimp only;rw[if_pos (by rw[hr];decide)]
  have hfd:(d:Int)=fd:=by
   by_cases e:(d:Int)=fd
   ·exact e
   ·have:=(hfl e).1;rw[hdd]at this;cases this
  rw[e1,e2];exact⟨ErN.refl fd hl b, .inr ⟨.inl rfl,hfd⟩,λh=>(by cases h),λ_ _=>rfl,λh=>(by cases h.1)⟩
 | false=>
  rw[hdd,if_neg Bool.false_ne_true]at hr;have hcb:=hl.cutB;cases hf:(N.blk d b.toNat).fails with
  | true=>
   have e1:N.eraseE d b=7:=by unfold Nand.eraseE;rw[hr,hcb,Int.toNat_natCast,hf];rfl
   have hfd:(d:Int)=fd:=by
    by_cases e:(d:Int)=fd
    ·exact e
    ·have:=(hfl e).2;rw[hf]at this;cases this
   have e2:N.eraseN d b=N.cutN.setBlk d b.toNat {N.blk d b.toNat with met:=true}:=by
    unfold Nand.eraseN;dsimp only;rw[if_neg (by rw[hr];decide),if_neg (by rw[hcb];decide),Int.toNat_natCast,if_pos hf]
   have hb:∀i j,(N.eraseN d b).blk i j=if i=d/\j=b.toNat then {N.blk d b.toNat with met:=true}else N.blk i j:=λi j=>by rw[e2];rfl
   refine⟨⟨hl.erase _ _,Nand.like_erase _ _ _,by rw[e2];rfl,by rw[e2];rfl,λa ha=>by rw[e2]at ha;exact ha,λi j hj=>by rw[hb,if_neg (by omega)],λi j hi=>?_,λhall=>(by have:=hall d b.toNat;rw[hf]at this;cases this)⟩, .inr ⟨.inr e1,hfd⟩,λh=>(by rw[e1]at h;cases h),λi hi=>by rw[hb,if_neg (by omega)],λh=>(by cases h.2)⟩;rw[hb,if_neg (by omega)];exact⟨rfl,rfl⟩
  | false=>
   have e1:N.eraseE d b=0:=by unfold Nand.eraseE;rw[hr,hcb,Int.toNat_natCast,hf];rfl
   have e2:N.eraseN d b={N.cutN.setBlk d b.toNat {N.blk d b.toNat with cells:=[],worn:=(N.blk d b.toNat).worn+1}with plan:=N.plan.filter λa=>!(decide (a.1=(d:Int))&&decide (a.2.1=b))}:=by
    unfold Nand.eraseN;dsimp only;rw[if_neg (by rw[hr];decide),if_neg (by rw[hcb];decide),Int.toNat_natCast,if_neg (by rw[hf];decide)]
   have hb:∀i j,(N.eraseN d b).blk i j=if i=d/\j=b.toNat then {N.blk d b.toNat with cells:=[],worn:=(N.blk d b.toNat).worn+1}else N.blk i j:=λi j=>by rw[e2];rfl
   refine⟨⟨hl.erase _ _,Nand.like_erase _ _ _,by rw[e2];rfl,by rw[e2];rfl,λa ha=>by rw[e2]at ha;exact(List.mem_filter.1 ha).1,λi j hj=>by rw[hb,if_neg (by omega)],λi j hi=>?_,λhall i j=>?_⟩, .inl e1,λ_=>by rw[hb,if_pos ⟨rfl,rfl⟩],λi hi=>by rw[hb,if_neg (by omega)],λ_=>⟨e1,by rw[hb,if_pos ⟨rfl,rfl⟩],by rw[e2];rfl⟩⟩
   ·rw[hb];split
    ·rename_i e;rw[e.1,e.2];exact⟨rfl,rfl⟩
    ·exact⟨rfl,rfl⟩
   ·rw[hb];split
    ·rename_i e;rw[e.1,e.2];exact⟨rfl,hall d b.toNat⟩
    ·exact⟨rfl,hall i j⟩
theorem put_er (h:Inv fd S) (hF:S.t.Fit S.N) {N':Nand} {t':Tl} {b:Int} (hE:ErN fd S.N N' b) (hT:TlMore fd S.t t') (hb:S.t.has b=true) (hne:b≠S.op) (hemp:Empty S b) (hu:(S.t.at_ b).used=true):Inv fd {S with N:=N',t:=t'}/\∀i a,Std fd S i a->a.block≠b->Std fd {S with N:=N',t:=t'} i a/\R.read N' a.block a.row a.slot a.mask=R.read S.N a.block a.row a.slot a.mask:=by
 have hst:∀i a,Std fd S i a->a.block≠b->Std fd {S with N:=N',t:=t'} i a/\R.read N' a.block a.row a.slot a.mask=R.read S.N a.block a.row a.slot a.mask:=λi a ha hab=>by
  obtain⟨lr,g1,g2,g3,g4,g5,g6⟩:=ha.row;have hblk:=g1.is.blk;have hbr:=(Tl.has_iff.1 hb).1;have hk:Full fd N' a.block a.row a.mask lr:=g1.keep hE.like λx hx=>by
   unfold Nand.pageAt;rw[hE.rest _ _ (by omega)]
  have hhas:S.t.has a.block=true:=Tl.has_iff.2 (by have:=hF.b;omega);refine⟨⟨⟨lr,hk,g2,g3,g4,g5,g6⟩,by show(t'.at_ a.block).used=true;rw[hT.used _ hhas];exact ha.used,ha.below,ha.seq⟩,?_⟩;have r1:=hk.read hE.lit.off (λi hi=>by rw[hE.dead];exact h.dead i hi) g3;have r2:=g1.read h.lit.off h.dead g3;rw[show((a.slot.toNat:Nat):Int)=a.slot from by omega]at r1 r2;rw[r1,r2]
 refine⟨⟨hE.lit,λi hi=>by show N'.dead.getD i false=false;rw[hE.dead];exact h.dead i hi,λa ha=>h.plan a (hE.plan a ha),λi j hi=>by have:=hE.flags i j hi;show(N'.blk i j).met=false/\(N'.blk i j).fails=false;rw[this.1,this.2];exact h.flags i j hi,hT.tdead,λx hx=>hT.tbad x (by rw[<- hT.has];exact hx),?_,λx hx hxu d hd=>?_,λi a ha=>(hst i a (h.st i a ha) (hemp i a ha)).1⟩,λi a ha hab=>hst i a ha hab⟩
 ·rcases h.op with e | e
  ·exact .inl e
  ·right;have hhas:S.t.has S.op=true:=Tl.has_iff.2 (by have:=e.blk;have:=hF.b;omega);refine⟨by show 0<=S.op/\S.op<N'.blocks;rw[hE.like.blocks];exact e.blk,by show(t'.at_ S.op).used=true;rw[hT.used _ hhas];exact e.used,by show 0<=S.row/\S.row<=N'.pages;rw[hE.like.pages];exact e.row,by show Msk N'.dies fd S.mask;rw[hE.like.dies];exact e.mask,λd hd=>?_⟩;show((N'.blk d S.op.toNat).cells.length:Int)<=S.row/\(N'.dead.getD d false=false->((N'.blk d S.op.toNat).cells.length:Int)=S.row);have hbr:=(Tl.has_iff.1 hb).1;rw[hE.rest _ _ (by have:=e.blk;omega),hE.dead];exact e.cells d hd
 ·have hx':S.t.has x=true:=by rw[<- hT.has];exact hx
  have hxu':(S.t.at_ x).used=false:=by rw[<- hT.used x hx'];exact hxu
  have hxb:x≠b:=λe=>by rw[e,hu]at hxu';cases hxu'
  show(N'.blk d x.toNat).cells=[];rw[hE.rest _ _ (by have:=(Tl.has_iff.1 hb).1;have:=(Tl.has_iff.1 hx').1;omega)];exact h.blank x hx' hxu' d (hT.mask x hx' _ hd)
end Inv
def a8a (N:Nand):Prop:=(∀i:Nat,N.dead.getD i false=false)/\∀i j:Nat,(N.blk i j).fails=false
def a3S (m:Int) (q:List Nat):Nat:=(q.filter λd=>L.has m (d:Nat)).length
theorem a8Z {fd:Int} {t:Tl} (hl:t.l.length=t.b) (h8:t.d<=8) (h1:L.set t.dead=true/\∀d:Int,L.has t.dead d=true->d=fd) (h2:∀b,t.has b=true->L.set (t.at_ b).bad=true/\∀d:Int,L.has (t.at_ b).bad d=true->d=fd) (k:Int) (s:Sb) (hs:t.has k=true->s.bad=(t.at_ k).bad/\s.used=(t.at_ k).used/\s.held=(t.at_ k).held):TlMore fd t (t.set k s):=by
 cases hop:t.has k with
 | false=>rw[Tl.set_no _ hop];exact TlMore.refl h1 h2
 | true=>
  obtain⟨s1,s2,s3⟩:=hs hop;have hat:∀b,t.has b=true->((t.set k s).at_ b).bad=(t.at_ b).bad/\((t.set k s).at_ b).used=(t.at_ b).used/\((t.set k s).at_ b).held=(t.at_ b).held:=λb hb=>by
   rw[Tl.at_set hl _ hop hb];split
   ·rename_i e;rw[e];exact⟨s1,s2,s3⟩
   ·exact⟨rfl,rfl,rfl⟩
  have hb2:∀b,t.has b=true->L.set ((t.set k s).at_ b).bad=true/\∀d:Int,L.has ((t.set k s).at_ b).bad d=true->d=fd:=λb hb=>by rw[(hat b hb).1];exact h2 b hb
  refine⟨λb=>Tl.has_set _ _ _ _,Tl.set_d _ _ _,λb hb=>(hat b hb).2.1,λb hb=>(hat b hb).2.2,by rw[Tl.set_dead];exact h1,hb2,λb hb e he=>?_,λe he=>by rw[Tl.set_dead];exact he⟩;have hm:=(y6 (t:=t.set k s) (b:=b) (by rw[Tl.set_d];exact h8) (by rw[Tl.has_set];exact hb) (by rw[Tl.set_dead];exact h1.1) (hb2 b hb).1).2 e;rw[hm,Tl.set_d,Tl.set_dead,(hat b hb).1]at he;rw[(y6 h8 hb h1.1 (h2 b hb).1).2];exact he
namespace Inv
variable {fd : Int} {S : Dv} {k m : Nat}
structure Er (fd:Int) (S:Dv) (b:Int):Prop where
 inv:Inv fd S
 fit:S.t.Fit S.N
 has:S.t.has b=true
 ne:b≠S.op
 emp:Empty S b
 used:(S.t.at_ b).used=true
 six:3<=S.N.dies/\S.N.dies<=6
 pages:0<S.N.pages
structure Erd (fd:Int) (S:Dv) (b mk:Int) (q:List Nat) (N':Nand) (t':Tl):Prop where
 er:ErN fd S.N N' b
 more:TlMore fd S.t t'
 fit:t'.Fit S.N
 done:∀d∈q,L.has mk (d:Nat)=true->(N'.blk d b.toNat).cells=[]\/L.has (t'.mask b) (d:Nat)=false
 rest:∀i:Nat,i∉q->N'.blk i b.toNat=S.N.blk i b.toNat
 exact_:a8a S.N->t'=S.t/\a8a N'/\N'.ops=S.N.ops+(a3S mk q:Int)/\∀d∈q,L.has mk (d:Nat)=true->(N'.blk d b.toNat).worn=(S.N.blk d b.toNat).worn+1
theorem Er.put {b:Int} (h:Er fd S b) {N':Nand} {t':Tl} (hE:ErN fd S.N N' b) (hT:TlMore fd S.t t') (hF:t'.Fit S.N):Er fd {S with N:=N',t:=t'} b/\∀i a,Std fd S i a->a.block≠b->Std fd {S with N:=N',t:=t'} i a/\R.read N' a.block a.row a.slot a.mask=R.read S.N a.block a.row a.slot a.mask:=by
 have hp:=h.inv.put_er h.fit hE hT h.has h.ne h.emp h.used;refine⟨⟨hp.1,hF.like hE.like,by show t'.has b=true;rw[hT.has];exact h.has,h.ne,h.emp,by show(t'.at_ b).used=true;rw[hT.used b h.has];exact h.used,by show 3<=N'.dies/\N'.dies<=6;rw[hE.like.dies];exact h.six,by show 0<N'.pages;rw[hE.like.pages];exact h.pages⟩,hp.2⟩
theorem eraseD_spec {b mk:Int} (h:Er fd S b) {d:Nat} (hd:d<S.N.dies):∃N' t',Dv.eraseD b mk (S.N,S.t,0) d=(N',t',0)/\Erd fd S b mk [d] N' t':=by
 have hsix:=h.six;have hblk:0<=b/\b<S.N.blocks:=by have:=Tl.has_iff.1 h.has;have:=h.fit.b;omega
 have h8:S.t.d<=8:=by have:=h.fit.d;omega
 have hdt:d<S.t.d:=by have:=h.fit.d;omega
 unfold Dv.eraseD;rw[if_neg (by simp)];cases hh:L.has mk (d:Nat)with
 | false=>
  rw[if_pos rfl];refine⟨S.N,S.t,rfl,ErN.refl fd h.inv.lit b,TlMore.refl h.inv.tdead h.inv.tbad,h.fit,λe he hm=>?_,λ_ _=>rfl,λhn=>⟨rfl,hn,?_,λe he hm=>?_⟩⟩
  ·rw[List.mem_singleton.1 he,hh]at hm;cases hm
  ·show _=S.N.ops+(([d].filter λd=>L.has mk (d:Nat)).length:Int);rw[List.filter_cons,hh];simp
  ·rw[List.mem_singleton.1 he,hh]at hm;cases hm
 | true=>
  rw[if_neg (by decide)];dsimp only;obtain⟨e1,e2,e3,e4,e5⟩:=er_one (fd:=fd) h.inv.lit hd hblk h.pages (λhne=>⟨h.inv.dead d hne,(h.inv.flags d b.toNat hne).2⟩);have hcnt:(a3S mk [d]:Int)=1:=by unfold a3S;rw[List.filter_cons,hh];rfl
  rcases e2 with e2 | ⟨e2,hfd⟩
  ·refine⟨S.N.eraseN d b,S.t,?_,e1,TlMore.refl h.inv.tdead h.inv.tbad,h.fit,λe he _=> .inl (by rw[List.mem_singleton.1 he];exact e3 e2),λi hi=>e4 i (λe=>hi (by rw[e];exact List.mem_singleton.2 rfl)),λhn=>?_⟩
   ·rw[if_pos e2,if_neg (by rw[e2];decide)]
   ·obtain⟨x1,x2,x3⟩:=e5 ⟨hn.1 d,hn.2 d b.toNat⟩;refine⟨rfl,⟨λi=>by rw[e1.dead];exact hn.1 i,λi j=>(e1.nof hn.2 i j).2⟩,by rw[x3,hcnt],λe he _=>by rw[List.mem_singleton.1 he];exact x2⟩
  ·have hnn:¬a8a S.N:=λhn=>by
    have:=(e5 ⟨hn.1 d,hn.2 d b.toNat⟩).1;omega
   rcases e2 with e2 | e2
   ·obtain⟨m1,m2⟩:=b1J h8 h.inv.tdead h.inv.tbad (d:=d) (by omega) hfd;refine⟨S.N.eraseN d b,S.t.die d,?_,e1,m1,h.fit.die d,λe he _=> .inr (by rw[List.mem_singleton.1 he];have:=m2 hdt b h.has;rwa [<- hfd]at this),λi hi=>e4 i (λe=>hi (by rw[e];exact List.mem_singleton.2 rfl)),λhn=>absurd hn hnn⟩;rw[if_neg (by omega),if_neg (by omega),if_pos e2,if_neg (by omega)]
   ·obtain⟨m1,m2⟩:=b1K h.fit.len h8 h.inv.tdead h.inv.tbad (d:=d) (by omega) hfd b;refine⟨S.N.eraseN d b,S.t.bad d b,?_,e1,m1,h.fit.bad d b,λe he _=> .inr (by rw[List.mem_singleton.1 he];have:=m2 hdt h.has;rwa [<- hfd]at this),λi hi=>e4 i (λe=>hi (by rw[e];exact List.mem_singleton.2 rfl)),λhn=>absurd hn hnn⟩;rw[if_neg (by omega),if_neg (by omega),if_neg (by omega),if_neg (by omega)]
theorem eraseQ_spec {b mk:Int}:∀(q:List Nat) (S:Dv),Er fd S b->(∀d∈q,d<S.N.dies)->q.Nodup->∃N' t',q.foldl (Dv.eraseD b mk) (S.N,S.t,0)=(N',t',0)/\Erd fd S b mk q N' t'
 | [],S,h,_,_=>⟨S.N,S.t,rfl,ErN.refl fd h.inv.lit b,TlMore.refl h.inv.tdead h.inv.tbad,h.fit,λd hd=>(by cases hd),λ_ _=>rfl,λhn=>⟨rfl,hn,by simp[a3S],λd hd=>(by cases hd)⟩⟩
 | d::q,S,h,hq,hnd=>by
  obtain⟨N1,t1,f1,g1⟩:=eraseD_spec (mk:=mk) h (hq d (by simp));obtain⟨p1,_⟩:=h.put g1.er g1.more g1.fit;have hnd2:=List.nodup_cons.1 hnd;obtain⟨N2,t2,f2,g2⟩:=eraseQ_spec (mk:=mk) q _ p1 (λe he=>by show e<N1.dies;rw[g1.er.like.dies];exact hq e (by simp[he])) hnd2.2;have e2:ErN fd N1 N2 b:=g2.er;have m2:TlMore fd t1 t2:=g2.more;have hF2:t2.Fit S.N:=⟨g2.fit.d.trans g1.er.like.dies,g2.fit.b.trans g1.er.like.blocks,g2.fit.p.trans g1.er.like.pages,g2.fit.len⟩;refine⟨N2,t2,by rw[List.foldl_cons,f1];exact f2,g1.er.trans e2,g1.more.trans m2,hF2,λe he hm=>?_,λi hi=>?_,λhn=>?_⟩
  ·rcases List.mem_cons.1 he with rfl | he
   ·rcases g1.done e (List.mem_singleton.2 rfl) hm with hc | hc
    ·left;have:N2.blk e b.toNat=N1.blk e b.toNat:=g2.rest e hnd2.1;rw[this];exact hc
    ·right;cases hx:L.has (t2.mask b) (e:Nat)with
     | false=>rfl
     | true=>
      have:=m2.mask b (by rw[g1.more.has];exact h.has) _ hx;rw[hc]at this;cases this
   ·exact g2.done e he hm
  ·have h1:N2.blk i b.toNat=N1.blk i b.toNat:=g2.rest i (λe=>hi (by simp[e]));have h2:=g1.rest i (λe=>hi (by rw[List.mem_singleton.1 e];simp));rw[h1,h2]
  ·obtain⟨x1,x2,x3,x4⟩:=g1.exact_ hn;obtain⟨y1,y2,y3,y4⟩:=g2.exact_ x2;have y3:N2.ops=N1.ops+(a3S mk q:Int):=y3;refine⟨y1.trans x1,y2,?_,λe he hm=>?_⟩
   ·have:a3S mk (d::q)=a3S mk [d]+a3S mk q:=by
     unfold a3S;rw[<- List.length_append,<- List.filter_append];rfl
    rw[y3,x3,this];omega
   ·rcases List.mem_cons.1 he with rfl | he
    ·have:N2.blk e b.toNat=N1.blk e b.toNat:=g2.rest e hnd2.1;rw[this];exact x4 e (List.mem_singleton.2 rfl) hm
    ·have hne:e≠d:=λe2=>hnd2.1 (by rw[<- e2];exact he);have:=y4 e he hm;have h3:N1.blk e b.toNat=S.N.blk e b.toNat:=g1.rest e (λe2=>hne (List.mem_singleton.1 e2));have this:(N2.blk e b.toNat).worn=(N1.blk e b.toNat).worn+1:=this;rw[this,h3]
end Inv
namespace Inv
variable {fd : Int} {S : Dv} {k m : Nat}
theorem msk2 (h:Inv fd S) (hF:S.t.Fit S.N) (h6:3<=S.N.dies/\S.N.dies<=6) {b:Int} (hb:S.t.has b=true):Msk S.N.dies fd (S.t.mask b):=by
 have hd:=hF.d;obtain⟨m1,m2⟩:=y6 (by omega) hb h.tdead.1 (h.tbad b hb).1;refine⟨m1,λd hh=>?_,λd hlt hne=>?_⟩
 ·rw[m2]at hh;simp only[Bool.and_eq_true,decide_eq_true_eq]at hh;omega
 ·rw[m2,decide_eq_true (p:=(0:Int)<=(d:Int)) (by omega),decide_eq_true (p:=(d:Int)<S.t.d) (by omega)];have e1:L.has S.t.dead (d:Nat)=false:=by
   cases hh:L.has S.t.dead (d:Nat)with
   | false=>rfl
   | true=>exact absurd (h.tdead.2 _ hh) hne
  have e2:L.has (S.t.at_ b).bad (d:Nat)=false:=by
   cases hh:L.has (S.t.at_ b).bad (d:Nat)with
   | false=>rfl
   | true=>exact absurd ((h.tbad b hb).2 _ hh) hne
  rw[e1,e2];rfl
theorem usable2 (h:Inv fd S) (hF:S.t.Fit S.N) (h6:3<=S.N.dies/\S.N.dies<=6) {b:Int} (hb:S.t.has b=true):S.t.usable b=true:=by
 have:=((h.msk2 hF h6 hb).pos h6).1;unfold Tl.usable;exact decide_eq_true (by omega)
theorem wores_more (h:Inv fd S) (hF:S.t.Fit S.N) (h6:S.N.dies<=6) (N':Nand) (b:Int):∀(q:List Nat) (t:Tl),TlMore fd S.t t->t.Fit S.N->TlMore fd S.t (q.foldl (λt (d:Nat)=>t.wore b (N'.wornAt d b)) t)/\(q.foldl (λt (d:Nat)=>t.wore b (N'.wornAt d b)) t).Fit S.N/\(∀x,x≠b->t.has x=true->(q.foldl (λt (d:Nat)=>t.wore b (N'.wornAt d b)) t).at_ x=t.at_ x)/\(q.foldl (λt (d:Nat)=>t.wore b (N'.wornAt d b)) t).blanks=t.blanks
 | [],t,hT,hF2=>⟨hT,hF2,λ_ _ _=>rfl,rfl⟩
 | d::q,t,hT,hF2=>by
  have h1:TlMore fd t (t.wore b (N'.wornAt d b)):=a8Z hF2.len (by have:=hF2.d;omega) hT.tdead (λx hx=>hT.tbad x (by rw[<- hT.has];exact hx)) _ _ (λ_=>⟨rfl,rfl,rfl⟩);have ih:=wores_more h hF h6 N' b q (t.wore b (N'.wornAt d b)) (hT.trans h1) (hF2.wore _ _);rw[List.foldl_cons];refine⟨ih.1,ih.2.1,λx hx hhx=>?_,ih.2.2.2.trans (Tl.blanks_same hF2.len _ _ rfl)⟩;rw[ih.2.2.1 x hx (by unfold Tl.wore;rw[Tl.has_set];exact hhx)];unfold Tl.wore;cases hb:t.has b with
  | false=>rw[Tl.set_no _ hb]
  | true=>rw[Tl.at_set hF2.len _ hb hhx,if_neg hx]
theorem blanks_more {fd:Int} {t t':Tl} (h:TlMore fd t t') (hl:t.l.length=t.b) (hl':t'.l.length=t'.b) (hb:t'.b=t.b):t'.blanks=t.blanks:=by
 unfold Tl.blanks;have e:t'.l.map (·.used)=t.l.map (·.used):=by
  apply List.ext_getElem?;intro i;rw[List.getElem?_map,List.getElem?_map]
  by_cases hi:i<t.l.length
  ·have hhas:t.has (i:Nat)=true:=Tl.has_iff.2 (by omega);have:=h.used (i:Nat) hhas;unfold Tl.at_ at this;rw[Int.toNat_natCast,List.getD_eq_getElem?_getD,List.getD_eq_getElem?_getD,List.getElem?_eq_getElem hi,List.getElem?_eq_getElem (by omega)]at this;rw[List.getElem?_eq_getElem hi,List.getElem?_eq_getElem (by omega)];exact congrArg some this
  ·rw[List.getElem?_eq_none (by omega),List.getElem?_eq_none (by omega)]
 have h1:∀l:List Sb,(l.countP λs=>!s.used)=(l.map (·.used)).countP λu=>!u:=λl=>by rw[List.countP_map];rfl
 rw[h1,h1,e]
structure Erased (fd:Int) (S:Dv) (b:Int) (N':Nand) (t':Tl):Prop where
 inv:Inv fd {S with N:=N',t:=t'}
 fit:t'.Fit N'
 er:ErN fd S.N N' b
 reads:∀i a,Std fd S i a->a.block≠b->Std fd {S with N:=N',t:=t'} i a/\R.read N' a.block a.row a.slot a.mask=R.read S.N a.block a.row a.slot a.mask
 blank:(t'.at_ b).used=false
 rest:∀x,S.t.has x=true->x≠b->(t'.at_ x).used=(S.t.at_ x).used
 held:∀x,S.t.has x=true->(t'.at_ x).held=(S.t.at_ x).held
 blanks:t'.blanks=S.t.blanks+1
 td:∀e:Int,L.has S.t.dead e=true->L.has t'.dead e=true
 exact_:a8a S.N->a8a N'/\N'.ops=S.N.ops+(a3S (S.t.mask b) (List.range S.N.dies):Int)/\(∀d:Nat,d<S.N.dies->L.has (S.t.mask b) (d:Nat)=true->(N'.blk d b.toNat).worn=(S.N.blk d b.toNat).worn+1)/\t'=(Dv.wores N' S.t b).clean b true
theorem erase_spec {b:Int} (h:Er fd S b):∃N' t',Dv.erase S.N S.t b=(N',t',0)/\Erased fd S b N' t':=by
 obtain⟨N1,t1,f1,g1⟩:=eraseQ_spec (mk:=S.t.mask b) (List.range S.N.dies) S h (λd hd=>List.mem_range.1 hd) List.nodup_range;obtain⟨p1,p2⟩:=h.put g1.er g1.more g1.fit;have hF1:t1.Fit N1:=g1.fit.like g1.er.like;have h6:3<=N1.dies/\N1.dies<=6:=p1.six;obtain⟨w1,w2,w3,w4⟩:=wores_more p1.inv hF1 h6.2 N1 b (List.range N1.dies) t1 (TlMore.refl p1.inv.tdead p1.inv.tbad) hF1;have hw:(List.range N1.dies).foldl (λt (d:Nat)=>t.wore b (N1.wornAt d b)) t1=Dv.wores N1 t1 b:=rfl;rw[hw]at w1 w2 w3 w4;obtain⟨T2,hT2⟩:∃T2,Dv.wores N1 t1 b=T2:=⟨_,rfl⟩;rw[hT2]at w1 w2 w3 w4;have w1:TlMore fd t1 T2:=w1;have w2:T2.Fit N1:=w2;have hTm:TlMore fd S.t T2:=g1.more.trans w1;have hF2:T2.Fit S.N:=⟨w2.d.trans g1.er.like.dies,w2.b.trans g1.er.like.blocks,w2.p.trans g1.er.like.pages,w2.len⟩;obtain⟨r1,r2⟩:=h.put g1.er hTm hF2;have hus:T2.usable b=true:=r1.inv.usable2 w2 h6 r1.has;have hhas:T2.has b=true:=r1.has;have hmk:∀j,(T2.clean b true).mask j=T2.mask j:=λj=>Dv.mask_clean w2.len _ _ _;have hat:∀x,T2.has x=true->(T2.clean b true).at_ x=if x=b then {T2.at_ b with used:=false}else T2.at_ x:=λx hx=>Tl.at_set w2.len _ hhas hx
 have hfin:Dv.erase S.N S.t b=(N1,T2.clean b true,0):=by
  unfold Dv.erase Dv.eraseB;rw[f1];dsimp only;rw[if_neg (by simp)];unfold Dv.eraseT;rw[hT2,if_pos hus]
 have hdd:(T2.clean b true).dead=T2.dead:=Tl.set_dead _ _ _;have hhs:∀x,(T2.clean b true).has x=T2.has x:=λx=>Tl.has_set _ _ _ _;have hstd:∀i a,Std fd {S with N:=N1,t:=T2} i a->a.block≠b->Std fd {S with N:=N1,t:=T2.clean b true} i a:=λi a ha hab=>by
  obtain⟨lr,q1,q2⟩:=ha.row;have hx:T2.has a.block=true:=Tl.has_iff.2 (by
   have h1:=q1.is.blk;have h2:=w2.b;have h1:0<=a.block/\a.block<N1.blocks:=h1;omega)
  exact⟨⟨lr,q1,q2⟩,by show((T2.clean b true).at_ a.block).used=true;rw[hat _ hx,if_neg hab];exact ha.used,ha.below,ha.seq⟩
 refine⟨N1,T2.clean b true,hfin,⟨⟨r1.inv.lit,r1.inv.dead,r1.inv.plan,r1.inv.flags,by show L.set (T2.clean b true).dead=true/\_;rw[hdd];exact r1.inv.tdead,λx hx=>?_,?_,λx hx hxu d hd=>?_,λi a ha=>hstd i a (r1.inv.st i a ha) (h.emp i a ha)⟩,w2.clean _ _,g1.er,λi a ha hab=>⟨hstd i a (r2 i a ha hab).1 hab,(r2 i a ha hab).2⟩,?_,λx hx hne=>?_,λx hx=>?_,?_,λe he=>by rw[hdd];exact hTm.td e he,λhn=>?_⟩⟩
 ·have hx':T2.has x=true:=by rw[<- hhs];exact hx
  show L.set ((T2.clean b true).at_ x).bad=true/\∀d:Int,L.has ((T2.clean b true).at_ x).bad d=true->d=fd;rw[hat x hx'];split
  ·exact r1.inv.tbad b hhas
  ·exact r1.inv.tbad x hx'
 ·rcases r1.inv.op with e | e
  ·exact .inl e
  ·right;have hx:T2.has S.op=true:=Tl.has_iff.2 (by
    have h1:=e.blk;have h2:=w2.b;have h1:0<=S.op/\S.op<N1.blocks:=h1;omega)
   exact⟨e.blk,by show((T2.clean b true).at_ S.op).used=true;rw[hat _ hx,if_neg (λe2=>h.ne e2.symm)];exact e.used,e.row,e.mask,e.cells⟩
 ·have hx':T2.has x=true:=by rw[<- hhs];exact hx
  have hd2:L.has (T2.mask x) (d:Nat)=true:=by rw[<- hmk];exact hd
  have hxu2:((T2.clean b true).at_ x).used=false:=hxu;rw[hat x hx']at hxu2;split at hxu2
  ·rename_i e;subst e;have hm:=hTm.mask x h.has _ hd2;have hdl:=(h.inv.msk2 h.fit h.six h.has).lt _ hm;rcases g1.done d (List.mem_range.2 (by omega)) hm with hc | hc
   ·exact hc
   ·have:=w1.mask x (by rw[g1.more.has];exact h.has) _ hd2;rw[hc]at this;cases this
  ·exact r1.inv.blank x hx' hxu2 d hd2
 ·rw[hat b hhas,if_pos rfl]
 ·have hx':T2.has x=true:=by rw[hTm.has];exact hx
  rw[hat x hx',if_neg hne];exact hTm.used x hx
 ·have hx':T2.has x=true:=by rw[hTm.has];exact hx
  rw[hat x hx'];split
  ·rename_i e;rw[e];exact hTm.held b h.has
  ·exact hTm.held x hx
 ·have h1:T2.blanks=S.t.blanks:=blanks_more hTm h.fit.len w2.len (by have:=hF2.b;have:=h.fit.b;omega);have hub:(T2.at_ b).used=true:=by rw[hTm.used b h.has];exact h.used
  have:=Tl.countP_set (λs:Sb=>!s.used) (T2.at_ b) {T2.at_ b with used:=!true} T2.l b.toNat (Tl.get_at w2.len hhas);have e1:(T2.clean b true).blanks=(T2.l.set b.toNat {T2.at_ b with used:=!true}).countP (λs:Sb=>!s.used):=by unfold Tl.clean Tl.set Tl.blanks;rw[if_pos hhas]
  have e2:T2.blanks=T2.l.countP (λs:Sb=>!s.used):=rfl;rw[<- e1,<- e2,hub]at this;simp only[Bool.not_true,Bool.not_false,Bool.false_eq_true,if_false,if_true]at this;omega
 ·obtain⟨x1,x2,x3,x4⟩:=g1.exact_ hn;exact⟨x2,x3,λd hd hm=>x4 d (List.mem_range.2 hd) hm,by rw[<- hT2,x1]⟩
end Inv
namespace Inv
variable {fd : Int} {S : Dv} {k m : Nat}
structure Cleared (fd:Int) (S:Dv) (l:List Int) (N':Nand) (t':Tl):Prop where
 inv:Inv fd {S with N:=N',t:=t'}
 fit:t'.Fit N'
 lit:N'.Lit
 like:S.N.Like N'
 dead:N'.dead=S.N.dead
 broken:N'.broken=S.N.broken
 plan:∀a∈N'.plan,a∈S.N.plan
 reads:∀i a,Std fd S i a->a.block∉l->Std fd {S with N:=N',t:=t'} i a/\R.read N' a.block a.row a.slot a.mask=R.read S.N a.block a.row a.slot a.mask
 has:∀x,t'.has x=S.t.has x
 blank:∀b∈l,(t'.at_ b).used=false
 rest:∀x,S.t.has x=true->x∉l->(t'.at_ x).used=(S.t.at_ x).used
 held:∀x,S.t.has x=true->(t'.at_ x).held=(S.t.at_ x).held
 blanks:t'.blanks=S.t.blanks+l.length
 td:∀e:Int,L.has S.t.dead e=true->L.has t'.dead e=true
 nofl:a8a S.N->a8a N'/\∀i j:Nat,(N'.blk i j).met=(S.N.blk i j).met
theorem clearGo_spec:∀(l:List Int) (S:Dv),(∀b∈l,Er fd S b)->l.Nodup->Inv fd S->S.t.Fit S.N->∃N' t',Dv.clearGo l S.N S.t=(N',t',0)/\Cleared fd S l N' t'
 | [],S,_,_,h,hF=>⟨S.N,S.t,rfl,h,hF,h.lit,Nand.Like.refl _,rfl,rfl,λ_ h=>h,λi a ha _=>⟨ha,rfl⟩,λ_=>rfl,λb hb=>(by cases hb),λ_ _ _=>rfl,λ_ _=>rfl,rfl,λ_ h=>h,λhn=>⟨hn,λ_ _=>rfl⟩⟩
 | b::l,S,hl,hnd,h,hF=>by
  have hb:=hl b (by simp);have hnd2:=List.nodup_cons.1 hnd;obtain⟨N1,t1,f1,g1⟩:=erase_spec hb;have hhas1:∀x,t1.has x=S.t.has x:=λx=>by
   unfold Tl.has;rw[show t1.b=S.t.b from by rw[g1.fit.b,hF.b,g1.er.like.blocks]]
  obtain⟨N2,t2,f2,g2⟩:=clearGo_spec l {S with N:=N1,t:=t1} (λx hx=>by
   have hx':=hl x (by simp[hx]);have hne:x≠b:=λe=>hnd2.1 (by rw[<- e];exact hx);exact⟨g1.inv,g1.fit,by show t1.has x=true;rw[hhas1];exact hx'.has,hx'.ne,hx'.emp,by show(t1.at_ x).used=true;rw[g1.rest x hx'.has hne];exact hx'.used,by show 3<=N1.dies/\N1.dies<=6;rw[g1.er.like.dies];exact hx'.six,by show 0<N1.pages;rw[g1.er.like.pages];exact hx'.pages⟩) hnd2.2 g1.inv g1.fit
  have l2:N1.Like N2:=g2.like;have d2:N2.dead=N1.dead:=g2.dead;have b2:N2.broken=N1.broken:=g2.broken;have bl2:t2.blanks=t1.blanks+l.length:=g2.blanks;refine⟨N2,t2,?_,g2.inv,g2.fit,g2.lit,g1.er.like.trans l2,d2.trans g1.er.dead,b2.trans g1.er.broken,λa ha=>g1.er.plan a (g2.plan a ha),λi a ha hab=>?_,λx=>(g2.has x).trans (hhas1 x),λx hx=>?_,λx hx hxl=>?_,λx hx=>?_,by rw[bl2,g1.blanks,List.length_cons];omega,λe he=>g2.td e (g1.td e he),λhn=>?_⟩
  ·rw[Dv.clearGo,f1];dsimp only;rw[if_neg (by simp)];exact f2
  ·have r1:=g1.reads i a ha (λe=>hab (by rw[e];simp));have r2:=g2.reads i a r1.1 (λe=>hab (by simp[e]));exact⟨r2.1,r2.2.trans r1.2⟩
  ·rcases List.mem_cons.1 hx with rfl | hx
   ·have:=g2.rest x (by show t1.has x=true;rw[hhas1];exact hb.has) hnd2.1;rw[this];exact g1.blank
   ·exact g2.blank x hx
  ·have h1:=g2.rest x (by show t1.has x=true;rw[hhas1];exact hx) (λe=>hxl (by simp[e]));rw[h1];exact g1.rest x hx (λe=>hxl (by simp[e]))
  ·rw[g2.held x (by show t1.has x=true;rw[hhas1];exact hx)];exact g1.held x hx
  ·obtain⟨n1,_⟩:=g1.exact_ hn;obtain⟨n2,n3⟩:=g2.nofl n1;exact⟨n2,λi j=>(n3 i j).trans (g1.er.nof hn.2 i j).1⟩
theorem pkSome_nodup (kind:Int->Bool) (o:Int) (n:Nat):(f6 kind o n).Nodup:=by
 unfold f6;rw[List.nodup_iff_pairwise_ne,List.pairwise_map];exact(List.Pairwise.filter _ (List.nodup_iff_pairwise_ne.1 List.nodup_range)).imp λh e=>h (by omega)
theorem spent_er (h:Inv fd S) (hO:S.Ok k m) {b:Int} (hb:b∈f6 (j4 S.t S.T) S.op S.t.b):Er fd S b:=by
 obtain⟨h1,h2,h3,h4⟩:=mem_pkSome.1 hb;have hg:=hO.gd.ok.bd16;have hhas:S.t.has b=true:=Tl.has_iff.2 ⟨h1,h2⟩;simp only[j4,Bool.and_eq_true,Bool.not_eq_true',beq_iff_eq]at h4;obtain⟨⟨⟨_,hbl⟩,_⟩,hc⟩:=h4;refine⟨h,hO.t,hhas,h3,λi a ha e=>?_,?_,hg.1,by omega⟩
 ·rw[hO.T.cnt]at hc;have hc:Tb.cntB S.T.at_ b=0:=by omega
  unfold Tb.cntB at hc;rw[List.countP_eq_zero]at hc;exact hc _ (Tb.look_mem ha) (by simp[e])
 ·unfold Tl.blank at hbl;rw[hhas,Bool.true_and]at hbl;simpa using hbl
theorem clear_spec (h:Inv fd S) (hO:S.Ok k m):∃N' t',S.clear=({S with N:=N',t:=t'},0)/\Cleared fd S (f6 (j4 S.t S.T) S.op S.t.b) N' t':=by
 obtain⟨N',t',f,g⟩:=clearGo_spec (f6 (j4 S.t S.T) S.op S.t.b) S (λb hb=>h.spent_er hO hb) (pkSome_nodup _ _ _) h hO.t;refine⟨N',t',?_,g⟩;unfold Dv.clear Dv.clearX;rw[f]
theorem countP_range_get {α:Type} (p:α->Bool) (z:α) (l:List α):l.countP p=(List.range l.length).countP λi=>p (l.getD i z):=by
 induction l with
 | nil=>rfl
 | cons x l ih=>
  rw[List.countP_cons,List.length_cons,List.range_succ_eq_map,List.countP_cons,List.countP_map,ih];rfl
theorem free_len (h:Inv fd S) (hO:S.Ok k m):S.free=S.t.blanks:=by
 unfold Dv.free f6;rw[List.length_map,<- List.countP_eq_length_filter];have hlen:=hO.t.len;unfold Tl.blanks;rw[countP_range_get _ Sb.zero,hlen];refine List.countP_congr λi hi=>?_;have hi:=List.mem_range.1 hi;have hhas:S.t.has (i:Nat)=true:=Tl.has_iff.2 (by omega);obtain⟨a1,a2⟩:=h.free_iff hO hhas;rw[a1];have e:S.t.blank (i:Nat)= !(S.t.l.getD i Sb.zero).used:=by unfold Tl.blank Tl.at_;rw[hhas,Int.toNat_natCast];rfl
 cases hb:S.t.blank (i:Nat)with
 | false=>rw[e]at hb;rw[hb];simp
 | true=>rw[a2 hb];rw[e]at hb;rw[hb];simp
end Inv
theorem a0a {kind:Int->Bool} {o:Int}:∀n:Nat,(∀x:Nat,x<n->(((x:Int) !=o)&&kind x)=false)->f6 kind o n=[]
 | 0,_=>rfl
 | n+1,h=>by rw[J9,if_neg (by rw[h n (by omega)];decide),a0a n λx hx=>h x (by omega)]
theorem a7q {N:Nand} {t:Tl} (h:∀i:Nat,N.dead.getD i false=false):Dv.seeDead N t=t:=by
 unfold Dv.seeDead;have:∀(q:List Nat),q.foldl (λt (d:Nat)=>if N.deadAt d then t.die d else t) t=t:=by
  intro q
  induction q with
  | nil=>rfl
  | cons d q ih=>
   rw[List.foldl_cons];have:N.deadAt d=false:=by unfold Nand.deadAt;rw[Int.toNat_natCast,h];simp
   rw[this,if_neg Bool.false_ne_true];exact ih
 exact this _
theorem a1u {f:Int->Int->Int} {key:Int->Int} (h1:∀x y,f x y<0->key x<=key y) (h2:∀x y,¬f x y<0->key y<=key x):∀(l:List Int) (m:Int),key (L7 f l m)<=key m/\∀x∈l,key (L7 f l m)<=key x
 | [],m=>⟨Int.le_refl _,λx hx=>(by cases hx)⟩
 | y::l,m=>by
  rw[L7];obtain⟨a1,a2⟩:=a1u h1 h2 l (if f y m<0 then y else m);have hm:key (if f y m<0 then y else m)<=key m/\key (if f y m<0 then y else m)<=key y:=by
   split
   ·rename_i hh;exact⟨h1 _ _ hh,Int.le_refl _⟩
   ·rename_i hh;exact⟨Int.le_refl _,h2 _ _ hh⟩
  refine⟨by omega,λx hx=>?_⟩;rcases List.mem_cons.1 hx with rfl | hx
  ·omega
  ·exact a2 x hx
theorem b6t {p q w:Int} (h:orI [B4 p q,w]<0):p<=q:=by
 refine Classical.byContradiction λhp=>?_;have e:B4 p q=1:=by unfold B4;rw[if_neg (by omega),if_pos (by omega)]
 rw[e]at h;exact absurd h (by show¬(if(1:Int)≠0 then(1:Int)else _)<0;rw[if_pos (by decide)];decide)
theorem b5r {p q w:Int} (h:¬orI [B4 p q,w]<0):q<=p:=by
 refine Classical.byContradiction λhp=>h ?_;have e:B4 p q= -1:=by unfold B4;rw[if_pos (by omega)]
 rw[e];show(if(-1:Int)≠0 then(-1:Int)else _)<0;rw[if_pos (by decide)];decide
theorem a0o (S:Dv) {x:Int} (hx:x∈f6 (A6 S.t S.T) S.op S.t.b):S.victim∈f6 (A6 S.t S.T) S.op S.t.b/\S.T.count S.victim<=S.T.count x:=by
 unfold Dv.victim;cases hl:f6 (A6 S.t S.T) S.op S.t.b with
 | nil=>rw[hl]at hx;cases hx
 | cons y l=>
  rw[hl]at hx;refine⟨a1v _ (by simp),?_⟩;have key:=a1u (f:=λx y=>orI [B4 (S.T.count x) (S.T.count y),B4 (S.t.wear x) (S.t.wear y)]) (key:=S.T.count) (λx y hh=>b6t hh) (λx y hh=>b5r hh) l y;rcases List.mem_cons.1 hx with rfl | hx
  ·exact key.1
  ·exact key.2 x hx
theorem b3x (l:List (Int×AtV)):∀Q:List Int,Q.Nodup->(Q.map λb=>Tb.cntB l b).sum<=l.length:=by
 induction l with
 | nil=>
  intro Q _;have:(Q.map λb=>Tb.cntB [] b).sum=0:=by
   induction Q with
   | nil=>rfl
   | cons b Q ih=>rw[List.map_cons,List.sum_cons,ih (by rename_i h;exact(List.nodup_cons.1 h).2)];rfl
  rw[this];exact Nat.zero_le _
 | cons x l ih=>
  intro Q hQ;have h1:(Q.map λb=>Tb.cntB (x::l) b).sum<=(Q.map λb=>Tb.cntB l b).sum+1:=by
   have h2:∀Q:List Int,Q.Nodup->(Q.map λb=>Tb.cntB (x::l) b).sum<=(Q.map λb=>Tb.cntB l b).sum+(if x.2.block∈Q then 1 else 0):=by
    intro Q
    induction Q with
    | nil=>intro _;exact Nat.le_refl _
    | cons b Q ihQ=>
     intro hn;obtain⟨n1,n2⟩:=List.nodup_cons.1 hn;have:=ihQ n2;rw[List.map_cons,List.sum_cons,List.map_cons,List.sum_cons];have hc:Tb.cntB (x::l) b=Tb.cntB l b+if x.2.block==b then 1 else 0:=by
      unfold Tb.cntB;rw[List.countP_cons]
     rw[hc]
     by_cases e:x.2.block=b
     ·subst e;rw[if_neg n1]at this;rw[if_pos (by simp),if_pos (by simp)];omega
     ·rw[if_neg (by simpa using e)]
      by_cases e2:x.2.block∈Q
      ·rw[if_pos e2]at this;rw[if_pos (by simp[e2])];omega
      ·rw[if_neg e2]at this;rw[if_neg (by simp[e,e2])];omega
   have:=h2 Q hQ;split at this<;>omega
  have:=ih Q hQ;rw[List.length_cons];omega
theorem a8y (c:Nat):∀(Q:List Int) (f:Int->Nat),(∀b∈Q,c<=f b)->Q.length*c<=(Q.map f).sum
 | [],_,_=>by simp
 | b::Q,f,h=>by
  rw[List.length_cons,List.map_cons,List.sum_cons,Nat.succ_mul];have:=a8y c Q f λx hx=>h x (by simp[hx]);have:=h b (by simp);omega
namespace Inv
variable {fd : Int} {S : Dv} {k m : Nat} {W : List (Int × En)}
theorem clear_hd (h:Inv fd S) (hO:S.Ok k m) (hH:Hd S W):∃N' t',S.clear=({S with N:=N',t:=t'},0)/\Cleared fd S (f6 (j4 S.t S.T) S.op S.t.b) N' t'/\Hd {S with N:=N',t:=t'} W:=by
 obtain⟨N',t',c1,c2⟩:=h.clear_spec hO;refine⟨N',t',c1,c2,⟨hH.keys,λi e he=>?_⟩⟩;obtain⟨h1,a,h2,h3⟩:=hH.each i e he;refine⟨h1,a,h2,?_⟩;rw[(c2.reads i a (h.st i a h2) λhb=>(h.spent_er hO hb).emp i a h2 rfl).2];exact h3
end Inv
theorem Y5 {α:Type} [BEq α] [LawfulBEq α]:∀{K M:List α},K.Nodup->(∀x∈K,x∈M)->K.length<=M.length
 | [],M,_,_=>Nat.zero_le _
 | x::K,M,h,hs=>by
  obtain⟨h1,h2⟩:=List.nodup_cons.1 h;have hx:=hs x (by simp);have h3:=Y5 (M:=M.erase x) h2 λy hy=>by
   have hne:y≠x:=λe=>h1 (by rw[<- e];exact hy);exact(List.mem_erase_of_ne hne).2 (hs y (by simp[hy]))
  rw[List.length_erase_of_mem hx]at h3;have:=List.length_pos_of_mem hx;rw[List.length_cons];omega
theorem ins_len {T:Tb} (h:T.Ok) (b:Int):(T.ins b).length<=Tb.cntB T.at_ b:=by
 unfold Tb.ins;split
 ·exact Nat.zero_le _
 ·have h1:(Tb.inK T b T.logical.toNat).Nodup:=by
   unfold Tb.inK;exact List.pairwise_map.2 ((List.nodup_range.filter _).imp λhne e=>hne (by omega))
  have h2:=Y5 (M:=(T.at_.filter λx=>x.2.block==b).map (·.1)) h1 λx hx=>by
   simp only[Tb.inK,List.mem_map,List.mem_filter,List.mem_range]at hx;obtain⟨i,⟨_,hi⟩,rfl⟩:=hx;unfold Tb.inB at hi;cases ha:Tb.look T.at_ (i:Int)with
   | none=>rw[ha]at hi;cases hi
   | some a=>
    rw[ha]at hi;exact List.mem_map.2 ⟨((i:Int),a),List.mem_filter.2 ⟨Tb.look_mem ha,hi⟩,rfl⟩
  rw[List.length_map]at h2;unfold Tb.cntB;rw[List.countP_eq_length_filter];exact h2
theorem a8z {T:Tb} (h:T.Ok) {b i:Int} {a:AtV} (ha:Tb.look T.at_ i=some a) (hb:a.block=b):i∈T.ins b:=by
 have hr:=h.rng _ (Tb.look_mem ha);have hc:T.count b≠0:=by
  rw[h.cnt];have:0<Tb.cntB T.at_ b:=List.countP_pos_iff.2 ⟨_,Tb.look_mem ha,by simp[hb]⟩;omega
 unfold Tb.ins;rw[if_neg hc];unfold Tb.inK;obtain⟨j,rfl⟩:=Int.eq_ofNat_of_zero_le hr.1;refine List.mem_map.2 ⟨j,List.mem_filter.2 ⟨List.mem_range.2 (by have:=hr.2;simp only at this;omega),?_⟩,rfl⟩;unfold Tb.inB;rw[ha];simp[hb]
theorem a3g {T:Tb} {b i:Int} (h:i∈T.ins b):∃a,Tb.look T.at_ i=some a/\a.block=b:=by
 unfold Tb.ins at h;split at h
 ·cases h
 ·simp only[Tb.inK,List.mem_map,List.mem_filter,List.mem_range]at h;obtain⟨j,⟨_,hj⟩,rfl⟩:=h;unfold Tb.inB at hj;cases ha:Tb.look T.at_ (j:Int)with
  | none=>rw[ha]at hj;cases hj
  | some a=>rw[ha]at hj;exact⟨a,rfl,by simpa using hj⟩
theorem a0v (kind:Int->Bool) (o:Int):∀n,(f6 kind o n).length=(List.range n).countP λi:Nat=>((i:Int) !=o)&&kind i
 | 0=>rfl
 | n+1=>by
  rw[J9,List.range_succ,List.countP_append,<- a0v kind o n]
  by_cases h:(((n:Int) !=o)&&kind n)=true
  ·rw[if_pos h,List.length_append];simp[List.countP_cons,h]
  ·rw[if_neg h];simp[List.countP_cons,h]
theorem a1r {p q:Nat->Bool} {o:Int}:∀n:Nat,(∀i,i<n->p i=true\/q i=true\/(i:Int)=o)->n<=(List.range n).countP p+(List.range n).countP q+(if 0<=o/\o<n then 1 else 0)
 | 0,_=>by simp
 | n+1,h=>by
  have ih:=a1r (p:=p) (q:=q) (o:=o) n λi hi=>h i (by omega);rw[List.range_succ,List.countP_append,List.countP_append];have hn:=h n (by omega);have e1:[n].countP p=if p n then 1 else 0:=by simp[List.countP_cons]
  have e2:[n].countP q=if q n then 1 else 0:=by simp[List.countP_cons]
  rw[e1,e2];have a1:p n=true->(if p n=true then 1 else 0)=1:=λe=>if_pos e;have a2:q n=true->(if q n=true then 1 else 0)=1:=λe=>if_pos e;generalize(if p n=true then 1 else 0)=x1 at a1 ⊢;generalize(if q n=true then 1 else 0)=x2 at a2 ⊢
  by_cases ho:0<=o/\o<n
  ·rw[if_pos ho]at ih;rw[if_pos (show 0<=o/\o<((n+1:Nat):Int)by omega)];rcases hn with e | e | e
   ·have:=a1 e;omega
   ·have:=a2 e;omega
   ·omega
  ·rw[if_neg ho]at ih;rcases hn with e | e | e
   ·have:=a1 e;split<;>omega
   ·have:=a2 e;split<;>omega
   ·rw[if_pos (show 0<=o/\o<((n+1:Nat):Int)by omega)];omega
structure Rmy (fd:Int) (W:List (Int×En)) (S:Dv):Prop where
 inv:Inv fd S
 hd:Hd S W
 wok:WOk W
 held:∀b,S.t.has b=true->(S.t.at_ b).held=false
 ff:(∀i:Nat,S.N.dead.getD i false=false)->∀i j:Nat,(S.N.blk i j).fails=false
 cap:2*W.length<=(S.N.blocks-5)*(S.N.pages*(S.N.dies-2))+1
namespace Rmy
variable {fd : Int} {S : Dv} {k m β : Nat} {W : List (Int × En)}
theorem clear(h:Rmy fd W S) (hO:S.Ok (96+k) m):∃V,S.clear=(V,0)/\Rmy fd W V/\V.Ok k m/\f6 (j4 V.t V.T) V.op V.t.b=[]/\V.t.blanks=S.t.blanks+(f6 (j4 S.t S.T) S.op S.t.b).length/\V.T=S.T/\V.op=S.op/\V.row=S.row/\V.next=S.next/\V.rows=S.rows+S.N.pages*(f6 (j4 S.t S.T) S.op S.t.b).length/\V.N.dead=S.N.dead/\V.N.broken=S.N.broken/\S.N.Like V.N/\(∀d:Int,L.has S.t.dead d=true->L.has V.t.dead d=true)/\(Hot2 fd S β->Hot2 fd V β):=by
 have hk:=Dv.clear_keep hO;obtain⟨N',t',c1,c2,c3⟩:=h.inv.clear_hd hO h.hd;rw[c1]at hk;refine⟨_,c1,⟨c2.inv,c3,h.wok,λb hb=>?_,λhd=>?_,?_⟩,hk.1,?_,c2.blanks,rfl,rfl,rfl,rfl,?_,c2.dead,c2.broken,c2.like,c2.td,λhh=>?_⟩
 ·have hb:t'.has b=true:=hb;rw[c2.has]at hb;show(t'.at_ b).held=false;rw[c2.held b hb];exact h.held b hb
 ·have hd:∀i:Nat,N'.dead.getD i false=false:=hd;rw[c2.dead]at hd;exact(c2.nofl ⟨hd,h.ff hd⟩).1.2
 ·show 2*W.length<=(N'.blocks-5)*(N'.pages*(N'.dies-2))+1;rw[c2.like.blocks,c2.like.pages,c2.like.dies];exact h.cap
 ·refine a0a _ λx hx=>?_;have hx:x<t'.b:=hx;have htb:t'.b=S.t.b:=by rw[c2.fit.b,hO.t.b,c2.like.blocks]
  have hhas:S.t.has (x:Int)=true:=Tl.has_iff.2 (by omega);have hhas':t'.has (x:Int)=true:=by rw[c2.has];exact hhas
  cases hh:(((x:Int) !=S.op)&&j4 t' S.T x)with
  | false=>rfl
  | true=>
   exfalso
   rw[Bool.and_eq_true]at hh;have h2:=hh.2;unfold j4 at h2;simp only[Bool.and_eq_true,Bool.not_eq_true']at h2;have hu':(t'.at_ x).used=true:=by
    have:=h2.1.1.2;unfold Tl.blank at this;rw[hhas']at this;simpa using this
   by_cases hm:(x:Int)∈f6 (j4 S.t S.T) S.op S.t.b
   ·rw[c2.blank _ hm]at hu';cases hu'
   ·refine hm (mem_pkSome.2 ⟨by omega,by omega,by simpa using hh.1,?_⟩);unfold j4;rw[h.inv.usable hO hhas,h2.2];unfold Tl.blank Tl.held;rw[hhas,<- c2.rest _ hhas hm,hu',h.held _ hhas];rfl
 ·unfold Dv.rows;show N'.pages*t'.blanks+(if S.op>=0 then((N'.pages:Int)-S.row).toNat else 0)=_;rw[c2.blanks,c2.like.pages,Nat.mul_add];omega
 ·cases hh with
  | calm hno=>
   have hnf:=c2.nofl ⟨hno.dead,h.ff hno.dead⟩;exact .calm ⟨λi=>by show N'.dead.getD i false=false;rw[c2.dead];exact hno.dead i,List.eq_nil_iff_forall_not_mem.2 λa ha=>(by have:=c2.plan a ha;rw[hno.plan]at this;cases this),λi j=>by show(N'.blk i j).met=false;rw[hnf.2];exact hno.met i j⟩
  | cold h1 h2=>exact .cold (c2.td fd h1) h2
  | once h1=>exact .once (c2.td fd h1)
end Rmy
end Go.Proofs.YtpohajhbfllbbaaGreat
