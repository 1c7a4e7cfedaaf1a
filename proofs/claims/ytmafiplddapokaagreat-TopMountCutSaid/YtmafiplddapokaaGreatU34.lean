/- Helpers. No condition. -/
import Derived.Test.YtmafiplddapokaaGreatU33
import Derived.Below
import Derived.BigQuiet
import Derived.ChangeOld
import Derived.Deep.AppendLies
import Derived.Deep.DeepCutAuto
import Derived.Deep.DrawnRows
import Derived.Deep.Draws
import Derived.Deep.MidRow
import Derived.Deep.QuietTactic
import Derived.Deep.RegionHeld3
import Derived.Deep.RegionLaw
import Derived.Deep.Slices
import Derived.Deep.Strs
import Derived.Defers
import Derived.JoinedOf
import Derived.Laws.AppendOwn
import Derived.Laws.CopyOwn
import Derived.Laws.MakeOwn
import Derived.Laws.OwnMore
import Derived.Laws.ResultCell
import Derived.Laws.StructEq
import Derived.Lib.Hide
import Derived.Lib.SmallJoins
import Derived.Maps.AppendAt
import Derived.Maps.RangeRun
import Derived.OpenShut
import Derived.ProofKit
import Derived.Shelf.GgSortFunc.InsertionK
import Derived.Shelf.SlLaysF0
import Derived.Shelf.SlSortCmp.WholeK
import Derived.Shelf.Sort.Plain
import Derived.Sort.Grow
import Derived.StillTailTactics
import Derived.WalkKit
import Derived.WalkLawsBesides
import Derived.WalkSpells
import Derived.WideKeyEntry
set_option maxRecDepth 20000
set_option linter.all false
namespace Go.Proofs.YtmafiplddapokaaGreat
open Go Go.RowKit
def V.tornAt (L:List Fnd) (i:Nat):Option En:=if(V.standOf (V.of L i)).2=true/\(V.standOf (V.of L i)).1.whole=false then some (V.standOf (V.of L i)).1.en else none
theorem V.torn_lpn {L:List Fnd} {i:Nat} {e:En} (h:V.tornAt L i=some e):e.lpn=(i:Int):=by
 unfold V.tornAt at h;split at h
 ·rename_i hc;injection h with h;have:=(List.mem_filter.1 (V.standOf_mem hc.1)).2;rw[<- h];exact a4m this
 ·cases h
def V.tornF (N:Nand) (L:List Fnd) (i:Nat):Option En:=if V.last N (V.standOf (V.of L i)).1=true then V.tornAt L i else none
def V.tornB (N:Nand) (L:List Fnd) (i:Nat):Option En:=if V.last N (V.standOf (V.of L i)).1=true then none else V.tornAt L i
theorem V.goS_both {N:Nand} {L:List Fnd} (h:∀i:Nat,(V.standOf (V.of L i)).2=true->(V.standOf (V.of L i)).1.whole=false->V.last N (V.standOf (V.of L i)).1=true->V.holds (V.of L i)=[]) (n:Int):∀k,(V.goS N L n k).torn=(List.range k).filterMap (V.tornF N L)/\(V.goS N L n k).others=(List.range k).filterMap (V.tornB N L)/\(V.goS N L n k).held=[]
 | 0=>⟨rfl,rfl,rfl⟩
 | k+1=>by
  obtain⟨i1,i2,i3⟩:=V.goS_both h n k;rw[V.goS_succ,s9,U1,U1,<- i1,<- i2];unfold V.step
  by_cases hs:(V.standOf (V.of L k)).2=true
  ·rw[d8 hs];cases hw:(V.standOf (V.of L k)).1.whole with
   | true=>
    rw[d8 rfl];have e:V.tornAt L k=none:=by unfold V.tornAt;rw[d6];rintro⟨_,e⟩;rw[hw]at e;cases e
    have e1:V.tornF N L k=none:=by unfold V.tornF;rw[e];split<;>rfl
    have e2:V.tornB N L k=none:=by unfold V.tornB;rw[e];split<;>rfl
    rw[C7,C7,e1,e2];exact⟨(m6 _).symm,(m6 _).symm,i3⟩
   | false=>
    have e:V.tornAt L k=some (V.standOf (V.of L k)).1.en:=by unfold V.tornAt;rw[d8 ⟨hs,hw⟩]
    rw[d6 (by decide)];cases hl:V.last N (V.standOf (V.of L k)).1 with
    | true=>
     have e1:V.tornF N L k=some (V.standOf (V.of L k)).1.en:=by unfold V.tornF;rw[hl,d8 rfl,e]
     have e2:V.tornB N L k=none:=by unfold V.tornB;rw[hl,d8 rfl]
     rw[d8 rfl,C7,C7,e1,e2];refine⟨rfl,(m6 _).symm,?_⟩;show(V.goS N L n k).held++V.holds (V.of L k)=[];rw[i3,h k hs hw hl];rfl
    | false=>
     have e1:V.tornF N L k=none:=by unfold V.tornF;rw[hl,d6 (by decide)]
     have e2:V.tornB N L k=some (V.standOf (V.of L k)).1.en:=by unfold V.tornB;rw[hl,d6 (by decide),e]
     rw[d6 (by decide),C7,C7,e1,e2];exact⟨(m6 _).symm,rfl,i3⟩
  ·rw[d6 hs];have e:V.tornAt L k=none:=by unfold V.tornAt;rw[d6];rintro⟨e,_⟩;exact hs e
   have e1:V.tornF N L k=none:=by unfold V.tornF;rw[e];split<;>rfl
   have e2:V.tornB N L k=none:=by unfold V.tornB;rw[e];split<;>rfl
   rw[C7,C7,e1,e2];exact⟨(m6 _).symm,(m6 _).symm,i3⟩
theorem b0j {g:Nat->Option En} (hg:∀i e,g i=some e->e.lpn=(i:Int)):∀k,(((List.range k).filterMap g).map (·.lpn)).Sublist ((List.range k).map λi:Nat=>(i:Int))
 | 0=>a6U _
 | k+1=>by
  have ih:=b0j hg k;rw[s9,U1,t7,t7];refine ih.append ?_;rw[C7];cases he:g k with
  | none=>exact List.nil_sublist _
  | some e=>dsimp only;simp[hg k e he]
theorem b5e (T:Tb) (b:Int):(T.ins b).Nodup:=by
 unfold Tb.ins;split
 ·exact a5E
 ·unfold Tb.inK;exact List.pairwise_map.2 ((List.nodup_range.filter _).imp λhne e=>hne (by omega))
theorem a7l {fd:Int} {S:Dv} {l:List En} (hI:Inv fd S) (hl:S.left=true) (hR:RowIs S.N S.op S.row S.mask (S.es l)) (hno:∀d:Nat,L.has S.mask (d:Nat)=true->S.N.failB S.op S.row d=false):Full (-1) (S.wrote l).N S.op S.row S.mask (S.es l):=by
 have ho:=hI.opn hl;have hrdy:RdyW S.N S.op S.row S.mask:=⟨hI.lit,λd hd ha=>(ho.cells d hd).2 ha⟩;have hq:=hrdy.rdy hR;have w:WroteR S.N (S.wrote l).N S.op S.row (R.job S.op S.row S.mask (S.es l)):=(a3X hrdy hR).2.2;have hpage:∀x∈R.job S.op S.row S.mask (S.es l),(S.wrote l).N.pageAt x.1 S.op S.row=some ⟨O9 x.2,false,false⟩:=λx hx=>by
  obtain⟨n1,n2,n3⟩:=hR.inn x hx;obtain⟨d,hd⟩:=f9 n1;have hf:=hno d (by rw[<- hd];exact n3);rw[<- hd]at hf;unfold Nand.failB at hf;rw[E5]at hf;have hc:=w.cells x hx;rw[hf.1,d6 (by decide),hf.2]at hc;have hlen:=hq.cells x hx hf.1;have hrow:=hR.row;unfold Nand.pageAt;rw[hc,B2 (by omega),show S.row.toNat-(S.N.blk x.1.toNat S.op.toNat).cells.length=0 from by omega];rfl
 exact⟨hR.like w.like,λx hx _=>⟨_,hpage x hx,rfl,a5Z (hR.sh x hx).1⟩,λx hx c hc=>by
  rw[hpage x hx]at hc;injection hc with hc;rw[<- hc];exact .inr (.inl rfl)⟩
def Ent (lg:Nat) (l:List En):Prop:=(∀e∈l,FitR e/\e.lpn<(lg:Int))/\(l.map (·.lpn)).Nodup
theorem Msk.calm2 {D:Nat} {m:Int} (h:Msk D (-2) m):Msk D (-1) m:=⟨h.set,h.lt,λd hd _=>h.all d hd (by omega)⟩
theorem Inv.slots_full2 {S:Dv} {k m:Nat} (h:Inv (-2) S) (hO:S.Ok k m) (hr:0<S.rows):S.slots=(S.N.dies:Int)-1:=by
 have hg:=hO.gd.ok.bd16;unfold Dv.slots;cases hl:S.left with
 | true=>rw[d8 rfl];exact(a4d (h.opn hl).mask.calm2 hg.1).2
 | false=>
  rw[d6 (by decide)];have hp:=(h.rows_pos hO hr).resolve_left (by rw[hl];decide);have hb:=Dv.pick_blank hp;have hh:S.t.has S.pick=true:=by unfold Tl.blank at hb;simp only[f7]at hb;exact hb.1
  exact(a4d (h.msk hO hh).calm2 hg.1).2
structure Cm (W:List (Int×En)) (lg:Nat) (S:Dv):Prop where
 gi:GI (-2) W S
 no:NoF S
 log:S.T.logical=(lg:Int)
theorem V.goS_fb {N:Nand} {L:List Fnd} (n:Int):∀k,(V.goS N L n k).torn=(List.range k).filterMap (V.tornF N L)/\(V.goS N L n k).others=(List.range k).filterMap (V.tornB N L)
 | 0=>⟨rfl,rfl⟩
 | k+1=>by
  obtain⟨i1,i2⟩:=V.goS_fb (N:=N) (L:=L) n k;rw[V.goS_succ,s9,U1,U1,<- i1,<- i2];unfold V.step
  by_cases hs:(V.standOf (V.of L k)).2=true
  ·rw[d8 hs];cases hw:(V.standOf (V.of L k)).1.whole with
   | true=>
    rw[d8 rfl];have e:V.tornAt L k=none:=by unfold V.tornAt;rw[d6];rintro⟨_,e⟩;rw[hw]at e;cases e
    have e1:V.tornF N L k=none:=by unfold V.tornF;rw[e];split<;>rfl
    have e2:V.tornB N L k=none:=by unfold V.tornB;rw[e];split<;>rfl
    rw[C7,C7,e1,e2];exact⟨(m6 _).symm,(m6 _).symm⟩
   | false=>
    have e:V.tornAt L k=some (V.standOf (V.of L k)).1.en:=by unfold V.tornAt;rw[d8 ⟨hs,hw⟩]
    rw[d6 (by decide)];cases hl:V.last N (V.standOf (V.of L k)).1 with
    | true=>
     have e1:V.tornF N L k=some (V.standOf (V.of L k)).1.en:=by unfold V.tornF;rw[hl,d8 rfl,e]
     have e2:V.tornB N L k=none:=by unfold V.tornB;rw[hl,d8 rfl]
     rw[d8 rfl,C7,C7,e1,e2];exact⟨rfl,(m6 _).symm⟩
    | false=>
     have e1:V.tornF N L k=none:=by unfold V.tornF;rw[hl,d6 (by decide)]
     have e2:V.tornB N L k=some (V.standOf (V.of L k)).1.en:=by unfold V.tornB;rw[hl,d6 (by decide),e]
     rw[d6 (by decide),C7,C7,e1,e2];exact⟨(m6 _).symm,rfl⟩
  ·rw[d6 hs];have e:V.tornAt L k=none:=by unfold V.tornAt;rw[d6];rintro⟨e,_⟩;exact hs e
   have e1:V.tornF N L k=none:=by unfold V.tornF;rw[e];split<;>rfl
   have e2:V.tornB N L k=none:=by unfold V.tornB;rw[e];split<;>rfl
   rw[C7,C7,e1,e2];exact⟨(m6 _).symm,(m6 _).symm⟩
theorem a5h (on:Bool):∀(l:List Int) (t:Tl),t.l.length=t.b->TSame t (l.foldl (λt b=>t.hold b on) t)/\∀x,t.has x=true->((l.foldl (λt b=>t.hold b on) t).at_ x).held=if x∈l then on else(t.at_ x).held
 | [],t,_=>⟨TSame.refl t,λx _=>by rw[d6 (by simp)];rfl⟩
 | b::l,t,hl=>by
  have h1:TSame t (t.hold b on):=by
   unfold Tl.hold;refine⟨Tl.set_dead _ _ _,Tl.set_b _ _ _,Tl.set_d _ _ _,Tl.set_len _ _ _,λx hx=>?_⟩;rw[a9e hl _ hx];split
   ·rename_i e;rw[e];exact⟨rfl,rfl⟩
   ·exact⟨rfl,rfl⟩
  have h2:∀x,t.has x=true->((t.hold b on).at_ x).held=if x=b then on else(t.at_ x).held:=λx hx=>by
   unfold Tl.hold;rw[a9e hl _ hx];split<;>rfl
  obtain⟨i1,i2⟩:=a5h on l (t.hold b on) (by rw[h1.len,h1.b];exact hl);rw[A6];refine⟨h1.trans i1,λx hx=>?_⟩;rw[i2 x (by rw[h1.has];exact hx),h2 x hx]
  by_cases e1:x∈l
  ·rw[d8 e1,d8 (by simp[e1])]
  ·rw[d6 e1]
   by_cases e2:x=b
   ·rw[d8 e2,d8 (by simp[e2])]
   ·rw[d6 e2,d6 (by simp[e1,e2])]
theorem Inv.tsame {fd:Int} {S:Dv} {t':Tl} (h:Inv fd S) (hb:S.t.b=S.N.blocks) (e:TSame S.t t'):Inv fd {S with t:=t'}:=by
 have hm:∀x,S.t.has x=true->t'.mask x=S.t.mask x:=λx hx=>mask_eq e.dead e.b e.d (e.at_ x hx).1;refine⟨h.lit,h.dead,h.plan,h.flags,by show L.set t'.dead=true/\_;rw[e.dead];exact h.tdead,λb hb=>?_,?_,λb hb hu d hd=>?_,λi a ha=>?_⟩
 ·have hb:t'.has b=true:=hb;rw[e.has]at hb;show L.set (t'.at_ b).bad=true/\_;rw[(e.at_ b hb).1];exact h.tbad b hb
 ·rcases h.op with o | o
  ·exact .inl o
  ·have hh:S.t.has S.op=true:=Tl.has_iff.2 (by have:=o.blk;omega);exact .inr ⟨o.blk,by show(t'.at_ S.op).used=true;rw[(e.at_ _ hh).2];exact o.used,o.row,o.mask,o.cells⟩
 ·have hb:t'.has b=true:=hb;rw[e.has]at hb;have hu:(t'.at_ b).used=false:=hu;have hd:L.has (t'.mask b) (d:Nat)=true:=hd;rw[(e.at_ b hb).2]at hu;rw[hm b hb]at hd;exact h.blank b hb hu d hd
 ·have hs:=h.st i a ha;refine⟨hs.row,?_,hs.below,hs.seq⟩;obtain⟨l,g1,_⟩:=hs.row;have hh:S.t.has a.block=true:=Tl.has_iff.2 (by have:=g1.is.blk;omega);show(t'.at_ a.block).used=true;rw[(e.at_ _ hh).2];exact hs.used
theorem GI.tsame {fd:Int} {W:List (Int×En)} {S:Dv} {t':Tl} (h:GI fd W S) (hb:S.t.b=S.N.blocks) (e:TSame S.t t'):GI fd W {S with t:=t'}:=
 ⟨h.inv.tsame hb e,⟨h.hd.keys,h.hd.each⟩,h.wok,h.msk,h.dsc⟩
theorem blanks_same {t t':Tl} (hl:t.l.length=t.b) (e:TSame t t'):t'.blanks=t.blanks:=by
 have hl':t'.l.length=t'.b:=by rw[e.len,e.b];exact hl
 rw[a1E hl,a1E hl',e.b];refine List.countP_congr λi hi=>?_;have hi:=List.mem_range.1 hi;rw[(e.at_ (i:Nat) (Tl.has_iff.2 (by omega))).2]
theorem Cm.holds {W:List (Int×En)} {lg:Nat} {S:Dv} (h:Cm W lg S) (hF:S.t.Fit S.N) (l:List Int) (on:Bool):Cm W lg (S.holds l on)/\(S.holds l on).rows=S.rows/\∀b,S.t.has b=true->(S.holds l on).t.has b=true/\((S.holds l on).t.at_ b).held=if b∈l then on else(S.t.at_ b).held:=by
 obtain⟨e1,e2⟩:=a5h on l S.t hF.len;refine⟨⟨h.gi.tsame hF.b e1,⟨h.no.dead,h.no.plan,h.no.met,h.no.fl⟩,h.log⟩,?_,λb hb=>⟨by show(l.foldl (λt b=>t.hold b on) S.t).has b=true;rw[e1.has];exact hb,e2 b hb⟩⟩;unfold Dv.rows;show S.N.pages*(l.foldl (λt b=>t.hold b on) S.t).blanks+_=_;rw[blanks_same hF.len e1];rfl
theorem b2q {N:Nand} (h:N.Lit) (c:Nat) (kp:Int):(arm N (c+1) kp).cutB=false/\(arm N (c+1) kp).cutN=arm N.cutN c kp/\(arm N 0 kp).cutB=true:=by
 have hcb:(arm N (c+1) kp).cutB=false:=by
  unfold Nand.cutB arm;show(true&&decide (((c+1:Nat):Int)<=0))=false;rw[n8 (by omega)];rfl
 have hcN:N.cutB=false:=h.cutB;have hcts:=h.cuts;refine⟨hcb,?_,rfl⟩;unfold Nand.cutN;rw[hcb,hcN,hcts];unfold arm;simp only[X7,H2,W0];congr 1;omega
structure Qt (N:Nand):Prop where
 dead:∀i:Nat,N.dead.getD i false=false
 plan:N.plan=[]
 flags:∀i j:Nat,(N.blk i j).met=false/\(N.blk i j).fails=false
theorem Qt.erase {N:Nand} (h:Qt N) (x y:Int):Qt (N.eraseN x y):=by
 unfold Nand.eraseN;dsimp only;have key:∀(M:Nand) (B:NBlock),M.blk=N.blk->M.dead=N.dead->M.plan=[]->B.met=false->B.fails=false->Qt (M.setBlk x.toNat y.toNat B):=λM B hb hd hp h1 h2=>by
  refine⟨λi=>by show M.dead.getD i false=false;rw[hd];exact h.dead i,hp,λi j=>?_⟩;show((if i=x.toNat/\j=y.toNat then B else M.blk i j:NBlock)).met=false/\((if i=x.toNat/\j=y.toNat then B else M.blk i j:NBlock)).fails=false;split
  ·exact⟨h1,h2⟩
  ·rw[hb];exact h.flags i j
 have hf:=h.flags x.toNat y.toNat
 split
 ·exact h
 split
 ·exact key N.cutN _ rfl rfl h.plan hf.1 hf.2
 rw[d6 (by rw[hf.2];decide)];have:=key N.cutN {N.blk x.toNat y.toNat with cells:=[],worn:=(N.blk x.toNat y.toNat).worn+1} rfl rfl h.plan hf.1 hf.2;refine⟨this.dead,?_,this.flags⟩;show N.plan.filter _=[];rw[h.plan];rfl
theorem Qt.arm {N:Nand} (h:Qt N) (c:Nat) (kp:Int):Qt (arm N c kp):=⟨h.dead,h.plan,h.flags⟩
theorem b3c {N:Nand} (h:N.Lit) (x y:Int):N.eraseE x y≠9:=by
 unfold Nand.eraseE;rw[h.cutB];split
 ·unfold Nand.refuses;rw[h.off,d6 (by decide)];split
  ·decide
  split
  ·decide
  ·decide
 rw[d6 (by decide)];split<;>decide
theorem b5t {N:Nand} (h:N.Lit) (x y:Int) (c:Nat) (kp:Int):
  (∃c',(arm N c kp).eraseE x y=N.eraseE x y/\(arm N c kp).eraseN x y=arm (N.eraseN x y) c' kp)\/((arm N c kp).eraseE x y=9/\((arm N c kp).eraseN x y).off=true):=by
 have hra:(arm N c kp).refuses x y 0=N.refuses x y 0:=rfl
 by_cases hr:N.refuses x y 0=0
 ·cases c with
  | zero=>
   right;obtain⟨_,_,a3⟩:=b2q h 0 kp;refine⟨?_,?_⟩
   ·unfold Nand.eraseE;rw[hra,hr,d6 (by decide),a3,d8 rfl]
   ·unfold Nand.eraseN;dsimp only;rw[hra,hr,d6 (by decide),a3,d8 rfl];rfl
  | succ c=>
   left;obtain⟨a1,a2,_⟩:=b2q h c kp;refine⟨c,?_,?_⟩
   ·unfold Nand.eraseE;rw[hra,hr,a1,h.cutB];rfl
   ·unfold Nand.eraseN;dsimp only;rw[hra,hr,a1,h.cutB,a2];simp only[H5,a2N,W0,H2];have e:((arm N (c+1) kp).blk x.toNat y.toNat).fails=(N.blk x.toNat y.toNat).fails:=rfl;rw[e];split<;>rfl
 ·left;refine⟨c,?_,?_⟩
  ·unfold Nand.eraseE;rw[hra,d8 hr,d8 hr]
  ·unfold Nand.eraseN;dsimp only;rw[hra,d8 hr,d8 hr]
theorem a5q (b mk:Int) {x:Nand×Tl×Int} (h:x.2.2≠0):∀q:List Nat,q.foldl (Dv.eraseD b mk) x=x
 | []=>rfl
 | d::q=>by
  rw[A6];have e:Dv.eraseD b mk x d=x:=by unfold Dv.eraseD;rw[d8 h]
  rw[e];exact a5q b mk h q
theorem a3a (b mk:Int) (kp:Int):∀(q:List Nat) (N:Nand) (t:Tl) (c:Nat),N.Lit->
  ∃N1 t1,q.foldl (Dv.eraseD b mk) (N,t,0)=(N1,t1,0)/\N1.Lit/\((∃c',q.foldl (Dv.eraseD b mk) (arm N c kp,t,0)=(arm N1 c' kp,t1,0))\/∃N2 t2,q.foldl (Dv.eraseD b mk) (arm N c kp,t,0)=(N2,t2,9)/\N2.off=true)
 | [],N,t,c,h=>⟨N,t,rfl,h, .inl ⟨c,rfl⟩⟩
 | d::q,N,t,c,h=>by
  rw[A6,A6]
  by_cases hh:L.has mk (d:Nat)=false
  ·have e1:Dv.eraseD b mk (N,t,0) d=(N,t,0):=by unfold Dv.eraseD;rw[d6 (by simp),d8 hh]
   have e2:Dv.eraseD b mk (arm N c kp,t,0) d=(arm N c kp,t,0):=by unfold Dv.eraseD;rw[d6 (by simp),d8 hh]
   rw[e1,e2];exact a3a b mk kp q N t c h
  ·have h9:=b3c h (d:Int) b;obtain⟨t',ht'⟩:∃t',(if N.eraseE d b=0 then t else if N.eraseE d b=9 then t else if N.eraseE d b=8 then t.die d else t.bad d b)=t':=⟨_,rfl⟩;have e1:Dv.eraseD b mk (N,t,0) d=(N.eraseN d b,t',0):=by
    unfold Dv.eraseD;rw[d6 (by simp),d6 hh];dsimp only;rw[ht',d6 h9]
   rw[e1];rcases b5t h (d:Int) b c kp with⟨c',a1,a2⟩ | ⟨a1,a2⟩
   ·have e2:Dv.eraseD b mk (arm N c kp,t,0) d=(arm (N.eraseN d b) c' kp,t',0):=by
     unfold Dv.eraseD;rw[d6 (by simp),d6 hh];dsimp only;rw[a1,a2,ht',d6 h9]
    rw[e2];exact a3a b mk kp q _ t' c' (h.erase _ _)
   ·obtain⟨N1,t1,f1,f2,_⟩:=a3a b mk kp q (N.eraseN d b) t' 0 (h.erase _ _);refine⟨N1,t1,f1,f2, .inr ?_⟩;have e2:Dv.eraseD b mk (arm N c kp,t,0) d=((arm N c kp).eraseN d b,t,9):=by
     unfold Dv.eraseD;rw[d6 (by simp),d6 hh];dsimp only;rw[a1];rfl
    rw[e2,a5q b mk (show(9:Int)≠0 by decide) q];exact⟨_,_,rfl,a2⟩
theorem b3a (N:Nand) (t:Tl) (b:Int) (c:Nat) (kp:Int) (h:N.Lit):
  (Dv.erase N t b).2.2=0/\(Dv.erase N t b).1.Lit/\((∃c',Dv.erase (arm N c kp) t b=(arm (Dv.erase N t b).1 c' kp,(Dv.erase N t b).2.1,0))\/∃N2 t2,Dv.erase (arm N c kp) t b=(N2,t2,9)/\N2.off=true):=by
 obtain⟨N1,t1,f1,f2,f3⟩:=a3a b (t.mask b) kp (List.range N.dies) N t c h;have e1:Dv.erase N t b=(N1,Dv.eraseT N1 t1 b,0):=by
  unfold Dv.erase Dv.eraseB;rw[f1];dsimp only;rw[d6 (by simp)]
 rw[e1];refine⟨rfl,f2,?_⟩;rcases f3 with⟨c',g⟩ | ⟨N2,t2,g1,g2⟩
 ·refine .inl ⟨c',?_⟩;have g:Dv.eraseB (arm N c kp) t b=(arm N1 c' kp,t1,0):=g;unfold Dv.erase;rw[g];dsimp only;rw[d6 (by simp)];rfl
 ·refine .inr ⟨N2,t2,?_,g2⟩;have g1:Dv.eraseB (arm N c kp) t b=(N2,t2,9):=g1;unfold Dv.erase;rw[g1];dsimp only;rw[d8 (by decide)]
theorem a3R (kp:Int):∀(l:List Int) (N:Nand) (t:Tl) (c:Nat),N.Lit->
  (Dv.clearGo l N t).2.2=0/\((∃c',Dv.clearGo l (arm N c kp) t=(arm (Dv.clearGo l N t).1 c' kp,(Dv.clearGo l N t).2.1,0))\/∃N2 t2,Dv.clearGo l (arm N c kp) t=(N2,t2,9)/\N2.off=true)
 | [],N,t,c,_=>⟨rfl, .inl ⟨c,rfl⟩⟩
 | b::l,N,t,c,h=>by
  obtain⟨a1,a2,a3⟩:=b3a N t b c kp h;have ec:Dv.clearGo (b::l) N t=Dv.clearGo l (Dv.erase N t b).1 (Dv.erase N t b).2.1:=by
   rw[Dv.clearGo,d6 (by rw[a1];simp)]
  rw[ec];rw[Dv.clearGo];rcases a3 with⟨c',g⟩ | ⟨N2,t2,g1,g2⟩
  ·rw[g];dsimp only;rw[d6 (by simp)];exact a3R kp l _ _ c' a2
  ·refine⟨(a3R kp l _ _ 0 a2).1, .inr ⟨N2,t2,?_,g2⟩⟩;rw[g1];dsimp only;rw[d8 (by decide)]
theorem Dv.clear_arm (S:Dv) (c:Nat) (kp:Int) (h:S.N.Lit):
  S.clear.2=0/\((∃c',(S.armed c kp).clear=(S.clear.1.armed c' kp,0))\/∃N2 t2,(S.armed c kp).clear=({S with N:=N2,t:=t2},9)/\N2.off=true):=by
 obtain⟨a1,a2⟩:=a3R kp (o0 (C3 S.t S.T) S.op S.t.b) S.N S.t c h;refine⟨a1,?_⟩;rcases a2 with⟨c',g⟩ | ⟨N2,t2,g1,g2⟩
 ·refine .inl ⟨c',?_⟩;unfold Dv.clear Dv.clearX;show(({S.armed c kp with N:=(Dv.clearGo (o0 (C3 S.t S.T) S.op S.t.b) (arm S.N c kp) S.t).1,t:=(Dv.clearGo (o0 (C3 S.t S.T) S.op S.t.b) (arm S.N c kp) S.t).2.1}:Dv),(Dv.clearGo (o0 (C3 S.t S.T) S.op S.t.b) (arm S.N c kp) S.t).2.2)=_;rw[g];rfl
 ·refine .inr ⟨N2,t2,?_,g2⟩;unfold Dv.clear Dv.clearX;show(({S.armed c kp with N:=(Dv.clearGo (o0 (C3 S.t S.T) S.op S.t.b) (arm S.N c kp) S.t).1,t:=(Dv.clearGo (o0 (C3 S.t S.T) S.op S.t.b) (arm S.N c kp) S.t).2.1}:Dv),(Dv.clearGo (o0 (C3 S.t S.T) S.op S.t.b) (arm S.N c kp) S.t).2.2)=_;rw[g1];rfl
theorem Qt.clearGo:∀(l:List Int) (N:Nand) (t:Tl),Qt N->Qt (Dv.clearGo l N t).1
 | [],_,_,h=>h
 | b::l,N,t,h=>by
  have hq:∀(q:List Nat) (mk:Int) (x:Nand×Tl×Int),Qt x.1->Qt (q.foldl (Dv.eraseD b mk) x).1:=λq mk=>by
   induction q with
   | nil=>intro x h;exact h
   | cons d q ih=>
    intro x h;rw[A6];apply ih;unfold Dv.eraseD;split
    ·exact h
    split
    ·exact h
    ·exact h.erase _ _
  have h1:Qt (Dv.erase N t b).1:=by
   unfold Dv.erase;dsimp only;split
   ·exact hq _ _ _ h
   ·exact hq _ _ _ h
  rw[Dv.clearGo];split
  ·exact h1
  ·exact clearGo l _ _ h1
end Go.Proofs.YtmafiplddapokaaGreat
