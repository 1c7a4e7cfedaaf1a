/- Helpers. No condition. -/
import Derived.Test.YtpakpgkdpofbhaaGreatB00
import Derived.Test.YtpakpgkdpofbhaaGreatB04
import Derived.Test.YtpakpgkdpofbhaaGreatB14
import Derived.Test.YtpakpgkdpofbhaaGreatB16
import Derived.Test.YtpakpgkdpofbhaaGreatB17
import Derived.Test.YtpakpgkdpofbhaaGreatB20
import Derived.Test.YtpakpgkdpofbhaaGreatB21
import Derived.Test.YtpakpgkdpofbhaaGreatB22
import Derived.Test.YtpakpgkdpofbhaaGreatB23
set_option maxRecDepth 20000
set_option linter.all false
namespace Go.Proofs.YtpakpgkdpofbhaaGreat
open Go
theorem b9M {N N':Nand} (hl:N.Like N') (ho:N'.off=N.off) (hd:N'.dead=N.dead) {d b r:Int} (hp:0<=d->N'.pageAt d b r=N.pageAt d b r):M.look N' d b r=M.look N d b r:=by
 have hr:N'.refuses d b r=N.refuses d b r:=by unfold Nand.refuses;rw[hl.dies,hl.blocks,hl.pages,ho,hd]
 have e1:N'.readE d b r=N.readE d b r:=by
  unfold Nand.readE;rw[hr]
  by_cases h0:N.refuses d b r=0
  ·rw[i7 (by omega),i7 (by omega),hp (Nand.refuses_zero h0).2.2.1]
  ·rw[i9 h0,i9 h0]
 have e2:N'.readV d b r=N.readV d b r:=by
  unfold Nand.readV;rw[hr]
  by_cases h0:N.refuses d b r=0
  ·rw[i7 (by omega),i7 (by omega),hp (Nand.refuses_zero h0).2.2.1]
  ·rw[i9 h0,i9 h0]
 unfold M.look;rw[e1,e2]
theorem b9l {N N':Nand} (hl:N.Like N') (ho:N'.off=N.off) (hd:N'.dead=N.dead) {b r:Int} (hp:∀d:Int,0<=d->N'.pageAt d b r=N.pageAt d b r) (s m:Int):R.read N' b r s m=R.read N b r s m:=by
 have h1:∀d,R.one N' b r m d=R.one N b r m d:=λd=>by unfold R.one;rw[b9M hl ho hd (hp d)]
 have h2:∀k,R.ones N' b r m k=R.ones N b r m k:=λk=>by unfold R.ones;exact a0s λi _=>h1 _
 have h3:R.look N' b r m=R.look N b r m:=by unfold R.look;rw[h2,h1]
 unfold R.read;rw[h3,hl.dies,hl.blocks,hl.pages,ho]
theorem a9h {m:Int} {κ:Nat} (h:∀e:Nat,L.has m (e:Nat)=true->e=κ):G.slots m=0:=by
 have hc:L.count m<2:=by
  rw[L.count_has];have hnd:((List.range 8).filter λd=>L.has m (d:Nat)).Nodup:=List.nodup_range.filter _;have hm:∀x∈(List.range 8).filter (λd=>L.has m (d:Nat)),x=κ:=λx hx=>h x (List.mem_filter.1 hx).2
  revert hnd hm
  generalize(List.range 8).filter (λd=>L.has m (d:Nat))=l;intro hnd hm
  match l,hnd,hm with
  | [],_,_=>decide
  | [_],_,_=>simp
  | x::y::l,hnd,hm=>
   have h1:=hm x (by simp);have h2:=hm y (by simp);simp[h1,h2]at hnd
 unfold G.slots;rw[i9 hc]
structure Bs (κ:Nat) (N:Nand):Prop where
 lit:N.Lit
 six:(3<=N.dies/\N.dies<=6)/\2<=N.pages
 kd:κ<N.dies
 ka:N.dead.getD κ false=false
 kx:∀i:Nat,i<N.dies->i≠κ->N.dead.getD i false=true
 plan:N.plan=[]
 flags:∀i j:Nat,(N.blk i j).met=false/\(N.blk i j).fails=false
structure Wk (κ:Nat) (N N':Nand) (b:Int):Prop where
 bs:Bs κ N'
 like:N.Like N'
 dead:N'.dead=N.dead
 broken:N'.broken=N.broken
 rest:∀i j:Nat,¬(i=κ/\j=b.toNat)->N'.blk i j=N.blk i j
structure Tk (κ:Nat) (t t':Tl):Prop where
 b:t'.b=t.b
 d:t'.d=t.d
 p:t'.p=t.p
 len:t'.l.length=t.l.length
 at_:∀x,t.has x=true->(t'.at_ x).bad=(t.at_ x).bad/\(t'.at_ x).used=(t.at_ x).used
 mono:∀e:Int,L.has t.dead e=true->L.has t'.dead e=true
 set:L.set t.dead=true->L.set t'.dead=true
 kn:L.has t.dead κ=false->L.has t'.dead κ=false
theorem Tk.refl (κ:Nat) (t:Tl):Tk κ t t:=⟨rfl,rfl,rfl,rfl,λ_ _=>⟨rfl,rfl⟩,λ_ h=>h,λh=>h,λh=>h⟩
theorem Tk.has {κ:Nat} {t t':Tl} (h:Tk κ t t') (x:Int):t'.has x=t.has x:=by unfold Tl.has;rw[h.b]
theorem Tk.trans {κ:Nat} {t u v:Tl} (h:Tk κ t u) (g:Tk κ u v):Tk κ t v:=
 ⟨g.b.trans h.b,g.d.trans h.d,g.p.trans h.p,g.len.trans h.len,λx hx=>⟨(g.at_ x (by rw[h.has];exact hx)).1.trans (h.at_ x hx).1,(g.at_ x (by rw[h.has];exact hx)).2.trans (h.at_ x hx).2⟩,λe he=>g.mono e (h.mono e he),λhs=>g.set (h.set hs),λhk=>g.kn (h.kn hk)⟩
theorem Tk.fit {κ:Nat} {t t':Tl} {N:Nand} (h:Tk κ t t') (hF:t.Fit N):t'.Fit N:=⟨h.d.trans hF.d,h.b.trans hF.b,h.p.trans hF.p,by rw[h.len,h.b];exact hF.len⟩
theorem Tk.set1 {κ:Nat} {t:Tl} (hl:t.l.length=t.b) (k:Int) (s:Sb) (hs:t.has k=true->s.bad=(t.at_ k).bad/\s.used=(t.at_ k).used):Tk κ t (t.set k s):=by
 refine⟨Tl.set_b _ _ _,Tl.set_d _ _ _,Tl.set_p _ _ _,Tl.set_len _ _ _,λx hx=>?_,λe he=>by rw[Tl.set_dead];exact he,λh=>by rw[Tl.set_dead];exact h,λh=>by rw[Tl.set_dead];exact h⟩;cases hk:t.has k with
 | false=>rw[Tl.set_no _ hk];exact⟨rfl,rfl⟩
 | true=>
  rw[Tl.at_set hl _ hk hx];split
  ·rename_i e;rw[e];exact hs hk
  ·exact⟨rfl,rfl⟩
theorem Tk.die {κ:Nat} {t:Tl} {e:Nat} (he:e<8) (hne:e≠κ) (hs:L.set t.dead=true):Tk κ t (t.die e)/\(e<t.d->L.has (t.die e).dead e=true):=by
 unfold Tl.die;cases hh:t.hasDie e with
 | false=>
  rw[i7 (by decide)];refine⟨Tk.refl κ t,λh=>?_⟩;simp[Tl.hasDie]at hh;omega
 | true=>
  rw[i9 rfl];refine⟨⟨rfl,rfl,rfl,rfl,λ_ _=>⟨rfl,rfl⟩,λx hx=>?_,λ_=>L.set_with hs (by omega),λhk=>?_⟩,λ_=>?_⟩
  ·show L.has (L.with_ t.dead e) x=true;rw[L.with_has hs (by omega),hx];rfl
  ·show L.has (L.with_ t.dead e) κ=false;rw[L.with_has hs (by omega),hk,y8 (by omega)];rfl
  ·show L.has (L.with_ t.dead e) e=true;rw[L.with_has hs (by omega),l8 rfl,Bool.or_true]
theorem Tk.wores {κ:Nat} (N:Nand) (b:Int):∀(q:List Nat) (t:Tl),t.l.length=t.b->Tk κ t (q.foldl (λt (d:Nat)=>t.wore b (N.wornAt d b)) t)
 | [],t,_=>Tk.refl κ t
 | d::q,t,hl=>by
  have h1:Tk κ t (t.wore b (N.wornAt d b)):=Tk.set1 hl b _ λ_=>⟨rfl,rfl⟩;rw[y5];exact h1.trans (Tk.wores N b q _ (by rw[h1.len,h1.b];exact hl))
namespace Bs
variable {κ : Nat} {N : Nand}
theorem refuses (h:Bs κ N) {d:Nat} {b r:Int} (hd:d<N.dies) (hb:0<=b/\b<N.blocks) (hr:0<=r/\r<N.pages):N.refuses d b r=if d=κ then 0 else 8:=by
 have e:=h.lit.refuses (x:=(d:Int)) (y:=b) (z:=r) (by omega) hb hr;rw[l9]at e;rw[e]
 by_cases hk:d=κ
 ·rw[i9 hk,hk,h.ka];rfl
 ·rw[i7 hk,h.kx d hd hk];rfl
theorem wk (h:Bs κ N) (b:Int):Wk κ N N b:=⟨h,Nand.Like.refl N,rfl,rfl,λ_ _ _=>rfl⟩
theorem erase_dead (h:Bs κ N) {d:Nat} {b:Int} (hd:d<N.dies) (hne:d≠κ) (hb:0<=b/\b<N.blocks):N.eraseE d b=8/\N.eraseN d b=N:=by
 have hr:=h.refuses hd hb (r:=0) (by have:=h.six;omega);rw[i7 hne]at hr;exact⟨by unfold Nand.eraseE;rw[hr];rfl,by unfold Nand.eraseN;dsimp only;rw[i9 (by rw[hr];decide)]⟩
theorem erase_kap (h:Bs κ N) {b:Int} (hb:0<=b/\b<N.blocks):N.eraseE κ b=0/\Wk κ N (N.eraseN κ b) b/\((N.eraseN κ b).blk κ b.toNat).cells=[]:=by
 have hr:=h.refuses h.kd hb (r:=0) (by have:=h.six;omega);rw[i9 rfl]at hr;have hf:=h.flags κ b.toNat
 have e1:N.eraseE κ b=0:=by unfold Nand.eraseE;rw[hr,h.lit.cutB,l9,hf.2];rfl
 have e2:N.eraseN κ b={N.cutN.setBlk κ b.toNat {N.blk κ b.toNat with cells:=[],worn:=(N.blk κ b.toNat).worn+1}with plan:=N.plan.filter λa=>!(decide (a.1=(κ:Int))&&decide (a.2.1=b))}:=by
  unfold Nand.eraseN;dsimp only;rw[i7 (by rw[hr];decide),i7 (by rw[h.lit.cutB];decide),l9,i7 (by rw[hf.2];decide)]
 have hbk:∀i j,(N.eraseN κ b).blk i j=if i=κ/\j=b.toNat then {N.blk κ b.toNat with cells:=[],worn:=(N.blk κ b.toNat).worn+1}else N.blk i j:=λi j=>by rw[e2];rfl
 have hl:N.Like (N.eraseN κ b):=Nand.like_erase _ _ _;have hdd:(N.eraseN κ b).dead=N.dead:=by rw[e2];rfl
 refine⟨e1,⟨⟨h.lit.erase _ _,by rw[hl.dies,hl.pages];exact h.six,by rw[hl.dies];exact h.kd,by rw[hdd];exact h.ka,λi hi hne=>by rw[hdd];exact h.kx i (by rw[<- hl.dies];exact hi) hne,by rw[e2];show N.plan.filter _=[];rw[h.plan];rfl,λi j=>?_⟩,hl,hdd,by rw[e2];rfl,λi j hij=>by rw[hbk,i7 hij]⟩,by rw[hbk,i9 ⟨rfl,rfl⟩]⟩;rw[hbk];split
 ·exact h.flags κ b.toNat
 ·exact h.flags i j
end Bs
theorem Wk.trans {κ:Nat} {A B C:Nand} {b:Int} (h:Wk κ A B b) (g:Wk κ B C b):Wk κ A C b:=
 ⟨g.bs,h.like.trans g.like,g.dead.trans h.dead,g.broken.trans h.broken,λi j hij=>(g.rest i j hij).trans (h.rest i j hij)⟩
theorem a9T {κ:Nat} {b mk:Int}:∀(q:List Nat) (N:Nand) (t:Tl),Bs κ N->0<=b/\b<N.blocks->t.d=N.dies->L.set t.dead=true->(∀d∈q,d<N.dies)->∃N' t',q.foldl (Dv.eraseD b mk) (N,t,0)=(N',t',0)/\Wk κ N N' b/\Tk κ t t'/\(∀d∈q,d≠κ->L.has mk (d:Nat)=true->L.has t'.dead (d:Nat)=true)
 | [],N,t,h,_,_,_,_=>⟨N,t,rfl,h.wk b,Tk.refl κ t,λd hd=>(by cases hd)⟩
 | d::q,N,t,h,hb,htd,hs,hq=>by
  have hd:=hq d (by simp);obtain⟨N1,t1,f1,w1,k1,c1⟩:∃N1 t1,Dv.eraseD b mk (N,t,0) d=(N1,t1,0)/\Wk κ N N1 b/\Tk κ t t1/\(d≠κ->L.has mk (d:Nat)=true->L.has t1.dead (d:Nat)=true):=by
   unfold Dv.eraseD;rw[i7 (by simp)];cases hh:L.has mk (d:Nat)with
   | false=>rw[i9 rfl];exact⟨N,t,rfl,h.wk b,Tk.refl κ t,λ_ e=>by cases e⟩
   | true=>
    rw[i7 (by decide)];dsimp only
    by_cases hk:d=κ
    ·obtain⟨x1,x2,x3⟩:=h.erase_kap hb;rw[hk,x1];exact⟨_,t,rfl,x2,Tk.refl κ t,λe=>absurd rfl e⟩
    ·obtain⟨x1,x2⟩:=h.erase_dead hd hk hb;have h6:=h.six;obtain⟨y1,y2⟩:=Tk.die (κ:=κ) (t:=t) (e:=d) (by omega) hk hs;rw[x1,x2];exact⟨N,t.die d,rfl,h.wk b,y1,λ_ _=>y2 (by rw[htd];exact hd)⟩
  obtain⟨N2,t2,f2,w2,k2,c2⟩:=a9T q N1 t1 w1.bs (by rw[w1.like.blocks];exact hb) (by rw[k1.d,htd,w1.like.dies]) (k1.set hs) (λe he=>by rw[w1.like.dies];exact hq e (by simp[he]));refine⟨N2,t2,by rw[y5,f1];exact f2,w1.trans w2,k1.trans k2,λe he hne hm=>?_⟩;rcases List.mem_cons.1 he with rfl | he
  ·exact k2.mono _ (c1 hne hm)
  ·exact c2 e he hne hm
theorem a4T {t:Tl} (hl:t.l.length=t.b) {x:Int} (h0:0<=x) (h:(t.at_ x).used=true):t.has x=true:=by
 by_cases hx:x.toNat<t.l.length
 ·exact Tl.has_iff.2 (by omega)
 ·unfold Tl.at_ at h;rw[d7,n4 (by omega)]at h;cases h
structure Al (κ:Nat) (N0:Nand) (T0:Tb) (S:Dv):Prop where
 bs:Bs κ S.N
 like:N0.Like S.N
 deq:S.N.dead=N0.dead
 br:S.N.broken=N0.broken
 T:S.T=T0
 tok:T0.Ok
 fit:S.t.Fit S.N
 st:∀i a,Tb.look T0.at_ i=some a->(S.t.at_ a.block).used=true/\(0<=a.block/\0<=a.row)/\a.row<((S.N.blk κ a.block.toNat).cells.length:Int)/\∀d:Int,0<=d->S.N.pageAt d a.block a.row=N0.pageAt d a.block a.row
 blank:∀b,S.t.has b=true->(S.t.at_ b).used=false->(S.N.blk κ b.toNat).cells=[]
 bad:∀b,S.t.has b=true->(S.t.at_ b).bad=0
 tset:L.set S.t.dead=true
 tk:L.has S.t.dead κ=false
 nx:0<=S.next
 big:S.N.blocks<=16/\S.N.pages<=8
 op:S.left=true->(0<=S.op/\S.op<S.N.blocks)/\(S.t.at_ S.op).used=true/\0<=S.row/\S.mask=L.all S.N.dies/\((S.N.blk κ S.op.toNat).cells.length:Int)=S.row
def Kn (κ:Nat) (S:Dv):Prop:=∀d:Nat,d<S.N.dies->d≠κ->L.has S.t.dead (d:Nat)=true
def Ph (κ:Nat) (S:Dv):Prop:=S.t.dead=0\/Kn κ S
namespace Al
variable {κ : Nat} {N0 : Nand} {T0 : Tb} {S : Dv} {l : List En}
theorem mask_is (h:Al κ N0 T0 S) {b:Int} (hb:S.t.has b=true):L.set (S.t.mask b)=true/\∀e:Int,L.has (S.t.mask b) e=((decide (0<=e)&&decide (e<S.N.dies))&& !L.has S.t.dead e):=by
 have h6:=h.bs.six;have hd:=h.fit.d;obtain⟨m1,m2⟩:=T5 (t:=S.t) (b:=b) (by omega) hb h.tset (by rw[h.bad b hb];rfl);refine⟨m1,λe=>?_⟩;rw[m2,h.bad b hb,L.has_zero,hd,a5N,Bool.and_true]
theorem mask_all (h:Al κ N0 T0 S) (h0:S.t.dead=0) {b:Int} (hb:S.t.has b=true):S.t.mask b=L.all S.N.dies:=by
 obtain⟨m1,m2⟩:=h.mask_is hb;have h6:=h.bs.six;refine L.ext m1 (L.set_all _ (by omega)) λd _=>?_;rw[m2,h0,L.has_zero,L.all_has _ (by omega),a5N,Bool.and_true]
theorem no_slots (h:Al κ N0 T0 S) (hk:Kn κ S) {b:Int} (hb:S.t.has b=true):G.slots (S.t.mask b)=0:=by
 refine a9h (κ:=κ) λe he=>?_;rw[(h.mask_is hb).2]at he;simp only[j5,g7,j7]at he
 by_cases hne:e=κ
 ·exact hne
 ·have:=hk e (by omega) hne;rw[he.2]at this;cases this
theorem no_use (h:Al κ N0 T0 S) (hk:Kn κ S) {b:Int} (hb:S.t.has b=true):S.t.usable b=false:=by
 unfold Tl.usable;rw[h.no_slots hk hb];rfl
theorem no_pick (h:Al κ N0 T0 S) (hk:Kn κ S):S.pick<0:=by
 rcases S.pick_spec with e | ⟨h1,h2,_,h4⟩
 ·omega
 ·have:=h.no_use hk (b:=S.pick) (Tl.has_iff.2 ⟨h1,h2⟩);simp[S9,this]at h4
theorem alter (h:Al κ N0 T0 S) {V:Dv} (hN:V.N=S.N) (hT:V.T=S.T) (hx:V.next=S.next) (k:Tk κ S.t V.t) (hop:V.left=true->(0<=V.op/\V.op<V.N.blocks)/\(V.t.at_ V.op).used=true/\0<=V.row/\V.mask=L.all V.N.dies/\((V.N.blk κ V.op.toNat).cells.length:Int)=V.row):Al κ N0 T0 V:=by
 refine⟨by rw[hN];exact h.bs,by rw[hN];exact h.like,by rw[hN];exact h.deq,by rw[hN];exact h.br,hT.trans h.T,h.tok,by rw[hN];exact k.fit h.fit,λi a ha=>?_,λx hx hux=>?_,λx hx=>?_,k.set h.tset,k.kn h.tk,by rw[hx];exact h.nx,by rw[hN];exact h.big,hop⟩
 ·obtain⟨s1,s2,s3,s4⟩:=h.st i a ha;rw[hN];exact⟨by rw[(k.at_ _ (a4T h.fit.len s2.1 s1)).2];exact s1,s2,s3,s4⟩
 ·have hx':S.t.has x=true:=by rw[<- k.has];exact hx
  rw[hN];exact h.blank x hx' (by rw[<- (k.at_ x hx').2];exact hux)
 ·have hx':S.t.has x=true:=by rw[<- k.has];exact hx
  rw[(k.at_ x hx').1];exact h.bad x hx'
theorem erased (h:Al κ N0 T0 S) {b:Int} (hb:S.t.has b=true) (hne:b≠S.op) (hemp:∀i a,Tb.look T0.at_ i=some a->a.block≠b) (hu:(S.t.at_ b).used=true) {N':Nand} {t':Tl} (w:Wk κ S.N N' b) (k:Tk κ S.t t'):Al κ N0 T0 {S with N:=N',t:=t'}:=by
 have hb0:=Tl.has_iff.1 hb;refine⟨w.bs,h.like.trans w.like,w.dead.trans h.deq,w.broken.trans h.br,h.T,h.tok,(k.fit h.fit).like w.like,λi a ha=>?_,λx hx hux=>?_,λx hx=>?_,k.set h.tset,k.kn h.tk,h.nx,by show N'.blocks<=16/\N'.pages<=8;rw[w.like.blocks,w.like.pages];exact h.big,λhl=>?_⟩
 ·obtain⟨s1,s2,s3,s4⟩:=h.st i a ha;have hne2:=hemp i a ha;have hblk:∀i:Nat,N'.blk i a.block.toNat=S.N.blk i a.block.toNat:=λi=>w.rest i _ (by omega);refine⟨?_,s2,?_,λd hd=>?_⟩
  ·show(t'.at_ a.block).used=true;rw[(k.at_ _ (a4T h.fit.len s2.1 s1)).2];exact s1
  ·show a.row<((N'.blk κ a.block.toNat).cells.length:Int);rw[hblk];exact s3
  ·show N'.pageAt d a.block a.row=_;rw[<- s4 d hd];unfold Nand.pageAt;rw[hblk]
 ·have hx':S.t.has x=true:=by rw[<- k.has];exact hx
  have hux:(S.t.at_ x).used=false:=by rw[<- (k.at_ x hx').2];exact hux
  have hxb:x≠b:=λe=>by rw[e,hu]at hux;cases hux
  have hx0:=Tl.has_iff.1 hx';show(N'.blk κ x.toNat).cells=[];rw[w.rest κ x.toNat (by omega)];exact h.blank x hx' hux
 ·have hx':S.t.has x=true:=by rw[<- k.has];exact hx
  show(t'.at_ x).bad=0;rw[(k.at_ x hx').1];exact h.bad x hx'
 ·have hl':S.left=true:=by
   rw[<- hl];unfold Dv.left;dsimp only;rw[w.like.pages]
  obtain⟨o1,o2,o3,o4,o5⟩:=h.op hl';refine⟨by show 0<=S.op/\S.op<N'.blocks;rw[w.like.blocks];exact o1,?_,o3,by show S.mask=L.all N'.dies;rw[w.like.dies];exact o4,?_⟩
  ·show(t'.at_ S.op).used=true;rw[(k.at_ _ (a4T h.fit.len o1.1 o2)).2];exact o2
  ·show((N'.blk κ S.op.toNat).cells.length:Int)=S.row;rw[w.rest κ S.op.toNat (by omega)];exact o5
theorem erase (h:Al κ N0 T0 S) (hp:Ph κ S) {b:Int} (hb:S.t.has b=true) (hne:b≠S.op) (hemp:∀i a,Tb.look T0.at_ i=some a->a.block≠b) (hu:(S.t.at_ b).used=true):∃N' t',Dv.erase S.N S.t b=(N',t',0)/\Al κ N0 T0 {S with N:=N',t:=t'}/\Kn κ {S with N:=N',t:=t'}/\Tk κ S.t t':=by
 have hb0:=Tl.has_iff.1 hb;have h6:=h.bs.six;obtain⟨N1,t1,f1,w1,k1,c1⟩:=a9T (κ:=κ) (b:=b) (mk:=S.t.mask b) (List.range S.N.dies) S.N S.t h.bs (by have:=h.fit.b;omega) h.fit.d h.tset (λd hd=>List.mem_range.1 hd);have hkn:∀d:Nat,d<S.N.dies->d≠κ->L.has t1.dead (d:Nat)=true:=λd hd hdk=>by
  rcases hp with e | e
  ·refine c1 d (List.mem_range.2 hd) hdk ?_;rw[h.mask_all e hb,L.all_has _ (by omega)];simp;omega
  ·exact k1.mono _ (e d hd hdk)
 have k2:Tk κ t1 (Dv.wores N1 t1 b):=Tk.wores N1 b (List.range N1.dies) t1 (by rw[k1.len,k1.b];exact h.fit.len);have a1:=h.erased hb hne hemp hu w1 (k1.trans k2);have hk1:Kn κ {S with N:=N1,t:=Dv.wores N1 t1 b}:=λd hd hdk=>k2.mono _ (hkn d (by rw[<- w1.like.dies];exact hd) hdk);have hus:(Dv.wores N1 t1 b).usable b=false:=a1.no_use hk1 (b:=b) (by show(Dv.wores N1 t1 b).has b=true;rw[(k1.trans k2).has];exact hb);refine⟨N1,Dv.wores N1 t1 b,?_,a1,hk1,k1.trans k2⟩;unfold Dv.erase Dv.eraseB;rw[f1];dsimp only;rw[i7 (by simp)];unfold Dv.eraseT;rw[hus];rfl
theorem clearGo:∀(l:List Int) (S:Dv),Al κ N0 T0 S->Ph κ S->(∀b∈l,S.t.has b=true/\b≠S.op/\(∀i a,Tb.look T0.at_ i=some a->a.block≠b)/\(S.t.at_ b).used=true)->∃N' t',Dv.clearGo l S.N S.t=(N',t',0)/\Al κ N0 T0 {S with N:=N',t:=t'}/\Ph κ {S with N:=N',t:=t'}
 | [],S,h,hp,_=>⟨S.N,S.t,rfl,h,hp⟩
 | b::l,S,h,hp,hl=>by
  obtain⟨b1,b2,b3,b4⟩:=hl b (by simp);obtain⟨N1,t1,f1,a1,k1,e1⟩:=h.erase hp b1 b2 b3 b4;obtain⟨N2,t2,f2,a2,k2⟩:=clearGo l {S with N:=N1,t:=t1} a1 (.inr k1) (λx hx=>by
   obtain⟨x1,x2,x3,x4⟩:=hl x (by simp[hx]);exact⟨by show t1.has x=true;rw[e1.has];exact x1,x2,x3,by show(t1.at_ x).used=true;rw[(e1.at_ x x1).2];exact x4⟩)
  refine⟨N2,t2,?_,a2,k2⟩;rw[Dv.clearGo,f1];dsimp only;rw[i7 (by simp)];exact f2
theorem clear(h:Al κ N0 T0 S) (hp:Ph κ S):∃V,S.clear=(V,0)/\Al κ N0 T0 V/\Ph κ V:=by
 obtain⟨N',t',f,a,p⟩:=clearGo (A5 (D1 S.t S.T) S.op S.t.b) S h hp (λb hb=>by
  obtain⟨h1,h2,h3,h4⟩:=mem_pkSome.1 hb;have hhas:S.t.has b=true:=Tl.has_iff.2 ⟨h1,h2⟩;simp only[D1,j5,j7,A8]at h4;obtain⟨⟨⟨_,hbl⟩,_⟩,hc⟩:=h4;refine⟨hhas,h3,λi a ha e=>?_,?_⟩
  ·rw[h.T,h.tok.cnt]at hc;have hc:Tb.cntB T0.at_ b=0:=by omega
   unfold Tb.cntB at hc;rw[a1S]at hc;exact hc _ (Tb.look_mem ha) (by simp[e])
  ·unfold Tl.blank at hbl;rw[hhas,x7]at hbl;simpa using hbl)
 refine⟨{S with N:=N',t:=t'},?_,a,p⟩;unfold Dv.clear Dv.clearX;rw[f]
end Al
namespace Al
variable {κ : Nat} {N0 : Nand} {T0 : Tb} {S : Dv} {l : List En}
theorem rowIs (h:Al κ N0 T0 S) (hl:S.left=true) (hf:∀e∈l,FitR e) (hn:¬S.next>1099511627775-(S.fit l:Int)+1):RowIs S.N S.op S.row S.mask (S.es l):=by
 obtain⟨o1,o2,o3,o4,o5⟩:=h.op hl;have hs:=Dv.left_spec hl;have h6:=h.bs.six;have hg:=h.big;have hx:=h.nx;obtain⟨m1,m2,m3⟩:=a2K S.N.dies (by omega) (by omega);obtain⟨kk,hk1,hk2⟩:=L.set_has (L.set_all S.N.dies (by omega));rw[<- o4]at m1 m2 m3 hk1;refine⟨h6.1.2,o1,⟨o3,hs.2.1⟩,⟨by omega,m3⟩,Dv.num_data (λe he=>(hf e he).len) _ _,?_⟩;unfold W.parB;have h1:decide (((S.es l).length:Int)=G.slots S.mask)=true:=by rw[Dv.es_len];exact l8 (by omega)
 have h2:(!(S.es l).isEmpty)=true:=by
  cases he:S.es l with
  | nil=>have:=Dv.es_len S l;rw[he]at this;simp at this;omega
  | cons x y=>rfl
 rw[h1,h2,x7,x7,H4];intro e he;rcases b0E he with⟨i,hi,hin,rfl⟩ | rfl
 ·have hfe:=hf _ (a0p hi);refine b3X ⟨o1.1,by omega⟩ ⟨o3,by omega⟩ (by omega) ⟨?_,?_⟩ (.inl ⟨hfe.lpn,hfe.role,hfe.len⟩)
  ·show 0<=S.next+(i:Int);omega
  ·show S.next+(i:Int)<=1099511627775;have:i<S.fit l:=by unfold Dv.fit;omega
   omega
 ·exact b3X ⟨o1.1,by omega⟩ ⟨o3,by omega⟩ (by omega) ⟨by decide,by decide⟩ (.inr rfl)
theorem failB (h:Al κ N0 T0 S) {d:Nat} (hd:d<S.N.dies) (b r:Int):S.N.failB b r d= !decide (d=κ):=by
 unfold Nand.failB Nand.fails;rw[l9,h.bs.plan,(h.bs.flags d b.toNat).1]
 by_cases hk:d=κ
 ·rw[hk,h.bs.ka];simp
 ·rw[h.bs.kx d hd hk,y8 hk];rfl
theorem turn (h:Al κ N0 T0 S) (hl:S.left=true) (hf:∀e∈l,FitR e) (hn:¬S.next>1099511627775-(S.fit l:Int)+1):
  (S.wr l).2.2=7/\Al κ N0 T0 (S.wrote l)/\L.set (S.wr l).2.1=true/\(∀e:Nat,L.has (S.wr l).2.1 (e:Nat)=true->e<S.N.dies/\e≠κ)/\(∀e:Nat,e<S.N.dies->e≠κ->L.has (S.wr l).2.1 (e:Nat)=true)/\S.N.Like (S.wrote l).N:=by
 obtain⟨o1,o2,o3,o4,o5⟩:=h.op hl;have hs:=Dv.left_spec hl;have h6:=h.bs.six;have hR:=h.rowIs hl hf hn;have hmk:∀d:Nat,L.has S.mask (d:Nat)=decide (d<S.N.dies):=λd=>by
  rw[o4,L.all_has _ (by omega),l8 (by omega:(0:Int)<=(d:Int)),x7,a1J];omega
 have hrdy:RdyW S.N S.op S.row S.mask:=⟨h.bs.lit,λd hd ha=>by
  rw[hmk,g7]at hd
  by_cases hk:d=κ
  ·rw[hk];exact o5
  ·rw[h.bs.kx d hd hk]at ha;cases ha⟩
 have hq:=hrdy.rdy hR;obtain⟨w1,w2,w3⟩:=a7b hrdy hR;have hin:=hR.inn;have hq8:∀x∈R.job S.op S.row S.mask (S.es l),0<=x.1/\x.1<8:=λx hx=>by have:=hin x hx;omega
 obtain⟨f1,f2⟩:=a4j (N:=S.N) (b:=S.op) (r:=S.row) _ 0 (by decide) hq8;have w3:WroteR S.N (S.wrote l).N S.op S.row (R.job S.op S.row S.mask (S.es l)):=w3;have w1:(S.wr l).2.1=Z6 S.N S.op S.row (R.job S.op S.row S.mask (S.es l)) 0:=w1;have w2:(S.wr l).2.2=if Z6 S.N S.op S.row (R.job S.op S.row S.mask (S.es l)) 0=0 then 0 else 7:=w2
 have U5:L.set (S.wr l).2.1=true:=by rw[w1];exact f1
 have hone:∀e:Nat,L.has (S.wr l).2.1 (e:Nat)=true->e<S.N.dies/\e≠κ:=λe he=>by
  rw[w1,f2,L.has_zero,D4,Y0]at he;obtain⟨x,hx,hh⟩:=he;simp only[j5,g7]at hh;have hxi:=hin x hx;have hlt:e<S.N.dies:=by omega
  rw[hh.1,h.failB hlt]at hh;exact⟨hlt,λhk=>by rw[l8 hk]at hh;cases hh.2⟩
 have hall:∀e:Nat,e<S.N.dies->e≠κ->L.has (S.wr l).2.1 (e:Nat)=true:=λe he hk=>by
  rw[w1,f2,L.has_zero,D4,Y0];obtain⟨x,hx,hxd⟩:=hR.on (d:=e) (by rw[hmk];exact l8 he);exact⟨x,hx,by rw[hxd,h.failB he,l8 rfl,y8 hk];rfl⟩
 have hne:(S.wr l).2.1≠0:=λe=>by
  have hx:∃e:Nat,e<S.N.dies/\e≠κ:=by
   by_cases hk:κ=0
   ·exact⟨1,by omega,by omega⟩
   ·exact⟨0,by omega,by omega⟩
  obtain⟨i,i1,i2⟩:=hx;have:=hall i i1 i2;rw[e,L.has_zero]at this;cases this
 have hlk:=w3.like;have hdd:=w3.dead;have hκ:∀j:Nat,((S.N.blk κ j).cells.length)<=((S.wrote l).N.blk κ j).cells.length:=λj=>by
  by_cases hj:j=S.op.toNat
  ·obtain⟨x,hx,hxd⟩:=hR.on (d:=κ) (by rw[hmk];exact l8 h.bs.kd);have hc:=w3.cells x hx;rw[hxd,l9,h.bs.ka,i7 (by decide)]at hc;rw[hj,hc,j6];omega
  ·rw[w3.rest κ j (.inl hj)];exact m9 _
 refine⟨by rw[w2,i7 (by rw[<- w1];exact hne)],⟨⟨w3.lit,by rw[hlk.dies,hlk.pages];exact h6,by rw[hlk.dies];exact h.bs.kd,by rw[hdd];exact h.bs.ka,λi hi hk=>by rw[hdd];exact h.bs.kx i (by rw[<- hlk.dies];exact hi) hk,?_,λi j=>?_⟩,h.like.trans hlk,hdd.trans h.deq,w3.broken.trans h.br,h.T,h.tok,h.fit.like hlk,λi a ha=>?_,λx hx hux=>?_,h.bad,h.tset,h.tk,?_,by rw[hlk.blocks,hlk.pages];exact h.big,λhl2=>?_⟩,U5,hone,hall,hlk⟩
 ·cases hp:(S.wrote l).N.plan with
  | nil=>rfl
  | cons a q=>
   have:=w3.plan a (by rw[hp];simp);rw[h.bs.plan]at this;cases this
 ·have:=w3.flags i j;rw[this.1,this.2.1];exact h.bs.flags i j
 ·obtain⟨s1,s2,s3,s4⟩:=h.st i a ha;refine⟨s1,s2,?_,λd hd=>?_⟩
  ·have:=hκ a.block.toNat
   omega
  ·rw[<- s4 d hd];refine w3.page hq hd s2.1 s2.2 λe=>?_;rw[e]at s3;omega
 ·have hx0:=Tl.has_iff.1 hx;have hxo:x≠S.op:=λe=>by
   have:(S.t.at_ x).used=false:=hux;rw[e,o2]at this;cases this
  rw[w3.rest κ x.toNat (.inl (by omega))];exact h.blank x hx hux
 ·show 0<=S.next+(S.fit l:Int);have:=h.nx;omega
 ·refine⟨by rw[hlk.blocks];exact o1,o2,by show 0<=S.row+1;omega,by rw[hlk.dies];exact o4,?_⟩;show(((S.wrote l).N.blk κ S.op.toNat).cells.length:Int)=S.row+1;obtain⟨x,hx,hxd⟩:=hR.on (d:=κ) (by rw[hmk];exact l8 h.bs.kd);have hc:=w3.cells x hx;rw[hxd,l9,h.bs.ka,i7 (by decide)]at hc;rw[hc,j6];simp only[o0,a0V];omega
theorem loseQ {f:Int}:∀(q:List Nat) (S:Dv),(∀d∈q,d<8)->S.t.d=S.N.dies->(∀e:Nat,L.has f (e:Nat)=true->S.N.deadAt e=true/\e≠κ)->L.set S.mask=true->L.set S.t.dead=true->
  (q.foldl (Dv.lose f) S).N=S.N/\(q.foldl (Dv.lose f) S).T=S.T/\(q.foldl (Dv.lose f) S).next=S.next/\Tk κ S.t (q.foldl (Dv.lose f) S).t/\(∀d∈q,L.has f (d:Nat)=true->L.has (q.foldl (Dv.lose f) S).t.dead (d:Nat)=true)/\(∀e:Nat,L.has (q.foldl (Dv.lose f) S).mask (e:Nat)=true->L.has S.mask (e:Nat)=true/\(e∈q->L.has f (e:Nat)=false))
 | [],S,_,_,_,_,_=>⟨rfl,rfl,rfl,Tk.refl κ _,λd hd=>(by cases hd),λe he=>⟨he,λh=>(by cases h)⟩⟩
 | d::q,S,hq,htd,hf,hm,hs=>by
  have hd8:=hq d (by simp);obtain⟨Q,hQ⟩:∃Q,Dv.lose f S d=Q:=⟨_,rfl⟩;have hk:Q.N=S.N/\Q.T=S.T/\Q.next=S.next/\Tk κ S.t Q.t/\(L.has f (d:Nat)=true->L.has Q.t.dead (d:Nat)=true)/\L.set Q.mask=true/\(∀e:Nat,L.has Q.mask (e:Nat)=true->L.has S.mask (e:Nat)=true/\(e=d->L.has f (e:Nat)=false)):=by
   rw[<- hQ];unfold Dv.lose;cases hh:L.has f (d:Nat)with
   | false=>rw[i7 (by decide)];exact⟨rfl,rfl,rfl,Tk.refl κ _,λe=>(by cases e),hm,λe he=>⟨he,λe2=>by rw[e2];exact hh⟩⟩
   | true=>
    obtain⟨g1,g2⟩:=hf d hh;rw[i9 rfl,g1,i9 rfl];obtain⟨y1,y2⟩:=Tk.die (κ:=κ) (t:=S.t) (e:=d) hd8 g2 hs;have hlt:d<S.t.d:=by
     unfold Nand.deadAt at g1;simp only[j5,g7]at g1;omega
    refine⟨rfl,rfl,rfl,y1,λ_=>y2 hlt,L.set_without hm (by omega),λe he=>?_⟩;have he:L.has (L.without S.mask d) (e:Nat)=true:=he;rw[L.without_has hm (by omega)]at he;simp only[j5,j7,c9]at he;exact⟨he.1,λe2=>absurd (by rw[e2]) he.2⟩
  obtain⟨k1,k2,k3,k4,k5,k6,k7⟩:=hk;obtain⟨i1,i2,i3,i4,i5,i6⟩:=loseQ q Q (λx hx=>hq x (by simp[hx])) (by rw[k4.d,htd,k1]) (λe he=>by rw[k1];exact hf e he) k6 (k4.set hs);rw[y5,hQ];refine⟨i1.trans k1,i2.trans k2,i3.trans k3,k4.trans i4,λe he hfe=>?_,λe he=>?_⟩
  ·rcases List.mem_cons.1 he with rfl | he
   ·exact i4.mono _ (k5 hfe)
   ·exact i5 e he hfe
  ·obtain⟨j1,j2⟩:=i6 e he;obtain⟨j3,j4⟩:=k7 e j1;refine⟨j3,λhm=>?_⟩;rcases List.mem_cons.1 hm with e2 | hm
   ·exact j4 e2
   ·exact j2 hm
theorem loses (h:Al κ N0 T0 S) {f:Int} (h1:∀e:Nat,L.has f (e:Nat)=true->e<S.N.dies/\e≠κ) (h2:∀e:Nat,e<S.N.dies->e≠κ->L.has f (e:Nat)=true) (hm:S.mask=L.all S.N.dies):Al κ N0 T0 (S.loses f)/\Kn κ (S.loses f)/\(S.loses f).left=false:=by
 have h6:=h.bs.six;obtain⟨i1,i2,i3,i4,i5,i6⟩:=loseQ (κ:=κ) (f:=f) (List.range S.N.dies) S (λd hd=>by have:=List.mem_range.1 hd;omega) h.fit.d (λe he=>by
  obtain⟨e1,e2⟩:=h1 e he;refine⟨?_,e2⟩;unfold Nand.deadAt;rw[l8 (by omega:(0:Int)<=(e:Int)),l8 (by omega:(e:Int)<S.N.dies),l9,h.bs.kx e e1 e2];rfl) (by rw[hm];exact L.set_all _ (by omega)) h.tset
 have hsl:G.slots (S.loses f).mask=0:=a9h (κ:=κ) λe he=>by
  obtain⟨j1,j2⟩:=i6 e he;rw[hm,L.all_has _ (by omega)]at j1;simp only[j5,g7]at j1;have hlt:e<S.N.dies:=by omega
  by_cases hk:e=κ
  ·exact hk
  ·have:=j2 (List.mem_range.2 hlt);rw[h2 e hlt hk]at this;cases this
 have hleft:(S.loses f).left=false:=by unfold Dv.left;rw[hsl];simp
 have hN:(S.loses f).N=S.N:=i1;refine⟨h.alter i1 i2 i3 i4 λe=>(by rw[hleft]at e;cases e),λd hd hk=>?_,hleft⟩;rw[hN]at hd;exact i5 d (List.mem_range.2 hd) (h2 d hd hk)
theorem opened (h:Al κ N0 T0 S) (h0:S.t.dead=0) (hp:¬S.pick<0):Al κ N0 T0 S.opened/\S.opened.left=true/\S.opened.t.dead=0:=by
 have h6:=h.bs.six;have hbl:=Dv.pick_blank hp;have hhas:S.t.has S.pick=true:=by unfold Tl.blank at hbl;simp only[j5]at hbl;exact hbl.1
 have hun:(S.t.at_ S.pick).used=false:=by unfold Tl.blank at hbl;simp only[j5,j7]at hbl;exact hbl.2
 have hlen:=h.fit.len;have hat:∀x,S.t.has x=true->((S.t.clean S.pick false).at_ x).bad=(S.t.at_ x).bad/\((S.t.clean S.pick false).at_ x).used=if x=S.pick then true else(S.t.at_ x).used:=λx hx=>by
  unfold Tl.clean;rw[Tl.at_set hlen _ hhas hx];split
  ·rename_i e;rw[e];exact⟨rfl,rfl⟩
  ·exact⟨rfl,rfl⟩
 have hmask:(S.t.clean S.pick false).mask S.pick=L.all S.N.dies:=by rw[Dv.mask_clean hlen,h.mask_all h0 hhas]
 have hpk:=Tl.has_iff.1 hhas;have hb:=h.fit.b;obtain⟨m1,m2,m3⟩:=a2K S.N.dies (by omega) (by omega);have hdd:(S.t.clean S.pick false).dead=S.t.dead:=Tl.set_dead _ _ _;have hle:S.opened.left=true:=by
  unfold Dv.left Dv.opened;dsimp only;rw[hmask,m1];simp;omega
 refine⟨⟨h.bs,h.like,h.deq,h.br,h.T,h.tok,h.fit.clean _ _,λi a ha=>?_,λx hx hux=>?_,λx hx=>?_,by show L.set (S.t.clean S.pick false).dead=true;rw[hdd];exact h.tset,by show L.has (S.t.clean S.pick false).dead κ=false;rw[hdd];exact h.tk,h.nx,h.big,λ_=>?_⟩,hle,hdd.trans h0⟩
 ·obtain⟨s1,s2,s3,s4⟩:=h.st i a ha;refine⟨?_,s2,s3,s4⟩;show((S.t.clean S.pick false).at_ a.block).used=true;rw[(hat _ (a4T hlen s2.1 s1)).2];split
  ·rfl
  ·exact s1
 ·have hx':S.t.has x=true:=by
   have:(S.t.clean S.pick false).has x=true:=hx;unfold Tl.clean at this
   rwa [Tl.has_set]at this
  have hux:((S.t.clean S.pick false).at_ x).used=false:=hux;rw[(hat x hx').2]at hux;split at hux
  ·cases hux
  ·exact h.blank x hx' hux
 ·have hx':S.t.has x=true:=by
   have:(S.t.clean S.pick false).has x=true:=hx;unfold Tl.clean at this
   rwa [Tl.has_set]at this
  show((S.t.clean S.pick false).at_ x).bad=0;rw[(hat x hx').1];exact h.bad x hx'
 ·refine⟨by show 0<=S.pick/\S.pick<S.N.blocks;omega,?_,by show(0:Int)<=0;omega,hmask,?_⟩
  ·show((S.t.clean S.pick false).at_ S.pick).used=true;rw[(hat _ hhas).2,i9 rfl]
  ·show((S.N.blk κ S.pick.toNat).cells.length:Int)=0;rw[h.blank S.pick hhas hun];rfl
theorem pen (h:Al κ N0 T0 S) (hp:Ph κ S) (hf:∀e∈l,FitR e) (hl0:l.length≠0):∃V,S.pen l=(V,0,11)/\Al κ N0 T0 V/\Ph κ V:=by
 unfold Dv.pen;show∃V,Dv.write (159+1) S l=_/\_;rw[Dv.write_succ,i7 hl0]
 by_cases h0:S.left=false/\S.pick<0
 ·rw[i9 h0];exact⟨S,rfl,h,hp⟩
 ·rw[i7 h0];obtain⟨a1,a2,a3⟩:Al κ N0 T0 S.at1/\S.at1.left=true/\Ph κ S.at1:=by
   unfold Dv.at1;cases hl:S.left with
   | true=>rw[i9 rfl];exact⟨h,hl,hp⟩
   | false=>
    rw[i7 (by decide)];have hpk:¬S.pick<0:=λe=>h0 ⟨hl,e⟩;rcases hp with e | e
    ·obtain⟨x1,x2,x3⟩:=h.opened e hpk;exact⟨x1,x2, .inl x3⟩
    ·exact absurd (h.no_pick e) hpk
  obtain⟨Q,hQ⟩:∃Q,S.at1=Q:=⟨_,rfl⟩;rw[hQ]at a1 a2 a3 ⊢
  by_cases hn:Q.next>1099511627775-(Q.fit l:Int)+1
  ·rw[i9 hn];exact⟨Q,rfl,a1,a3⟩
  ·rw[i7 hn];obtain⟨t1,t2,t3,t4,t5,t6⟩:=a1.turn a2 hf hn;rw[t1,i7 (by decide),i7 (by decide),i7 (by decide)];obtain⟨l1,l2,l3⟩:=t2.loses (f:=(Q.wr l).2.1) (λe he=>by rw[t6.dies];exact t4 e he) (λe he=>t5 e (by rw[<- t6.dies];exact he)) (by show Q.mask=L.all (Q.wrote l).N.dies;rw[t6.dies];exact(a1.op a2).2.2.2.1);refine⟨_,?_,l1, .inr l2⟩;show Dv.write (158+1) _ l=_;rw[Dv.write_succ,i7 hl0,i9 ⟨l3,l1.no_pick l2⟩]
end Al
end Go.Proofs.YtpakpgkdpofbhaaGreat
namespace Go.Proofs.YtpakpgkdpofbhaaGreat
open Go Go.RowKit
structure RdF (N0:Nand) (T0:Tb):Prop where
 off:N0.off=false
 rd:∀i a,Tb.look T0.at_ i=some a->(R.read N0 a.block a.row a.slot a.mask).2≠9/\((R.read N0 a.block a.row a.slot a.mask).2=0->FitR (R.read N0 a.block a.row a.slot a.mask).1)
theorem b7M {T:Tb} {b i:Int} (h:i∈T.ins b):∃a,Tb.look T.at_ i=some a:=by
 unfold Tb.ins at h;split at h
 ·cases h
 ·unfold Tb.inK at h;rw[O8]at h;obtain⟨x,hx,rfl⟩:=h;have:=(List.mem_filter.1 hx).2;unfold Tb.inB at this;cases hl:Tb.look T.at_ (x:Int)with
  | none=>rw[hl]at this;cases this
  | some a=>exact⟨a,rfl⟩
namespace Al
variable {κ : Nat} {N0 : Nand} {T0 : Tb} {S : Dv} {l : List En}
theorem read_eq (h:Al κ N0 T0 S) (hr:RdF N0 T0) {i:Int} {a:AtV} (ha:Tb.look T0.at_ i=some a):R.read S.N a.block a.row a.slot a.mask=R.read N0 a.block a.row a.slot a.mask:=
 b9l h.like (by rw[h.bs.lit.off,hr.off]) h.deq (h.st i a ha).2.2.2 _ _
theorem rd_fit (h:Al κ N0 T0 S) (hr:RdF N0 T0) {i:Int} {a:AtV} (ha:Tb.look T0.at_ i=some a):(S.rd i).2=0/\FitR (S.rd i).1:=by
 have hx:=h.read_eq hr ha;obtain⟨r1,r2⟩:=hr.rd i a ha;have hm:=h.tok.rng _ (Tb.look_mem ha);have hlg:=h.tok.log;dsimp only at hm;unfold Dv.rd;rw[h.T,ha];simp only[m7];rw[hx,i7 r1];split
 ·exact⟨rfl,⟨by show 0<=i/\i<=65535;omega, .inr ⟨.inr rfl,rfl⟩,rfl⟩⟩
 ·rename_i hc;exact⟨rfl,r2 (by
   by_cases h0:(R.read N0 a.block a.row a.slot a.mask).2=0
   ·exact h0
   ·exact absurd (.inl h0) hc)⟩
theorem rds_fit (h:Al κ N0 T0 S) (hr:RdF N0 T0):∀L:List Int,(∀i∈L,∃a,Tb.look T0.at_ i=some a)->(S.rds L).2=0/\(S.rds L).1.length=L.length/\∀e∈(S.rds L).1,FitR e
 | [],_=>⟨rfl,rfl,λe he=>(by cases he)⟩
 | i::L,hL=>by
  obtain⟨a,ha⟩:=hL i (by simp);obtain⟨r1,r2⟩:=h.rd_fit hr ha;obtain⟨i1,i2,i3⟩:=rds_fit h hr L (λx hx=>hL x (by simp[hx]));rw[Dv.rds,i7 (by rw[r1];simp)];refine⟨i1,by simp only[o0];rw[i2],λe he=>?_⟩;rcases List.mem_cons.1 he with rfl | he
  ·exact r2
  ·exact i3 e he
theorem carry (h:Al κ N0 T0 S) (hp:Ph κ S) (hr:RdF N0 T0) (b most:Int):((S.carry b most).2.2=0\/(S.carry b most).2.2=11)/\Al κ N0 T0 (S.carry b most).1/\Ph κ (S.carry b most).1:=by
 unfold Dv.carry;dsimp only;obtain⟨L,hL⟩:∃L,(S.T.ins b).take (max most 0).toNat=L:=⟨_,rfl⟩;have hin:∀i∈L,∃a,Tb.look T0.at_ i=some a:=λi hi=>by
  rw[<- hL]at hi;have:=b7M (C7 hi)
  rwa [h.T]at this
 rw[hL];cases L with
 | nil=>exact⟨.inl rfl,h,hp⟩
 | cons i q=>
  obtain⟨r1,r2,r3⟩:=h.rds_fit hr ((i::q).take (max S.slots 1).toNat) (λx hx=>hin x (C7 hx));have hne:(S.rds ((i::q).take (max S.slots 1).toNat)).1.length≠0:=by
   rw[r2,n9,o0];omega
  obtain⟨V,v1,v2,v3⟩:=h.pen hp r3 hne;rw[o0,Dv.carryGo,i7 (by simp)];dsimp only;rw[i7 (by rw[r1];simp),v1];dsimp only;rw[i9 (by decide)];exact⟨.inr rfl,v2,v3⟩
theorem roomGo (hr:RdF N0 T0):∀(k:Nat) (S:Dv),Al κ N0 T0 S->Ph κ S->((Dv.roomGo k S).2=0\/(Dv.roomGo k S).2=11)/\Al κ N0 T0 (Dv.roomGo k S).1/\Ph κ (Dv.roomGo k S).1
 | 0,S,h,hp=>⟨.inl rfl,h,hp⟩
 | k+1,S,h,hp=>by
  rw[Dv.roomGo];split
  ·exact⟨.inl rfl,h,hp⟩
  split
  ·exact⟨.inl rfl,h,hp⟩
  dsimp only;obtain⟨c1,c2,c3⟩:=h.carry hp hr S.victim (S.T.count S.victim);split
  ·rename_i hc;exact⟨.inr (c1.resolve_left hc),c2,c3⟩
  ·obtain⟨V,v1,v2,v3⟩:=c2.clear c3;rw[v1];dsimp only;rw[i7 (by simp)];exact roomGo hr k V v2 v3
theorem room (h:Al κ N0 T0 S) (hp:Ph κ S) (hr:RdF N0 T0):(S.room.2=0\/S.room.2=11)/\Al κ N0 T0 S.room.1/\Ph κ S.room.1:=by
 obtain⟨V,v1,v2,v3⟩:=h.clear hp;unfold Dv.room;rw[v1];dsimp only;rw[i7 (by simp)];exact roomGo hr S.t.b V v2 v3
theorem slots_lt (h:Al κ N0 T0 S) (hp:Ph κ S):S.slots+1<=S.N.dies:=by
 have h6:=h.bs.six;obtain⟨m1,m2,m3⟩:=a2K S.N.dies (by omega) (by omega);unfold Dv.slots;cases hl:S.left with
 | true=>rw[i9 rfl,(h.op hl).2.2.2.1,m1];omega
 | false=>
  rw[i7 (by decide)];cases hh:S.t.has S.pick with
  | false=>
   unfold Tl.mask;rw[hh,i7 (by decide)];have:G.slots 0=0:=by decide
   rw[this];omega
  | true=>
   rcases hp with e | e
   ·rw[h.mask_all e hh,m1];omega
   ·rw[h.no_slots e hh];omega
end Al
structure AlF (κ:Nat) (N0:Nand) (T0:Tb) (F:Fv):Prop where
 al:Al κ N0 T0 F.S
 ph:Ph κ F.S
 rf:RdF N0 T0
 off:F.off=false
 len:F.L.length+1<=F.S.N.dies
 fit:∀e∈F.L,FitR e
namespace AlF
variable {κ : Nat} {N0 : Nand} {T0 : Tb} {F : Fv}
theorem ask (h:AlF κ N0 T0 F):F.ask=F:=by
 unfold Fv.ask;rw[h.al.bs.lit.off,h.off];cases F;have:=h.off;simp_all
theorem setS (h:AlF κ N0 T0 F) {V:Dv} (hV:Al κ N0 T0 V) (hp:Ph κ V):AlF κ N0 T0 {F with S:=V}/\∀i,({F with S:=V}:Fv).get i=F.get i:=by
 refine⟨⟨hV,hp,h.rf,h.off,?_,h.fit⟩,λi=>?_⟩
 ·show F.L.length+1<=V.N.dies;have:=h.len;rw[hV.like.dies,<- h.al.like.dies];exact this
 ·unfold Fv.get;dsimp only;rw[hV.T,h.al.T];cases hl:Tb.look T0.at_ i with
  | none=>rfl
  | some a=>
   dsimp only;rw[hV.read_eq h.rf hl,h.al.read_eq h.rf hl]
theorem told {V:Dv} {e:Int} (h:F.off=false) (he:e=0\/e=11):({F with S:=V}:Fv).told e={F with S:=V}:=by
 unfold Fv.told;dsimp only;have:(e==9)=false:=by rcases he with rfl | rfl<;>rfl
 rw[this,h];rfl
theorem writes (h:AlF κ N0 T0 F):∃V e,F.writes=({F with S:=V},e)/\(e=11\/e=0/\F.L.length=0)/\Al κ N0 T0 V/\Ph κ V:=by
 obtain⟨r1,r2,r3⟩:=h.al.room h.ph h.rf;unfold Fv.writes;dsimp only
 by_cases h0:F.S.room.2=0
 ·rw[i7 (by rw[h0];simp)]
  by_cases hl:F.L.length=0
  ·have hp:F.S.room.1.pen F.L=(F.S.room.1,0,0):=by
    unfold Dv.pen;show Dv.write (159+1) _ _=_;rw[Dv.write_succ,i9 hl]
   have hn:F.L=[]:=p6 hl;rw[hp];refine⟨F.S.room.1,0,?_, .inr ⟨rfl,hl⟩,r2,r3⟩;dsimp only;have e:({F with S:=F.S.room.1,L:=W9 F.L (F.L.take (0:Int).toNat)}:Fv)={F with S:=F.S.room.1}:=by rw[hn];rfl
   rw[e,told h.off (.inl rfl)]
  ·obtain⟨V,v1,v2,v3⟩:=r2.pen r3 h.fit hl;rw[v1];refine⟨V,11,?_, .inl rfl,v2,v3⟩;dsimp only;have e0:W9 F.L (F.L.take (0:Int).toNat)=F.L:=by
    show W9 F.L (F.L.take 0)=F.L;rw[a5J];unfold W9;rw[U3];intro x _;rfl
   rw[e0];rw[told h.off (.inr rfl)]
 ·rw[i9 h0];have h11:=r1.resolve_left h0;exact⟨F.S.room.1,11,by rw[h11,told h.off (.inr rfl)], .inl rfl,r2,r3⟩
theorem get_put (F:Fv) (e:En):(F.put e).get e.lpn=(e.data,0):=by
 have h:a1y (F.put e).L e.lpn=({e with seq:=F.nx},true):=by
  unfold Fv.put a0j a1y;dsimp only;rw[List.find?_append];have hn:(F.L.filter λx=>!(x.lpn==e.lpn)).find? (λx=>x.lpn==e.lpn)=none:=by
   rw[List.find?_eq_none];intro x hx;have:=(List.mem_filter.1 hx).2;simpa using this
  rw[hn];simp
 unfold Fv.get;rw[h];rfl
theorem put (h:AlF κ N0 T0 F) (hl:F.L.length+2<=F.S.N.dies) {e:En} (he:FitR e):AlF κ N0 T0 (F.put e):=by
 refine⟨h.al,h.ph,h.rf,h.off,?_,λx hx=>?_⟩
 ·have:=(a6k F.L {e with seq:=F.nx}).2;show(a0j F.L {e with seq:=F.nx}).length+1<=F.S.N.dies;omega
 ·rcases List.mem_append.1 hx with hx | hx
  ·exact h.fit x (List.mem_filter.1 hx).1
  ·rw[List.mem_singleton.1 hx];exact⟨he.lpn,he.role,he.len⟩
theorem write (h:AlF κ N0 T0 F) {i:Int} {d:List UInt8} (hi:0<=i/\i<F.lg) (h16:i<=65535) (hd:d.length=16):AlF κ N0 T0 (F.write i d).1/\((F.write i d).2=11/\(F.write i d).1.get i=F.get i\/(F.write i d).2=0/\(F.write i d).1.get i=(d,0)):=by
 have hfe:FitR (⟨i,0,1,d⟩:En):=⟨⟨hi.1,h16⟩, .inl rfl,hd⟩;have hsl:=h.al.slots_lt h.ph;have h6:=h.al.bs.six;unfold Fv.write Fv.waits;rw[h.ask,h.off,i7 (by decide),i7 (by dsimp only;omega)];split
 ·obtain⟨V,e,w1,w2,w3,w4⟩:=h.writes;obtain⟨s1,s2⟩:=h.setS w3 w4;rw[w1];dsimp only;rcases w2 with rfl | ⟨rfl,hl⟩
  ·rw[i9 (by decide)];exact⟨s1, .inl ⟨rfl,s2 i⟩⟩
  ·rw[i7 (by decide)];refine⟨s1.put ?_ hfe, .inr ⟨rfl,get_put _ _⟩⟩;show F.L.length+2<=V.N.dies;have:=w3.bs.six;omega
 ·rename_i hc;refine⟨h.put ?_ hfe, .inr ⟨rfl,get_put _ _⟩⟩;omega
theorem flush (h:AlF κ N0 T0 F):F.flush.2=if F.L.length=0 then 0 else 11:=by
 unfold Fv.flush;rw[h.ask,h.off,i7 (by decide)];cases hl:F.L.length with
 | zero=>rfl
 | succ n=>
  rw[Fv.flushGo,i7 (by omega)];dsimp only;obtain⟨V,e,w1,w2,w3,w4⟩:=h.writes;rcases w2 with rfl | ⟨_,hl2⟩
  ·rw[w1,i9 (by simp),i7 (by omega)]
  ·omega
end AlF
def a4p (κ:Nat) (l:List Bool) (k:Nat):List Bool:=(List.range k).foldl (λl (i:Nat)=>if i=κ then l else l.set i true) l
theorem a3l (κ:Nat) (l:List Bool) (k:Nat):a4p κ l (k+1)=if k=κ then a4p κ l k else(a4p κ l k).set k true:=by
 unfold a4p;rw[A9,C3];rfl
theorem a6b (κ:Nat) (l:List Bool):∀k,(a4p κ l k).length=l.length
 | 0=>rfl
 | k+1=>by
  rw[a3l];split
  ·exact a6b κ l k
  ·rw[B1];exact a6b κ l k
theorem a9G (κ:Nat) (l:List Bool) (j:Nat) (hj:j<l.length):∀k,(a4p κ l k).getD j false=if j<k/\j≠κ then true else l.getD j false
 | 0=>by rw[i7 (by omega)];rfl
 | k+1=>by
  have ih:=a9G κ l j hj k;rw[a3l]
  by_cases hk:k=κ
  ·rw[i9 hk,ih]
   by_cases h:j<k/\j≠κ
   ·rw[i9 h,i9 (by omega)]
   ·rw[i7 h,i7 (by omega)]
  ·rw[i7 hk,d7,u0]
   by_cases e:k=j
   ·rw[i9 e,i9 (by rw[a6b];omega),i9 (by omega)];rfl
   ·rw[i7 e,<- d7,ih]
    by_cases h:j<k/\j≠κ
    ·rw[i9 h,i9 (by omega)]
    ·rw[i7 h,i7 (by omega)]
theorem b1C {m:Int} (hs:L.set m=true) (h:∀d:Int,L.has m d=true->d= -1):m=0:=by
 refine L.ext hs (by decide) λd _=>?_;rw[L.has_zero];cases hh:L.has m (d:Nat)with
 | false=>rfl
 | true=>have:=h _ hh;omega
theorem Inv.alone {S:Dv} {k m κ:Nat} {W:List (Int×En)} (h:Inv (-1) S) (hO:S.Ok k m) (hno:NoF S) (hff:∀i j:Nat,(S.N.blk i j).fails=false) (hm:∀i a,Tb.look S.T.at_ i=some a->Msk S.N.dies (-1) a.mask) (hH:Hd S W) (hW:WOk W) (hκ:κ<S.N.dies) {N0:Nand} (hN0:N0={S.N with dead:=a4p κ S.N.dead S.N.dies}):
  Al κ N0 S.T {S with N:=N0}/\Ph κ {S with N:=N0}/\RdF N0 S.T:=by
 have hg:=hO.gd.ok.bd16;have hdl:=hO.gd.ok.dead;have hget:∀j:Nat,j<S.N.dies->N0.dead.getD j false= !decide (j=κ):=λj hj=>by
  rw[hN0];show(a4p κ S.N.dead S.N.dies).getD j false=_;rw[a9G κ _ j (by omega)]
  by_cases e:j=κ
  ·rw[i7 (by omega),hno.dead,l8 e];rfl
  ·rw[i9 ⟨hj,e⟩,y8 e];rfl
 have hlk:S.N.Like N0:=by rw[hN0];exact⟨rfl,rfl,rfl⟩
 have hbk:N0.blk=S.N.blk:=by rw[hN0]
 have hpg:∀d b r:Int,N0.pageAt d b r=S.N.pageAt d b r:=λd b r=>by unfold Nand.pageAt;rw[hbk]
 have hoff:N0.off=false:=by rw[hN0];exact h.lit.off
 have hall:∀mk:Int,Msk S.N.dies (-1) mk->L.has mk κ=true:=λmk hmk=>hmk.all κ hκ (by omega);refine⟨⟨⟨⟨hoff,by rw[hN0];exact h.lit.cuts⟩,by rw[hlk.dies,hlk.pages];omega,by rw[hlk.dies];exact hκ,by rw[hget κ hκ,l8 rfl];rfl,λi hi hne=>by rw[hlk.dies]at hi;rw[hget i hi,y8 hne];rfl,by rw[hN0];exact hno.plan,λi j=>by rw[hbk];exact⟨hno.met i j,hff i j⟩⟩,Nand.Like.refl _,rfl,rfl,rfl,hO.T,hO.t.like hlk,λi a ha=>?_,λb hb hu=>?_,λb hb=>b1C (h.tbad b hb).1 (h.tbad b hb).2,h.tdead.1,?_,by have:=hO.next;show 0<=S.next;omega,by rw[hlk.blocks,hlk.pages];omega,λhl=>?_⟩, .inl (b1C h.tdead.1 h.tdead.2),⟨hoff,λi a ha=>?_⟩⟩
 ·have hs:=h.st i a ha;obtain⟨l,g1,g2,g3,g4⟩:=hs.row;refine⟨hs.used,⟨g1.is.blk.1,g1.is.row.1⟩,?_,λd _=>rfl⟩;obtain⟨x,hx,hxd⟩:=g1.is.on (hall _ (hm i a ha));obtain⟨t,ht⟩:=g1.good x hx (by omega);unfold Nand.pageAt at ht;rw[hxd,l9]at ht;obtain⟨hlt,_⟩:=List.getElem?_eq_some_iff.1 ht;have:=g1.is.row;show a.row<((N0.blk κ a.block.toNat).cells.length:Int);rw[hbk];omega
 ·show(N0.blk κ b.toNat).cells=[];rw[hbk];exact h.blank b hb hu κ (hall _ (h.msk hO hb))
 ·cases hh:L.has S.t.dead κ with
  | false=>rfl
  | true=>have:=h.tdead.2 _ hh;omega
 ·have hl:S.left=true:=by
   rw[<- hl];unfold Dv.left;dsimp only;rw[hlk.pages]
  have ho:=h.opn hl;obtain⟨m1,m2⟩:=b9F ho.mask hg.1;refine⟨by rw[hlk.blocks];exact ho.blk,ho.used,ho.row.1,by show S.mask=L.all N0.dies;rw[hlk.dies];exact m1,?_⟩;show((N0.blk κ S.op.toNat).cells.length:Int)=S.row;rw[hbk];exact(ho.cells κ (hall _ ho.mask)).2 (hno.dead κ)
 ·have hs:=h.st i a ha;obtain⟨l,g1,g2,g3,g4⟩:=hs.row;have hR:RowIs N0 a.block a.row a.mask l:=g1.is.like hlk;have hI:RowIn N0 a.block a.row a.mask l:=λx hx c hc=>g1.inn x hx c (by rw[<- hpg];exact hc);have hr:=(hI.part hR).read hR hoff g3;rw[show((a.slot.toNat:Nat):Int)=a.slot from by omega]at hr;have r2:=g1.read h.lit.off h.dead g3;rw[show((a.slot.toNat:Nat):Int)=a.slot from by omega]at r2;rw[hr];split
  ·refine⟨by simp,λ_=>?_⟩;have hk:i∈W.map (·.1):=by
    rw[<- hH.keys];exact List.mem_map.2 ⟨(i,a),Tb.look_mem ha,rfl⟩
   cases he:Tb.look W i with
   | none=>exact absurd hk (Tb.look_none.1 he)
   | some e=>
    obtain⟨_,a',h2,h3⟩:=hH.each i e he;rw[ha]at h2;injection h2 with h2;rw[<- h2,r2]at h3;injection h3 with h3;have hf:=(hW i e he).2;show FitR (l.getD a.slot.toNat En.zero);rw[h3];exact⟨hf.lpn,hf.role,hf.len⟩
  ·exact⟨by simp,λe=>by simp at e⟩
theorem Dev.alone {D B P n κ:Nat} {F:Fv} {c:Nat->List UInt8} (h:Dev D B P F n c) (hκ:κ<D) (hL:F.L=[]) {N0:Nand} (hN0:N0={F.S.N with dead:=a4p κ F.S.N.dead D}):AlF κ N0 F.S.T (F.setN N0):=by
 obtain⟨W,hW,hc⟩:=h.fc;obtain⟨g1,g2,g3⟩:=h.geo;obtain⟨a1,a2,a3⟩:=hW.fi.inv.alone (κ:=κ) (N0:=N0) h.ok.dv hW.no (λi j=>hW.gi.ff hW.no.dead i j) hW.gi.msk hW.fi.hd hW.fi.wok (by omega) (by rw[hN0,g1]);have hd:N0.dies=D:=by rw[hN0];exact g1
 refine⟨a1,a2,a3,hW.fi.off,?_,λe he=>?_⟩
 ·show F.L.length+1<=N0.dies;have:=h.ok.dv.gd.ok.bd16;rw[hL,hd];simp;omega
 ·have he:e∈F.L:=he;rw[hL]at he;cases he
def a7v (n:Int) (x:UInt8):List UInt8:=[u8 n,x,0,0,0,0,0,0,0,0,0,0,0,0,0,0]
theorem AlF.rd {κ:Nat} {N0:Nand} {T0:Tb} {F:Fv} (h:AlF κ N0 T0 F) {i:Int} (hi:0<=i/\i<F.lg):F.read i=(F,F.get i):=by
 unfold Fv.read;rw[h.ask,h.off,i7 (by decide),i7 (by omega)]
theorem Fv.get_len {F:Fv} {k m:Nat} (h:F.Ok k m) (i:Int):(F.get i).1.length=16:=by
 unfold Fv.get;split
 ·unfold a1y;split
  ·rename_i he;exact h.dat _ (List.mem_of_find?_eq_some he)
  ·rfl
 ·split
  ·rfl
  ·split
   ·rfl
   split
   ·rfl
   dsimp only;split
   ·rfl
   ·exact b1I h.dv.gd.ok _ _ _ _
theorem b4L (g0 g1 g2 kk:Int) (A:Atom) (ao:Option Addr) (no co:Nat) (xs:List Int) (hA:Rd A ao 1 no (xs.flatMap λx=>[Value.int .i64 x])) (hlo:xs.length=no) (hdo:∀x∈xs,-9223372036854775808<=x/\x<=9223372036854775807):
  FP 12 [.agg #[iI g0,iI g1,iI g2],iI kk, .slice ao no co] [A] (Ps (.bool true) [A]):=by
 rw[a6N]at hA;refine FE [0,0,0] Tryz.func12 λX F hX=>?_;refine J.qp (a2R) [] λ_=>?_;refine J.qF λ_=>?_;refine J.qc (a9U g0 g1 g2) [] λ_=>?_;rintro v As ⟨D,B,P,n,f,p,t,l,d,Z,rfl,hD,hB,hP,hZ,hZL,rfl⟩;refine⟨_,rfl,trivial,?_⟩;refine J.qF λ_=>?_;have hlb:=Fv.lg_bd (F:=Z) hZ.ok.dv.gd.ok;rw[hZ.lg]at hlb;obtain⟨g,hg⟩:∃g,lgN D B P=g:=⟨_,rfl⟩;rw[hg]at hlb;refine J.q λ_=>?_;refine J.l (α:=(Nat×Fv)) (λz=>z.1<=g/\∃c,Dev D B P z.2 (100000-50*z.1) c) (λz=>[si 10 z.1,si 1 kk,sv 2 (.slice ao no co),sp 8 n,sp 9 f]) [3,4,5,6,7,8] (λz=>FvP f p n t l d z.2) (λz=>g-z.1) ((0,Z)) (⟨n7 _,_,hZ.less (by dsimp only;omega)⟩) λz hI=>?_;obtain⟨i,Y⟩:=z;dsimp only at hI ⊢;obtain⟨hi,c,hY⟩:=hI;refine J.q λb9=>?_;refine J.cb (O5 f n t l p d Y hY.ok.dv.gd.ok) [3,5] ?_;refine cpq ⟨_,rfl,trivial,?_⟩;rw[hY.lg,hg];refine J.qd (λ_ h1=>?_) λ_ h1=>?_
 ·simp only[g7,j9]at h1;have hY2:=hY.less (k:=(100000-50*(i+1))+1) (by omega);have hk1:Y.Ok (Fv.cW+(1+0)) 0:=hY2.ok.less (k':=UN) (by rw[C2];omega);obtain⟨w1,w2,w3⟩:=hY2.write (i:=i) (by omega) (d:=a7v i 9) rfl;have hu8:((u8 (i:Int)).toNat:Int)<=255:=by have:=(u8 (i:Int)).toNat_lt;omega
  refine J.qn 8 λ_=>?_;refine J.v (bv (u8 (i:Int))) rfl rfl (λhg a w he hs=>by rw[<- a1b (i:Int)];exact O6 tk rfl rfl he rfl rfl rfl) ?_;refine J.qp (a0S f p n t l d Y 0 0 hk1 (by decide) i (a7v i 9) rfl) [3,4,5,6,7,8] λ_=>?_;rw[w1];refine J.qF λ_=>?_;refine J.q λ_=>?_;refine J.n ((i+1,(Y.write i (a7v i 9)).1)) (⟨by dsimp only;omega,_,w2⟩) (by dsimp only;omega) [0,1,2,3,4,5,6,7,8]
 clear h1;obtain⟨N8,hN8⟩:∃N8,N8=80000:=⟨_,rfl⟩;have hY:=hY.less (k:=N8+200) (by omega);have hk2:Y.Ok (Fv.cW*200+0) 0:=hY.ok.less (by rw[a2H];have:=a2j;omega);obtain⟨v1,v2,v3⟩:=hY.flush;refine J.qp (a1x f p n t l d Y 0 0 hk2 (by decide)) [3,4,5,6,7,8] λ_=>?_;rw[v1];generalize Y.flush.1=Y1 at v2 v3 ⊢;refine J.qF λ_=>?_;refine J.qp (a1s n Y1.S.N) [5] λ_=>?_;obtain⟨y1,y2,y3⟩:=v2.geo;rw[y1];have hm2:=b1y kk D (by omega);have hm1:=a3K kk D (by omega);obtain⟨κ,hκ⟩:=j8 hm2.1;refine J.q λ_=>?_;rw[hκ]at hm2 ⊢;have hgd0:Y1.S.N.Gd (UN*N8) 0:=v2.ok.dv.gd;refine J.q λ_=>?_;refine J.l (α:=(Nat×Nand)) (λz=>z.1<=D/\z.2={Y1.S.N with dead:=a4p κ Y1.S.N.dead z.1}/\z.2.Gd (UN*N8) z.1) (λz=>[si 12 z.1,si 11 D,si 1 κ,sv 2 (.slice ao no co),sp 8 n,sp 9 f]) [5] (λz=>[C1 n z.2]) (λz=>D-z.1) ((0,Y1.S.N)) (⟨n7 _,rfl,hgd0⟩) λz hI=>?_;obtain⟨j,N⟩:=z;dsimp only at hI ⊢;obtain⟨hj,hN,hGN⟩:=hI;refine J.qd (λ_ h2=>?_) λ_ h2=>?_
 ·simp only[g7,j9]at h2;refine J.qd (λ_ h3=>?_) λ_ h3=>?_
  ·simp only[H0,I2]at h3;have hjd:j<N.dies:=by rw[hN];show j<Y1.S.N.dies;omega
   have hk:=a4D hGN.ok hjd;have hG1:(N.kill j).Gd (UN*N8) (j+1):=by
    have:=a3n hGN [⟨0,4,j,0,0,0,0⟩];have e:a0q N [⟨0,4,j,0,0,0,0⟩]=N.kill j:=congrArg Prod.snd hk;rw[e]at this;exact this
   refine J.qp (a2s n N hGN.ok 0 4 j 0 0 0 0) [5] λ_=>?_;rw[hk];refine J.q λ_=>?_;refine J.n ((j+1,N.kill j)) (⟨h2,by dsimp only;rw[hN,a3l,i7 (by omega)];rfl,hG1⟩) (by dsimp only;omega) [0,1,2,3,4,5,6,7,8]
  ·have h3:(j:Int)=κ:=by simpa using h3
   refine J.q λ_=>?_;refine J.n ((j+1,N)) (⟨h2,by dsimp only;rw[a3l,i9 (by omega)];exact hN,hGN.less (m9 _) (Nat.le_succ _)⟩) (by dsimp only;omega) [0,1,2,3,4,5,6,7,8]
 simp only[c9,j9]at h2;obtain rfl:j=D:=by omega
 obtain⟨Z1,hZ1⟩:∃Z1,Y1.setN N=Z1:=⟨_,rfl⟩;have hlkN:Y1.S.N.Like N:=by rw[hN];exact⟨rfl,rfl,rfl⟩
 have hAl:AlF κ N Y1.S.T Z1:=by rw[<- hZ1];exact v2.alone (by omega) v3 hN
 have hok1:Z1.Ok (UN*N8) j:=by rw[<- hZ1];exact v2.ok.setN hlkN hGN
 have hlg1:Z1.lg=(g:Int):=by
  rw[<- hZ1];unfold Fv.lg;show((lgN N.dies N.blocks N.pages:Nat):Int)=_;rw[hlkN.dies,hlkN.blocks,hlkN.pages,y1,y2,y3,hg]
 refine J.turn1 [3,4,5,6,7,8] rfl (As:=FvP f p n t l d Z1) (λh s=>by rw[<- hZ1];exact s) rfl ?_;refine J.q λ_=>?_;refine J.l (α:=(Nat×Fv×Bool)) (λz=>(z.1<=no/\z.1<=20)/\AlF κ N Y1.S.T z.2.1/\z.2.1.Ok (UN*(N8-z.1)) j/\z.2.1.lg=(g:Int)) (λz=>[si 14 z.1,sv 13 (.bool z.2.2),si 11 j,sv 2 (.slice ao no co),sp 8 n,sp 9 f]) [3,4,5,6,7,8] (λz=>(FvP f p n t l d z.2.1)) (λz=>no-z.1) ((0,Z1,false)) (⟨⟨n7 _,n7 _⟩,hAl,hok1,hlg1⟩) λz hI=>?_;obtain⟨i,Y,told⟩:=z;dsimp only at hI ⊢;obtain⟨⟨hi,hi20⟩,hY,hYo,hYg⟩:=hI;refine J.qd (λ_ h4=>?_) λ_ h4=>?_
 ·simp only[j5,g7]at h4;have hi1:i<no/\i<20:=by omega
  obtain⟨x,hx⟩:∃x,xs[i]? =some x:=⟨_,d6 (by omega)⟩;have hxb:=hdo x (x9 hx);have hxt:=a3K x g (by omega);have hu:=b1y x g (by omega);refine J.know (p:=∃g o,ao=some ⟨g,o,none⟩) (λh' s=>Rd.addr (hA _ (s.get (i:=1) rfl)) (by omega)) λhk=>?_;obtain⟨gm,om,rfl⟩:=hk;refine J.pq (.of [0,4,8,13,16,28,40,22,24,34,36,46,48,52]) [13] [1] λ_ _=>?_;refine J.qn 4 λ_=>?_;refine J.vT (iI x) rfl rfl (λhg aa w he hC=>a4Z tk rfl rfl he rfl rfl rfl (hA _ (hC rfl _ (C4 (i:=1) rfl))) (by omega) (j:=i) (by omega) (a2h hx)) ?_;refine J.qp (O5 f n t l p d Y hYo.dv.gd.ok) [3,5] λ_=>?_;rw[hYg];refine J.qp (O5 f n t l p d Y hYo.dv.gd.ok) [3,5] λ_=>?_;rw[hYg];refine J.qp (O5 f n t l p d Y hYo.dv.gd.ok) [3,5] λ_=>?_;rw[hYg];refine J.qn 2 λ_=>?_;obtain⟨u,hu2⟩:=j8 hu.1;rw[hu2]at hu ⊢;have hug:(0:Int)<=(u:Int)/\(u:Int)<Y.lg:=by rw[hYg];exact hu
  have hr:=hY.rd hug;refine J.qp (a0h f p n t l d Y _ j hYo u) [3,4,5,6,7,8] λ_=>?_;rw[hr];dsimp only;have hok2:Y.Ok (Fv.cW+(1+UN*(N8-(i+1)))) j:=hYo.less (by
   have e:N8-i=(N8-(i+1))+1:=by omega
   rw[e,C2];unfold UN;omega)
  obtain⟨k1,k2⟩:=Fv.write_keep hok2 (u:Int) (d:=a7v (i:Int) 77) rfl;obtain⟨w1,w2⟩:=hY.write (i:=(u:Int)) (d:=a7v (i:Int) 77) hug (by omega) rfl;have hlg2:(Y.write u (a7v (i:Int) 77)).1.lg=(g:Int):=by
   unfold Fv.lg at hYg ⊢;rw[k2.1.dies,k2.1.blocks,k2.1.pages];exact hYg
  have hr2:=w1.rd (i:=(u:Int)) (by rw[hlg2];exact hu);obtain⟨M,hM⟩:∃M,(Y.write u (a7v (i:Int) 77)).1=M:=⟨_,rfl⟩;obtain⟨er,her⟩:∃er,(Y.write u (a7v (i:Int) 77)).2=er:=⟨_,rfl⟩;rw[hM]at k1 w1 w2 hlg2 hr2;rw[her]at w2;refine J.qn 12 λb9=>?_;refine J.v (bv (u8 (i:Int))) rfl rfl (λhg a w he hs=>by rw[<- a1b (i:Int)];exact O6 tk rfl rfl he rfl rfl rfl) ?_;refine J.q λ_=>?_;refine J.ca hX (by kernel_rfl) (a0S f p n t l d Y _ j hok2 (by omega) u (a7v (i:Int) 77) rfl) [3,4,5,6,7,8] 0 rfl rfl rfl rfl rfl rfl (λ_=>rfl) ?_;refine cpq ⟨_,rfl,trivial,?_⟩;rw[hM,her];refine J.qp (a0h f p n t l d M _ j k1 u) [3,4,5,6,7,8] λ_=>?_;rw[hr2];dsimp only;obtain⟨ga,hga⟩:∃x,Y.get u=x:=⟨_,rfl⟩;obtain⟨gb,hgb⟩:∃x,M.get u=x:=⟨_,rfl⟩;have hgal:ga.1.length=16:=by rw[<- hga];exact Fv.get_len hYo u
  have hgbl:gb.1.length=16:=by rw[<- hgb];exact Fv.get_len k1 u
  rw[hga,hgb]at w2;rw[hga,hgb];refine J.qd (λ_ h5=>?_) λ_ h5=>?_
  ·rcases w2 with⟨rfl,rfl⟩ | ⟨rfl,_⟩
   rotate_left
   ·cases h5
   refine J.qn 8 λ_=>?_;refine J.v (.bool false) rfl rfl (λhg aa w he hw=>(a1Q (xs:=I1 gb.1) (ys:=I1 gb.1) rfl rfl rfl he rfl rfl a0v (X2 _) (X2 _) mkD gdD).trans (by rw[eqD _ _ hgbl hgbl,l8 rfl];rfl)) ?_;refine J.q λ_=>?_;rw[show(false||gb.2 !=gb.2)=false from by rw[bne_self_eq_false];rfl];refine J.qF λ_=>?_;refine J.q λ_=>?_;refine J.n ((i+1,M,true)) (⟨⟨by dsimp only;omega,by dsimp only;omega⟩,w1,k1,hlg2⟩) (by dsimp only;omega) [0,1,2,3,4,5,6,7,8]
  ·rcases w2 with⟨rfl,_⟩ | ⟨rfl,hgb2⟩
   ·cases h5
   subst hgb2;refine J.qn 11 λ_=>?_;refine J.v (bv (u8 (i:Int))) rfl rfl (λhg a w he hs=>by rw[<- a1b (i:Int)];exact O6 tk rfl rfl he rfl rfl rfl) ?_;refine J.qn 1 λ_=>?_;refine J.v (.bool false) rfl rfl (λhg aa w he hw=>(a1Q (xs:=I1 (a7v (i:Int) 77)) (ys:=I1 (a7v (i:Int) 77)) rfl rfl rfl he rfl rfl a0v (X2 _) (X2 _) mkD gdD).trans (by rw[eqD _ _ rfl rfl,l8 rfl];rfl)) ?_;refine J.qF λ_=>?_;refine J.q λ_=>?_;refine J.n ((i+1,M,told)) (⟨⟨by dsimp only;omega,by dsimp only;omega⟩,w1,k1,hlg2⟩) (by dsimp only;omega) [0,1,2,3,4,5,6,7,8]
 clear h4;have hlen:=hY.len;have hdY:=hY.al.like.dies;have hND:N.dies=j:=by rw[hlkN.dies];exact y1
 have hfl:=hY.flush;have hkF:Y.Ok (Fv.cW*200+0) j:=hYo.less (by
  have h1:=a2j;have h2:UN*200<=UN*(N8-i):=s7 _ (by omega);omega)
 refine J.qp (a2d f n t l p d Y) [3,8] λ_=>?_;have hbr:Y.S.N.broken=0:=by rw[hY.al.br,hN];exact v2.br
 have hend:((Y.L.length:Int)==0)=(Y.flush.2==0):=by
  rw[hfl]
  by_cases e:Y.L.length=0
  ·rw[i9 e,e];rfl
  ·rw[i7 e];have:((Y.L.length:Int)==0)=false:=by rw[r9];omega
   rw[this];rfl
 cases told with
 | true=>
  refine J.q λ_=>?_;refine J.gcase hX rfl rfl rfl trivial (λhb=>by simp at hb) (λhb=>?_);refine J.q λ_=>?_;refine J.v (.bool true) rfl rfl (λhg a w he hs=>by simp[G.on]at hg) ?_;refine J.qp (a2O n Y.S.N) [5] λ_=>?_;rw[hbr];refine J.qp (a1x f p n t l d Y 0 j hkF (by omega)) [3,4,5,6,7,8] λ_=>?_;refine J.qr [1] λ_=>?_;exact⟨by rw[hend];simp,rfl⟩
 | false=>
  refine J.qp (a2d f n t l p d Y) [3,8] λ_=>?_;refine J.qn 2 λ_=>?_;rw[l8 (show(Y.L.length:Int)<(j:Int)by omega)];refine J.qp (a2O n Y.S.N) [5] λ_=>?_;rw[hbr];refine J.qp (a1x f p n t l d Y 0 j hkF (by omega)) [3,4,5,6,7,8] λ_=>?_;refine J.qr [1] λ_=>?_;exact⟨by rw[hend];simp,rfl⟩
end Go.Proofs.YtpakpgkdpofbhaaGreat
