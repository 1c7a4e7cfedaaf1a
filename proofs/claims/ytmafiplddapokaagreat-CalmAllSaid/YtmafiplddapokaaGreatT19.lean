/- Helpers. No condition. -/
import Derived.Test.YtmafiplddapokaaGreatT18
set_option maxRecDepth 20000
set_option linter.all false
namespace Go.Proofs.YtmafiplddapokaaGreat
open Go
structure Kp (S V:Dv):Prop where
 like:S.N.Like V.N
 dead:V.N.dead=S.N.dead
 broken:V.N.broken=S.N.broken
 has:∀b,V.t.has b=S.t.has b
 held:∀b,S.t.has b=true->(V.t.at_ b).held=(S.t.at_ b).held
 next:S.next<=V.next
theorem Kp.refl (S:Dv):Kp S S:=⟨Nand.Like.refl _,rfl,rfl,λ_=>rfl,λ_ _=>rfl,O8 _⟩
theorem Kp.trans {A B C:Dv} (h:Kp A B) (g:Kp B C):Kp A C:=
 ⟨h.like.trans g.like,g.dead.trans h.dead,g.broken.trans h.broken,λb=>(g.has b).trans (h.has b),λb hb=>(g.held b (by rw[h.has];exact hb)).trans (h.held b hb),Int.le_trans h.next g.next⟩
theorem Lf.kp {S V:Dv} {W:List (Int×En)} {lg β β' k k' m:Nat} {X X':List Int} {nx nx':Int} {N':Nand} (h:Lf V.N W lg X β k m nx N') (hN:Kp S V) (hX:∀i∈X,i∈X') (hβ:β'<=β) (hk:k'<=k) (hnx:nx<=nx'):Lf S.N W lg X' β' k' m nx' N':=
 h.mono ⟨hN.like,hN.dead,hN.broken⟩ hX hβ hk hnx
theorem Trn.moved {X:List Int} {S V:Dv} (h:Trn X S) (hI:Inv (-2) S) (hT:V.T=S.T) (hop:V.op=S.op\/V.op= -1) (hl:S.N.Like V.N) (ho:V.N.off=S.N.off) (hd:V.N.dead=S.N.dead) (hs:∀i a,Tb.look S.T.at_ i=some a->∀d r:Int,V.N.pageAt d a.block r=S.N.pageAt d a.block r):Trn X V:=⟨λi a ha=>by
 rw[hT]at ha;obtain⟨l0,f1,_⟩:=(hI.st i a ha).row;have hb:=f1.is.blk;refine(h.each i a ha).imp (λ⟨l',g1⟩=>⟨l',g1.keep hl λx _=>hs i a ha _ _⟩) λ⟨g1,g2,g3⟩=>⟨g1,λe=>?_,g3.keep hl ho hd f1.is.row.1 λd r _=>hs i a ha d r⟩;rcases hop with x | x
 ·exact g2 (e.trans x)
 ·omega⟩
theorem Inv.ers_same {S:Dv} {k m:Nat} {N N2:Nand} (h:Inv (-2) S) (hO:S.Ok k m) (he:ErsP N N2 (t7 (D3 S.t S.T) S.op S.t.b)) (hN:N.blk=S.N.blk) (i:Int) (a:AtV) (ha:Tb.look S.T.at_ i=some a) (d r:Int):N2.pageAt d a.block r=S.N.pageAt d a.block r:=by
 obtain⟨l0,f1,_⟩:=(h.st i a ha).row;have hb:=f1.is.blk;unfold Nand.pageAt;rw[he.rest _ _ λy hy e=>?_,hN];have:=(mem_pkSome.1 hy).1;exact((h.spent_er hO hy).emp i a ha) (by omega)
namespace Cm
variable {W : List (Int × En)} {lg k m : Nat} {X : List Int} {S : Dv} {l : List En}
theorem pen0 (h:Cm W lg S) (hT:Trn X S) (hO:S.Ok (8*Dv.fuel+k) m) (hr:0<S.rows) (hE:Ent lg l) (hl0:l.length≠0) (hnx:S.next<=1099511627775-1200):
  ∃(V:Dv) (n:Nat),n=min l.length (S.N.dies-1)/\S.pen l=(V,(n:Int),(0:Int))/\Cm (a0W W l n) lg V/\(∀X',(∀i∈X,i∈X'\/∃j,j<n/\(l.getD j En.zero).lpn=i)->Trn X' V)/\V.Ok k m/\V.rows+1=S.rows/\Kp S V/\V.next<=S.next+7/\1<=V.row/\(V.op=S.op\/(S.t.at_ V.op).used=false)/\(∀b,S.t.has b=true->(S.t.at_ b).used=true->(V.t.at_ b).used=true)/\(∀j,j<n->∃a,Tb.look V.T.at_ (l.getD j En.zero).lpn=some a/\a.block=V.op)/\(∀i,(∀j,j<n->(l.getD j En.zero).lpn≠i)->Tb.look V.T.at_ i=Tb.look S.T.at_ i)/\
   ∀(c:Nat) (kp:Int),(S.armed c kp).Ok (8*Dv.fuel+k) m->(∃c',(S.armed c kp).pen l=(V.armed c' kp,(n:Int),(0:Int)))\/∃Z p,(S.armed c kp).pen l=(Z,(0:Int),(9:Int))/\p<=n/\∀X',(∀i∈X,i∈X')->(∀j,j<p->(l.getD j En.zero).lpn∈X')->Lf S.N (a0W W l p) lg X' S.rows k m (S.next+7) Z.N:=by
 have hg:=hO.gd.ok.bd16;have hf:∀e∈l,FitR e:=λe he=>(hE.1 e he).1;have hdt:∀e∈l,e.data.length=16:=λe he=>(hf e he).len;have hat:=Dv.at1_like S;have hrp:=h.gi.inv.rows_pos hO hr;have h0:¬(S.left=false/\S.pick<0):=λe=>by
  rcases hrp with x | x
  ·rw[e.1]at x;cases x
  ·exact x e.2
 have hl:=Dv.at1_left' hO h0;have w:=h.gi.inv.went1 hO hl;have hG1:=h.gi.at1 hO h0;have hN1:=h.no.went w;have hT1:=hT.at1 h.gi.inv h0;have p3:S.at1.Ok (8*Dv.fuel+k) m:=hO.at1;have hhas:=Inv.has_same hO.t p3.t w.like;have hlog1:S.at1.T.logical=(lg:Int):=by rw[hat.2.1];exact h.log
 have hop:S.at1.op=S.op\/(S.t.at_ S.at1.op).used=false:=by
  unfold Dv.at1;cases hl2:S.left with
  | true=>rw[d7 rfl];exact .inl rfl
  | false=>
   rw[d4 (by decide)];have hb:=Dv.pick_blank (hrp.resolve_left (by rw[hl2];decide));unfold Tl.blank at hb;rw[f8,i4]at hb;exact .inr hb.2
 obtain⟨Q,hQ⟩:∃Q,S.at1=Q:=⟨_,rfl⟩;rw[hQ]at hat hl w hG1 hN1 hT1 p3 hhas hlog1 hop;have hQI:=hG1.inv;have ho:=hQI.opn hl;obtain⟨m1,m2⟩:=a2y ho.mask.calm2 (by rw[hat.1];exact hg.1);rw[hat.1]at m1 m2;have hfit:Q.fit l=min l.length (S.N.dies-1):=by unfold Dv.fit;rw[m2];omega
 have hbd:¬Q.next>1099511627775-(Q.fit l:Int)+1:=by rw[hat.2.2];omega
 have ht:=hQI.turn p3 hl hf hbd;have herr:(Q.wr l).2.1=0:=L.ext ht.set (by decide) λd hd=>by
  rw[L.has_zero];cases hh:L.has (Q.wr l).2.1 (d:Nat)with
  | false=>rfl
  | true=>
   obtain⟨e1,e2⟩:=ht.only _ hh;omega
 have hL:Last (-2) Q l:=⟨hl,herr,hbd,ht⟩;have herr2:(Q.wr l).2.2=0:=by rw[ht.err,d7 herr]
 have hlgQ:∀e∈l,e.lpn<Q.T.logical:=λe he=>by rw[hlog1];exact(hE.1 e he).2
 have hpen:S.pen l=(M8 Q l,(Q.fit l:Int),(0:Int)):=by
  show Dv.write (159+1) S l=_;rw[Dv.write_succ,d4 hl0,d4 h0,hQ,d4 hbd,d4 (by rw[herr2];decide),d7 herr2];rfl
 have hk:=Dv.pen_keep hO hdt;rw[hpen]at hk;have hrw:=hL.rows hQI;have hrw2:=w.rows;obtain⟨l1,l2⟩:=hL.look hQI p3 hf hlgQ hE.2;have hCV:Cm (a0W W l (Q.fit l)) lg (M8 Q l):=⟨hG1.wrote p3 hL hf hE.2 hlgQ,hN1.wrote hL,hk.2.2.trans h.log⟩;have hnx2:=hat.2.2;refine⟨M8 Q l,Q.fit l,hfit,hpen,hCV,λX' hX=>hT1.wrote hQI hN1 p3 hL hf hlgQ hE.2 hX,hk.1,by omega,⟨w.like.trans ht.like,ht.dead.trans w.dead,ht.broken.trans w.broken,hhas,λb hb=>(w.sb b hb).2.1,?_⟩,?_,?_,hop,λb hb=>(w.sb b hb).2.2,λj hj=>⟨_,l1 j hj,rfl⟩,λi hi=>by rw[l2 i hi,hat.2.1],λc kp hA=>?_⟩
 ·show S.next<=Q.next+(Q.fit l:Int);omega
 ·show Q.next+(Q.fit l:Int)<=_;omega
 ·show 1<=Q.row+1;have:=ho.row;omega
 ·have hkp:=hA.gd.ok.kp.2;have hkp:kp<=32:=hkp;have hkA:=Dv.pen_keep hA hdt;have hR:=hQI.rowIs p3 hl hf hbd;have hrdy:RdyW Q.N Q.op Q.row Q.mask:=⟨hQI.lit,λd hd ha=>(ho.cells d hd).2 ha⟩;have hq:=hrdy.rdy hR;have hfail:∀x∈R.job Q.op Q.row Q.mask (Q.es l),Q.N.failB Q.op Q.row x.1=false:=λx hx=>by
   have hxi:=hR.inn x hx;have:=hN1.fails Q.op Q.row x.1.toNat
   rwa [show((x.1.toNat:Nat):Int)=x.1 from by omega]at this
  have hql:(R.job Q.op Q.row Q.mask (Q.es l)).length=S.N.dies:=by
   rw[a4z,Dv.es_len,m2];omega
  obtain⟨g1,g2⟩:=b8C Q.op Q.row kp _ Q.N 0 c hq hfail;rw[hql]at g1 g2;have hwr:∀N2,R.write N2 Q.op Q.row Q.mask (Q.es l)=R.go Q.op Q.row (R.job Q.op Q.row Q.mask (Q.es l)) N2 0:=λN2=>by unfold R.write;rw[d7 hR.par]
  have hwa:(Q.armed c kp).wr l=R.go Q.op Q.row (R.job Q.op Q.row Q.mask (Q.es l)) (arm Q.N c kp) 0:=hwr _;have hwc:Q.wr l=R.go Q.op Q.row (R.job Q.op Q.row Q.mask (Q.es l)) Q.N 0:=hwr _;have hpA:(S.armed c kp).pen l=Dv.write (159+1) (S.armed c kp) l:=rfl;rw[hpA]at hkA ⊢;rw[Dv.write_succ,d4 hl0,d4 (show¬((S.armed c kp).left=false/\(S.armed c kp).pick<0)from h0),Dv.armed_at1,hQ,d4 (show¬(Q.armed c kp).next>1099511627775-((Q.armed c kp).fit l:Int)+1 from hbd)]at hkA ⊢;rcases L8 c S.N.dies with hc | hc
  ·right;obtain⟨N',g3,t⟩:=g2 hc;have hfl:=λi j=>a8F Q.op Q.row i j (R.job Q.op Q.row Q.mask (Q.es l)) (arm Q.N c kp) 0;rw[g3]at hfl;rw[<- hwa]at g3;have e1:(Q.armed c kp).wrote l={Q.wrote l with N:=N'}:=by
    unfold Dv.wrote;rw[g3];rfl
   rw[d4 (by rw[g3];show¬(9:Int)=1;decide),d4 (by rw[g3];show¬(9:Int)=0;decide),d7 (by rw[g3]),e1]at hkA ⊢;refine⟨_,min (Q.fit l) (a4L (R.job Q.op Q.row Q.mask (Q.es l)) c kp),rfl,Nat.min_le_left _ _,λX' hX1 hX2=>?_⟩;have:=b5i (X':=X') hG1 hN1 hT1 hlog1 p3 hl hE hbd hkp (by rw[hat.1];exact hc) t hfl hkA.1.gd rfl hX1 hX2;rw[hat.1,hat.2.2]at this;exact this.mono ⟨Nand.Like.refl _,rfl,rfl⟩ (λ_ h=>h) (by omega) (j3 _) (O8 _)
  ·left;have g1:=g1 hc;rw[<- hwc,<- hwa]at g1;rw[d4 (by rw[g1,herr2];decide),d7 (by rw[g1];exact herr2)];have e1:(Q.armed c kp).wrote l=(Q.wrote l).armed (c-S.N.dies) kp:=by
    unfold Dv.wrote;rw[g1];rfl
   rw[e1];exact⟨_,rfl⟩
theorem clear0 (h:Cm W lg S) (hT:Trn X S) (hO:S.Ok (96+k) m):
  ∃V,S.clear=(V,0)/\Cm W lg V/\Trn X V/\V.Ok k m/\Kp S V/\V.T=S.T/\V.op=S.op/\V.next=S.next/\V.rows=S.rows+S.N.pages*(t7 (D3 S.t S.T) S.op S.t.b).length/\((∀b,S.t.has b=true->(S.t.at_ b).held=false)->t7 (D3 V.t V.T) V.op V.t.b=[])/\
   ∀(c:Nat) (kp:Int) (β:Nat),(S.armed c kp).Ok (96+k) m->β<=S.N.pages*S.t.blanks+S.N.pages->(∃c',(S.armed c kp).clear=(V.armed c' kp,0))\/∃Z,(S.armed c kp).clear=(Z,(9:Int))/\Lf S.N W lg X β k m S.next Z.N:=by
 have hk:=Dv.clear_keep hO;have hI:=h.gi.inv;obtain⟨N',t',c1,c2,c3⟩:=hI.clear_hd hO h.gi.hd;have hnf:=c2.nofl ⟨h.no.dead,h.no.fl⟩;have he:ErsP S.N S.clear.1.N (t7 (D3 S.t S.T) S.op S.t.b):=a2G _ _ _;rw[c1]at hk he;refine⟨_,c1,⟨h.gi.cleared c1 c2 c3,⟨hnf.1.1,List.eq_nil_iff_forall_not_mem.2 λa ha=>(by have:=c2.plan a ha;rw[h.no.plan]at this;cases this),λi j=>(hnf.2 i j).trans (h.no.met i j),hnf.1.2⟩,h.log⟩,hT.moved hI rfl (.inl rfl) c2.like (c2.lit.off.trans hI.lit.off.symm) c2.dead (hI.ers_same hO he rfl),hk.1,⟨c2.like,c2.dead,c2.broken,c2.has,c2.held,O8 _⟩,rfl,rfl,rfl,?_,λhh=>?_,λc kp β hA hβ=>?_⟩
 ·unfold Dv.rows;show N'.pages*t'.blanks+(if S.op>=0 then((N'.pages:Int)-S.row).toNat else 0)=_;rw[c2.blanks,c2.like.pages,a2P];omega
 ·refine a3p _ λx hx=>?_;have hx:x<t'.b:=hx;have htb:t'.b=S.t.b:=by rw[c2.fit.b,hO.t.b,c2.like.blocks]
  have hhas:S.t.has (x:Int)=true:=Tl.has_iff.2 (by omega);have hhas':t'.has (x:Int)=true:=by rw[c2.has];exact hhas
  cases h1:(((x:Int) !=S.op)&&D3 t' S.T x)with
  | false=>rfl
  | true=>
   exfalso
   rw[f8]at h1;have h2:=h1.2;unfold D3 at h2;simp only[f8,i4]at h2;have hu':(t'.at_ x).used=true:=by
    have:=h2.1.1.2;unfold Tl.blank at this;rw[hhas']at this;simpa using this
   by_cases hm:(x:Int)∈t7 (D3 S.t S.T) S.op S.t.b
   ·rw[c2.blank _ hm]at hu';cases hu'
   ·refine hm (mem_pkSome.2 ⟨by omega,by omega,by simpa using h1.1,?_⟩);unfold D3;rw[hI.usable hO hhas,h2.2];unfold Tl.blank Tl.held;rw[hhas,<- c2.rest _ hhas hm,hu',hh _ hhas];rfl
 ·obtain⟨a1,a2⟩:=S.clear_arm c kp hI.lit;rcases a2 with⟨c',g⟩ | ⟨N2,t2,g1,g2⟩
  ·exact .inl ⟨c',by rw[g,c1]⟩
  ·right;refine⟨_,g1,?_⟩;have hkA:=(Dv.clear_keep hA).1.gd;have he:ErsP (arm S.N c kp) (S.armed c kp).clear.1.N (t7 (D3 S.t S.T) S.op S.t.b):=a2G _ _ _;have hq0:Qt S.N:=⟨h.no.dead,h.no.plan,λi j=>⟨h.no.met i j,h.no.fl i j⟩⟩;have hq:Qt (S.armed c kp).clear.1.N:=Qt.clearGo (t7 (D3 S.t S.T) S.op S.t.b) (arm S.N c kp) S.t (hq0.arm c kp);rw[g1]at hkA he hq;have hkA:N2.Gd k m:=hkA;have he:ErsP (arm S.N c kp) N2 (t7 (D3 S.t S.T) S.op S.t.b):=he;have hq:Qt N2:=hq;have hlkO:S.N.Like N2.onN:=⟨he.like.dies,he.like.blocks,he.like.pages⟩;have hs:=hI.ers_same hO he rfl;refine⟨g2,⟨he.like.dies,he.like.blocks,he.like.pages⟩,he.dead,he.broken,{S with N:=N2.onN,op:= -1},rfl,⟨?_,⟨hq.dead,hq.plan,λi j=>(hq.flags i j).1,λi j=>(hq.flags i j).2⟩,h.log⟩,hT.moved hI rfl (.inr rfl) hlkO hI.lit.off.symm he.dead hs,⟨Nand.Gd.on hkA,hO.t.like hlkO,hO.T,hO.sl,hO.row,hO.next⟩,rfl,?_,O8 _⟩
   ·refine h.gi.cut hlkO ⟨rfl,rfl⟩ he.dead (λa ha=>?_) (λi j=>?_) (λb hb hu d=>?_) (λd b r c' hc'=>?_) (λi a ha=> .inl λd=>hs i a ha d _)
    ·have ha:a∈N2.plan:=ha;rw[hq.plan]at ha;cases ha
    ·exact⟨(hq.flags i j).1.trans (h.no.met i j).symm,(hq.flags i j).2.trans (h.no.fl i j).symm⟩
    ·show(N2.blk d b.toNat).cells=(S.N.blk d b.toNat).cells;rw[he.rest _ _ λy hy e=>?_]
     ·rfl
     ·have y2:=(hI.spent_er hO hy).used;have y1:=(mem_pkSome.1 hy).1;have:=Tl.has_iff.1 hb;have:b=y:=by omega
      rw[this,y2]at hu;cases hu
    ·rcases he.less d b r c' hc' with e | e
     ·exact .inl (.inl e)
     ·exact .inr ⟨c',e,λ_ h=>h,λh=>h⟩
   ·show β<=N2.pages*S.t.blanks+N2.pages;rw[show N2.pages=S.N.pages from he.like.pages];exact hβ
end Cm
theorem Lf.swap {N0:Nand} {W:List (Int×En)} {lg β k m n:Nat} {X:List Int} {nx:Int} {N':Nand} {E:List En} (h:Lf N0 (a0W W E n) lg X β k m nx N') (hW:WOk W) (hE:∀j,j<n->∃e sq,Tb.look W (E.getD j En.zero).lpn=some e/\E.getD j En.zero={e with seq:=sq}) (hd:∀i j,i<j->j<n->(E.getD i En.zero).lpn≠(E.getD j En.zero).lpn):Lf N0 W lg X β k m nx N':=by
 obtain⟨V,v1,v2,v3⟩:=h.ex;exact⟨h.off,h.like,h.dead,h.broken,V,v1,⟨v2.gi.swap hW hE hd,v2.no,v2.log⟩,v3⟩
namespace Cm
variable {W : List (Int × En)} {lg k m : Nat} {S : Dv} {X : List Int}
theorem carry_nil (f:Nat) (S:Dv) (done:Int):Dv.carryGo f S [] done=(S,done,0):=by
 cases f with
 | zero=>rfl
 | succ f=>rw[Dv.carryGo,d7 (show([]:List Int).length=0 from rfl)]
end Cm
structure Lft (v:Int) (I:List Int) (S:Dv):Prop where
 ne:v≠S.op
 has:S.t.has v=true
 used:(S.t.at_ v).used=true
 all:∀i a,Tb.look S.T.at_ i=some a->a.block=v->i∈I
namespace Cm
variable {W : List (Int × En)} {lg m : Nat} {X : List Int}
theorem carryA {v:Int}:∀(f:Nat) (S:Dv) (I:List Int) (done:Int) (ρ k:Nat),Cm W lg S->Trn X S->S.Ok (Dv.cost*f+k) m->I.length<=f->(∀i∈I,(Tb.look W i).isSome=true)->I.Nodup->I.length<=(S.N.dies-1)*ρ->ρ<=S.rows->Lft v I S->S.next+7*(f:Int)<=1099511627775-1300->
  ∃V,Dv.carryGo f S I done=(V,done+(I.length:Int),(0:Int))/\Cm W lg V/\Trn X V/\V.Ok k m/\S.rows<=V.rows+ρ/\Kp S V/\V.next<=S.next+7*(f:Int)/\Lft v [] V/\(I≠[]->1<=V.row)/\
   ∀(c:Nat) (kp:Int) (β:Nat),(S.armed c kp).Ok (Dv.cost*f+k) m->β+ρ<=S.rows+1->(∃c',Dv.carryGo f (S.armed c kp) I done=(V.armed c' kp,done+(I.length:Int),(0:Int)))\/∃Z n X',Dv.carryGo f (S.armed c kp) I done=(Z,n,(9:Int))/\X'.length<=X.length+(S.N.dies-1)/\(∀i∈X,i∈X')/\Lf S.N W lg X' β k m (S.next+7*(f:Int)) Z.N
 | f,S,[],done,ρ,k,h,hT,hO,_,_,_,_,_,hv,_=>⟨S,by rw[carry_nil];simp,h,hT,hO.less (by omega),by omega,Kp.refl S,by omega,hv,λe=>absurd rfl e,λc kp β _ _=> .inl ⟨c,by rw[carry_nil];simp⟩⟩
 | 0,S,_::_,done,ρ,k,_,_,_,hL,_,_,_,_,_,_=>absurd hL (by simp)
 | f+1,S,i0::I0,done,ρ,k,h,hT,hO,hL,hin,hnd,hlen,hrw,hv,hnx=>by
  obtain⟨I,hI⟩:∃I,i0::I0=I:=⟨_,rfl⟩;have hl0:I.length≠0:=by rw[<- hI];simp
  rw[hI]at hL hin hnd hlen hv ⊢;clear hI;have hg:=hO.gd.ok.bd16;have hρ:1<=ρ:=by
   rcases P9 ρ with e | e
   ·subst e;omega
   ·exact e
  have hr:0<S.rows:=by omega
  have hs:=h.gi.inv.slots_full2 hO hr;obtain⟨z,hz⟩:∃z,(max S.slots 1).toNat=z:=⟨_,rfl⟩;have hz2:z=S.N.dies-1:=by omega
  obtain⟨E,e1,e2,e3,e4,e5⟩:=h.gi.hd.rds h.gi.wok (I.take z) λi hi=>hin i (I7 hi);have hEl:E.length=min z I.length:=by rw[e2,l5]
  have hnd2:(E.map (·.lpn)).Nodup:=by rw[e3];exact hnd.sublist (List.take_sublist _ _)
  have hEnt:Ent lg E:=⟨λe he=>⟨e4 e he,by
   have:e.lpn∈I.take z:=by rw[<- e3];exact L9 he
   have h1:=hin _ (I7 this);obtain⟨w,hw⟩:=Option.isSome_iff_exists.1 h1;obtain⟨_,a,ha,_⟩:=h.gi.hd.each _ _ hw;have:=(hO.T.rng _ (Tb.look_mem ha)).2;rw[<- h.log];exact this⟩,hnd2⟩
  have hdisj:=a4A hnd2 (j3 E.length);have hE':∀j,j<E.length->∃e sq,Tb.look W (E.getD j En.zero).lpn=some e/\E.getD j En.zero={e with seq:=sq}:=λj hj=>e5 j (by rw[<- e2];omega);have hcs:Dv.cost*(f+1)=Dv.cost*f+Dv.cost:=J7 _ _;have hO1:S.Ok (8*Dv.fuel+(Dv.cost*f+k)) m:=hO.less (by unfold Dv.cost at hcs ⊢;omega);obtain⟨V,n,p0,p1,p2,p3,p4,p5,p6,p7,p8,p9,p10,p11,p12,p13⟩:=h.pen0 (k:=Dv.cost*f+k) hT hO1 hr hEnt (by omega) (by omega);have hn:n=E.length:=by omega
  subst hn;have hCV:Cm W lg V:=⟨p2.gi.swap h.gi.wok hE' hdisj,p2.no,p2.log⟩;have hTV:Trn X V:=p3 X λi hi=> .inl hi;have hmem:∀i∈I,i∉I.drop E.length->∃j,j<E.length/\(E.getD j En.zero).lpn=i:=λi hi hd=>by
   rw[<- C4 z I]at hi;rcases List.mem_append.1 hi with h1 | h1
   ·rw[<- e3]at h1;obtain⟨e,he,hei⟩:=List.mem_map.1 h1;obtain⟨j,hj,hje⟩:=List.mem_iff_getElem.1 he;exact⟨j,hj,by rw[d5,c9 hj,j4,hje];exact hei⟩
   ·refine absurd ?_ hd;rw[hEl];rcases Nat.le_total z I.length with e | e
    ·rw[K5 e];exact h1
    ·rw[Y4 e]at h1;cases h1
  have hne:v≠V.op:=λe=>by
   rcases p9 with x | x
   ·exact hv.ne (e.trans x)
   ·rw[<- e,hv.used]at x;cases x
  have hvV:Lft v (I.drop E.length) V:=⟨hne,by rw[p6.has];exact hv.has,p10 v hv.has hv.used,λi a ha hb=>by
   refine O0 λhd=>?_
   by_cases hex:∃j,j<E.length/\(E.getD j En.zero).lpn=i
   ·obtain⟨j,hj,rfl⟩:=hex;obtain⟨a',x1,x2⟩:=p11 j hj;rw[ha]at x1;injection x1 with x1;rw[<- x1,hb]at x2;exact hne x2
   ·rw[p12 i λj hj e=>hex ⟨j,hj,e⟩]at ha;exact hex (hmem i (hv.all i a ha hb) hd)⟩
  have hdl:(I.drop E.length).length=I.length-E.length:=C5;have hmul:(S.N.dies-1)*ρ=(S.N.dies-1)*(ρ-1)+(S.N.dies-1):=by
   obtain⟨z,rfl⟩:∃z,ρ=z+1:=⟨ρ-1,by omega⟩;rw[J7];rfl
  have hdies:=p6.like.dies;obtain⟨U,r1,r2,r3,r4,r5,r6,r7,r8,r9,r10⟩:=carryA f V (I.drop E.length) (done+(E.length:Int)) (ρ-1) k hCV hTV p4 (by omega) (λi hi=>hin i (W6 hi)) (hnd.sublist (List.drop_sublist _ _)) (by rw[hdies];omega) (by omega) hvV (by omega);have hdn:done+(E.length:Int)+((I.drop E.length).length:Int)=done+(I.length:Int):=by omega
  rw[hdn]at r1 r10;refine⟨U,?_,r2,r3,r4,by omega,p6.trans r6,by omega,r8,λ_=>?_,λc kp β hA hβ=>?_⟩
  ·rw[Dv.carryGo,d4 hl0,hz];dsimp only;rw[e1];dsimp only;rw[d4 (by decide),p1];dsimp only;rw[d4 (by decide),i9];exact r1
  ·by_cases he:I.drop E.length=[]
   ·rw[he,carry_nil]at r1;injection r1 with r1;rw[<- r1];exact p8
   ·exact r9 he
  ·have hA1:(S.armed c kp).Ok (8*Dv.fuel+(Dv.cost*f+k)) m:=hA.less (by unfold Dv.cost at hcs ⊢;omega);have hkA:=Dv.pen_keep hA1 (λe he=>(hEnt.1 e he).1.len);rw[Dv.carryGo,d4 hl0,show(S.armed c kp).slots=S.slots from rfl,hz];dsimp only;rw[Hd.rds_arm,e1];dsimp only;rw[d4 (by decide)];rcases p13 c kp hA1 with⟨c',hc⟩ | ⟨Z,p,c1,c2,c4⟩
   ·rw[hc]at hkA ⊢;dsimp only;rw[d4 (by decide),i9];rcases r10 c' kp β hkA.1 (by omega)with r | ⟨Z,n,X',r1,r3,r4,r5⟩
    ·exact .inl r
    ·exact .inr ⟨Z,n,X',r1,by rw[hdies]at r3;exact r3,r4,r5.kp p6 (λ_ h=>h) (j3 _) (j3 _) (by omega)⟩
   ·rw[c1];dsimp only;rw[d7 (by decide)];refine .inr ⟨Z,done+0,X++E.map (·.lpn),rfl,by rw[d8,j5];omega,λi hi=>List.mem_append_left _ hi,?_⟩;have:=(c4 (X++E.map (·.lpn)) (λi hi=>List.mem_append_left _ hi) (λj hj=>List.mem_append_right _ (L9 (W5 (by omega))))).swap h.gi.wok (λj hj=>hE' j (by omega)) (λi j hij hj=>hdisj i j hij (by omega));exact this.mono ⟨Nand.Like.refl _,rfl,rfl⟩ (λ_ h=>h) (by omega) (by omega) (by omega)
theorem emptyA {S:Dv} {ρ k:Nat} (h:Cm W lg S) (hT:Trn X S) (hO:S.Ok (Dv.costR+k) m) (hlg:lg<=1000) (hρ:ρ<=S.N.pages) (hr:ρ<=S.rows) (hnx:S.next<=1099511627775-3000000) {v:Int} (hv:v∈t7 (Q8 S.t S.T) S.op S.t.b) (hlen:(S.T.ins v).length<=(S.N.dies-1)*ρ):
  ∃C n U,S.carry v (S.T.count v)=(C,n,(0:Int))/\C.clear=(U,0)/\Cm W lg U/\Trn X U/\U.Ok k m/\Kp S U/\S.rows+S.N.pages<=U.rows+ρ/\U.next<=S.next+400/\((∀b,S.t.has b=true->(S.t.at_ b).held=false)->t7 (D3 U.t U.T) U.op U.t.b=[])/\
   ∀(c:Nat) (kp:Int) (β:Nat),(S.armed c kp).Ok (Dv.costR+k) m->β+ρ<=S.rows+1->(∃c' c2,(S.armed c kp).carry v (S.T.count v)=(C.armed c' kp,n,(0:Int))/\(C.armed c' kp).clear=(U.armed c2 kp,0))\/∃Z X',((∃n,(S.armed c kp).carry v (S.T.count v)=(Z,n,(9:Int)))\/∃c',(S.armed c kp).carry v (S.T.count v)=(C.armed c' kp,n,(0:Int))/\(C.armed c' kp).clear=(Z,(9:Int)))/\X'.length<=X.length+(S.N.dies-1)/\(∀i∈X,i∈X')/\Lf S.N W lg X' β k m (S.next+400) Z.N:=by
 have hg:=hO.gd.ok.bd16;obtain⟨v1,v2,v3,v4⟩:=mem_pkSome.1 hv;unfold Q8 Tl.held at v4;simp only[f8,d6,i4]at v4;obtain⟨v5,v6⟩:=v4;have vh:S.t.has v=true:=Tl.has_iff.2 ⟨v1,v2⟩;rw[vh,q9]at v6;have hcn:=hO.T.cnt v;have hil:=ins_len hO.T v;obtain⟨w,hw⟩:∃i,i∈S.T.ins v:=by
  have hpos:0<Tb.cntB S.T.at_ v:=by omega
  obtain⟨x,hx,hxb⟩:=List.countP_pos_iff.1 hpos;exact⟨x.1,b4B hO.T (a5A hO.T hx) (by simpa using hxb)⟩
 have hvu:(S.t.at_ v).used=true:=by
  obtain⟨a,ha,hab⟩:=b8m hw;rw[<- hab];exact(h.gi.inv.st _ a ha).used
 have hlρ:(S.N.dies-1)*ρ<=5*8:=U4 (by omega) (by omega);have htake:(S.T.ins v).take (max (S.T.count v) 0).toNat=S.T.ins v:=x9 (by omega);have hcar:S.carry v (S.T.count v)=Dv.carryGo (S.T.ins v).length S (S.T.ins v) 0:=by unfold Dv.carry;dsimp only;rw[htake]
 have hcarA:∀c kp,(S.armed c kp).carry v (S.T.count v)=Dv.carryGo (S.T.ins v).length (S.armed c kp) (S.T.ins v) 0:=λc kp=>by
  unfold Dv.carry;show Dv.carryGo ((S.T.ins v).take (max (S.T.count v) 0).toNat).length (S.armed c kp) ((S.T.ins v).take (max (S.T.count v) 0).toNat) 0=_;rw[htake]
 have hcost:Dv.cost*(S.T.ins v).length<=Dv.cost*65536:=y9 _ (by omega);have hle:Dv.cost*(S.T.ins v).length+(96+k)<=Dv.costR+k:=by unfold Dv.costR Dv.costC;omega
 obtain⟨V,r1,r2,r3,r4,r5,r6,r7,r8,r9,r10⟩:=carryA (v:=v) (S.T.ins v).length S (S.T.ins v) 0 ρ (96+k) h hT (hO.less hle) (j3 _) (λi hi=>by
  obtain⟨a,ha,_⟩:=b8m hi;cases hw:Tb.look W i with
  | none=>rw[h.gi.hd.none hw]at ha;cases ha
  | some e=>rfl) (b5U _ _) hlen hr ⟨v3,vh,hvu,λi a ha hb=>b4B hO.T ha hb⟩ (by omega)
 have r9:=r9 λe=>by rw[e]at hw;cases hw
 obtain⟨U,u1,u2,u3,u4,u5,u6,u7,u8,u9,u10,u11⟩:=r2.clear0 (k:=k) r3 r4;have hgV:=r4.gd.ok.bd16;have hVb:V.t.b=S.t.b:=by
  have h1:=r4.t.b;have h2:=hO.t.b;have h3:=r6.like.blocks;omega
 have hvs:v∈t7 (D3 V.t V.T) V.op V.t.b:=by
  refine mem_pkSome.2 ⟨v1,by omega,r8.ne,?_⟩;unfold D3 Tl.blank Tl.held;have hcv:V.T.count v=0:=by
   rw[r4.T.cnt];have:Tb.cntB V.T.at_ v=0:=by
    unfold Tb.cntB;rw[a5h];intro x hx hxb;have:=r8.all _ _ (a5A r4.T hx) (by simpa using hxb);cases this
   rw[this];rfl
  rw[r2.gi.inv.usable r4 r8.has,r8.has,r8.used,r6.held v vh,v6,hcv];rfl
 have hsl:1<=(t7 (D3 V.t V.T) V.op V.t.b).length:=b0E hvs;have hmul:V.N.pages*1<=V.N.pages*(t7 (D3 V.t V.T) V.op V.t.b).length:=y9 _ hsl;have hpp:=r6.like.pages;refine⟨V,_,U,hcar.trans r1,u1,u2,u3,u4,r6.trans u5,by omega,by omega,λhh=>u10 λb hb=>by rw[r6.has]at hb;rw[r6.held b hb];exact hh b hb,λc kp β hA hβ=>?_⟩;have hkA:=Dv.carry_keep (k:=96+k) (hA.less (by unfold Dv.costR;omega)) v (S.T.count v);rw[hcarA]at hkA ⊢;rcases r10 c kp β (hA.less hle) hβ with⟨c',hc⟩ | ⟨Z,n,X',z1,z2,z3,z4⟩
 ·rw[hc]at hkA;rcases u11 c' kp β hkA.1 (by
   have h1:V.rows+1<=V.N.pages*V.t.blanks+V.N.pages:=by
    unfold Dv.rows;split<;>omega
   omega)with⟨c2,hc2⟩ | ⟨Z,z1,z2⟩
  ·exact .inl ⟨c',c2,hc,hc2⟩
  ·exact .inr ⟨Z,X, .inr ⟨c',hc,z1⟩,by omega,λ_ h=>h,z2.kp r6 (λ_ h=>h) (j3 _) (j3 _) (by omega)⟩
 ·exact .inr ⟨Z,X', .inl ⟨n,z1⟩,z2,z3,z4.mono ⟨Nand.Like.refl _,rfl,rfl⟩ (λ_ h=>h) (j3 _) (by omega) (by omega)⟩
theorem roomGoA {Q : Nat → Dv → Prop} {β : Nat} (hQ : ∀ (f : Nat) (S : Dv) (k : Nat), Q (f + 1) S → Cm W lg S → S.Ok k m → ¬ (S.free : Int) > 4 → S.victim ∈ t7 (Q8 S.t S.T) S.op S.t.b → S.T.count S.victim < S.t.p * G.slots (S.t.mask S.victim) →
   ∃ρ,(S.T.ins S.victim).length<=(S.N.dies-1)*ρ/\ρ<=S.N.pages/\ρ<=S.rows/\β+ρ<=S.rows+1/\∀U,Kp S U->S.rows+S.N.pages<=U.rows+ρ->((∀b,S.t.has b=true->(S.t.at_ b).held=false)->t7 (D3 U.t U.T) U.op U.t.b=[])->Q f U) (hlg:lg<=1000):
  ∀(f:Nat) (S:Dv) (k:Nat),Q f S->Cm W lg S->Trn X S->S.Ok (Dv.costR*f+k) m->S.next+400*(f:Int)<=1099511627775-3000000->
  ∃V,Dv.roomGo f S=(V,0)/\Cm W lg V/\Trn X V/\V.Ok k m/\Kp S V/\V.next<=S.next+400*(f:Int)/\(∃f',Q f' V/\(f'=0\/(V.free:Int)>4\/V.victim<0\/V.T.count V.victim>=V.t.p*G.slots (V.t.mask V.victim)))/\
   ∀(c:Nat) (kp:Int),(S.armed c kp).Ok (Dv.costR*f+k) m->(∃c',Dv.roomGo f (S.armed c kp)=(V.armed c' kp,0))\/∃Z X',Dv.roomGo f (S.armed c kp)=(Z,(9:Int))/\X'.length<=X.length+(S.N.dies-1)/\(∀i∈X,i∈X')/\Lf S.N W lg X' β k m (S.next+400*(f:Int)) Z.N
 | 0,S,k,hq,h,hT,hO,_=>⟨S,rfl,h,hT,hO.less (by omega),Kp.refl S,by omega,⟨0,hq, .inl rfl⟩,λc _ _=> .inl ⟨c,rfl⟩⟩
 | f+1,S,k,hq,h,hT,hO,hnx=>by
  have hg:=hO.gd.ok.bd16;have hA0:∀c kp,Dv.roomGo (f+1) (S.armed c kp)=if(S.free:Int)>4 then(S.armed c kp,0)else if S.victim<0\/S.T.count S.victim>=S.t.p*G.slots (S.t.mask S.victim)then(S.armed c kp,0)else(let x:=(S.armed c kp).carry S.victim (S.T.count S.victim);if x.2.2≠0 then(x.1,x.2.2)else(let d:=x.1.clear;if d.2≠0 then d else Dv.roomGo f d.1)):=λ_ _=>rfl
  rw[Dv.roomGo]
  by_cases hfr:(S.free:Int)>4
  ·rw[d7 hfr];exact⟨S,rfl,h,hT,hO.less (by omega),Kp.refl S,by omega,⟨_,hq, .inr (.inl hfr)⟩,λc _ _=> .inl ⟨c,by rw[hA0,d7 hfr]⟩⟩
  rw[d4 hfr]
  by_cases hvc:S.victim<0\/S.T.count S.victim>=S.t.p*G.slots (S.t.mask S.victim)
  ·rw[d7 hvc];exact⟨S,rfl,h,hT,hO.less (by omega),Kp.refl S,by omega,⟨_,hq, .inr (.inr hvc)⟩,λc _ _=> .inl ⟨c,by rw[hA0,d4 hfr,d7 hvc]⟩⟩
  rw[d4 hvc];have hvm:S.victim∈t7 (Q8 S.t S.T) S.op S.t.b:=by
   rcases a6i (λx y=>orI [R7 (S.T.count x) (S.T.count y),R7 (S.t.wear x) (S.t.wear y)]) (Q8 S.t S.T) S.op S.t.b with e | e
   ·exact absurd (.inl (by show S.victim<0;unfold Dv.victim;rw[e.1];decide)) hvc
   ·exact e.1
  obtain⟨ρ,q1,q2,q3,q4,q5⟩:=hQ f S _ hq h hO hfr hvm (by
   rcases Int.lt_or_le (S.T.count S.victim) (S.t.p*G.slots (S.t.mask S.victim))with e | e
   ·exact e
   ·exact absurd (.inr e) hvc)
  rw[J7]at hO;obtain⟨C,n,U,u1,u2,u3,u4,u5,u6,u7,u8,u9,u10⟩:=h.emptyA (k:=Dv.costR*f+k) hT (hO.less (by omega)) hlg q2 q3 (by omega) hvm q1;obtain⟨V,w1,w2,w3,w4,w5,w6,w7,w8⟩:=roomGoA hQ hlg f U k (q5 U u6 u7 u9) u3 u4 u5 (by omega);have hdies:=u6.like.dies;rw[u1];dsimp only;rw[d4 (by decide),u2];dsimp only;rw[d4 (by decide)];refine⟨V,w1,w2,w3,w4,u6.trans w5,by omega,w7,λc kp hA=>?_⟩;rw[J7]at hA;have hA2:(S.armed c kp).Ok (Dv.costR+(Dv.costR*f+k)) m:=hA.less (by omega);rw[hA0,d4 hfr,d4 hvc];have hkA:=Dv.carry_keep (k:=96+(Dv.costR*f+k)) (hA2.less (by unfold Dv.costR;omega)) S.victim (S.T.count S.victim);rcases u10 c kp β hA2 q4 with⟨c',c2,a1,a2⟩ | ⟨Z,X',hz,z2,z3,z4⟩
  ·rw[a1]at hkA ⊢;have hkU:=Dv.clear_keep hkA.1;dsimp only at hkU ⊢;rw[d4 (by decide),a2]at*;dsimp only;rw[d4 (by decide)];rcases w8 c2 kp hkU.1 with r | ⟨Z,X',z1,z2,z3,z4⟩
   ·exact .inl r
   ·exact .inr ⟨Z,X',z1,by rw[hdies]at z2;exact z2,z3,z4.kp u6 (λ_ h=>h) (j3 _) (j3 _) (by omega)⟩
  ·refine .inr ⟨Z,X',?_,z2,z3,z4.mono ⟨Nand.Like.refl _,rfl,rfl⟩ (λ_ h=>h) (j3 _) (by omega) (by omega)⟩;rcases hz with⟨n',z1⟩ | ⟨c',a1,z1⟩
   ·rw[z1];dsimp only;rw[d7 (by decide)]
   ·rw[a1];dsimp only;rw[d4 (by decide),z1];dsimp only;rw[d7 (by decide)]
theorem roomA {S : Dv} {k : Nat} {Q : Nat → Dv → Prop} {β : Nat} (hQ : ∀ (f : Nat) (S : Dv) (k : Nat), Q (f + 1) S → Cm W lg S → S.Ok k m → ¬ (S.free : Int) > 4 → S.victim ∈ t7 (Q8 S.t S.T) S.op S.t.b → S.T.count S.victim < S.t.p * G.slots (S.t.mask S.victim) →
   ∃ρ,(S.T.ins S.victim).length<=(S.N.dies-1)*ρ/\ρ<=S.N.pages/\ρ<=S.rows/\β+ρ<=S.rows+1/\∀U,Kp S U->S.rows+S.N.pages<=U.rows+ρ->((∀b,S.t.has b=true->(S.t.at_ b).held=false)->t7 (D3 U.t U.T) U.op U.t.b=[])->Q f U) (hlg:lg<=1000)
  (hq:∀U,Kp S U->S.rows<=U.rows->((∀b,S.t.has b=true->(S.t.at_ b).held=false)->t7 (D3 U.t U.T) U.op U.t.b=[])->Q S.t.b U) (h:Cm W lg S) (hT:Trn X S) (hO:S.Ok (Dv.costM+k) m) (hβ:β<=S.rows) (hnx:S.next<=1099511627775-4000000):
  ∃V,S.room=(V,0)/\Cm W lg V/\Trn X V/\V.Ok k m/\Kp S V/\V.next<=S.next+6400/\(∃f',Q f' V/\(f'=0\/(V.free:Int)>4\/V.victim<0\/V.T.count V.victim>=V.t.p*G.slots (V.t.mask V.victim)))/\
   ∀(c:Nat) (kp:Int),(S.armed c kp).Ok (Dv.costM+k) m->(∃c',(S.armed c kp).room=(V.armed c' kp,0))\/∃Z X',(S.armed c kp).room=(Z,(9:Int))/\X'.length<=X.length+(S.N.dies-1)/\(∀i∈X,i∈X')/\Lf S.N W lg X' β k m (S.next+6400) Z.N:=by
 have hg:=hO.gd.ok.bd16;have hb:=hO.t.b;have hcb:Dv.costR*S.t.b<=Dv.costR*16:=y9 _ (by omega);have hle:96+(Dv.costR*S.t.b+k)<=Dv.costM+k:=by unfold Dv.costM;omega
 obtain⟨U,u1,u2,u3,u4,u5,u6,u7,u8,u9,u10,u11⟩:=h.clear0 (k:=Dv.costR*S.t.b+k) hT (hO.less hle);obtain⟨V,w1,w2,w3,w4,w5,w6,w7,w8⟩:=roomGoA hQ hlg S.t.b U k (hq U u5 (by omega) u10) u2 u3 u4 (by omega);have e2:∀c kp,(S.armed c kp).room=if(S.armed c kp).clear.2≠0 then(S.armed c kp).clear else Dv.roomGo S.t.b (S.armed c kp).clear.1:=λ_ _=>rfl
 have hrb:=h.gi.inv.rows_bl;refine⟨V,?_,w2,w3,w4,u5.trans w5,by omega,w7,λc kp hA=>?_⟩
 ·unfold Dv.room;rw[u1];dsimp only;rw[d4 (by decide)];exact w1
 ·have hkU:=Dv.clear_keep (hA.less hle);rw[e2];rcases u11 c kp β (hA.less hle) (by omega)with⟨c2,hc2⟩ | ⟨Z,z1,z2⟩
  ·rw[hc2]at hkU ⊢;dsimp only;rw[d4 (by decide)];rcases w8 c2 kp hkU.1 with r | ⟨Z,X',z1,z2,z3,z4⟩
   ·exact .inl r
   ·exact .inr ⟨Z,X',z1,by rw[u5.like.dies]at z2;exact z2,z3,z4.kp u5 (λ_ h=>h) (j3 _) (j3 _) (by omega)⟩
  ·rw[z1];dsimp only;rw[d7 (by decide)];exact .inr ⟨Z,X,rfl,by omega,λ_ h=>h,z2.mono ⟨Nand.Like.refl _,rfl,rfl⟩ (λ_ h=>h) (j3 _) (by omega) (by omega)⟩
end Cm
theorem Inv.mt_blanks {S:Dv} {k m:Nat} (h:Inv (-2) S) (hO:S.Ok k m):S.N.pages*S.t.blanks<=(Dv.mt0 S.N).rows:=by
 have hg:=hO.gd.ok.bd16;have hO0:(Dv.mt0 S.N).Ok k m:=Dv.Ok.mt0 hO.gd;obtain⟨_,_,t3⟩:=Tl.of_spec hO.gd.ok;have hb1:=hO.t.b;have hb2:=hO0.t.b;have hN0:(Dv.mt0 S.N).N=S.N:=rfl;have hbl:S.t.blanks<=(Dv.mt0 S.N).t.blanks:=by
  rw[a1S hO.t.len,a1S hO0.t.len,show(Dv.mt0 S.N).t.b=S.t.b from by rw[hb2,hb1];rfl];refine List.countP_mono_left λx hx hu=>?_;have hx:=List.mem_range.1 hx;have hhas:S.t.has (x:Int)=true:=Tl.has_iff.2 (by omega);have hu:(S.t.at_ (x:Int)).used=false:=by simpa using hu
  have h3:=(t3 x (by omega)).2.2;show(!((Tl.of S.N).at_ (x:Nat)).used)=true;rw[h3];have:a4K (Tl.of S.N).dead S.N x S.N.dies=false:=by
   unfold a4K;rw[X1];intro d hd;have hd:=List.mem_range.1 hd;have hm:=(h.msk hO hhas).all d hd (by omega);have hc:=h.blank _ hhas hu d hm;rw[i9]at hc;rw[hc];simp
  rw[this];rfl
 show S.N.pages*S.t.blanks<=S.N.pages*(Dv.mt0 S.N).t.blanks+(if(-1:Int)>=0 then _ else 0);have:=y9 S.N.pages hbl;omega
theorem b5H {N:Nand} {d b r:Int} (hoff:N.off=false) (hd:0<=d/\d<N.dies) (hb:0<=b/\b<N.blocks) (hr:0<=r/\r<N.pages) (hdead:N.dead.getD d.toNat false=false):(M.look N d b r).2≠4:=by
 have hrf:N.refuses d b r=0:=by
  unfold Nand.refuses;rw[hoff,d4 (by decide),Nand.geoIn_of hd hb hr,d4 (by decide),hdead];rfl
 have he:N.readE d b r=5\/N.readE d b r=6\/N.readE d b r=0:=by
  unfold Nand.readE;rw[hrf,d4 (by simp)];cases N.pageAt d b r with
  | none=>exact .inl rfl
  | some c=>
   dsimp only;cases c.lost with
   | true=>exact .inr (.inl rfl)
   | false=>exact .inr (.inr rfl)
 unfold M.look;rcases he with e | e | e
 ·simp[e]
 ·simp[e]
 ·simp only[e,a0d];split
  ·show(3:Int)≠4;decide
  ·show(1:Int)≠4;decide
namespace GI
variable {W : List (Int × En)} {S : Dv} {X : List Int} {k m : Nat}
theorem torn_stand (h:GI (-2) W S) (hno:NoF S) (hT:Trn X S) (hO:S.Ok k m) (i:Int) (hs:(V.standOf (V.of (V.all S.N) i)).2=true) (hw:(V.standOf (V.of (V.all S.N) i)).1.whole=false):i∈X/\V.last S.N (V.standOf (V.of (V.all S.N) i)).1=true:=by
 have hg:=hO.gd.ok.bd16;cases ha:Tb.look S.T.at_ i with
 | none=>rw[h.stand_none hO ha]at hs;cases hs
 | some a=>
  obtain⟨w,f,g1,g2,g3,g4,g5,g6,g7,⟨l,k',g8,_⟩,g9⟩:=h.stand hO ha;rw[g2]at hw ⊢;dsimp only at hw ⊢;rw[hw]at g9;rcases hT.each i a ha with⟨l',hF⟩ | ⟨t1,t2,t3⟩
  ·rw[hF.par_good h.inv.lit.off hno.dead]at g9;cases g9
  ·refine⟨t1,?_⟩;have hx:=j9 (Z7 a.block a.row a.mask l);obtain⟨n1,n2,_⟩:=g8.is.inn _ hx;unfold V.last;rw[g5,g6,g7,f8];refine⟨List.all_eq_true.2 λr hr=>?_,bne_iff_ne.2 (b5H h.inv.lit.off ⟨n1,n2⟩ g8.is.blk g8.is.row (hno.dead _))⟩;rw[j7]
   by_cases hle:(r:Int)<=a.row
   ·exact .inl (i7 hle)
   ·right;unfold V.blankRow M.rowN;rw[E8];intro x hx;obtain⟨d,hd,rfl⟩:=List.mem_map.1 hx;have hd:=List.mem_range.1 hd;have hp:=t3.after d hd r (by omega);unfold Nand.pageAt at hp;rw[List.getElem?_eq_none_iff]at hp;rcases a8y hp with e | e<;>rw[e]<;>rfl
theorem torn_few (h:GI (-2) W S) (hno:NoF S) (hT:Trn X S) (hO:S.Ok k m) (lg:Nat):((List.range lg).filterMap (V.tornF S.N (V.all S.N))).length<=X.length:=by
 have hgF:∀i e,V.tornF S.N (V.all S.N) i=some e->V.tornAt (V.all S.N) i=some e:=λi e he=>by
  unfold V.tornF at he;split at he
  ·exact he
  ·cases he
 have hsA:=b0J (g:=V.tornF S.N (V.all S.N)) (λi e he=>V.torn_lpn (hgF i e he)) lg;have hrn:((List.range lg).map λi:Nat=>(i:Int)).Nodup:=by
  have:(List.range lg).Nodup:=a3R;exact List.pairwise_map.2 (this.imp λhne e=>hne (by omega))
 have:=a1T (M:=X) (hsA.nodup hrn) λx hx=>by
  obtain⟨e,he,rfl⟩:=List.mem_map.1 hx;obtain⟨i,_,hi⟩:=List.mem_filterMap.1 he;have hi:=hgF i e hi;rw[V.torn_lpn hi];unfold V.tornAt at hi;split at hi
  ·rename_i hc;exact(h.torn_stand hno hT hO i hc.1 hc.2).1
  ·cases hi
 rwa [j5]at this
end GI
theorem Cm.victim_len {W:List (Int×En)} {lg k m:Nat} {S:Dv} (h:Cm W lg S) (hO:S.Ok k m) (hv:S.victim∈t7 (Q8 S.t S.T) S.op S.t.b) (hc:S.T.count S.victim<S.t.p*G.slots (S.t.mask S.victim)):(S.T.ins S.victim).length<=(S.N.dies-1)*S.N.pages:=by
 have hg:=hO.gd.ok.bd16;obtain⟨v1,v2,v3,v4⟩:=mem_pkSome.1 hv;have vh:S.t.has S.victim=true:=Tl.has_iff.2 ⟨v1,v2⟩;have hcn:=hO.T.cnt S.victim;have hil:=ins_len hO.T S.victim;have hms:=a2y (h.gi.inv.msk hO vh).calm2 hg.1;have hp:=hO.t.p;have e1:G.slots (S.t.mask S.victim)=((S.N.dies-1:Nat):Int):=by rw[hms.2];omega
 have e2:S.T.count S.victim<((S.N.pages*(S.N.dies-1):Nat):Int):=by
  rw[a2s,<- e1,<- hp];exact hc
 rw[V9];omega
namespace Cm
variable {W : List (Int × En)} {lg k m : Nat} {X : List Int} {S : Dv}
theorem roomHeld (β:Nat) (h:Cm W lg S) (hT:Trn X S) (hO:S.Ok (Dv.costM+k) m) (hlg:lg<=1000) (hr:S.N.pages<=S.rows) (hβ:β+S.N.pages<=S.rows+1) (hnx:S.next<=1099511627775-4000000):
  ∃V,S.room=(V,0)/\Cm W lg V/\Trn X V/\V.Ok k m/\Kp S V/\S.rows<=V.rows/\V.next<=S.next+6400/\
   ∀(c:Nat) (kp:Int),(S.armed c kp).Ok (Dv.costM+k) m->(∃c',(S.armed c kp).room=(V.armed c' kp,0))\/∃Z X',(S.armed c kp).room=(Z,(9:Int))/\X'.length<=X.length+(S.N.dies-1)/\(∀i∈X,i∈X')/\Lf S.N W lg X' β k m (S.next+6400) Z.N:=by
 have hg:=hO.gd.ok.bd16;obtain⟨V,v1,v2,v3,v4,v5,v6,⟨_,⟨_,v7⟩,_⟩,v8⟩:=h.roomA (β:=β) (Q:=λ_ U=>Kp S U/\S.rows<=U.rows) (λf U k hQ hC hU _ hv hc=>by
  have hp:=hQ.1.like.pages;refine⟨U.N.pages,hC.victim_len hU hv hc,j3 _,by omega,by omega,λU' hk hr _=>⟨hQ.1.trans hk,by omega⟩⟩) hlg (λU hk hr _=>⟨hk,hr⟩) hT hO (by omega) hnx
 exact⟨V,v1,v2,v3,v4,v5,v7,v6,v8⟩
theorem roomFree (β:Nat) (h:Cm W lg S) (hT:Trn X S) (hO:S.Ok (Dv.costM+k) m) (hlg:lg<=1000) (hcap:2*lg<=(S.N.blocks-5)*(S.N.pages*(S.N.dies-2))+1) (hh:∀b,S.t.has b=true->(S.t.at_ b).held=false) (h1:(S.N.pages+1)/2<=S.rows) (h2:5*S.N.pages<=S.rows+S.N.blocks*(S.N.pages/2)) (hβ:β+(S.N.pages+1)/2<=S.rows+1) (hnx:S.next<=1099511627775-4000000):
  ∃V,S.room=(V,0)/\Cm W lg V/\Trn X V/\V.Ok k m/\Kp S V/\5*S.N.pages<=V.rows/\V.next<=S.next+6400/\
   ∀(c:Nat) (kp:Int),(S.armed c kp).Ok (Dv.costM+k) m->(∃c',(S.armed c kp).room=(V.armed c' kp,0))\/∃Z X',(S.armed c kp).room=(Z,(9:Int))/\X'.length<=X.length+(S.N.dies-1)/\(∀i∈X,i∈X')/\Lf S.N W lg X' β k m (S.next+6400) Z.N:=by
 have hg:=hO.gd.ok.bd16;have hrm:∀(U:Dv) (k:Nat),Cm W lg U->U.Ok k m->Kp S U->Rmy (-2) W U:=λU k hC hU hk=>by
  refine⟨hC.gi.inv,hC.gi.hd,hC.gi.wok,λb hb=>by rw[hk.has]at hb;rw[hk.held b hb];exact hh b hb,?_⟩;have e1:U.T.at_.length=W.length:=by have:=congrArg List.length hC.gi.hd.keys;simpa using this
  have e2:=c2u hU.T;rw[hC.log]at e2;rw[hk.like.blocks,hk.like.pages,hk.like.dies];omega
 obtain⟨V,v1,v2,v3,v4,v5,v6,⟨f',⟨q1,q2,q3,q4⟩,q5⟩,v8⟩:=h.roomA (β:=β) (Q:=λf U=>Kp S U/\t7 (D3 U.t U.T) U.op U.t.b=[]/\S.rows<=U.rows/\5*S.N.pages<=U.rows+f*(S.N.pages/2)) (λf U k hQ hC hU hfr hv hc=>by
  obtain⟨b1,b2,b3,b4⟩:=hQ;obtain⟨_,_,_,_,_,a6,_⟩:=(hrm U k hC hU b1).victim hU b2 hfr;have hil:=ins_len hU.T U.victim;have hp:=b1.like.pages;have hd:=b1.like.dies;rw[hp,hd]at a6;have e1:S.N.pages*(S.N.dies-2)<=(2*((S.N.pages+1)/2))*(S.N.dies-1):=U4 (by omega) (by omega);have e2:(2*((S.N.pages+1)/2))*(S.N.dies-1)=2*((S.N.dies-1)*((S.N.pages+1)/2)):=by rw[a7E,V9 (_/2)]
  rw[P6 f]at b4;refine⟨(S.N.pages+1)/2,by rw[hd];omega,by omega,by omega,by omega,λU' hk hr hs=>⟨b1.trans hk,hs λb hb=>by rw[b1.has]at hb;rw[b1.held b hb];exact hh b hb,by omega,by omega⟩⟩) hlg (λU hk hr hs=>⟨hk,hs hh,hr,by rw[show S.t.b=S.N.blocks from hO.t.b];omega⟩) hT hO (by omega) hnx
 refine⟨V,v1,v2,v3,v4,v5,?_,v6,v8⟩;have hR:=hrm V k v2 v4 v5
 by_cases hfr:(V.free:Int)>4
 ·have:=hR.many v4 hfr;rw[v5.like.pages]at this;omega
 ·obtain⟨a1,_,_,_,_,_,a7⟩:=hR.victim v4 q2 hfr;rcases q5 with rfl | x | x | x
  ·omega
  ·exact absurd x hfr
  ·omega
  ·omega
theorem tornA {β:Nat} (hlg:lg<=1000):∀(f:Nat) (S:Dv) (E:List En) (r k:Nat),Cm W lg S->Trn (E.map (·.lpn)) S->S.Ok (Dv.costT*f+k) m->E.length<=f->Ent lg E->(∀e∈E,∃w sq,Tb.look W e.lpn=some w/\e={w with seq:=sq})->E.length<=(S.N.dies-1)*r->S.N.pages+r<=S.rows+1->β+S.N.pages+r<=S.rows+2->S.next+6500*(f:Int)<=1099511627775-5000000->
  ∃V,Dv.tornGo f S E=(V,0)/\Cm W lg V/\Trn [] V/\V.Ok k m/\Kp S V/\S.rows<=V.rows+r/\V.next<=S.next+6500*(f:Int)/\
   ∀(c:Nat) (kp:Int),(S.armed c kp).Ok (Dv.costT*f+k) m->(∃c',Dv.tornGo f (S.armed c kp) E=(V.armed c' kp,0))\/∃Z X',Dv.tornGo f (S.armed c kp) E=(Z,(9:Int))/\X'.length<=E.length+(S.N.dies-1)/\Lf S.N W lg X' β k m (S.next+6500*(f:Int)) Z.N
 | f,S,[],r,k,h,hT,hO,_,_,_,_,_,_,_=>by
  have e:∀S:Dv,Dv.tornGo f S []=(S,0):=λS=>by
   cases f with
   | zero=>rfl
   | succ f=>rw[Dv.tornGo,d7 (show([]:List En).length=0 from rfl)]
  exact⟨S,e S,h,hT,hO.less (by omega),Kp.refl S,by omega,by omega,λc kp _=> .inl ⟨c,e _⟩⟩
 | 0,S,_::_,r,k,_,_,_,hL,_,_,_,_,_,_=>absurd hL (by simp)
 | f+1,S,e0::E0,r,k,h,hT,hO,hL,hE,hm,hlen,hr,hβ,hnx=>by
  obtain⟨E,hEE⟩:∃E,e0::E0=E:=⟨_,rfl⟩;have hl0:E.length≠0:=by rw[<- hEE];simp
  rw[hEE]at hT hL hE hm hlen ⊢;clear hEE;have hg:=hO.gd.ok.bd16;have hr1:1<=r:=by
   rcases P9 r with e | e
   ·subst e;omega
   ·exact e
  have hct:Dv.costT*(f+1)+k=Dv.costM+(8*Dv.fuel+(Dv.costT*f+k)):=by
   rw[J7];unfold Dv.costT Dv.cost;omega
  rw[hct]at hO;obtain⟨U,u1,u2,u3,u4,u5,u6,u7,u8⟩:=h.roomHeld β hT hO hlg (by omega) (by omega) (by omega);obtain⟨V,n,p0,p1,p2,p3,p4,p5,p6,p7,_,_,_,_,_,p13⟩:=u2.pen0 (k:=Dv.costT*f+k) u3 u4 (by omega) hE hl0 (by omega);have hn:n<=E.length:=by omega
  have hdies:=u5.like.dies;have hdies2:=p6.like.dies;have hpp:=u5.like.pages;have hpp2:=p6.like.pages;have hE':∀j,j<E.length->∃e sq,Tb.look W (E.getD j En.zero).lpn=some e/\E.getD j En.zero={e with seq:=sq}:=λj hj=>hm _ (W5 hj);have hdisj:=a4A hE.2 hn;have hCV:Cm W lg V:=⟨p2.gi.swap h.gi.wok (λj hj=>hE' j (by omega)) hdisj,p2.no,p2.log⟩;have hdl:(E.drop n).length=E.length-n:=C5;have hTV:Trn ((E.drop n).map (·.lpn)) V:=p3 _ λi hi=>by
   obtain⟨e,he,rfl⟩:=List.mem_map.1 hi;rw[<- C4 n E]at he;rcases List.mem_append.1 he with h1 | h1
   ·obtain⟨j,hj,hje⟩:=List.mem_iff_getElem.1 h1;rw[l5]at hj;refine .inr ⟨j,by omega,?_⟩;rw[d5,c9 (by omega),j4,<- hje,a0o]
   ·exact .inl (L9 h1)
  have hmul:(S.N.dies-1)*r=(S.N.dies-1)*(r-1)+(S.N.dies-1):=by
   obtain⟨z,rfl⟩:∃z,r=z+1:=⟨r-1,by omega⟩;rw[J7];rfl
  obtain⟨Y,r1,r2,r3,r4,r5,r6,r7,r8⟩:=tornA (β:=β) hlg f V (E.drop n) (r-1) k hCV hTV p4 (by omega) ⟨λe he=>hE.1 e (W6 he),hE.2.sublist ((List.drop_sublist _ _).map _)⟩ (λe he=>hm e (W6 he)) (by rw[hdies2,hdies];omega) (by omega) (by omega) (by omega);have hk:=u5.trans p6;have hA0:∀S:Dv,Dv.tornGo (f+1) S E=(let r:=S.room;if r.2≠0 then r else let w:=r.1.pen E;if w.2.2≠0 then(w.1,w.2.2)else Dv.tornGo f w.1 (E.drop w.2.1.toNat)):=λS=>by rw[Dv.tornGo,d4 hl0]
  refine⟨Y,?_,r2,r3,r4,hk.trans r5,by omega,by omega,λc kp hA=>?_⟩
  ·rw[hA0,u1];dsimp only;rw[d4 (by decide),p1];dsimp only;rw[d4 (by decide),i9];exact r1
  ·rw[hct]at hA;have hkR:=Dv.room_keep hA;rw[hA0];rcases u8 c kp hA with⟨c',hc⟩ | ⟨Z,X',z1,z2,z3,z4⟩
   ·rw[hc]at hkR ⊢;have hkP:=Dv.pen_keep hkR.1 (λe he=>(hE.1 e he).1.len);dsimp only at hkP ⊢;rw[d4 (by decide)];rcases p13 c' kp hkR.1 with⟨c2,hc2⟩ | ⟨Z,p,z1,z2,z3⟩
    ·rw[hc2]at hkP ⊢;dsimp only;rw[d4 (by decide),i9];rcases r8 c2 kp hkP.1 with q | ⟨Z,X',z1,z2,z3⟩
     ·exact .inl q
     ·exact .inr ⟨Z,X',z1,by rw[hdies2,hdies]at z2;omega,z3.kp hk (λ_ h=>h) (j3 _) (j3 _) (by omega)⟩
    ·rw[z1];dsimp only;rw[d7 (by decide)];refine .inr ⟨Z,E.map (·.lpn),rfl,by rw[j5];omega,?_⟩;have:=(z3 (E.map (·.lpn)) (λi hi=>hi) (λj hj=>L9 (W5 (by omega)))).swap h.gi.wok (λj hj=>hE' j (by omega)) (λi j hij hj=>hdisj i j hij (by omega));exact this.kp u5 (λ_ h=>h) (by omega) (by omega) (by omega)
   ·rw[z1];dsimp only;rw[d7 (by decide)];exact .inr ⟨Z,X',rfl,by rw[j5]at z2;omega,z4.mono ⟨Nand.Like.refl _,rfl,rfl⟩ (λ_ h=>h) (j3 _) (by omega) (by omega)⟩
end Cm
structure Fq (W:List (Int×En)) (lg:Nat) (F:Fv):Prop where
 fi:FI (-2) W lg F
 cm:Cm W lg F.S
 trn:Trn [] F.S
 held:∀b,F.S.t.has b=true->(F.S.t.at_ b).held=false
 rows:5*F.S.N.pages<=F.S.rows+1
 cap:2*lg<=(F.S.N.blocks-5)*(F.S.N.pages*(F.S.N.dies-2))+1
def mtA (E:List En) (H:List Int) (A:Dv):Dv×Int:=if(A.torn E).2≠0 then A.torn E else if((A.torn E).1.holds H false).clear.2≠0 then((A.torn E).1.holds H false).clear else((A.torn E).1.holds H false).clear.1.room
theorem b7M {N:Nand} {s:Scd} {E:List En} (h:V.scan N (lgN N.dies N.blocks N.pages)=s) (h1:s.torn=E) (h2:s.first=E.length):O4 N=mtA E s.held ((Dv.mt0 N).holds s.held true):=by
 rw[a8r];dsimp only;rw[h,h1,h2,T6,List.drop_length];unfold mtA;split
 ·rfl
 split
 ·rfl
 rfl
namespace Cm
variable {W : List (Int × En)} {lg k m : Nat} {X : List Int} {S : Dv}
theorem mount_prep (h:Cm W lg S) (hT:Trn X S) (hO:S.Ok k m) (hlg:lgN S.N.dies S.N.blocks S.N.pages=lg):
  ∃(s:Scd) (W':List (Int×En)) (E:List En) (A:Dv),V.scan S.N (lgN S.N.dies S.N.blocks S.N.pages)=s/\s.torn=E/\s.first=E.length/\(Dv.mt0 S.N).holds s.held true=A/\E.length<=X.length/\(∀e∈E,e.lpn∈X)/\Cm W' lg A/\Trn (E.map (·.lpn)) A/\A.Ok k m/\Ent lg E/\(∀e∈E,∃w sq,Tb.look W' e.lpn=some w/\e={w with seq:=sq})/\(∀i,Tb.look W' i=Tb.look W i)/\S.N.pages*S.t.blanks<=A.rows/\A.N=S.N/\A.next<=S.next/\A.op= -1/\∀b,A.t.has b=true->b∉s.held->(A.t.at_ b).held=false:=by
 have hl2:=a1P hO.gd.ok;have hn1:=hO.next;have hnle:=h.gi.next_le hO;have hlogS:S.T.logical=(lgN S.N.dies S.N.blocks S.N.pages:Int):=by rw[hlg];exact h.log
 obtain⟨W',w1,w2,w3,w4,w5⟩:=h.gi.mt0 hO hlogS;have hO0:(Dv.mt0 S.N).Ok k m:=Dv.Ok.mt0 hO.gd;have hC0:Cm W' lg (Dv.mt0 S.N):=⟨w3,⟨h.no.dead,h.no.plan,h.no.met,h.no.fl⟩,by rw[Dv.mt0_log hO.gd,hlg]⟩;obtain⟨s1,s2⟩:=V.goS_fb (N:=S.N) (L:=V.all S.N) (lg:Int) lg;have hsz:V.size (lg:Int)=lg:=by unfold V.size;omega
 have hfew:=h.gi.torn_few h.no hT hO lg;have htorn:=h.gi.torn_stand h.no hT hO;obtain⟨E,hE⟩:∃E,(List.range lg).filterMap (V.tornF S.N (V.all S.N))=E:=⟨_,rfl⟩;have hEB:(List.range lg).filterMap (V.tornB S.N (V.all S.N))=[]:=by
  rw[List.filterMap_eq_nil_iff];intro i _;unfold V.tornB;split
  ·rfl
  ·rename_i hl;unfold V.tornAt;rw[d4];rintro⟨x1,x2⟩;exact hl (htorn i x1 x2).2
 rw[hE]at s1 hfew;rw[hEB]at s2;have hmF:∀i e,V.tornF S.N (V.all S.N) i=some e->V.tornAt (V.all S.N) i=some e:=λi e he=>by
  unfold V.tornF at he;split at he
  ·exact he
  ·cases he
 have hsA:=b0J (g:=V.tornF S.N (V.all S.N)) (λi e he=>V.torn_lpn (hmF i e he)) lg;rw[hE]at hsA;have hrn:((List.range lg).map λi:Nat=>(i:Int)).Nodup:=by
  have:(List.range lg).Nodup:=a3R;exact List.pairwise_map.2 (this.imp λhne e=>hne (by omega))
 have hm:∀e∈E,(FitR e/\e.lpn<(lg:Int))/\e.lpn∈X/\∃w sq,Tb.look W' e.lpn=some w/\e={w with seq:=sq}:=λe he=>by
  rw[<- hE,a2K]at he;obtain⟨i,hi,hie⟩:=he;have hi:=List.mem_range.1 hi;have hie:=hmF i e hie;have hlp:=V.torn_lpn hie;unfold V.tornAt at hie;split at hie
  ·rename_i hc;injection hie with hie;cases ha:Tb.look S.T.at_ (i:Int)with
   | none=>have:=hc.1;rw[h.gi.stand_none hO ha]at this;cases this
   | some a=>
    obtain⟨w,f,g1,g2,_,g4,_⟩:=h.gi.stand hO ha;rw[g2]at hie;have i3:e={w with seq:=a.seq}:=hie.symm.trans g4;have hwk:=h.gi.wok _ w g1;exact⟨⟨by rw[i3];exact⟨hwk.2.lpn,hwk.2.role,hwk.2.len⟩,by omega⟩,by rw[hlp];exact(htorn i hc.1 hc.2).1,w,a.seq,by rw[hlp,w1];exact g1,i3⟩
  ·cases hie
 obtain⟨s,hs⟩:∃s,V.scan S.N (lgN S.N.dies S.N.blocks S.N.pages)=s:=⟨_,rfl⟩;have hst:s.torn=E:=by
  rw[<- hs,hlg];show(V.goS S.N (V.all S.N) lg (V.size lg)).torn++(V.goS S.N (V.all S.N) lg (V.size lg)).others=E;rw[hsz,s1,s2,l8]
 have hsf:s.first=E.length:=by
  rw[<- hs,hlg];show(V.goS S.N (V.all S.N) lg (V.size lg)).torn.length=E.length;rw[hsz,s1]
 obtain⟨a1,a2,a3⟩:=hC0.holds hO0.t s.held true;refine⟨s,W',E,_,hs,hst,hsf,rfl,hfew,λe he=>(hm e he).2.1,a1,⟨λi a' ha'=>?_⟩,hO0.holds s.held true,⟨λe he=>(hm e he).1,hsA.nodup hrn⟩,λe he=>(hm e he).2.2,w1,?_,rfl,?_,rfl,λb hb hn=>?_⟩
 ·have ha':Tb.look (Dv.mt0 S.N).T.at_ i=some a':=ha';obtain⟨a,ha,_⟩:=w5 i a' ha';obtain⟨_,t2⟩:=h.gi.table hO hlogS i;obtain⟨w,f,b,x1,x2,x3,x4,x5,x6,x7,x8⟩:=t2 a ha;rw[ha']at x5;injection x5 with x5;subst x5;rw[x6];rcases hT.each i a ha with⟨l',hF⟩ | ⟨t1,t2,t3⟩
  ·exact .inl ⟨l',hF⟩
  ·have hi:=hO.T.rng _ (Tb.look_mem ha);rw[h.log]at hi;obtain⟨l0,f1,_⟩:=(h.gi.inv.st i a ha).row;have hbk:=f1.is.blk;refine .inr ⟨?_,λe=>by have e:a.block= -1:=e;omega,t3.after,t3.par⟩;obtain⟨j,rfl⟩:=f9 hi.1;have hw:f.whole=false:=by rw[x8,m6];exact t3.par
   have hl:=(htorn j (by rw[x2]) (by rw[x2];exact hw)).2;refine List.mem_map.2 ⟨f.en,?_,by rw[x4];exact(h.gi.wok _ w x1).1⟩;rw[<- hE,a2K];refine⟨j,List.mem_range.2 (by omega),?_⟩;unfold V.tornF V.tornAt;rw[d7 hl,x2,d7 ⟨rfl,hw⟩]
 ·rw[a2];exact h.gi.inv.mt_blanks hO
 ·show(Dv.mt0 S.N).next<=_;omega
 ·have hb0:(Dv.mt0 S.N).t.has b=true:=by rw[<- (a7A true s.held (Dv.mt0 S.N).t hO0.t.len).1.has b];exact hb
  rw[(a3 b hb0).2,d4 hn];exact w4 b hb0
theorem mountG {r R:Nat} (h:Cm W lg S) (hT:Trn X S) (hO:S.Ok (Dv.costK+k) m) (hlg:lgN S.N.dies S.N.blocks S.N.pages=lg) (hR:S.N.pages*S.t.blanks=R) (hX:X.length<=(S.N.dies-1)*r) (hr:S.N.pages+r<=R+1) (hx10:X.length<=100)
  (hroom:∀(W':List (Int×En)) (U:Dv),Cm W' lg U->Trn [] U->U.Ok (Dv.costM+k) m->S.N.Like U.N->(∀b,U.t.has b=true->(U.t.at_ b).held=false)->R<=U.rows+r->U.next<=1099511627775-4000000->∃V,U.room=(V,0)/\Cm W' lg V/\Trn [] V/\V.Ok k m/\Kp U V/\5*U.N.pages<=V.rows+1/\V.next<=U.next+6400) (hnx:S.next<=1099511627775-60000000):
  ∃V W',O4 S.N=(V,0)/\Cm W' lg V/\Trn [] V/\V.Ok k m/\(∀i,Tb.look W' i=Tb.look W i)/\(∀b,V.t.has b=true->(V.t.at_ b).held=false)/\5*S.N.pages<=V.rows+1/\V.next<=S.next+4000000/\V.N.dead=S.N.dead/\V.N.broken=S.N.broken/\S.N.Like V.N:=by
 obtain⟨s,W',E,A,a1,a2,a3,a4,a5,a6,a7,a8,a9,a10,a11,a12,a13,a14,a15,a16,a17⟩:=h.mount_prep hT hO hlg;have hl2:=a1P hO.gd.ok;have hct:Dv.costT*E.length<=Dv.costT*200:=y9 _ (by omega);have hd:A.N.dies=S.N.dies:=by rw[a14]
 have hp:A.N.pages=S.N.pages:=by rw[a14]
 obtain⟨Y,y1,y2,y3,y4,y5,y6,y7,_⟩:=tornA (β:=0) (by omega) E.length A E r (96+(Dv.costM+k)) a7 a8 (a9.less (by unfold Dv.costK;omega)) (j3 _) a10 a11 (by rw[hd];omega) (by omega) (by omega) (by omega);obtain⟨b1,b2,b3⟩:=y2.holds y4.t s.held false;obtain⟨Z,hZ⟩:∃Z,Y.holds s.held false=Z:=⟨_,rfl⟩;have bO:=y4.holds s.held false;have hZN:Z.N=Y.N:=by rw[<- hZ];rfl
 have hZn:Z.next=Y.next:=by rw[<- hZ];rfl
 have hTZ:Trn [] Z:=by rw[<- hZ];exact y3.moved y2.gi.inv rfl (.inl rfl) (Nand.Like.refl _) rfl rfl λ_ _ _ _ _=>rfl
 have hheld:∀b,Z.t.has b=true->(Z.t.at_ b).held=false:=λb hb=>by
  rw[<- hZ]at hb ⊢;have hb:Y.t.has b=true:=by rw[<- (a7A false s.held Y.t y4.t.len).1.has b];exact hb
  rw[(b3 b hb).2];split
  ·rfl
  ·rename_i hn;rw[y5.has]at hb;rw[y5.held b hb];exact a17 b hb hn
 rw[hZ]at b1 b2 bO;obtain⟨U,u1,u2,u3,u4,u5,u6,u7,u8,u9,u10,_⟩:=b1.clear0 (k:=Dv.costM+k) hTZ bO;have hlk:S.N.Like U.N:=by rw[<- a14];exact y5.like.trans (by rw[<- hZN];exact u5.like)
 obtain⟨V,v1,v2,v3,v4,v5,v6,v7⟩:=hroom W' U u2 u3 u4 hlk (λb hb=>by rw[u5.has]at hb;rw[u5.held b hb];exact hheld b hb) (by omega) (by omega);refine⟨V,W',?_,v2,v3,v4,a12,λb hb=>?_,by rw[<- hlk.pages];exact v6,by omega,?_,?_,hlk.trans v5.like⟩
 ·rw[b7M a1 a2 a3,a4];have y1:A.torn E=(Y,0):=y1;unfold mtA;rw[y1];dsimp only;rw[d4 (by decide),hZ,u1];dsimp only;rw[d4 (by decide)];exact v1
 ·rw[v5.has,u5.has]at hb;rw[v5.held b (by rw[u5.has];exact hb),u5.held b hb];exact hheld b hb
 ·rw[v5.dead,u5.dead,hZN,y5.dead,a14]
 ·rw[v5.broken,u5.broken,hZN,y5.broken,a14]
theorem mountR (h:Cm W lg S) (hT:Trn X S) (hO:S.Ok (Dv.costK+k) m) (hlg:lgN S.N.dies S.N.blocks S.N.pages=lg) (hwr:∀i e,Tb.look W i=some e->e.role≠4) (hcap:2*lg<=(S.N.blocks-5)*(S.N.pages*(S.N.dies-2))+1) (hX:X.length<=S.N.dies-1) (hr:3*S.N.pages<=S.N.pages*S.t.blanks) (hnx:S.next<=1099511627775-60000000):
  ∃V W',O4 S.N=(V,0)/\Fq W' lg (Fv.of V)/\(∀i,cur W' [] i=cur W [] i)/\V.Ok k m/\V.next<=S.next+4000000/\V.N.dead=S.N.dead/\V.N.broken=S.N.broken/\S.N.Like V.N:=by
 have hg:=hO.gd.ok.bd16;have hl2:=a1P hO.gd.ok;have h8:8*(S.N.pages/2)<=S.N.blocks*(S.N.pages/2):=H9 _ hg.2.1.1;obtain⟨V,W',v1,v2,v3,v4,v5,v6,v7,v8,v9,v10,v11⟩:=h.mountG (r:=1) hT hO hlg rfl (by omega) (by omega) (by omega) (λW' U c1 c2 c3 hl c4 c5 c6=>by
  have e1:=hl.pages;obtain⟨V,r1,r2,r3,r4,r5,r6,r7,_⟩:=c1.roomFree 0 c2 c3 (by omega) (by rw[hl.blocks,hl.pages,hl.dies];exact hcap) c4 (by omega) (by rw[hl.blocks,e1];omega) (by omega) c6;exact⟨V,r1,r2,r3,r4,r5,by omega,r7⟩) hnx
 have hlg2:lgN V.N.dies V.N.blocks V.N.pages=lg:=by rw[v11.dies,v11.blocks,v11.pages,hlg]
 refine⟨V,W',v1,⟨⟨v2.gi.inv,v2.gi.hd,v2.gi.wok,λi e he=>hwr i e (by rw[<- v5];exact he),v2.log,congrArg Nat.cast hlg2,by omega,λe he=>(by cases he),a5W,rfl⟩,v2,v3,v6,?_,?_⟩,λi=>?_,v4,v8,v9,v10,v11⟩
 ·show 5*V.N.pages<=V.rows+1;rw[v11.pages];exact v7
 ·show 2*lg<=(V.N.blocks-5)*(V.N.pages*(V.N.dies-2))+1;rw[v11.blocks,v11.pages,v11.dies];exact hcap
 ·unfold cur;rw[v5]
end Cm
def Fv.armed (F:Fv) (c:Nat) (kp:Int):Fv:={F with S:=F.S.armed c kp}
theorem b4S {W:List (Int×En)} {L:List En} (hnd:(L.map (·.lpn)).Nodup) {n:Nat} (hn:n<=L.length) (i:Int):cur (a0W W L n) [] i=cur W [] i\/cur (a0W W L n) [] i=cur W L i:=by
 obtain⟨w1,w2⟩:=a0M (W:=W) (l:=L) n (a4A hnd hn)
 by_cases hex:∃j,j<n/\(L.getD j En.zero).lpn=i
 ·obtain⟨j,hj,rfl⟩:=hex;right;have hf:=b0o hnd (W5 (show j<L.length by omega));unfold cur;rw[hf,List.find?_nil];dsimp only;rw[w1 j hj]
 ·left;unfold cur;rw[List.find?_nil];dsimp only;rw[w2 i λj hj e=>hex ⟨j,hj,e⟩]
structure Off (N0:Nand) (K:Int->List UInt8->Prop) (lg k m:Nat) (nx:Int) (Z:Fv):Prop where
 ex:∃W X,X.length<=N0.dies-1/\(∀i e,Tb.look W i=some e->e.role≠4)/\Lf N0 W lg X (4*N0.pages) k m nx Z.S.N/\∀i,K i (cur W [] i)
theorem Off.mono {N0 N1:Nand} {K K':Int->List UInt8->Prop} {lg k k' m:Nat} {nx nx':Int} {Z:Fv} (h:Off N0 K lg k m nx Z) (hN:N1.Like N0/\N0.dead=N1.dead/\N0.broken=N1.broken) (hK:∀i d,K i d->K' i d) (hk:k'<=k) (hnx:nx<=nx'):Off N1 K' lg k' m nx' Z:=by
 obtain⟨W,X,x1,x2,x3,x4⟩:=h.ex;exact⟨W,X,by rw[<- hN.1.dies];exact x1,x2,x3.mono hN (λ_ h=>h) (by rw[hN.1.pages];exact j3 _) hk hnx,λi=>hK i _ (x4 i)⟩
namespace Fq
variable {W : List (Int × En)} {lg k m : Nat} {F : Fv}
theorem asked (h:Fq W lg F) (c:Nat) (kp:Int):(F.armed c kp).ask=F.armed c kp:=by
 unfold Fv.ask;show({F.armed c kp with off:=F.off||F.S.N.off}:Fv)=_;rw[h.fi.inv.lit.off,h.fi.off];have ho:(F.armed c kp).off=false:=h.fi.off;show({F.armed c kp with off:=false}:Fv)=_;rw[<- ho]
theorem put (h:Fq W lg F) {e:En} (he:FitR e/\e.role≠4/\e.lpn<(lg:Int)):Fq W lg (F.put e)/\∀i,cur W (F.put e).L i=if i=e.lpn then e.data else cur W F.L i:=by
 obtain⟨h1,h2⟩:=h.fi.put he;exact⟨⟨h1,h.cm,h.trn,h.held,h.rows,h.cap⟩,h2⟩
theorem room (h:Fq W lg F) (hO:F.S.Ok (Dv.costM+k) m) (hnx:F.S.next<=1099511627775-30000000):
  ∃V,F.S.room=(V,0)/\Cm W lg V/\Trn [] V/\V.Ok k m/\Kp F.S V/\5*F.S.N.pages<=V.rows/\V.next<=F.S.next+6400/\
   ∀(c:Nat) (kp:Int),(F.S.armed c kp).Ok (Dv.costM+k) m->(∃c',(F.S.armed c kp).room=(V.armed c' kp,0))\/∃Z X',(F.S.armed c kp).room=(Z,(9:Int))/\X'.length<=F.S.N.dies-1/\Lf F.S.N W lg X' (4*F.S.N.pages) k m (F.S.next+6400) Z.N:=by
 have hg:=hO.gd.ok.bd16;have hl2:=h.fi.lg2;have hrows:=h.rows;have h8:8*(F.S.N.pages/2)<=F.S.N.blocks*(F.S.N.pages/2):=H9 _ hg.2.1.1;obtain⟨V,v1,v2,v3,v4,v5,v6,v7,v8⟩:=h.cm.roomFree (4*F.S.N.pages) h.trn hO (by omega) h.cap h.held (by omega) (by omega) (by omega) (by omega);refine⟨V,v1,v2,v3,v4,v5,v6,v7,λc kp hA=>(v8 c kp hA).imp id λ⟨Z,X',z1,z2,_,z4⟩=>⟨Z,X',z1,by simpa using z2,z4⟩⟩
theorem kept {S:Dv} {W':List (Int×En)} {L:List En} (h:Fq W lg F) (hC:Cm W' lg S) (hT:Trn [] S) (hk:Kp F.S S) (hr:5*F.S.N.pages<=S.rows+1) (hw:∀i e,Tb.look W' i=some e->e.role≠4) (hL:L.Sublist F.L) (nx:Int):Fq W' lg ⟨S,L,nx,false⟩:=by
 refine⟨⟨hC.gi.inv,hC.gi.hd,hC.gi.wok,hw,hC.log,?_,h.fi.lg2,λx hx=>h.fi.des x (hL.subset hx),h.fi.nd.sublist (hL.map _),rfl⟩,hC,hT,λb hb=>by rw[show S.t.has b=F.S.t.has b from hk.has b]at hb;rw[show(S.t.at_ b).held=_ from hk.held b hb];exact h.held b hb,?_,?_⟩
 ·have:=h.fi.lgn;unfold Fv.lg at this ⊢;show((lgN S.N.dies S.N.blocks S.N.pages:Nat):Int)=_;rw[hk.like.dies,hk.like.blocks,hk.like.pages];exact this
 ·show 5*S.N.pages<=S.rows+1;rw[hk.like.pages];exact hr
 ·show 2*lg<=(S.N.blocks-5)*(S.N.pages*(S.N.dies-2))+1;rw[hk.like.blocks,hk.like.pages,hk.like.dies];exact h.cap
theorem writesA (h:Fq W lg F) (hO:F.S.Ok (Dv.costM+(8*Dv.fuel+k)) m) (hnx:F.S.next<=1099511627775-30000000) (hl0:F.L.length≠0):
  ∃(F':Fv) (W':List (Int×En)),F.writes=(F',0)/\Fq W' lg F'/\(∀i,cur W' F'.L i=cur W F.L i)/\(∀i,cur W' [] i=cur W [] i\/cur W' [] i=cur W F.L i)/\F'.S.Ok k m/\F'.S.next<=F.S.next+7000/\Kp F.S F'.S/\F'.L.length<F.L.length/\
   ∀(c:Nat) (kp:Int),(F.S.armed c kp).Ok (Dv.costM+(8*Dv.fuel+k)) m->(∃c',(F.armed c kp).writes=(F'.armed c' kp,0))\/∃Z,(F.armed c kp).writes=(Z,(9:Int))/\Off F.S.N (λi d=>d=cur W [] i\/d=cur W F.L i) lg k m (F.S.next+400000) Z:=by
 have hg:=hO.gd.ok.bd16;have hE:Ent lg F.L:=⟨λe he=>⟨(h.fi.des e he).1,(h.fi.des e he).2.2⟩,h.fi.nd⟩;obtain⟨V,v1,v2,v3,v4,v5,v6,v7,v8⟩:=h.room (k:=8*Dv.fuel+k) hO hnx;obtain⟨U,n,p0,p1,p2,p3,p4,p5,p6,p7,_,_,_,_,_,p13⟩:=v2.pen0 (l:=F.L) v3 v4 (by omega) hE hl0 (by omega);have hd:=v5.like.dies;have hn:1<=n/\n<=F.L.length:=by omega
 have hwo:=λn hn=>b4e h.fi.wok h.fi.wr (λe he=>⟨(h.fi.des e he).1,(h.fi.des e he).2.1⟩) n hn;have hk:=v5.trans p6;have hwr:F.writes=(⟨U,F.L.drop n,F.nx,false⟩,0):=by
  unfold Fv.writes;rw[v1];dsimp only;rw[d4 (by decide),p1];dsimp only;rw[i9,b0u h.fi.nd];unfold Fv.told;dsimp only;rw[h.fi.off];rfl
 refine⟨_,a0W W F.L n,hwr,h.kept p2 (p3 [] λi hi=> .inl hi) hk (by omega) (hwo n hn.2).2 (List.drop_sublist _ _) _,b8T h.fi.nd n hn.2,λi=>b4S h.fi.nd hn.2 i,p4,?_,hk,?_,λc kp hA=>?_⟩
 ·show U.next<=_;omega
 ·show(F.L.drop n).length<_;rw[C5];omega
 ·have hkA:=Dv.room_keep hA;have hwA:(F.armed c kp).writes=(let r:=(F.S.armed c kp).room;if r.2≠0 then({F with S:=r.1}.told r.2,r.2)else(let w:=r.1.pen F.L;({F with S:=w.1,L:=a0J F.L (F.L.take w.2.1.toNat)}.told w.2.2,w.2.2))):=rfl;rw[hwA];rcases v8 c kp hA with⟨c1,hc⟩ | ⟨Z,X',z1,z2,z4⟩
  ·rw[hc]at hkA ⊢;dsimp only at hkA ⊢;rw[d4 (show¬(0:Int)≠0 by simp)];rcases p13 c1 kp hkA.1 with⟨c2,hc2⟩ | ⟨Z,p,z1,z2,z4⟩
   ·left;rw[hc2];dsimp only;refine⟨c2,?_⟩;rw[i9,b0u h.fi.nd];unfold Fv.told;dsimp only;rw[h.fi.off];rfl
   ·right;rw[z1];dsimp only;have hL:=z4 ((F.L.take p).map (·.lpn)) (λi hi=>by cases hi) (λj hj=>by
     refine List.mem_map.2 ⟨F.L.getD j En.zero,?_,rfl⟩;rw[List.mem_take_iff_getElem];exact⟨j,by omega,by rw[d5,c9 (by omega),j4]⟩)
    have hp:p<=F.L.length:=by omega
    refine⟨_,rfl,a0W W F.L p,_,?_,(hwo p hp).2,hL.kp v5 (λ_ h=>h) (by omega) (j3 _) (by omega),λi=>b4S h.fi.nd hp i⟩;rw[j5,l5];omega
  ·right;rw[z1];dsimp only;rw[d7 (show(9:Int)≠0 by decide)];refine⟨_,rfl,W,X',z2,h.fi.wr,z4.mono ⟨Nand.Like.refl _,rfl,rfl⟩ (λ_ h=>h) (j3 _) (by omega) (by omega),λi=> .inl rfl⟩
theorem waitsA (h:Fq W lg F) (hO:F.S.Ok (Dv.costM+(8*Dv.fuel+k)) m) (hnx:F.S.next<=1099511627775-30000000) {e:En} (he:FitR e/\e.role≠4/\e.lpn<(lg:Int)):
  ∃(F':Fv) (W':List (Int×En)),F.waits e=(F',0)/\Fq W' lg F'/\(∀i,cur W' F'.L i=if i=e.lpn then e.data else cur W F.L i)/\(∀i,cur W' [] i=cur W [] i\/cur W' [] i=cur W F.L i)/\F'.S.Ok k m/\F'.S.next<=F.S.next+7000/\Kp F.S F'.S/\
   ∀(c:Nat) (kp:Int),(F.S.armed c kp).Ok (Dv.costM+(8*Dv.fuel+k)) m->(∃c',(F.armed c kp).waits e=(F'.armed c' kp,0))\/∃Z,(F.armed c kp).waits e=(Z,(9:Int))/\Off F.S.N (λi d=>d=cur W [] i\/d=cur W F.L i) lg k m (F.S.next+400000) Z:=by
 have hlp:=he.1.lpn;have hwA:∀c kp,(F.armed c kp).waits e=if(F.L.length:Int)>=F.S.slots then(let w:=(F.armed c kp).writes;if w.2≠0 then w else(w.1.put e,0))else((F.armed c kp).put e,0):=λc kp=>by
  unfold Fv.waits;rw[h.asked];have ho:(F.armed c kp).off=false:=h.fi.off;have hl:(F.armed c kp).lg=(lg:Int):=h.fi.lgn;rw[ho,d4 l4,hl,d4 (by omega)];rfl
 unfold Fv.waits;rw[h.fi.ask,h.fi.off,d4 l4,h.fi.lgn,d4 (by omega)]
 by_cases hs:(F.L.length:Int)>=F.S.slots
 ·rw[d7 hs];have h1:=(h.fi.inv.slots_pos hO (by have:=h.rows;have:=hO.gd.ok.bd16;omega)).2;obtain⟨G,W',w1,w2,w3,w4,w5,w6,w7,w10,w11⟩:=h.writesA hO hnx (by omega);rw[w1];dsimp only;rw[d4 (by decide)];obtain⟨p1,p2⟩:=w2.put he;refine⟨_,W',rfl,p1,λi=>by rw[p2,w3],w4,w5,w6,w7,λc kp hA=>?_⟩;have:=hwA c kp;unfold Fv.waits at this;rw[this,d7 hs];rcases w11 c kp hA with⟨c',hc⟩ | ⟨Z,z1,z2⟩
  ·rw[hc];dsimp only;rw[d4 (by decide)];exact .inl ⟨c',rfl⟩
  ·rw[z1];dsimp only;rw[d7 (by decide)];exact .inr ⟨Z,rfl,z2⟩
 ·rw[d4 hs];obtain⟨p1,p2⟩:=h.put he;refine⟨_,W,rfl,p1,p2,λi=> .inl rfl,hO.less (by omega),by show F.S.next<=_;omega,Kp.refl _,λc kp hA=>?_⟩;have:=hwA c kp;unfold Fv.waits at this;rw[this,d4 hs];exact .inl ⟨c,rfl⟩
theorem flush_goA:∀(f:Nat) (F:Fv) (W:List (Int×En)) (k:Nat),Fq W lg F->F.S.Ok (FI.costW*f+k) m->F.L.length<=f->F.S.next+7000*(f:Int)<=1099511627775-30000000->
  ∃(F':Fv) (W':List (Int×En)),Fv.flushGo f F=(F',0)/\Fq W' lg F'/\F'.S.Ok k m/\F'.S.next<=F.S.next+7000*(f:Int)/\Kp F.S F'.S/\F'.L=[]/\(∀i,cur W' F'.L i=cur W F.L i)/\
   ∀(c:Nat) (kp:Int),(F.S.armed c kp).Ok (FI.costW*f+k) m->(∃c',Fv.flushGo f (F.armed c kp)=(F'.armed c' kp,0))\/∃Z,Fv.flushGo f (F.armed c kp)=(Z,(9:Int))/\Off F.S.N (λi d=>d=cur W [] i\/d=cur W F.L i) lg k m (F.S.next+7000*(f:Int)+400000) Z
 | 0,F,W,k,h,hO,hL,_=>⟨F,W,rfl,h,hO.less (by omega),by omega,Kp.refl _,m7 (by omega),λ_=>rfl,λc kp _=> .inl ⟨c,rfl⟩⟩
 | f+1,F,W,k,h,hO,hL,hnx=>by
  rw[Fv.flushGo]
  by_cases hl0:F.L.length=0
  ·rw[d7 hl0];refine⟨F,W,rfl,h,hO.less (by omega),by omega,Kp.refl _,m7 hl0,λ_=>rfl,λc kp _=> .inl ⟨c,?_⟩⟩;rw[Fv.flushGo,d7 (show(F.armed c kp).L.length=0 from hl0)]
  ·rw[d4 hl0];rw[J7]at hO;have hcw:FI.costW=Dv.costM+8*Dv.fuel:=rfl;obtain⟨G,W',w1,w2,w3,w4,w5,w6,w7,w10,w11⟩:=h.writesA (k:=FI.costW*f+k) (hO.less (by omega)) (by omega) hl0;rw[w1];dsimp only;rw[d4 (by decide)];obtain⟨F',W2,r1,r2,r3,r4,r5,r8,r9,r10⟩:=flush_goA f G W' k w2 w5 (by omega) (by omega);refine⟨F',W2,r1,r2,r3,by omega,w7.trans r5,r8,λi=>(r9 i).trans (w3 i),λc kp hA=>?_⟩;rw[J7]at hA;have hA1:(F.S.armed c kp).Ok (Dv.costM+(8*Dv.fuel+(FI.costW*f+k))) m:=hA.less (by omega);rw[Fv.flushGo,d4 (show¬(F.armed c kp).L.length=0 from hl0)];have hkw:(F.armed c kp).writes.2=0->(F.armed c kp).writes.1.S.Ok (FI.costW*f+k) m:=λe=>by
    have hr:=Dv.room_keep hA1;unfold Fv.writes at e ⊢;dsimp only at e ⊢;split
    ·exact hr.1.less (by omega)
    ·exact(Dv.pen_keep hr.1 (λe he=>(h.fi.des e he).1.len)).1
   rcases w11 c kp hA1 with⟨c',hc⟩ | ⟨Z,z1,z2⟩
   ·rw[hc]at hkw ⊢;dsimp only at hkw ⊢;rw[d4 (by decide)];rcases r10 c' kp (hkw rfl)with r | ⟨Z,z1,z2⟩
    ·exact .inl r
    ·refine .inr ⟨Z,z1,z2.mono ⟨w7.like,w7.dead,w7.broken⟩ (λi d hd=>?_) (j3 _) (by omega)⟩;rcases hd with rfl | rfl
     ·exact w4 i
     ·exact .inr (w3 i)
   ·rw[z1];dsimp only;rw[d7 (by decide)];exact .inr ⟨Z,rfl,z2.mono ⟨Nand.Like.refl _,rfl,rfl⟩ (λ_ _ h=>h) (by omega) (by omega)⟩
theorem flushA (h:Fq W lg F) (hO:F.S.Ok (FI.costW*200+k) m) (hnx:F.S.next<=1099511627775-50000000):
  ∃(F':Fv) (W':List (Int×En)),F.flush=(F',0)/\Fq W' lg F'/\F'.S.Ok k m/\F'.S.next<=F.S.next+1400000/\Kp F.S F'.S/\F'.L=[]/\(∀i,cur W' F'.L i=cur W F.L i)/\
   ∀(c:Nat) (kp:Int),(F.S.armed c kp).Ok (FI.costW*200+k) m->(∃c',(F.armed c kp).flush=(F'.armed c' kp,0))\/∃Z,(F.armed c kp).flush=(Z,(9:Int))/\Off F.S.N (λi d=>d=cur W [] i\/d=cur W F.L i) lg k m (F.S.next+1800000) Z:=by
 have hwA:∀c kp,(F.armed c kp).flush=Fv.flushGo F.L.length (F.armed c kp):=λc kp=>by
  unfold Fv.flush;rw[h.asked];have ho:(F.armed c kp).off=false:=h.fi.off;rw[ho,d4 l4];rfl
 have hl:=h.fi.len;have h2:=h.fi.lg2;have hm:FI.costW*F.L.length<=FI.costW*200:=y9 _ (by omega);obtain⟨F',W',r1,r2,r3,r4,r5,r8,r9,r10⟩:=flush_goA F.L.length F W k h (hO.less (by omega)) (j3 _) (by omega);refine⟨F',W',?_,r2,r3,by omega,r5,r8,r9,λc kp hA=>?_⟩
 ·unfold Fv.flush;rw[h.fi.ask,h.fi.off,d4 l4];exact r1
 ·rw[hwA];rcases r10 c kp (hA.less (by omega))with r | ⟨Z,z1,z2⟩
  ·exact .inl r
  ·exact .inr ⟨Z,z1,z2.mono ⟨Nand.Like.refl _,rfl,rfl⟩ (λ_ _ h=>h) (j3 _) (by omega)⟩
end Fq
theorem Fq.left {W:List (Int×En)} {lg k k' m:Nat} {F:Fv} {N':Nand} (h:Fq W lg F) (hO:F.S.Ok k m) (hgd:N'.Gd k' m) (off:N'.off=true) (like:F.S.N.Like N') (dead:N'.dead=F.S.N.dead) (plan:N'.plan=F.S.N.plan) (broken:N'.broken=F.S.N.broken) (blk:N'.blk=F.S.N.blk):Lf F.S.N W lg [] (4*F.S.N.pages) k' m F.S.next N':=by
 have hg:=hO.gd.ok.bd16;have hC:=h.cm;have hlkO:F.S.N.Like N'.onN:=⟨like.dies,like.blocks,like.pages⟩;have hpg:∀d b r:Int,N'.onN.pageAt d b r=F.S.N.pageAt d b r:=λd b r=>by
  show(N'.blk d.toNat b.toNat).cells[r.toNat]? =_;rw[blk];rfl
 have hrb:=hC.gi.inv.rows_bl;have hrows:=h.rows;refine⟨off,like,dead,broken,{F.S with N:=N'.onN,op:= -1},rfl,⟨hC.gi.cut hlkO ⟨rfl,rfl⟩ dead (λa ha=>?_) (λi j=>?_) (λb hb hu d=>?_) (λd b r c' hc'=> .inr ⟨c',by rw[<- hpg];exact hc',λ_ h=>h,λh=>h⟩) λi a ha=> .inl λd=>hpg _ _ _,⟨λi=>?_,?_,λi j=>?_,λi j=>?_⟩,hC.log⟩,h.trn.moved hC.gi.inv rfl (.inr rfl) hlkO hC.gi.inv.lit.off.symm dead λ_ _ _ d r=>hpg _ _ _,⟨Nand.Gd.on hgd,hO.t.like hlkO,hO.T,hO.sl,hO.row,hO.next⟩,rfl,?_,O8 _⟩
 ·have ha:a∈N'.plan:=ha;rw[plan]at ha;exact ha
 ·show(N'.blk i j).met=_/\(N'.blk i j).fails=_;rw[blk];exact⟨rfl,rfl⟩
 ·show(N'.blk d b.toNat).cells=_;rw[blk]
 ·show N'.dead.getD i false=false;rw[dead];exact hC.no.dead i
 ·show N'.plan=[];rw[plan];exact hC.no.plan
 ·show(N'.blk i j).met=false;rw[blk];exact hC.no.met i j
 ·show(N'.blk i j).fails=false;rw[blk];exact hC.no.fl i j
 ·show 4*F.S.N.pages<=N'.pages*F.S.t.blanks+N'.pages;rw[like.pages];omega
theorem Lf.mountF {N0 N':Nand} {W:List (Int×En)} {lg k m:Nat} {X:List Int} {nx:Int} (h:Lf N0 W lg X (4*N0.pages) (Dv.costK+k) m nx N') (hlg:lgN N0.dies N0.blocks N0.pages=lg) (hwr:∀i e,Tb.look W i=some e->e.role≠4) (hcap:2*lg<=(N0.blocks-5)*(N0.pages*(N0.dies-2))+1) (hX:X.length<=N0.dies-1) (hnx:nx<=1099511627775-60000000):
  ∃V W',O4 N'.onN=(V,0)/\Fq W' lg (Fv.of V)/\(∀i,cur W' [] i=cur W [] i)/\V.Ok k m/\V.next<=nx+4000000/\V.N.broken=N0.broken/\N0.Like V.N:=by
 obtain⟨S,s1,s2,s3,s4,_,s6,s7⟩:=h.ex;have hlk:N0.Like S.N:=by rw[s1];exact⟨h.like.dies,h.like.blocks,h.like.pages⟩
 have hb:S.N.broken=N0.broken:=by rw[s1];exact h.broken
 rw[<- hlk.pages]at s6;obtain⟨V,W',v1,v2,v3,v4,v5,_,v7,v8⟩:=s2.mountR s3 s4 (by rw[hlk.dies,hlk.blocks,hlk.pages];exact hlg) hwr (by rw[hlk.dies,hlk.blocks,hlk.pages];exact hcap) (by rw[hlk.dies];exact hX) (by omega) (by omega);rw[<- s1];exact⟨V,W',v1,v2,v3,v4,by omega,v7.trans hb,hlk.trans v8⟩
theorem Fq.new {D B P:Nat} (hD:3<=D/\D<=6) (hB:8<=B/\B<=16) (hP:2<=P/\P<=8) (hlg:lgN D B P<=200) (hcap:2*lgN D B P<=(B-5)*(P*(D-2))+1):Fq [] (lgN D B P) (Fv.of (Dv.new D B P (lgN D B P))):=by
 have hF:=FI.new (-2) hD hB hP hlg;refine⟨hF,⟨GI.new _ _ _ _ _,NoF.new _ _ _ _,hF.log⟩,⟨λi a ha=>(by cases ha)⟩,λb _=>?_,?_,hcap⟩
 ·show((Tl.new D B P).at_ b).held=false;rw[b3X];rfl
 ·show 5*P<=(Dv.new D B P (lgN D B P)).rows+1;rw[b5r];have:P*8<=P*B:=y9 _ hB.1;omega
structure DevW (D B P:Nat) (F:Fv) (n:Nat) (c:Nat->List UInt8) (K:Nat->List UInt8->Prop):Prop where
 fc:∃W,Fq W (lgN D B P) F/\(∀i:Nat,i<lgN D B P->cur W F.L i=c i)/\∀i:Nat,i<lgN D B P->K i (cur W [] i)
 ok:F.Ok (UN*n) 0
 nx:F.S.next+8000*(n:Int)<=1099000000000
 br:F.S.N.broken=0
 geo:F.S.N.dies=D/\F.S.N.blocks=B/\F.S.N.pages=P
 le:n<=200000
structure OffD (D B P n:Nat) (K:Nat->List UInt8->Prop) (Z:Fv):Prop where
 ex:∃(N0:Nand) (nx:Int),(N0.dies=D/\N0.blocks=B/\N0.pages=P)/\N0.broken=0/\Off N0 (λi d=>∀j:Nat,i=(j:Int)->j<lgN D B P->K j d) (lgN D B P) (UN*n) 0 nx Z/\nx+8000*(n:Int)<=1099002000000
 cap:2*lgN D B P<=(B-5)*(P*(D-2))+1
 le:n<=200000
structure DevK (D B P n:Nat) (c:Nat->List UInt8) (K:Nat->List UInt8->Prop) (Z:Fv):Prop where
 ok:Z.Ok (UN*n) 0
 kc:∀i:Nat,i<lgN D B P->K i (c i)
 st:(∃F,DevW D B P F n c K/\(Z=F\/∃cc kp,Z=F.armed cc kp))\/OffD D B P n K Z
namespace OffD
variable {D B P n : Nat} {K : Nat → List UInt8 → Prop} {Z : Fv}
theorem off (h:OffD D B P n K Z):Z.S.N.off=true:=by
 obtain⟨N0,nx,_,_,⟨W,X,_,_,h5,_⟩,_⟩:=h.ex;exact h5.off
theorem less (h:OffD D B P n K Z) {k:Nat} (hk:k<=n):OffD D B P k K Z:=by
 obtain⟨N0,nx,h1,h2,h3,h4⟩:=h.ex;exact⟨⟨N0,nx,h1,h2,h3.mono ⟨Nand.Like.refl _,rfl,rfl⟩ (λ_ _ h=>h) (y9 _ hk) (O8 _),by omega⟩,h.cap,by have:=h.le;omega⟩
theorem imp (h:OffD D B P n K Z) {K':Nat->List UInt8->Prop} (hK:∀i d,K i d->K' i d):OffD D B P n K' Z:=by
 obtain⟨N0,nx,h1,h2,h3,h4⟩:=h.ex;exact⟨⟨N0,nx,h1,h2,h3.mono ⟨Nand.Like.refl _,rfl,rfl⟩ (λ_ _ h j e hj=>hK _ _ (h j e hj)) (j3 _) (O8 _),h4⟩,h.cap,h.le⟩
theorem ask (h:OffD D B P n K Z):OffD D B P n K Z.ask:=by
 obtain⟨N0,nx,h1,h2,⟨W,X,x1,x2,x3,x4⟩,h4⟩:=h.ex;exact⟨⟨N0,nx,h1,h2,⟨W,X,x1,x2,x3,x4⟩,h4⟩,h.cap,h.le⟩
theorem asked (h:OffD D B P n K Z):Z.ask.off=true:=by
 show(Z.off||Z.S.N.off)=true;rw[h.off];simp
end OffD
namespace DevW
variable {D B P n : Nat} {K : Nat → List UInt8 → Prop} {F : Fv} {c : Nat → List UInt8}
theorem less (h:DevW D B P F n c K) {k:Nat} (hk:k<=n):DevW D B P F k c K:=
 ⟨h.fc,h.ok.less (y9 _ hk),by have:=h.nx;omega,h.br,h.geo,by have:=h.le;omega⟩
theorem congr (h:DevW D B P F n c K) {c':Nat->List UInt8} (hc:∀i,i<lgN D B P->c i=c' i):DevW D B P F n c' K:=by
 obtain⟨W,hW,h2,h3⟩:=h.fc;exact⟨⟨W,hW,λi hi=>(h2 i hi).trans (hc i hi),h3⟩,h.ok,h.nx,h.br,h.geo,h.le⟩
theorem off (h:DevW D B P F n c K):F.S.N.off=false:=by
 obtain⟨W,hW,_⟩:=h.fc;exact hW.fi.inv.lit.off
theorem lgF (h:DevW D B P F n c K):F.lg=(lgN D B P:Int):=by
 obtain⟨W,hW,_⟩:=h.fc;exact hW.fi.lgn
theorem cap (h:DevW D B P F n c K):2*lgN D B P<=(B-5)*(P*(D-2))+1:=by
 obtain⟨W,hW,_⟩:=h.fc;have:=hW.cap;rw[h.geo.1,h.geo.2.1,h.geo.2.2]at this;exact this
theorem like (h:DevW D B P F n c K) {G:Fv} (hl:F.S.N.Like G.S.N):G.S.N.dies=D/\G.S.N.blocks=B/\G.S.N.pages=P:=
 ⟨hl.dies.trans h.geo.1,hl.blocks.trans h.geo.2.1,hl.pages.trans h.geo.2.2⟩
theorem asked (h:DevW D B P F n c K) (cc:Nat) (kp:Int):F.ask=F/\F.off=false/\(F.armed cc kp).ask=F.armed cc kp:=by
 obtain⟨W,hW,_⟩:=h.fc;exact⟨hW.fi.ask,hW.fi.off,hW.asked cc kp⟩
theorem devk (h:DevW D B P F n c K) (hk:∀i:Nat,i<lgN D B P->K i (c i)):DevK D B P n c K F:=⟨h.ok,hk, .inl ⟨F,h, .inl rfl⟩⟩
theorem read (h:DevW D B P F n c K) {i:Nat} (h1:i<lgN D B P):F.read i=(F,c i,0):=by
 obtain⟨W,hW,hc,_⟩:=h.fc;rw[hW.fi.read,d4 (by omega),hc i h1]
theorem new (hD:3<=D/\D<=6) (hB:8<=B/\B<=16) (hP:2<=P/\P<=8) (hlg:lgN D B P<=200) (hcap:2*lgN D B P<=(B-5)*(P*(D-2))+1) (hgm:L4 D B P=true) (hK:∀i:Nat,i<lgN D B P->K i zeros16):DevW D B P (Fv.of (Dv.new D B P (lgN D B P))) 200000 (λ_=>zeros16) K:=
 ⟨⟨[],Fq.new hD hB hP hlg hcap,λ_ _=>rfl,hK⟩,Fv.of_ok (Dv.Ok.new D B P _ hgm _ b4c) b4c,by show(1:Int)+8000*((200000:Nat):Int)<=_;omega,rfl,⟨rfl,rfl,rfl⟩,j3 _⟩
theorem waits (h:DevW D B P F (n+1) c K) (hkc:∀i:Nat,i<lgN D B P->K i (c i)) {e:En} (hd:e.data.length=16) (h1:0<=e.lpn/\e.lpn<(lgN D B P:Int)) (he:FitR e/\e.role≠4):∃F',F.waits e=(F',0)/\DevW D B P F' n (λj=>if(j:Int)=e.lpn then e.data else c j) K/\
  ∀(cc:Nat) (kp:Int),(F.S.armed cc kp).Ok (UN*(n+1)) 0->(∃c',(F.armed cc kp).waits e=(F'.armed c' kp,0))\/∃Z,(F.armed cc kp).waits e=(Z,(9:Int))/\OffD D B P n K Z:=by
 have hU:UN*(n+1)=UN*n+UN:=J7 _ _;have hU2:=b0C;have hUc:UN=Fv.cW+1:=rfl;have hkF:=(Fv.waits_keep (F:=F) (k:=UN*n) (h.ok.less (by omega)) hd).1;obtain⟨W,hW,hc,hcK⟩:=h.fc;have hnx:=h.nx;have hle:=h.le;obtain⟨F',W',r1,r2,r3,r4,r5,r6,r7,r10⟩:=hW.waitsA (k:=UN*n) (h.ok.dv.less (by omega)) (by omega) (e:=e) ⟨he.1,he.2,by omega⟩;rw[r1]at hkF;refine⟨F',r1,⟨⟨W',r2,λi hi2=>by rw[r3,hc i hi2],λi hi2=>?_⟩,hkF,by omega,r7.broken.trans h.br,h.like r7.like,by omega⟩,λcc kp hA=>?_⟩
 ·rcases r4 i with e1 | e1
  ·rw[e1];exact hcK i hi2
  ·rw[e1,hc i hi2];exact hkc i hi2
 ·refine(r10 cc kp (hA.less (by omega))).imp id λ⟨Z,z1,z2⟩=>⟨Z,z1,⟨F.S.N,_,h.geo,h.br,z2.mono ⟨Nand.Like.refl _,rfl,rfl⟩ (λi d hd j hj hj2=>?_) (j3 _) (O8 _),by omega⟩,h.cap,by omega⟩;subst hj;rcases hd with rfl | rfl
  ·exact hcK j hj2
  ·rw[hc j hj2];exact hkc j hj2
theorem flush (h:DevW D B P F (n+200) c K) (hkc:∀i:Nat,i<lgN D B P->K i (c i)):∃F',F.flush=(F',0)/\DevW D B P F' n c K/\F'.L=[]/\
  ∀(cc:Nat) (kp:Int),(F.S.armed cc kp).Ok (UN*(n+200)) 0->(∃c',(F.armed cc kp).flush=(F'.armed c' kp,0))\/∃Z,(F.armed cc kp).flush=(Z,(9:Int))/\OffD D B P n K Z:=by
 have hU:UN*(n+200)=UN*n+UN*200:=a2P _ _ _;have hf:=a9e;have hf2:=b6x;obtain⟨W,hW,hc,hcK⟩:=h.fc;have hnx:=h.nx;have hle:=h.le;have hkF:=(Fv.flush_keep (k:=UN*n) (m:=0) (h.ok.less (by omega))).1;obtain⟨F',W',r1,r2,r3,r4,r5,r8,r9,r10⟩:=hW.flushA (k:=UN*n) (h.ok.dv.less (by omega)) (by omega);rw[r1]at hkF;refine⟨F',r1,⟨⟨W',r2,λi hi=>(r9 i).trans (hc i hi),λi hi=>?_⟩,hkF,by omega,r5.broken.trans h.br,h.like r5.like,by omega⟩,r8,λcc kp hA=>?_⟩
 ·have:=r9 i;rw[r8,hc i hi]at this;rw[this];exact hkc i hi
 ·refine(r10 cc kp (hA.less (by omega))).imp id λ⟨Z,z1,z2⟩=>⟨Z,z1,⟨F.S.N,_,h.geo,h.br,z2.mono ⟨Nand.Like.refl _,rfl,rfl⟩ (λi d hd j hj hj2=>?_) (j3 _) (O8 _),by omega⟩,h.cap,by omega⟩;subst hj;rcases hd with rfl | rfl
  ·exact hcK j hj2
  ·rw[hc j hj2];exact hkc j hj2
end DevW
namespace DevK
variable {D B P n : Nat} {K : Nat → List UInt8 → Prop} {Z : Fv} {c : Nat → List UInt8}
theorem less (h:DevK D B P n c K Z) {k:Nat} (hk:k<=n):DevK D B P k c K Z:=
 ⟨h.ok.less (y9 _ hk),h.kc,h.st.imp (λ⟨F,h1,h2⟩=>⟨F,h1.less hk,h2⟩) λh=>h.less hk⟩
theorem geo (h:DevK D B P n c K Z):Z.S.N.dies=D/\Z.S.N.blocks=B/\Z.S.N.pages=P:=by
 rcases h.st with⟨F,h1,rfl | ⟨cc,kp,rfl⟩⟩ | h1
 ·exact h1.geo
 ·exact h1.geo
 ·obtain⟨N0,nx,⟨e1,e2,e3⟩,_,⟨W,X,_,_,x3,_⟩,_⟩:=h1.ex;exact⟨x3.like.dies.trans e1,x3.like.blocks.trans e2,x3.like.pages.trans e3⟩
theorem lg (h:DevK D B P n c K Z):Z.lg=(lgN D B P:Int):=by
 obtain⟨e1,e2,e3⟩:=h.geo;unfold Fv.lg;rw[e1,e2,e3]
theorem setC (h:DevK D B P n c K Z) (x kk:Int) (h1: -9223372036854775808<=x) (h2:x<=9223372036854775807):(Z.setN (Z.S.N.setCut x kk)).Ok (UN*n) 0:=⟨⟨h.ok.dv.gd.cut x kk h1 h2,h.ok.dv.t.like (by unfold Nand.setCut;split<;>exact⟨rfl,rfl,rfl⟩),h.ok.dv.T,h.ok.dv.sl,h.ok.dv.row,h.ok.dv.next⟩,h.ok.dat,λe he=>by
  have:=h.ok.rng e he;have hlg:(Z.setN (Z.S.N.setCut x kk)).lg=Z.lg:=by
   unfold Fv.lg;show((lgN (Z.S.N.setCut x kk).dies (Z.S.N.setCut x kk).blocks (Z.S.N.setCut x kk).pages:Nat):Int)=_;unfold Nand.setCut;split<;>rfl
  rw[hlg];exact this,h.ok.nd,h.ok.nx⟩
theorem cut (h:DevK D B P n c K Z) (x kk:Int) (hx:0<=x/\x<=9223372036854775807):DevK D B P n c K (Z.setN (Z.S.N.setCut x kk)):=by
 have hok:=h.setC x kk (by omega) hx.2;obtain⟨cn,rfl⟩:=f9 hx.1;refine⟨hok,h.kc,?_⟩;rcases h.st with⟨F,h1,h2⟩ | h1
 ·refine .inl ⟨F,h1, .inr ⟨cn,min (max kk 0) 32,?_⟩⟩;rcases h2 with rfl | ⟨cc,kp,rfl⟩
  ·show Z.setN _=_;rw[a7V h1.off];rfl
  ·show(F.armed cc kp).setN ((arm F.S.N cc kp).setCut cn kk)=_;rw[a7V (N:=arm F.S.N cc kp) h1.off];rfl
 ·refine .inr ?_;have:Z.setN (Z.S.N.setCut cn kk)=Z:=by
   unfold Nand.setCut;rw[h1.off,d7 rfl];rfl
  rw[this];exact h1
theorem waits (h:DevK D B P (n+1) c K Z) {e:En} (hd:e.data.length=16) (he:0<=e.lpn->e.lpn<(lgN D B P:Int)->FitR e/\e.role≠4) (hK:∀j:Nat,e.lpn=(j:Int)->j<lgN D B P->K j e.data):DevK D B P n (λj=>if(j:Int)=e.lpn then e.data else c j) K (Z.waits e).1:=by
 have hU:UN*(n+1)=UN*n+UN:=J7 _ _;have hU2:=b0C;have hUc:UN=Fv.cW+1:=rfl;refine⟨(Fv.waits_keep (F:=Z) (k:=UN*n) (h.ok.less (by omega)) hd).1,λi hi=>?_,?_⟩
 ·show K i (if(i:Int)=e.lpn then e.data else c i);split
  ·rename_i e1;exact hK i e1.symm hi
  ·exact h.kc i hi
 rcases h.st with⟨F,h1,h2⟩ | h1
 ·by_cases hi:e.lpn<0\/e.lpn>=(lgN D B P:Int)
  ·left;refine⟨F,(h1.less (by omega)).congr λi hi2=>by rw[d4 (by omega)],?_⟩;rcases h2 with rfl | ⟨cc,kp,rfl⟩
   ·left;unfold Fv.waits;rw[(h1.asked 0 0).1,(h1.asked 0 0).2.1,d4 l4,h1.lgF,d7 hi]
   ·right;refine⟨cc,kp,?_⟩;unfold Fv.waits;have ho:(F.armed cc kp).off=false:=(h1.asked 0 0).2.1;have hl:(F.armed cc kp).lg=(lgN D B P:Int):=h1.lgF;rw[(h1.asked cc kp).2.2,ho,d4 l4,hl,d7 hi]
  ·obtain⟨F',r1,hF',r10⟩:=h1.waits h.kc hd (by omega) (he (by omega) (by omega));rcases h2 with rfl | ⟨cc,kp,rfl⟩
   ·exact .inl ⟨F',hF', .inl (by rw[r1])⟩
   ·rcases r10 cc kp h.ok.dv with⟨c',hc'⟩ | ⟨Z,z1,z2⟩
    ·exact .inl ⟨F',hF', .inr ⟨c',kp,by rw[hc']⟩⟩
    ·right;rw[z1];exact z2
 ·right;have:Z.waits e=(Z.ask,9):=by unfold Fv.waits;rw[h1.asked,d7 rfl]
  rw[this];exact h1.ask.less (by omega)
theorem write (h:DevK D B P (n+1) c K Z) (i:Int) {d:List UInt8} (hd:d.length=16) (hlg:lgN D B P<=200) (hK:∀j:Nat,i=(j:Int)->j<lgN D B P->K j d):DevK D B P n (λj=>if(j:Int)=i then d else c j) K (Z.write i d).1:=
 h.waits (e:=⟨i,0,1,d⟩) hd (λa b=>⟨⟨⟨a,by show i<=65535;have b:i<(lgN D B P:Int):=b;omega⟩, .inl rfl,hd⟩,by show(1:Int)≠4;decide⟩) hK
theorem trim (h:DevK D B P (n+1) c K Z) (i:Int) (hlg:lgN D B P<=200) (hK:∀j:Nat,i=(j:Int)->j<lgN D B P->K j zeros16):DevK D B P n (λj=>if(j:Int)=i then zeros16 else c j) K (Z.trim i).1:=
 h.waits (e:=⟨i,0,2,zeros16⟩) rfl (λa b=>⟨⟨⟨a,by show i<=65535;have b:i<(lgN D B P:Int):=b;omega⟩, .inr ⟨.inl rfl,rfl⟩,rfl⟩,by show(2:Int)≠4;decide⟩) hK
theorem flush (h:DevK D B P (n+200) c K Z):DevK D B P n c K Z.flush.1/\(Z.flush.1.S.N.off=false->Z.flush.1.L=[]):=by
 have hU:UN*(n+200)=UN*n+UN*200:=a2P _ _ _;have hf:=a9e;have hk:=(Fv.flush_keep (k:=UN*n) (m:=0) (h.ok.less (by omega))).1;rcases h.st with⟨F,h1,h2⟩ | h1
 ·obtain⟨F',r1,hF',r8,r10⟩:=h1.flush h.kc;rcases h2 with rfl | ⟨cc,kp,rfl⟩
  ·rw[r1]at hk ⊢;exact⟨⟨hk,h.kc, .inl ⟨F',hF', .inl rfl⟩⟩,λ_=>r8⟩
  ·rcases r10 cc kp h.ok.dv with⟨c',hc'⟩ | ⟨Z,z1,z2⟩
   ·rw[hc']at hk ⊢;exact⟨⟨hk,h.kc, .inl ⟨F',hF', .inr ⟨c',kp,rfl⟩⟩⟩,λ_=>r8⟩
   ·rw[z1]at hk ⊢;exact⟨⟨hk,h.kc, .inr z2⟩,λe=>by have:=z2.off;dsimp only at e;rw[this]at e;cases e⟩
 ·have:Z.flush=(Z.ask,9):=by unfold Fv.flush;rw[h1.asked,d7 rfl]
  rw[this]at hk ⊢;refine⟨⟨hk,h.kc, .inr (h1.ask.less (by omega))⟩,λe=>?_⟩;have:=h1.ask.off;dsimp only at e;rw[this]at e;cases e
theorem off0 (h:DevK D B P n c K Z) (x kk:Int) (hx:x<0/\ -9223372036854775808<=x):OffD D B P n (λi d=>K i d/\(Z.S.N.off=false->Z.L=[]->d=c i)) (Z.setN (Z.S.N.setCut x kk)):=by
 have hlike:Z.S.N.Like (Z.S.N.setCut x kk):=by unfold Nand.setCut;split<;>exact⟨rfl,rfl,rfl⟩
 have hgd:=h.ok.dv.gd.cut x kk hx.2 (by omega);rcases h.st with⟨F,h1,h2⟩ | h1
 ·obtain⟨W,hW,hc,hcK⟩:=h1.fc;have hnx:=h1.nx;have hZ:Z.S.N.off=false/\F.S.N.Like Z.S.N/\Z.S.N.dead=F.S.N.dead/\Z.S.N.plan=F.S.N.plan/\Z.S.N.broken=F.S.N.broken/\Z.S.N.blk=F.S.N.blk/\Z.L=F.L:=by
   rcases h2 with rfl | ⟨cc,kp,rfl⟩
   ·exact⟨h1.off,Nand.Like.refl _,rfl,rfl,rfl,rfl,rfl⟩
   ·exact⟨h1.off,⟨rfl,rfl,rfl⟩,rfl,rfl,rfl,rfl,rfl⟩
  obtain⟨e1,e2,e3,e4,e5,e6,e7⟩:=hZ;have hsc:Z.S.N.setCut x kk={Z.S.N with cuts:=decide (0<=x),left:=x,keep:=min (max kk 0) 32,off:=true}:=by
   unfold Nand.setCut;rw[e1,d4 (by decide),i7 (p:=x<0) hx.1]
  have hL:=hW.left (N':=Z.S.N.setCut x kk) h1.ok.dv hgd (by rw[hsc]) (e2.trans hlike) (by rw[hsc];exact e3) (by rw[hsc];exact e4) (by rw[hsc];exact e5) (by rw[hsc];exact e6);refine⟨⟨F.S.N,_,h1.geo,h1.br,⟨W,[],j8 _,hW.fi.wr,hL,λi j hj hj2=>?_⟩,by omega⟩,h1.cap,h1.le⟩;subst hj;refine⟨hcK j hj2,λ_ hl=>?_⟩;have:=hc j hj2;rw[<- e7,hl]at this;exact this
 ·have:Z.setN (Z.S.N.setCut x kk)=Z:=by
   unfold Nand.setCut;rw[h1.off,d7 rfl];rfl
  rw[this];exact h1.imp λi d hd=>⟨hd,λe=>by rw[h1.off]at e;cases e⟩
theorem cut0 (h:DevK D B P n c K Z) (x kk:Int) (hx:x<0/\ -9223372036854775808<=x):DevK D B P n c K (Z.setN (Z.S.N.setCut x kk)):=⟨h.setC x kk hx.2 (by omega),h.kc, .inr ((h.off0 x kk hx).imp λ_ _ h=>h.1)⟩
theorem again (h:DevK D B P (n+1000) c K Z):Z.S.N.cyc.Gd (Dv.costK+UN*n) 0/\(O4 Z.S.N.cyc).2=0/\∃c',DevW D B P (Fv.of (O4 Z.S.N.cyc).1) n c' K/\(∀i:Nat,i<lgN D B P->K i (c' i))/\(Z.S.N.off=false->Z.L=[]->∀i:Nat,i<lgN D B P->c' i=c i):=by
 have hU:UN*(n+1000)=UN*n+UN*1000:=a2P _ _ _;have hU4:UN*402<=UN*1000:=y9 _ (by omega);have hKn:Dv.costK+UN*n<=UN*(n+1000):=by
  rw[hU,a0U];exact Nat.add_le_add_left (E9 b3c hU4) _
 clear hU hU4;have hG:Z.S.N.cyc.Gd (Dv.costK+UN*n) 0:=((h.ok.dv.less (k':=Dv.costK+UN*n) hKn).gd.cut (-1) 0 (by decide) (by decide)).on;refine⟨hG,?_⟩;have h1:=h.off0 (-1) 0 (by omega);have hle:=h1.le;have hcy:Z.S.N.cyc=(Z.S.N.setCut (-1) 0).onN:=rfl;obtain⟨N0,nx,⟨e1,e2,e3⟩,h2,⟨W,X,x1,x2,x3,x4⟩,h4⟩:=h1.ex;obtain⟨V,W',v1,v2,v4,v5,v6,v8,v9⟩:=(x3.mono (k':=Dv.costK+UN*n) ⟨Nand.Like.refl _,rfl,rfl⟩ (λ_ h=>h) (j3 _) hKn (O8 _)).mountF (by rw[e1,e2,e3]) x2 (by rw[e1,e2,e3];exact h1.cap) x1 (by omega);have v1:O4 Z.S.N.cyc=(V,0):=v1;rw[v1];exact⟨rfl,λi=>cur W [] i,⟨⟨W',v2,λi hi=>v4 i,λi hi=>by rw[v4];exact(x4 i i rfl hi).1⟩,Fv.of_ok v5 (c3e (by omega)),by show V.next+_<=_;omega,v8.trans h2,⟨v9.dies.trans e1,v9.blocks.trans e2,v9.pages.trans e3⟩,by omega⟩,λi hi=>(x4 i i rfl hi).1,λa b i hi=>(x4 i i rfl hi).2 a b⟩
end DevK
end Go.Proofs.YtmafiplddapokaaGreat
